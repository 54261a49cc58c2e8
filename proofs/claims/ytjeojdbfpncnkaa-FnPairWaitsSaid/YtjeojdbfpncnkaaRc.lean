/- The reference's marks of a list. -/
import Derived.Test.YtjeojdbfpncnkaaRb
set_option linter.unusedVariables false
set_option linter.unusedSimpArgs false
namespace Go.Proofs.Ytjeojdbfpncnkaa.Rc
open Go.RowKit Go.Proofs.YtjeojdbfpncnkaaW.PrintWords Go.Proofs.Ytjeojdbfpncnkaa.Wd Go.Proofs.Ytjeojdbfpncnkaa.Pu Go.Proofs.Ytjeojdbfpncnkaa.Pv Go.Proofs.Ytjeojdbfpncnkaa.Ca Go.Proofs.Ytjeojdbfpncnkaa.Cb Go.Proofs.Ytjeojdbfpncnkaa.Cc Go.Proofs.Ytjeojdbfpncnkaa.Cp Go.Proofs.Ytjeojdbfpncnkaa.Cd Go.Proofs.Ytjeojdbfpncnkaa.Ci Go.Proofs.Ytjeojdbfpncnkaa.Ce Go.Proofs.Ytjeojdbfpncnkaa.Cf Go.Proofs.Ytjeojdbfpncnkaa.Cg Go.Proofs.Ytjeojdbfpncnkaa.Sc Go.Proofs.Ytjeojdbfpncnkaa.Sh Go.Proofs.Ytjeojdbfpncnkaa.Si Go.Proofs.Ytjeojdbfpncnkaa.Ia Go.Proofs.Ytjeojdbfpncnkaa.Ib Go.Proofs.Ytjeojdbfpncnkaa.Ic Go.Proofs.Ytjeojdbfpncnkaa.If Go.Proofs.Ytjeojdbfpncnkaa.Ij Go.Proofs.Ytjeojdbfpncnkaa.Ra Go.Proofs.Ytjeojdbfpncnkaa.Rb

theorem infoB : (Try.prog.info? 4).map (fun i => (i.zero, i.size, i.bytes)) = some (some (.bool false), 1, 1) := by kernel_rfl
/-- marks, up to place k -/
def bk (can : Occ → Bool) (l : List Occ) (k : Nat) : List Bool := (l.take k).map can ++ List.replicate (l.length - k) false
theorem bk_zero (can : Occ → Bool) (l : List Occ) : bk can l 0 = List.replicate l.length false := by simp [bk]
theorem bk_end (can : Occ → Bool) (l : List Occ) : bk can l l.length = l.map can := by simp [bk]
theorem bk_len (can : Occ → Bool) (l : List Occ) (k : Nat) (h : k ≤ l.length) : (bk can l k).length = l.length := by simp [bk]; omega
theorem bk_set (can : Occ → Bool) (l : List Occ) (k : Nat) (h : k < l.length) : (bk can l k).set k (can (l.getD k zO)) = bk can l (k + 1) := by
  unfold bk
  obtain ⟨m, hm⟩ : ∃ m, l.length - k = m + 1 := ⟨l.length - k - 1, by omega⟩
  have hm2 : l.length - (k + 1) = m := by omega
  rw [take_succ_getD l k zO h, List.map_append, hm, hm2, List.set_append_right _ _ (by simp; omega)]
  have hk : k - ((l.take k).map can).length = 0 := by rw [List.length_map, List.length_take]; omega
  rw [hk]
  simp [List.replicate_succ]
abbrev RB (w wr : World) (v : Value) (bs : List Bool) : Prop := Kd.bool.R 4 wr w.heap.size (fun _ => True) v bs
def MarksOut (w w' : World) (bs : List Bool) (e : Ending) : Prop := ∃ v, e = .returned v ∧ RB w w' v bs ∧ Below w.heap.size w w'

set_option maxHeartbeats 1000000 in
set_option maxRecDepth 100000 in
theorem whole_any (A : Option Addr) (c : Nat) (l : List Occ) (w : World) (hl : l.length ≤ 1048576) :
    Calls Try.prog 113 #[.slice A l.length c] w fun e w' => MarksOut w w' (l.map whole) e := by
  have hn : (0 : Int) ≤ l.length := by omega
  have hlb : ((l.length : Int)).toNat * 1 ≤ 281474976710656 := by omega
  go_enter Try.func113, Try.ntmps113
  go_wp2_with ((with_reducible refine gate_dst (N := 7) rfl ?_); refine Kd.R_make Kd.bool (w0 := w) w.heap.size 4 rfl (N := 7) rfl 111 _ _ rfl (l.length : Int) rfl rfl Try.underlying111 (.bool false) 1 infoB rfl (by decide) (by omega) false (ok := fun _ => True) (okp := fun _ => True) rfl (fun _ hk => hk) trivial hn hlb (Below.refl _ _) (Nat.le_refl _) ?_; intro v7 w7 hr7 hb7 hg7 _; simp only [Int.toNat_natCast] at hr7; rw [← bk_zero whole] at hr7; have HR := Aside0.mk hr7; have HB := Aside0.mk hb7; clear hr7 hb7 hg7)
  clear hlb hn
  go_loopw [4] (fun vi wr => ∃ k : Nat, k ≤ l.length ∧ vi = .int .i64 k ∧ Aside0 (RB w wr v7 (bk whole l k)) ∧ Aside0 (Below w.heap.size w wr)) (fun vi _ => l.length - (intOf vi).toNat)
  case atStart => exact ⟨0, Nat.zero_le _, rfl, HR, HB⟩
  case round =>
    clear HR HB
    obtain ⟨k, hk, rfl, HR, HB⟩ := hrel
    by_cases hlt : k < l.length
    · have g1 : decide (k < l.length) = true := decide_eq_true hlt
      have i1 : (k : Int) < l.length := by omega
      have hlen := bk_len whole l k hk
      obtain ⟨g, cap, rfl, hgb, hgl, hcl⟩ := Kd.R_form HR.out (by omega)
      rw [hlen] at HR ⊢
      have hce := Kd.R_celln false HR.out (k : Int) (by omega) (by omega)
      have hpp := Kd.R_putg HR.out (k : Int) true
      rw [Int.toNat_natCast] at hce hpp
      obtain ⟨h0, h1⟩ := hce
      have HN := Aside0.mk (bk_set whole l k hlt)
      have HS := Aside0.mk hpp.1
      have HBS := Aside0.mk (HB.out.setCell (p := ⟨g, k, none⟩) hgb (.bool true))
      clear hpp hlen
      go_wp2
      go_roundw
      case rel => exact ⟨k + 1, by omega, by go_num, ⟨by rw [← HN.out]; exact HS.out⟩, HBS⟩
      case measure => simp [intOf]; omega
    · have hke : k = l.length := by omega
      subst hke
      have g1 : decide (l.length < l.length) = false := decide_eq_false (by omega)
      have hR := HR.out
      rw [bk_end] at hR
      go_wp2
      go_ret
      exact ⟨v7, rfl, hR, HB.out⟩

set_option maxHeartbeats 1000000 in
set_option maxRecDepth 100000 in
theorem before_any (A B : Option Addr) (c cb : Nat) (l : List Occ) (o : Occ) (w : World) (hl : l.length ≤ 1048576) (hL : IsL w l A c) :
    Calls Try.prog 116 #[.slice A l.length c, .agg #[.int .i64 o.f0, .int .i64 o.f1, .slice B o.f2.length cb]] w fun e w' => MarksOut w w' (l.map (before o)) e := by
  have hn : (0 : Int) ≤ l.length := by omega
  have hlb : ((l.length : Int)).toNat * 1 ≤ 281474976710656 := by omega
  have hbx := box3 w (.int .i64 o.f0) (.int .i64 o.f1) (.slice B o.f2.length cb) 25
  have HX := Aside0.mk hbx.1
  have hx0 := hbx.2.1
  clear hbx
  go_enter Try.func116, Try.ntmps116
  go_upto_region 1 with fail
  obtain ⟨O, hO⟩ : ∃ O, O = w.heap.size := ⟨_, rfl⟩
  rw [← hO] at hx0 ⊢
  have hOw : w.heap.size ≤ O := by omega
  generalize w.alloc (.cells #[.int .i64 o.f0, .int .i64 o.f1, .slice B o.f2.length cb] 25) = W at HX hx0 ⊢
  have hOW : O < W.heap.size := World.block_lt_of_cell? W _ hx0
  clear hO
  go_wp2_with ((with_reducible refine gate_dst (N := 9) rfl ?_); refine Kd.R_make Kd.bool (w0 := W) W.heap.size 4 rfl (N := 9) rfl 111 _ _ rfl (l.length : Int) rfl rfl Try.underlying111 (.bool false) 1 infoB rfl (by decide) (by omega) false (ok := fun _ => True) (okp := fun _ => True) rfl (fun _ hk => hk) trivial hn hlb (Below.refl _ _) (Nat.le_refl _) ?_; intro v7 w7 hr7 hb7 hg7 _; simp only [Int.toNat_natCast] at hr7; rw [← bk_zero (before o)] at hr7; have HR := Aside0.mk hr7; have HB := Aside0.mk hb7; clear hr7 hb7 hg7)
  clear hlb hn
  go_loopw [6] (fun vi wr => ∃ k : Nat, k ≤ l.length ∧ vi = .int .i64 k ∧ Aside0 (RB W wr v7 (bk (before o) l k)) ∧ Aside0 (Below W.heap.size W wr)) (fun vi _ => l.length - (intOf vi).toNat)
  case atStart => exact ⟨0, Nat.zero_le _, rfl, HR, HB⟩
  case round =>
    clear HR HB
    obtain ⟨k, hk, rfl, HR, HB⟩ := hrel
    by_cases hlt : k < l.length
    · have g1 : decide (k < l.length) = true := decide_eq_true hlt
      have i1 : (k : Int) < l.length := by omega
      have hlen := bk_len (before o) l k hk
      obtain ⟨ad, A2, c3, rfl, pa, pb, pc, pl, pC⟩ := atO hL.rd k hlt
      have hlo : (ad.add (k * 3)).block < W.heap.size := Nat.lt_of_lt_of_le (World.block_lt_of_cell? w _ pa) HX.out.size
      have hpb := pw_cell_below (below_then HX.out HX.out.size HB.out) pb
      have hpx := pw_cell_below HB.out hx0
      obtain ⟨g, cap, rfl, hgb, hgl, hcl⟩ := Kd.R_form HR.out (by omega)
      rw [hlen] at HR ⊢
      have hce := Kd.R_celln false HR.out (k : Int) (by omega) (by omega)
      have HN := Aside0.mk (bk_set (before o) l k hlt)
      have hpp := fun b => Kd.R_putg HR.out (k : Int) b
      rw [Int.toNat_natCast] at hce
      simp only [Int.toNat_natCast] at hpp
      obtain ⟨h0, h1⟩ := hce
      generalize hy : l.getD k zO = y at pa pb pc pl pC hpb HN
      have HY := Aside0.mk hy
      have HS := Aside0.mk (hpp (before o y)).1
      have HBS := Aside0.mk (HB.out.setCell (p := ⟨g, k, none⟩) hgb (.bool (before o y)))
      have hng : (⟨(ad.add (k * 3)).block, (ad.add (k * 3)).off + 1, none⟩ : Addr).block ≠ g := by show (ad.add (k * 3)).block ≠ g; omega
      have hng2 : (⟨O, 0, none⟩ : Addr).block ≠ g := by show O ≠ g; omega
      have J : ∀ u, (wr.setCell ⟨g, k, none⟩ u).cell? ⟨(ad.add (k * 3)).block, (ad.add (k * 3)).off + 1, none⟩ = some (.int .i64 y.f1) ∧ (wr.setCell ⟨g, k, none⟩ u).cell? ⟨O, 0, none⟩ = some (.int .i64 o.f0) :=
        fun u => ⟨(World.cell?_of_block (Below.heap_setCell wr ⟨g, k, none⟩ u _ hng)).trans hpb, (World.cell?_of_block (Below.heap_setCell wr ⟨g, k, none⟩ u _ hng2)).trans hpx⟩
      have J2 : ∀ u, (wr.setCell ⟨g, k, none⟩ u).drew.cell? ⟨(ad.add (k * 3)).block, (ad.add (k * 3)).off + 1, none⟩ = some (.int .i64 y.f1) ∧ (wr.setCell ⟨g, k, none⟩ u).drew.cell? ⟨O, 0, none⟩ = some (.int .i64 o.f0) := J
      have F0 : wr.cell? ⟨(ad.add (k * 3)).block, (ad.add (k * 3)).off + 1, none⟩ = some (.int .i64 y.f1) ∧ wr.cell? ⟨O, 0, none⟩ = some (.int .i64 o.f0) := ⟨hpb, hpx⟩
      have F1 : wr.drew.cell? ⟨(ad.add (k * 3)).block, (ad.add (k * 3)).off + 1, none⟩ = some (.int .i64 y.f1) ∧ wr.drew.cell? ⟨O, 0, none⟩ = some (.int .i64 o.f0) := ⟨hpb, hpx⟩
      have d0 : wr.drew.cell? ⟨g, k, none⟩ = some (.bool (rdOf false (bk (before o) l k) (k : Int))) := h0
      have d1 : wr.drew.frozen? ⟨g, k, none⟩ = false := h1
      have hbe : before o y = decide (y.f1 < o.f0) := rfl
      rw [hbe] at HS HBS
      clear hpp hlen pa pb pc pl pC hy hbe
      go_wp2
      go_region_held3 (fun w' => w'.cell? ⟨(ad.add (k * 3)).block, (ad.add (k * 3)).off + 1, none⟩ = some (.int .i64 y.f1) ∧ w'.cell? ⟨O, 0, none⟩ = some (.int .i64 o.f0))
        (first | (with_reducible exact F0) | (with_reducible exact F1) | (with_reducible exact J _) | (with_reducible exact J2 _))
        (first | fail)
      go_wp2
      go_roundw
      case rel => exact ⟨k + 1, by omega, by go_num, ⟨by rw [← HN.out]; first | exact HS.out | exact Kd.R_drew HS.out⟩, ⟨by first | exact HBS.out | exact below_drew HBS.out⟩⟩
      case measure => simp [intOf]; omega
    · have hke : k = l.length := by omega
      subst hke
      have g1 : decide (l.length < l.length) = false := decide_eq_false (by omega)
      have hR := HR.out
      rw [bk_end] at hR
      go_wp2
      go_ret
      exact ⟨v7, rfl, Kd.R_lower hR HX.out.size, below_then HX.out HX.out.size HB.out⟩
end Go.Proofs.Ytjeojdbfpncnkaa.Rc


/- Sizes, copies, comparisons, marks of lists of occurrences: the laws' own functions. -/
import Derived.Test.YtccenpmaooailaaGreatNB7
import Derived.Test.YtccenpmaooailaaGreatNB6
import Derived.Test.YtccenpmaooailaaGreatNEa
set_option linter.unusedVariables false
set_option linter.unusedSimpArgs false
namespace Go.Proofs.YtccenpmaooailaaGreat.Eb
open Go.RowKit Go.Proofs.YtccenpmaooailaaGreatW.PrintWords Go.Proofs.YtccenpmaooailaaGreat.Wd Go.Proofs.YtccenpmaooailaaGreat.Pu Go.Proofs.YtccenpmaooailaaGreat.Pv Go.Proofs.YtccenpmaooailaaGreat.Ca Go.Proofs.YtccenpmaooailaaGreat.Cb Go.Proofs.YtccenpmaooailaaGreat.Cc Go.Proofs.YtccenpmaooailaaGreat.Cp Go.Proofs.YtccenpmaooailaaGreat.Cd Go.Proofs.YtccenpmaooailaaGreat.Ci Go.Proofs.YtccenpmaooailaaGreat.Ce Go.Proofs.YtccenpmaooailaaGreat.Cf Go.Proofs.YtccenpmaooailaaGreat.Cg Go.Proofs.YtccenpmaooailaaGreat.Sc Go.Proofs.YtccenpmaooailaaGreat.Se Go.Proofs.YtccenpmaooailaaGreat.Sh Go.Proofs.YtccenpmaooailaaGreat.Si Go.Proofs.YtccenpmaooailaaGreat.Sp Go.Proofs.YtccenpmaooailaaGreat.Ia Go.Proofs.YtccenpmaooailaaGreat.Ib Go.Proofs.YtccenpmaooailaaGreat.Ic Go.Proofs.YtccenpmaooailaaGreat.Id Go.Proofs.YtccenpmaooailaaGreat.Ie Go.Proofs.YtccenpmaooailaaGreat.If Go.Proofs.YtccenpmaooailaaGreat.Ig Go.Proofs.YtccenpmaooailaaGreat.Ih Go.Proofs.YtccenpmaooailaaGreat.Ij Go.Proofs.YtccenpmaooailaaGreat.Ik Go.Proofs.YtccenpmaooailaaGreat.Ra Go.Proofs.YtccenpmaooailaaGreat.Rb Go.Proofs.YtccenpmaooailaaGreat.Rc Go.Proofs.YtccenpmaooailaaGreat.Rd Go.Proofs.YtccenpmaooailaaGreat.Re Go.Proofs.YtccenpmaooailaaGreat.Sj Go.Proofs.YtccenpmaooailaaGreat.Ya Go.Proofs.YtccenpmaooailaaGreat.Yd Go.Proofs.YtccenpmaooailaaGreat.Yf Go.Proofs.YtccenpmaooailaaGreat.Yg Go.Proofs.YtccenpmaooailaaGreat.Ih Go.Proofs.YtccenpmaooailaaGreat.Yh Go.Proofs.YtccenpmaooailaaGreat.Yi Go.Proofs.YtccenpmaooailaaGreat.Sg Go.Proofs.YtccenpmaooailaaGreat.Sf Go.Proofs.YtccenpmaooailaaGreat.Yj Go.Proofs.YtccenpmaooailaaGreat.Ig Go.Proofs.YtccenpmaooailaaGreat.Yk Go.Proofs.YtccenpmaooailaaGreat.Ik Go.Proofs.YtccenpmaooailaaGreat.Yl Go.Proofs.YtccenpmaooailaaGreat.Ij Go.Proofs.YtccenpmaooailaaGreat.Ym Go.Proofs.YtccenpmaooailaaGreat.Il Go.Proofs.YtccenpmaooailaaGreat.Yn Go.Proofs.YtccenpmaooailaaGreat.Yo Go.Proofs.YtccenpmaooailaaGreat.In Go.Proofs.YtccenpmaooailaaGreat.Yq Go.Proofs.YtccenpmaooailaaGreat.Pw Go.Proofs.YtccenpmaooailaaGreat.Px Go.Proofs.YtccenpmaooailaaGreat.La Go.Proofs.YtccenpmaooailaaGreat.Db Go.Proofs.YtccenpmaooailaaGreat.Sh Go.Proofs.YtccenpmaooailaaGreat.Id Go.Proofs.YtccenpmaooailaaGreat.Ea

/-! sizes -/
def szI (left : Int) (n : Nat) : Int := if left - n < 0 then -1 else left - n
set_option maxRecDepth 100000 in
theorem szIntS_any (A : Option Addr) (n c : Nat) (left : Int) (h0 : 0 ≤ left) (h1 : left ≤ 1048576) (hn : n ≤ 9223372036854775807) (w : World) :
    Calls Tryz.prog 113 #[.slice A n c, .int .i64 left] w fun e w' => e = .returned (.int .i64 (szI left n)) ∧ w' = w := by
  by_cases h : left - n < 0
  · have d : decide (left - n < 0) = true := decide_eq_true h
    have HI := Aside0.mk (show szI left n = -1 from if_pos h)
    clear h
    go_enter Tryz.func113, Tryz.ntmps113
    go_wp2
    go_ret
    exact ⟨by (rw [HI.out]; try rfl), rfl⟩
  · have d : decide (left - n < 0) = false := decide_eq_false h
    have HI := Aside0.mk (show szI left n = left - n from if_neg h)
    have h2 : left - n ≥ 0 := by omega
    clear h
    go_enter Tryz.func113, Tryz.ntmps113
    go_wp2
    go_ret
    exact ⟨by (rw [HI.out]; try rfl), rfl⟩
set_option maxRecDepth 100000 in
theorem szOcc_any (A : Option Addr) (c : Nat) (o : Occ) (left : Int) (h0 : 0 ≤ left) (h1 : left ≤ 1048576) (hn : o.f2.length ≤ 9223372036854775807) (w : World) :
    Calls Tryz.prog 72 #[.agg #[.int .i64 o.f0, .int .i64 o.f1, .slice A o.f2.length c], .int .i64 left] w fun e w' => e = .returned (.int .i64 (szI left o.f2.length)) ∧ Below w.heap.size w w' := by
  have hbx := box3 w (.int .i64 o.f0) (.int .i64 o.f1) (.slice A o.f2.length c) 82
  have HX := Aside0.mk hbx.1
  have hx2 := hbx.2.2.2
  clear hbx
  by_cases h : left - o.f2.length < 0
  · have HI := Aside0.mk (show szI left o.f2.length = -1 from if_pos h)
    clear h
    go_enter Tryz.func72, Tryz.ntmps72
    go_wp2_with (go_at_call 113; refine (szIntS_any A _ c left h0 h1 hn _).mono ?_; rintro e w2 ⟨rfl, rfl⟩; rw [HI.out])
    go_ret
    exact ⟨by (rw [HI.out]; try rfl), HX.out⟩
  · have HI := Aside0.mk (show szI left o.f2.length = left - o.f2.length from if_neg h)
    obtain ⟨r, hr⟩ : ∃ r : Int, r = left - o.f2.length := ⟨_, rfl⟩
    have d : decide (r < 0) = false := decide_eq_false (by omega)
    rw [← hr] at HI
    clear h hr
    go_enter Tryz.func72, Tryz.ntmps72
    go_wp2_with (go_at_call 113; refine (szIntS_any A _ c left h0 h1 hn _).mono ?_; rintro e w2 ⟨rfl, rfl⟩; rw [HI.out])
    go_ret
    exact ⟨by (rw [HI.out]; try rfl), HX.out⟩
set_option maxHeartbeats 1000000 in
set_option maxRecDepth 100000 in
theorem szOccS_any (A : Option Addr) (c : Nat) (l : List Occ) (left : Int) (h0 : 0 ≤ left) (h1 : left ≤ 1048576) (w : World) (hL : IsL w l A c) :
    Calls Tryz.prog 33 #[.slice A l.length c, .int .i64 left] w fun e w' => SzOut w w' left l e := by
  have hn := (C_len hL.rd).2
  have HL := Aside0.mk hL
  clear hL
  by_cases h : left - l.length < 0
  · have d : decide (left - l.length < 0) = true := decide_eq_true h
    clear h
    go_enter Tryz.func33, Tryz.ntmps33
    go_wp2
    go_ret
    exact ⟨-1, rfl, Below.refl _ _, by omega, by omega, fun h => by omega⟩
  · have d : decide (left - l.length < 0) = false := decide_eq_false h
    have h2 : left - l.length ≥ 0 := by omega
    have hll : (l.length : Int) ≤ left := by omega
    clear h
    go_enter Tryz.func33, Tryz.ntmps33
    go_wp2
    go_loopw [1, 5] (fun v1 vi wr => ∃ (k : Nat) (cur : Int), k ≤ l.length ∧ vi = .int .i64 k ∧ v1 = .int .i64 cur ∧ 0 ≤ cur ∧ cur ≤ left ∧ Aside0 (∀ x ∈ l.take k, (x.f2.length : Int) ≤ left) ∧ Aside0 (Below w.heap.size w wr)) (fun _ vi _ => l.length - (intOf vi).toNat)
    case atStart => exact ⟨0, _, Nat.zero_le _, rfl, rfl, h2, by omega, ⟨fun x hx => by simp at hx⟩, ⟨Below.refl _ _⟩⟩
    case round =>
      clear d h2
      obtain ⟨k, cur, hk, rfl, rfl, hc0, hc1, HX, HB⟩ := hrel
      by_cases hlt : k < l.length
      · have g1 : decide (k < l.length) = true := decide_eq_true hlt
        have i1 : (k : Int) < l.length := by omega
        obtain ⟨ad, A3, c3, rfl, pa, pb, pc, pl, pC⟩ := atO (HL.out.below HB.out).rd k hlt
        have HT := Aside0.mk (take_succ_getD l k zO hlt)
        have hon := (C_len pC).2
        generalize l.getD k zO = o at pa pb pc HT hon
        clear pl pC
        by_cases hs : cur - o.f2.length < 0
        · have HI := Aside0.mk (show szI cur o.f2.length = -1 from if_pos hs)
          clear hs
          go_wp2_with (go_at_call 72; refine (szOcc_any A3 c3 o cur hc0 (by omega) hon _).mono ?_; rintro e w2 ⟨rfl, hb2⟩; rw [HI.out]; have HB2 := Aside0.mk (below_then HB.out HB.out.size hb2); clear hb2)
          go_ret
          exact ⟨-1, rfl, HB2.out, by omega, by omega, fun h => by omega⟩
        · have HI := Aside0.mk (show szI cur o.f2.length = cur - o.f2.length from if_neg hs)
          obtain ⟨r, hr⟩ : ∃ r : Int, r = cur - o.f2.length := ⟨_, rfl⟩
          have d : decide (r < 0) = false := decide_eq_false (by omega)
          have hr0 : 0 ≤ r := by omega
          have hr1 : r ≤ left := by omega
          have hol : (o.f2.length : Int) ≤ left := by omega
          rw [← hr] at HI
          clear hs hr
          go_wp2_with (go_at_call 72; refine (szOcc_any A3 c3 o cur hc0 (by omega) hon _).mono ?_; rintro e w2 ⟨rfl, hb2⟩; rw [HI.out]; have HB2 := Aside0.mk (below_then HB.out HB.out.size hb2); clear hb2)
          go_roundw
          case rel => exact ⟨k + 1, r, by omega, by go_num, rfl, hr0, hr1, ⟨fun x hx => by
            rw [HT.out] at hx
            rcases List.mem_append.1 hx with hx | hx
            · exact HX.out x hx
            · rw [List.mem_singleton.1 hx]; exact hol⟩, HB2⟩
          case measure => simp [intOf]; omega
      · have hke : k = l.length := by omega
        subst hke
        have g1 : decide (l.length < l.length) = false := decide_eq_false (by omega)
        have hx := HX.out
        rw [List.take_length] at hx
        have HX2 := Aside0.mk hx
        clear hx
        go_wp2
        go_ret
        exact ⟨cur, rfl, HB.out, by omega, hc1, fun _ => ⟨hll, HX2.out⟩⟩

/-! copies -/
theorem infoI' : (Tryz.prog.info? 3).map (fun i => (i.zero, i.size, i.bytes)) = some (some (.int .i64 0), 1, 8) := by kernel_rfl
set_option maxHeartbeats 1000000 in
set_option maxRecDepth 100000 in
theorem toIntS_any (A : Option Addr) (c : Nat) (xs : List Int) (w : World) (hm : xs.length ≤ 1048576) (hC : (Kd.int .i64).C w A xs.length xs) :
    Calls Tryz.prog 114 #[.slice A xs.length c] w fun e w' => ∃ v, e = .returned v ∧ (Kd.int .i64).R 3 w' w.heap.size (fun _ => True) v xs ∧ Below w.heap.size w w' := by
  have hn : (0 : Int) ≤ xs.length := by omega
  have hlb : ((xs.length : Int)).toNat * 8 ≤ 281474976710656 := by omega
  have HC := Aside0.mk hC
  clear hC
  go_enter Tryz.func114, Tryz.ntmps114
  go_wp2_with ((with_reducible refine gate_dst (N := 7) rfl ?_); refine Kd.R_make (Kd.int .i64) (w0 := w) w.heap.size 3 rfl (N := 7) rfl 41 _ _ rfl (xs.length : Int) rfl rfl Tryz.underlying41 (.int .i64 0) 8 infoI' rfl (by decide) (by omega) (0 : Int) (ok := fun _ => True) (okp := fun _ => True) rfl (fun _ hk => hk) trivial hn hlb (Below.refl _ _) (Nat.le_refl _) ?_; intro v7 w7 hr7 hb7 hg7 _; simp only [Int.toNat_natCast] at hr7; have HR := Aside0.mk hr7; have HB := Aside0.mk hb7; clear hr7 hb7 hg7)
  clear hlb hn
  go_loopw [4] (fun vi wr => ∃ k : Nat, k ≤ xs.length ∧ vi = .int .i64 k ∧ Aside0 ((Kd.int .i64).R 3 wr w.heap.size (fun _ => True) v7 (xs.take k ++ (List.replicate xs.length (0 : Int)).drop k)) ∧ Aside0 (Below w.heap.size w wr)) (fun vi _ => xs.length - (intOf vi).toNat)
  case atStart => exact ⟨0, Nat.zero_le _, rfl, by simpa using HR, HB⟩
  case round =>
    clear HR HB
    obtain ⟨k, hk, rfl, HR, HB⟩ := hrel
    by_cases hlt : k < xs.length
    · have g1 : decide (k < xs.length) = true := decide_eq_true hlt
      have i1 : (k : Int) < xs.length := by omega
      have hlen : (xs.take k ++ (List.replicate xs.length (0 : Int)).drop k).length = xs.length := by simp; omega
      have hset : (xs.take k ++ (List.replicate xs.length (0 : Int)).drop k).set k (xs.getD k 0) = xs.take (k + 1) ++ (List.replicate xs.length (0 : Int)).drop (k + 1) := by
        rw [mid_set _ _ _ _ (by rw [List.length_take]; omega) (by simpa using hlt), take_snoc xs k 0 hlt]
      obtain ⟨g, cap, rfl, hgb, hgl, hcl⟩ := Kd.R_form HR.out (by omega)
      rw [hlen] at HR ⊢
      obtain ⟨ad, rfl, hc⟩ := at1 (Kd.C_below HC.out HB.out) k hlt
      have hce := Kd.R_celln (0 : Int) HR.out (k : Int) (by omega) (by omega)
      have hpp := Kd.R_putg HR.out (k : Int) (xs.getD k 0)
      rw [Int.toNat_natCast] at hce hpp
      rw [hset] at hpp
      generalize xs.getD k 0 = x at hc hpp
      obtain ⟨h0, h1⟩ := hce
      have HS := Aside0.mk hpp.1
      have HBS := Aside0.mk (HB.out.setCell (p := ⟨g, k, none⟩) hgb (.int .i64 x))
      clear hpp hlen hset hcl hgl
      go_wp2
      go_roundw
      case rel => exact ⟨k + 1, by omega, by go_num, HS, HBS⟩
      case measure => simp [intOf]; omega
    · have hke : k = xs.length := by omega
      subst hke
      have g1 : decide (xs.length < xs.length) = false := decide_eq_false (by omega)
      have hR := HR.out
      rw [List.take_length, List.drop_of_length_le (by simp), List.append_nil] at hR
      have HR2 := Aside0.mk hR
      clear hR
      go_wp2
      go_ret
      exact ⟨v7, rfl, HR2.out, HB.out⟩
def ToOut (w w' : World) (o : Occ) (e : Ending) : Prop := ∃ v, e = .returned (.agg #[.int .i64 o.f0, .int .i64 o.f1, v]) ∧ (Kd.int .i64).R 3 w' w.heap.size (fun _ => True) v o.f2 ∧ Below w.heap.size w w'
set_option maxHeartbeats 1000000 in
set_option maxRecDepth 100000 in
theorem toOcc_any (A : Option Addr) (c : Nat) (o : Occ) (w : World) (hm : o.f2.length ≤ 1048576) (hO : IsO w o A c) :
    Calls Tryz.prog 73 #[.agg #[.int .i64 o.f0, .int .i64 o.f1, .slice A o.f2.length c]] w fun e w' => ToOut w w' o e := by
  obtain ⟨hb0, b0, b1, b2⟩ := boxes3 w #[.int .i64 o.f0, .int .i64 o.f1, .slice A o.f2.length c] #[.int .i64 0, .int .i64 0, .slice none 0 0] #[.int .i64 0, .int .i64 0, .slice none 0 0] 82 43 43
  have HO := Aside0.mk hO
  clear hO
  go_enter Tryz.func73, Tryz.ntmps73
  go_upto_region 2 with fail
  generalize ((w.alloc (.cells #[.int .i64 o.f0, .int .i64 o.f1, .slice A o.f2.length c] 82)).alloc (.cells #[.int .i64 0, .int .i64 0, .slice none 0 0] 43)).alloc (.cells #[.int .i64 0, .int .i64 0, .slice none 0 0] 43) = W at hb0 b0 b1 b2 ⊢
  have p0 := (blk_cell b0 0).trans rfl
  have z0 := blk_frozen b2 0
  have q0 := (blk_cell b2 0).trans rfl
  go_upto_region 3 with fail
  have d0 := blk_far b0 (p := ⟨w.heap.size + 1 + 1, 0, none⟩) (by simp; omega) (.int .i64 o.f0)
  have d1 := blk_far b1 (p := ⟨w.heap.size + 1 + 1, 0, none⟩) (by simp) (.int .i64 o.f0)
  have d2 : (W.setCell ⟨w.heap.size + 1 + 1, 0, none⟩ (.int .i64 o.f0)).heap[w.heap.size + 1 + 1]? = some (.cells #[.int .i64 o.f0, .int .i64 0, .slice none 0 0] 43 (0, 0)) := blk_put b2 0 _ rfl
  have hb1 := hb0.setCell (p := ⟨w.heap.size + 1 + 1, 0, none⟩) (by simp; omega) (.int .i64 o.f0)
  clear p0 z0 q0 hb0 b0 b1 b2
  generalize W.setCell ⟨w.heap.size + 1 + 1, 0, none⟩ (.int .i64 o.f0) = W1 at d0 d1 d2 hb1 ⊢
  have p1 := (blk_cell d0 1).trans rfl
  have z1 := blk_frozen d2 1
  have q1 := (blk_cell d2 1).trans rfl
  go_upto_region 4 with fail
  have e0 := blk_far d0 (p := ⟨w.heap.size + 1 + 1, 1, none⟩) (by simp; omega) (.int .i64 o.f1)
  have e1 := blk_far d1 (p := ⟨w.heap.size + 1 + 1, 1, none⟩) (by simp) (.int .i64 o.f1)
  have e2 : (W1.setCell ⟨w.heap.size + 1 + 1, 1, none⟩ (.int .i64 o.f1)).heap[w.heap.size + 1 + 1]? = some (.cells #[.int .i64 o.f0, .int .i64 o.f1, .slice none 0 0] 43 (0, 0)) := blk_put d2 1 _ rfl
  have hb2 := hb1.setCell (p := ⟨w.heap.size + 1 + 1, 1, none⟩) (by simp; omega) (.int .i64 o.f1)
  clear p1 z1 q1 hb1 d0 d1 d2
  generalize W1.setCell ⟨w.heap.size + 1 + 1, 1, none⟩ (.int .i64 o.f1) = W2 at e0 e1 e2 hb2 ⊢
  have p2 := (blk_cell e0 2).trans rfl
  have HO2 := Aside0.mk (HO.out.below hb2)
  have HB2 := Aside0.mk hb2
  clear hb2
  go_upto_region 5 with (go_at_call 114; refine (toIntS_any A c o.f2 _ hm HO2.out.2).mono ?_; rintro e w3 ⟨v3, rfl, hr3, hb3⟩; obtain ⟨A3, c3, rfl⟩ := Kd.R_slice hr3; have z2 := blk_frozen (blk_below e2 hb3) 2; have q2 := (blk_cell (blk_below e2 hb3) 2).trans rfl; have f1 := blk_below e1 hb3; have f2 := blk_below e2 hb3; have HR3 := Aside0.mk hr3; have HB3 := Aside0.mk (below_then HB2.out HB2.out.size hb3); clear hr3 hb3)
  clear e0 e1 e2 p2
  have g1 := blk_far f1 (p := ⟨w.heap.size + 1 + 1, 2, none⟩) (by simp) (.slice A3 o.f2.length c3)
  have g2 : (w3.setCell ⟨w.heap.size + 1 + 1, 2, none⟩ (.slice A3 o.f2.length c3)).heap[w.heap.size + 1 + 1]? = some (.cells #[.int .i64 o.f0, .int .i64 o.f1, .slice A3 o.f2.length c3] 43 (0, 0)) := blk_put f2 2 _ rfl
  have HB4 := Aside0.mk (HB3.out.setCell (p := ⟨w.heap.size + 1 + 1, 2, none⟩) (by simp; omega) (.slice A3 o.f2.length c3))
  have HR4 := Aside0.mk (Kd.R_set (Kd.R_lower HR3.out HB2.out.size) f2 (by decide) 2 (.slice A3 o.f2.length c3))
  clear f1 f2 z2 q2
  generalize w3.setCell ⟨w.heap.size + 1 + 1, 2, none⟩ (.slice A3 o.f2.length c3) = W4 at g1 g2 HB4 HR4 ⊢
  have r0 := (blk_cell g2 0).trans rfl
  have r1 := (blk_cell g2 1).trans rfl
  have r2 := (blk_cell g2 2).trans rfl
  have s0 := (blk_cell g1 0).trans rfl
  have s1 := (blk_cell g1 1).trans rfl
  have s2 := (blk_cell g1 2).trans rfl
  have t0 := blk_frozen g1 0
  have t1 := blk_frozen g1 1
  have t2 := blk_frozen g1 2
  go_wp2
  refine bodyPost_ret (results_cell_row rfl _ _ (w.heap.size + 1) 43 #[.int .i64 o.f0, .int .i64 o.f1, .slice A3 o.f2.length c3] (0, 0) _ rfl (set3_blk _ _ _ g1) Tryz.underlying43 rfl (by kernel_rfl)) rfl ?_
  exact ⟨_, rfl, set3_R HR4.out g1 (by decide) _ _ _, set3_below HB4.out (by omega) _ _ _⟩

set_option maxHeartbeats 2000000 in
set_option maxRecDepth 100000 in
theorem toOccS_any (A : Option Addr) (c : Nat) (l : List Occ) (w : World) (hl : l.length ≤ 1048576) (hi : ∀ x ∈ l, x.f2.length ≤ 1048576) (hL : IsL w l A c) :
    Calls Tryz.prog 34 #[.slice A l.length c] w fun e w' => ∃ v, e = .returned v ∧ SS w' w.heap.size (fun _ => True) v l ∧ Below w.heap.size w w' := by
  have hn : (0 : Int) ≤ l.length := by omega
  have hlb : ((l.length : Int)).toNat * 40 ≤ 281474976710656 := by omega
  have HL := Aside0.mk hL
  have HI := Aside0.mk hi
  clear hL hi
  go_enter Tryz.func34, Tryz.ntmps34
  go_wp2_with ((with_reducible refine gate_dst (N := 7) rfl ?_); refine Kd.S_make kO (w0 := w) w.heap.size 43 rfl (N := 7) rfl 23 _ _ rfl (l.length : Int) rfl rfl Tryz.underlying23 (.agg #[.int .i64 0, .int .i64 0, .slice none 0 0]) 40 infoO rfl (by decide) (by omega) zO (ok := fun _ => True) (okp := fun _ => True) (kO_mkM w w.heap.size (fun _ => False) zO (Kd.R_nil _ _ _ _ _)) (fun _ hk => hk) trivial hn hlb (Below.refl _ _) (Nat.le_refl _) ?_; intro v7 w7 hr7 hb7 hg7 _; simp only [Int.toNat_natCast] at hr7; have HR := Aside0.mk hr7; have HB := Aside0.mk hb7; clear hr7 hb7 hg7)
  clear hlb hn
  go_loopw [4] (fun vi wr => ∃ k : Nat, k ≤ l.length ∧ vi = .int .i64 k ∧ Aside0 (SS wr w.heap.size (fun _ => True) v7 (l.take k ++ (List.replicate l.length zO).drop k)) ∧ Aside0 (Below w.heap.size w wr)) (fun vi _ => l.length - (intOf vi).toNat)
  case atStart => exact ⟨0, Nat.zero_le _, rfl, by simpa using HR, HB⟩
  case round =>
    clear HR HB
    obtain ⟨k, hk, rfl, HR, HB⟩ := hrel
    by_cases hlt : k < l.length
    · have g1 : decide (k < l.length) = true := decide_eq_true hlt
      have i1 : (k : Int) < l.length := by omega
      have hlen : (l.take k ++ (List.replicate l.length zO).drop k).length = l.length := by simp; omega
      have HSET := Aside0.mk (show (l.take k ++ (List.replicate l.length zO).drop k).set ((k : Int)).toNat (l.getD k zO) = l.take (k + 1) ++ (List.replicate l.length zO).drop (k + 1) by
        rw [Int.toNat_natCast, mid_set _ _ _ _ (by rw [List.length_take]; omega) (by simpa using hlt), take_snoc l k zO hlt])
      obtain ⟨g, cap, rfl, hgb, hgl, hG⟩ := Kd.S_form HR.out (by omega)
      rw [hlen] at HR ⊢
      obtain ⟨ad, A3, c3, rfl, pa, pb, pc, pl, pC⟩ := atO (HL.out.below HB.out).rd k hlt
      have HIO : Aside0 (IsO wr (l.getD k zO) A3 c3) := ⟨⟨pl, pC⟩⟩
      have hio := HI.out _ (getD_mem (l := l) (i := k) hlt)
      generalize l.getD k zO = o at pa pb pc HIO hio HSET
      have HWB := Aside0.mk HB.out.size
      clear pl pC hlen
      go_wp2_with (first
        | ((with_reducible refine gate_store (t := 43) (p := 21) rfl ?_); obtain ⟨oki, ce, hce1, hce2, hce3, hce4, hH⟩ := Kd.S_lend HR.out zO (k : Int) (by omega) (by omega); refine Kd.H_store kO (w0 := w) w.heap.size rfl rfl 43 _ _ rfl 43 (k : Int) 0 (l.take k ++ (List.replicate l.length zO).drop k) o (.agg #[.int .i64 o.f0, .int .i64 o.f1, .slice Ac o.f2.length cc]) [.int .i64 o.f0, .int .i64 o.f1, .slice Ac o.f2.length cc] ce (fun _ => True) (fun j => oki j ∨ True ∧ wr.heap.size ≤ j) (fun j => wr.heap.size ≤ j) rfl (show k * 3 = ((k : Int)).toNat * 3 + 0 by simp) rfl rfl (by kernel_rfl) ?h1 (Kd.H_below (Kd.H_widen hH) HB4.out) (by omega) (by omega) (Nat.le_refl 3) ?hM (fun _ h => .inr ⟨trivial, h⟩) (below_then HB.out HB.out.size HB4.out) ?_; (case h1 => intro q hq; simp at hq; rcases hq with rfl | rfl | rfl <;> rfl); (case hM => rw [List.drop_of_length_le (by rw [hce1]; exact Nat.le_refl 3), List.append_nil]; exact kO_mkM _ _ _ o (Kd.R_lower (Kd.R_mono (Kd.R_bound HC4.out) (fun j hj => hj.2.1)) HWB.out)); intro w5 hs5 hb5 _; rw [HSET.out] at hs5; have HS5 := Aside0.mk hs5; have HB5 := Aside0.mk hb5; clear hs5 hb5 hce1 hce2 hce3 hce4 hH)
        | (go_at_call 73; refine (toOcc_any A3 c3 o _ hio HIO.out).mono ?_; rintro e w4 ⟨v4, rfl, hc4, hb4⟩; obtain ⟨Ac, cc, rfl⟩ := Kd.R_slice hc4; have HC4 := Aside0.mk hc4; have HB4 := Aside0.mk hb4; clear hc4 hb4))
      go_roundw
      case rel => exact ⟨k + 1, by omega, by go_num, HS5, HB5⟩
      case measure => simp [intOf]; omega
    · have hke : k = l.length := by omega
      subst hke
      have g1 : decide (l.length < l.length) = false := decide_eq_false (by omega)
      have hR := HR.out
      rw [List.take_length, List.drop_of_length_le (by simp), List.append_nil] at hR
      have HR2 := Aside0.mk hR
      clear hR
      go_wp2
      go_ret
      exact ⟨v7, rfl, HR2.out, HB.out⟩
end Go.Proofs.YtccenpmaooailaaGreat.Eb

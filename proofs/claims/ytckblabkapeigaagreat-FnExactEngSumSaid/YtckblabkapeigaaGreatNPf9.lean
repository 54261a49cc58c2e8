
/- EngSum: both sides. Printed by genPf9.py. -/
import Derived.Test.YtckblabkapeigaaGreatNPe9
import Derived.Test.YtckblabkapeigaaGreatNKd2
import Derived.Test.YtckblabkapeigaaGreatNZa
set_option linter.unusedVariables false
set_option linter.unusedSimpArgs false
namespace Go.Proofs.YtckblabkapeigaaGreat.Pf9
open Go.RowKit Go.Proofs.YtckblabkapeigaaGreatW.PrintWords Go.Proofs.YtckblabkapeigaaGreat.Ja Go.Proofs.YtckblabkapeigaaGreat.Jb Go.Proofs.YtckblabkapeigaaGreat.Jg Go.Proofs.YtckblabkapeigaaGreat.Jh Go.Proofs.YtckblabkapeigaaGreat.Ka Go.Proofs.YtckblabkapeigaaGreat.Kb Go.Proofs.YtckblabkapeigaaGreat.Ea8 Go.Proofs.YtckblabkapeigaaGreat.Ee8 Go.Proofs.YtckblabkapeigaaGreat.Ef8 Go.Proofs.YtckblabkapeigaaGreat.Ov9 Go.Proofs.YtckblabkapeigaaGreat.Ow9 Go.Proofs.YtckblabkapeigaaGreat.Ox9 Go.Proofs.YtckblabkapeigaaGreat.Oy9 Go.Proofs.YtckblabkapeigaaGreat.Oz9 Go.Proofs.YtckblabkapeigaaGreat.Pa9 Go.Proofs.YtckblabkapeigaaGreat.Pb9 Go.Proofs.YtckblabkapeigaaGreat.Pc9 Go.Proofs.YtckblabkapeigaaGreat.Pd9 Go.Proofs.YtckblabkapeigaaGreat.Pe9 Go.Proofs.YtckblabkapeigaaGreat.Eb8 Go.Proofs.YtckblabkapeigaaGreat.Kd2

def stepK (rs : List TRule) (out : List Int) (f : TFire) : List Int := out.set (rs.getD f.f0.toNat zRule).f6.toNat (out.getD (rs.getD f.f0.toNat zRule).f6.toNat 0 + (rs.getD f.f0.toNat zRule).f7)
def sumTo (x : TEng) (k : Nat) : List Int := (x.f4.take k).foldl (stepK x.f0) [0, 0, 0, 0]
/-- what all firings have added -/
def sumB (x : TEng) : List Int := if engB x = true then sumTo x x.f4.length else []
theorem sumTo_succ (x : TEng) (k : Nat) (h : k < x.f4.length) : sumTo x (k + 1) = stepK x.f0 (sumTo x k) (x.f4.getD k zFire) := by unfold sumTo; rw [take_snoc x.f4 k zFire h, List.foldl_append]; rfl
theorem sumTo_len (x : TEng) : ∀ k, k ≤ x.f4.length → (sumTo x k).length = 4
 | 0, _ => by simp [sumTo]
 | k + 1, h => by rw [sumTo_succ x k (by omega)]; unfold stepK; rw [List.length_set]; exact sumTo_len x k (by omega)
theorem rule_p {x : TEng} (h : engB x = true) {i : Nat} (hi : i < x.f0.length) : ruleP (x.f0.getD i zRule) := by
 unfold engB headE at h
 simp only [Bool.and_eq_true] at h
 have h1 := h.1.1
 unfold rulesB oksTo at h1
 rw [Bool.and_eq_true] at h1
 have h2 := List.all_eq_true.1 h1.2 i (List.mem_range.2 hi)
 unfold goodAt at h2
 rw [Bool.and_eq_true] at h2
 have h3 := h2.1
 unfold ruleB at h3
 simp only [Bool.and_eq_true, decide_eq_true_eq] at h3
 exact h3.2.2.2
theorem fire_p {x : TEng} (h : engB x = true) {i : Nat} (hi : i < x.f4.length) : 0 ≤ (x.f4.getD i zFire).f0 ∧ (x.f4.getD i zFire).f0 < x.f0.length := by
 unfold engB restE at h
 simp only [Bool.and_eq_true] at h
 have h1 := List.all_eq_true.1 h.2.2.2 (x.f4.getD i zFire) (by rw [List.getD_eq_getElem?_getD, List.getElem?_eq_getElem hi]; exact List.getElem_mem hi)
 unfold fireB inb at h1
 simp only [Bool.and_eq_true, decide_eq_true_eq] at h1
 omega
theorem set_bound {l : List Int} {k : Nat} {v b : Int} (hb : ∀ z ∈ l, -b ≤ z ∧ z ≤ b) (hv : -b ≤ v ∧ v ≤ b) : ∀ z ∈ l.set k v, -b ≤ z ∧ z ≤ b := fun z hz => by
 rcases List.mem_or_eq_of_mem_set hz with h | h
 ·exact hb z h
 ·rw [h]; exact hv
theorem sumTo_bound {x : TEng} (h : engB x = true) : ∀ k, k ≤ x.f4.length → ∀ z ∈ sumTo x k, -(9 * (k : Int)) ≤ z ∧ z ≤ 9 * (k : Int)
 | 0, _ => fun z hz => by simp [sumTo] at hz; omega
 | k + 1, hk => by
  have ih := sumTo_bound h k (by omega)
  have h1 := fire_p h (show k < x.f4.length by omega)
  have h2 := rule_p h (i := (x.f4.getD k zFire).f0.toNat) (by omega)
  rw [sumTo_succ x k (by omega)]
  unfold stepK
  have hl := sumTo_len x k (by omega)
  unfold ruleP at h2
  have hm : (sumTo x k).getD (x.f0.getD (x.f4.getD k zFire).f0.toNat zRule).f6.toNat 0 ∈ sumTo x k := by
   rw [List.getD_eq_getElem?_getD, List.getElem?_eq_getElem (by omega)]; exact List.getElem_mem _
  have h3 := ih _ hm
  have hcast : ((k + 1 : Nat) : Int) = (k : Int) + 1 := by omega
  rw [hcast]
  refine set_bound (fun z hz => ?_) (by omega)
  have := ih z hz
  omega
theorem below_trans9_ {B : Nat} {w w1 w2 : World} (h : Below B w w1) (g : Below B w1 w2) : Below B w w2 := ⟨g.os.trans h.os, g.tape.trans h.tape, g.output.trans h.output, Nat.le_trans h.size g.size, fun k hk => (g.block k hk).trans (h.block k hk)⟩
theorem S_empty9 {α : Type} {d : Kd α} {e : Nat} {w : World} {base g : Nat} (hg : w.heap[g]? = some (.cells #[] e (0, 0))) (hb : base ≤ g) : Kd.S d e w base (fun _ => True) (.slice (some ⟨g, 0, none⟩) 0 0) [] :=
 ⟨fun _ => 0, fun k hk => trivial, [], ⟨by simp, .inr ⟨g, 0, #[], rfl, hb, hg, Nat.le_refl _, by decide, by simp, by simp⟩⟩, Reps.none _ _⟩
set_option maxHeartbeats 8000000 in
set_option maxRecDepth 100000 in
theorem iSum_any (x : TEng) (E0 : Option Addr) (d0 : Nat) (E1 : Option Addr) (d1 : Nat) (E2 : Option Addr) (d2 : Nat) (E3 : Option Addr) (d3 : Nat) (E4 : Option Addr) (d4 : Nat) (hl : x.f0.length ≤ 1048576) (hn : ∀ r ∈ x.f0, r.f0.size ≤ 9223372036854775807) (hc : ∀ r ∈ x.f0, cntL r.f3.f3 ≤ 1048576) (hf : x.f4.length ≤ 1048576) (w : World) (h0 : IsS kRule w x.f0 E0 d0) (h1 : IsS kGraph w x.f1 E1 d1) (h2 : IsS kEv w x.f2 E2 d2) (h3 : IsS (Kd.int .i64) w x.f3 E3 d3) (h4 : IsS kFire w x.f4 E4 d4) :
  Calls Tryz.prog 7 #[.agg #[.slice E0 x.f0.length d0, .slice E1 x.f1.length d1, .slice E2 x.f2.length d2, .slice E3 x.f3.length d3, .slice E4 x.f4.length d4]] w fun e w' => ToL (Kd.int .i64) 3 w w' (sumB x) e := by
 have hb0 := below_alloc (Below.refl w.heap.size w) (.cells #[.slice E0 x.f0.length d0, .slice E1 x.f1.length d1, .slice E2 x.f2.length d2, .slice E3 x.f3.length d3, .slice E4 x.f4.length d4] 36)
 have b0 := blk_new w (.cells #[.slice E0 x.f0.length d0, .slice E1 x.f1.length d1, .slice E2 x.f2.length d2, .slice E3 x.f3.length d3, .slice E4 x.f4.length d4] 36)
 have hl0 := h0.len
 have H0 := Aside0.mk (h0.below hb0)
 have hl1 := h1.len
 have H1 := Aside0.mk (h1.below hb0)
 have hl2 := h2.len
 have H2 := Aside0.mk (h2.below hb0)
 have hl3 := h3.len
 have H3 := Aside0.mk (h3.below hb0)
 have hl4 := h4.len
 have H4 := Aside0.mk (h4.below hb0)
 obtain ⟨W, hW⟩ : ∃ W, W = w.alloc (.cells #[.slice E0 x.f0.length d0, .slice E1 x.f1.length d1, .slice E2 x.f2.length d2, .slice E3 x.f3.length d3, .slice E4 x.f4.length d4] 36) := ⟨_, rfl⟩
 rw [← hW] at hb0 b0 H0 H1 H2 H3 H4
 have HW := Aside0.mk hW
 have HX := Aside0.mk hb0
 have B0 := Aside0.mk b0
 have HN := Aside0.mk hn
 have HC := Aside0.mk hc
 have p0 := (blk_cell b0 0).trans rfl
 have p1 := (blk_cell b0 1).trans rfl
 have p2 := (blk_cell b0 2).trans rfl
 have p3 := (blk_cell b0 3).trans rfl
 have p4 := (blk_cell b0 4).trans rfl
 clear hW hb0 b0 hn hc h0 h1 h2 h3 h4
 cases q0 : engB x with
 | false =>
  have Q0 := Aside0.mk q0
  have HE : Aside0 (sumB x = []) := ⟨by unfold sumB; rw [q0]; rfl⟩
  clear q0
  go_enter Tryz.func7, Tryz.ntmps7
  go_upto_region 1 with fail
  rw [← HW.out]
  go_wp2_with (go_at_call 24; refine (engOk_any x E0 d0 E1 d1 E2 d2 E3 d3 E4 d4 hl HN.out HC.out _ H0.out H1.out H2.out H3.out H4.out).mono ?_; rintro e w2 ⟨rfl, hb⟩; rw [Q0.out]; have HB2 := Aside0.mk hb; clear hb)
  go_ret
  rw [HE.out]
  exact ⟨_, rfl, Kd.S_nil _ _ _ _ _, below_then HX.out HX.out.size HB2.out⟩
 | true =>
 have Q0 := Aside0.mk q0
 have HE : Aside0 (sumB x = sumTo x x.f4.length) := ⟨by unfold sumB; rw [q0]; rfl⟩
 clear q0
 go_enter Tryz.func7, Tryz.ntmps7
 go_upto_region 1 with fail
 rw [← HW.out]
 go_upto_region 3 with (go_at_call 24; refine (engOk_any x E0 d0 E1 d1 E2 d2 E3 d3 E4 d4 hl HN.out HC.out _ H0.out H1.out H2.out H3.out H4.out).mono ?_; rintro e w2 ⟨rfl, hb⟩; rw [Q0.out]; have HB2 := Aside0.mk hb; clear hb)
 clear p0 p1 p2 p3 p4
 have hw2 : w.heap.size ≤ w2.heap.size := Nat.le_trans HX.out.size HB2.out.size
 go_upto_region 4 with ((with_reducible refine gate_dst (N := 9) rfl ?_); refine Kd.S_make (Kd.int .i64) (w0 := w2) (W := w2) w2.heap.size 3 rfl (N := 9) rfl 25 _ _ rfl (4 : Int) rfl rfl Tryz.underlying25 (.int .i64 0) 8 infoI rfl (by decide) (by decide) 0 (ok := fun _ => True) (okp := fun _ => False) rfl (fun _ h => h.elim) trivial (by decide) (by decide) (Below.refl _ _) (Nat.le_refl _) ?_; intro v3 w3 hs3 hb3 _ _; obtain ⟨g, c3, hv3, hgb, hgl, _⟩ := Kd.S_form hs3 (by decide); have hv3' : v3 = .slice (some ⟨g, 0, none⟩) 4 c3 := hv3; subst hv3'; have HR3 := Aside0.mk (Kd.S_R hs3); have HB3 := Aside0.mk (below_then HB2.out HB2.out.size hb3); have HGB := Aside0.mk (Nat.le_trans HB2.out.size hgb); clear hs3 hb3 hgb hgl)
 have k4 := (blk_cell (blk_below B0.out HB3.out) 4).trans rfl
 go_upto_region 5 with fail
 clear k4 hw2
 go_loopw [13] (fun vi wr => ∃ k : Nat, k ≤ x.f4.length ∧ vi = .int .i64 k ∧ Aside0 ((Kd.int .i64).R 3 wr W.heap.size (fun _ => True) (.slice (some ⟨g, 0, none⟩) 4 c3) (sumTo x k)) ∧ Aside0 (Below W.heap.size W wr)) (fun vi _ => x.f4.length - (intOf vi).toNat)
 case atStart => exact ⟨0, Nat.zero_le _, rfl, ⟨Kd.R_lower HR3.out HB2.out.size⟩, HB3⟩
 case round =>
  clear HR3 HB3
  obtain ⟨k, hk, rfl, HR, HB⟩ := hrel
  by_cases hlt : k < x.f4.length
  ·have g1 : decide (k < x.f4.length) = true := decide_eq_true hlt
   have i1 : (k : Int) < x.f4.length := by omega
   obtain ⟨ad, A3, c3_, rfl, y0, y1, y2, y3, j3⟩ := atFire (H4.out.below HB.out) k hlt
   have hfp := fire_p Q0.out hlt
   have HSU := Aside0.mk (sumTo_succ x k hlt)
   have hbd := sumTo_bound Q0.out k (by omega)
   have hsl := sumTo_len x k (by omega)
   generalize x.f4.getD k zFire = o at y0 y1 y2 y3 j3 hfp HSU
   obtain ⟨i, hi⟩ : ∃ i : Nat, o.f0 = i := ⟨o.f0.toNat, by omega⟩
   have hilt : i < x.f0.length := by omega
   obtain ⟨adr, A6, c6, rfl, u0, u1, u2, u3, u4, u5, u6, u7, u8, u9, u10, u11, ju⟩ := atRule (H0.out.below HB.out) i hilt
   have hrp := rule_p Q0.out hilt
   have HST : Aside0 (sumTo x (k + 1) = (sumTo x k).set (x.f0.getD i zRule).f6.toNat ((sumTo x k).getD (x.f0.getD i zRule).f6.toNat 0 + (x.f0.getD i zRule).f7)) := ⟨by rw [HSU.out]; unfold stepK; rw [hi, Int.toNat_natCast]⟩
   generalize x.f0.getD i zRule = r at u0 u1 u2 u3 u4 u5 u6 u7 u8 u9 u10 u11 ju hrp HST
   unfold ruleP at hrp
   obtain ⟨kk, hkk⟩ : ∃ kk : Nat, r.f6 = kk := ⟨r.f6.toNat, by omega⟩
   rw [hkk] at u9
   rw [hkk, Int.toNat_natCast] at HST
   have hk4 : kk < 4 := by omega
   have hk4i : (kk : Int) < 4 := by omega
   have had : -9 ≤ r.f7 ∧ r.f7 ≤ 9 := by omega
   obtain ⟨z0, z1⟩ := Kd.R_celln (0 : Int) HR.out (kk : Int) (by omega) (by omega)
   rw [Int.toNat_natCast] at z0 z1
   have hz : rdOf (0 : Int) (sumTo x k) (kk : Int) = (sumTo x k).getD kk 0 := by unfold rdOf; rw [Int.toNat_natCast]
   rw [hz] at z0
   have hm : (sumTo x k).getD kk 0 ∈ sumTo x k := by rw [List.getD_eq_getElem?_getD, List.getElem?_eq_getElem (by omega)]; exact List.getElem_mem _
   have hbz := hbd _ hm
   have hpp := Kd.R_putg HR.out (kk : Int) ((sumTo x k).getD kk 0 + r.f7)
   rw [Int.toNat_natCast] at hpp
   rw [← HST.out] at hpp
   obtain ⟨a, hav⟩ : ∃ a, a = (sumTo x k).getD kk 0 := ⟨_, rfl⟩
   have HAV := Aside0.mk hav.symm
   rw [← hav] at z0 hbz
   clear hpp hav
   have hwr : IntKind.i64.wrap (a + r.f7) = a + r.f7 := by rw [IntKind.wrap_i64]; omega
   have hw1 : -9223372036854775808 ≤ a + r.f7 := by omega
   have hw2 : a + r.f7 ≤ 9223372036854775807 := by omega
   have hi2 : (i : Int) < x.f0.length := by omega
   rw [hi] at y0
   clear hbd hsl hm hz hrp hfp hkk hlt HSU j3 ju hi
   have k0 := (blk_cell (blk_below B0.out HB.out) 0).trans rfl
   go_upto_region 7 with fail
   have hba := below_alloc (Below.refl wr.heap.size wr) (.cells #[.int .i64 (i : Nat), .int .i64 o.f1.f0, .int .i64 o.f1.f1, .slice A3 o.f1.f2.length c3_] 56)
   have bX := blk_new wr (.cells #[.int .i64 (i : Nat), .int .i64 o.f1.f0, .int .i64 o.f1.f1, .slice A3 o.f1.f2.length c3_] 56)
   have HBX := Aside0.mk (below_then HB.out HB.out.size hba)
   have HRX := Aside0.mk (Kd.R_below HR.out hba)
   obtain ⟨NB, hNB⟩ : ∃ NB, NB = wr.heap.size := ⟨_, rfl⟩
   replace k0 := pw_cell_below hba k0
   replace u9 := pw_cell_below hba u9
   replace u10 := pw_cell_below hba u10
   replace z0 := pw_cell_below hba z0
   rw [← hNB] at bX ⊢
   generalize wr.alloc (.cells #[.int .i64 (i : Nat), .int .i64 o.f1.f0, .int .i64 o.f1.f1, .slice A3 o.f1.f2.length c3_] 56) = Wb at hba bX HBX HRX k0 u9 u10 z0 ⊢
   have b0_ := (blk_cell bX 0).trans (rfl : _ = some (Value.int .i64 (i : Nat)))
   clear hba bX hNB y0 y1 y2 y3 u0 u1 u2 u3 u4 u5 u6 u7 u8 u11 z1
   have HDD : Below Wb.heap.size Wb Wb.drew := below_drew (Below.refl _ _)
   replace k0 := pw_cell_below HDD k0
   replace u9 := pw_cell_below HDD u9
   replace u10 := pw_cell_below HDD u10
   replace z0 := pw_cell_below HDD z0
   replace b0_ := pw_cell_below HDD b0_
   refine Za.regionL (fun w' => w'.cell? ⟨w.heap.size, 0, none⟩ = some (.slice (some adr) x.f0.length d0) ∧ w'.cell? ⟨NB, 0, none⟩ = some (.int .i64 (i : Nat)) ∧ w'.cell? ⟨(adr.add (i * 12)).block, (adr.add (i * 12)).off + 9, none⟩ = some (.int .i64 (kk : Nat)) ∧ w'.cell? ⟨(adr.add (i * 12)).block, (adr.add (i * 12)).off + 10, none⟩ = some (.int .i64 r.f7) ∧ w'.cell? ⟨g, kk, none⟩ = some (.int .i64 a)) [19] (by kernel_rfl) ?_
   have HBD := Aside0.mk (below_then HBX.out HBX.out.size HDD)
   have HRD := Aside0.mk (Kd.R_below HRX.out HDD)
   clear HBX HRX HDD
   generalize Wb.drew = wd at HBD HRD k0 u9 u10 z0 b0_ ⊢
   have HS : (fun w' => w'.cell? ⟨w.heap.size, 0, none⟩ = some (.slice (some adr) x.f0.length d0) ∧ w'.cell? ⟨NB, 0, none⟩ = some (.int .i64 (i : Nat)) ∧ w'.cell? ⟨(adr.add (i * 12)).block, (adr.add (i * 12)).off + 9, none⟩ = some (.int .i64 (kk : Nat)) ∧ w'.cell? ⟨(adr.add (i * 12)).block, (adr.add (i * 12)).off + 10, none⟩ = some (.int .i64 r.f7) ∧ w'.cell? ⟨g, kk, none⟩ = some (.int .i64 a)) wd := ⟨k0, b0_, u9, u10, z0⟩
   refine Za.takeL 0 (v := ?vm0) rfl (by kernel_rfl) (by kernel_rfl) (by kernel_rfl) (by kernel_rfl) (fun _ _ _ h => h) (Or.inl ⟨by rfl, ?hym0⟩) HS ?restm0
   case hym0 => (intro w hSw; (try dsimp only at hSw); go_simp; try with_reducible rfl)
   (try simp only [Act.put, List.setIfInBounds_toArray, List.set_cons_zero, List.set_cons_succ])
   refine Za.takeL 1 (v := ?vm1) rfl (by kernel_rfl) (by kernel_rfl) (by kernel_rfl) (by kernel_rfl) (fun _ _ _ h => h) (Or.inl ⟨by rfl, ?hym1⟩) HS ?restm1
   case hym1 => (intro w hSw; (try dsimp only at hSw); go_simp; try with_reducible rfl)
   (try simp only [Act.put, List.setIfInBounds_toArray, List.set_cons_zero, List.set_cons_succ])
   refine Za.takeL 2 (v := ?vm2) rfl (by kernel_rfl) (by kernel_rfl) (by kernel_rfl) (by kernel_rfl) (fun _ _ _ h => h) (Or.inl ⟨by rfl, ?hym2⟩) HS ?restm2
   case hym2 => (intro w hSw; (try dsimp only at hSw); go_simp; try with_reducible rfl)
   (try simp only [Act.put, List.setIfInBounds_toArray, List.set_cons_zero, List.set_cons_succ])
   refine Za.takeL 3 (v := ?vm3) rfl (by kernel_rfl) (by kernel_rfl) (by kernel_rfl) (by kernel_rfl) (fun _ _ _ h => h) (Or.inl ⟨by rfl, ?hym3⟩) HS ?restm3
   case hym3 => (intro w hSw; (try dsimp only at hSw); go_simp; try with_reducible rfl)
   (try simp only [Act.put, List.setIfInBounds_toArray, List.set_cons_zero, List.set_cons_succ])
   refine Za.takeL 4 (v := ?vm4) rfl (by kernel_rfl) (by kernel_rfl) (by kernel_rfl) (by kernel_rfl) (fun _ _ _ h => h) (Or.inl ⟨by rfl, ?hym4⟩) HS ?restm4
   case hym4 => (intro w hSw; (try dsimp only at hSw); go_simp; try with_reducible rfl)
   (try simp only [Act.put, List.setIfInBounds_toArray, List.set_cons_zero, List.set_cons_succ])
   refine Za.takeL 5 (v := ?vm5) rfl (by kernel_rfl) (by kernel_rfl) (by kernel_rfl) (by kernel_rfl) (fun _ _ _ h => h) (Or.inl ⟨by rfl, ?hym5⟩) HS ?restm5
   case hym5 => (intro w hSw; (try dsimp only at hSw); go_simp; try with_reducible rfl)
   (try simp only [Act.put, List.setIfInBounds_toArray, List.set_cons_zero, List.set_cons_succ])
   refine Za.takeL 6 (v := ?vm6) rfl (by kernel_rfl) (by kernel_rfl) (by kernel_rfl) (by kernel_rfl) (fun _ _ _ h => h) (Or.inl ⟨by rfl, ?hym6⟩) HS ?restm6
   case hym6 => (intro w hSw; (try dsimp only at hSw); go_simp; try with_reducible rfl)
   (try simp only [Act.put, List.setIfInBounds_toArray, List.set_cons_zero, List.set_cons_succ])
   refine Za.takeL 7 (v := ?vm7) rfl (by kernel_rfl) (by kernel_rfl) (by kernel_rfl) (by kernel_rfl) (fun _ _ _ h => h) (Or.inl ⟨by rfl, ?hym7⟩) HS ?restm7
   case hym7 => (intro w hSw; (try dsimp only at hSw); go_simp; try with_reducible rfl)
   (try simp only [Act.put, List.setIfInBounds_toArray, List.set_cons_zero, List.set_cons_succ])
   refine Za.takeL 8 (v := ?vm8) rfl (by kernel_rfl) (by kernel_rfl) (by kernel_rfl) (by kernel_rfl) (fun _ _ _ h => h) (Or.inl ⟨by rfl, ?hym8⟩) HS ?restm8
   case hym8 => (intro w hSw; (try dsimp only at hSw); go_simp; try with_reducible rfl)
   (try simp only [Act.put, List.setIfInBounds_toArray, List.set_cons_zero, List.set_cons_succ])
   refine Za.takeL 9 (v := ?vm9) rfl (by kernel_rfl) (by kernel_rfl) (by kernel_rfl) (by kernel_rfl) (fun _ _ _ h => h) (Or.inl ⟨by rfl, ?hym9⟩) HS ?restm9
   case hym9 => (intro w hSw; (try dsimp only at hSw); go_simp; try with_reducible rfl)
   (try simp only [Act.put, List.setIfInBounds_toArray, List.set_cons_zero, List.set_cons_succ])
   refine Za.takeL 10 (v := ?vm10) rfl (by kernel_rfl) (by kernel_rfl) (by kernel_rfl) (by kernel_rfl) (fun _ _ _ h => h) (Or.inl ⟨by rfl, ?hym10⟩) HS ?restm10
   case hym10 => (intro w hSw; (try dsimp only at hSw); go_simp; try with_reducible rfl)
   (try simp only [Act.put, List.setIfInBounds_toArray, List.set_cons_zero, List.set_cons_succ])
   refine Za.takeL 11 (v := ?vm11) rfl (by kernel_rfl) (by kernel_rfl) (by kernel_rfl) (by kernel_rfl) (fun _ _ _ h => h) (Or.inl ⟨by rfl, ?hym11⟩) HS ?restm11
   case hym11 => (intro w hSw; (try dsimp only at hSw); go_simp; try with_reducible rfl)
   (try simp only [Act.put, List.setIfInBounds_toArray, List.set_cons_zero, List.set_cons_succ])
   refine Za.takeL 12 (v := ?vm12) rfl (by kernel_rfl) (by kernel_rfl) (by kernel_rfl) (by kernel_rfl) (fun _ _ _ h => h) (Or.inl ⟨by rfl, ?hym12⟩) HS ?restm12
   case hym12 => (intro w hSw; (try dsimp only at hSw); go_simp; try with_reducible rfl)
   (try simp only [Act.put, List.setIfInBounds_toArray, List.set_cons_zero, List.set_cons_succ])
   refine Za.takeL 13 (v := ?vm13) rfl (by kernel_rfl) (by kernel_rfl) (by kernel_rfl) (by kernel_rfl) (fun _ _ _ h => h) (Or.inl ⟨by rfl, ?hym13⟩) HS ?restm13
   case hym13 => (intro w hSw; (try dsimp only at hSw); go_simp; try with_reducible rfl)
   (try simp only [Act.put, List.setIfInBounds_toArray, List.set_cons_zero, List.set_cons_succ])
   refine Za.takeL 14 (v := ?vm14) rfl (by kernel_rfl) (by kernel_rfl) (by kernel_rfl) (by kernel_rfl) (fun _ _ _ h => h) (Or.inl ⟨by rfl, ?hym14⟩) HS ?restm14
   case hym14 => (intro w hSw; (try dsimp only at hSw); go_simp; try with_reducible rfl)
   (try simp only [Act.put, List.setIfInBounds_toArray, List.set_cons_zero, List.set_cons_succ])
   refine Za.takeL 15 (v := ?vm15) rfl (by kernel_rfl) (by kernel_rfl) (by kernel_rfl) (by kernel_rfl) (fun _ _ _ h => h) (Or.inl ⟨by rfl, ?hym15⟩) HS ?restm15
   case hym15 => (intro w hSw; (try dsimp only at hSw); go_simp; try with_reducible rfl)
   (try simp only [Act.put, List.setIfInBounds_toArray, List.set_cons_zero, List.set_cons_succ])
   refine Za.takeL 16 (v := ?vm16) rfl (by kernel_rfl) (by kernel_rfl) (by kernel_rfl) (by kernel_rfl) (fun _ _ _ h => h) (Or.inl ⟨by rfl, ?hym16⟩) HS ?restm16
   case hym16 => (intro w hSw; (try dsimp only at hSw); go_simp; try with_reducible rfl)
   (try simp only [Act.put, List.setIfInBounds_toArray, List.set_cons_zero, List.set_cons_succ])
   refine Za.takeL 17 (v := ?vm17) rfl (by kernel_rfl) (by kernel_rfl) (by kernel_rfl) (by kernel_rfl) (fun _ _ _ h => h) (Or.inl ⟨by rfl, ?hym17⟩) HS ?restm17
   case hym17 => (intro w hSw; (try dsimp only at hSw); go_simp; try with_reducible rfl)
   (try simp only [Act.put, List.setIfInBounds_toArray, List.set_cons_zero, List.set_cons_succ])
   refine Za.takeL 18 (v := ?vm18) rfl (by kernel_rfl) (by kernel_rfl) (by kernel_rfl) (by kernel_rfl) (fun _ _ _ h => h) (Or.inl ⟨by rfl, ?hym18⟩) HS ?restm18
   case hym18 => (intro w hSw; (try dsimp only at hSw); go_simp; try with_reducible rfl)
   (try simp only [Act.put, List.setIfInBounds_toArray, List.set_cons_zero, List.set_cons_succ])
   clear HS k0 u9 u10 b0_
   obtain ⟨y, z1⟩ := Kd.R_celln (0 : Int) HRD.out (kk : Int) (by omega) (by omega)
   clear y
   rw [Int.toNat_natCast] at z1
   have hpp := Kd.R_putg HRD.out (kk : Int) (a + r.f7)
   rw [Int.toNat_natCast] at hpp
   have HPP : Aside0 ((Kd.int .i64).R 3 (wd.setCell ⟨g, kk, none⟩ (.int .i64 (a + r.f7))) W.heap.size (fun _ => True) (.slice (some ⟨g, 0, none⟩) 4 c3) (sumTo x (k + 1))) := ⟨by rw [HST.out, HAV.out]; exact hpp.1⟩
   have HBS := Aside0.mk (HBD.out.setCell (p := ⟨g, kk, none⟩) HGB.out (.int .i64 (a + r.f7)))
   clear hpp
   refine Za.nextL 19 (by kernel_rfl) rfl (fun K' hK => ?_)
   go_simp
   refine hK.out _ _ ⟨fun h => absurd (by simp) h, ?_⟩
   clear hK K'
   (try simp only [Act.put, List.setIfInBounds_toArray, List.set_cons_zero, List.set_cons_succ])
   refine Za.Walk.done (by kernel_rfl) ?_
   clear z0 z1
   go_wp2
   go_roundw
   case rel => exact ⟨k + 1, by omega, by go_num, HPP, HBS⟩
   case measure => simp [intOf]; omega
  ·have hke : k = x.f4.length := by omega
   subst hke
   have g1 : decide (x.f4.length < x.f4.length) = false := decide_eq_false (by omega)
   go_wp2
   go_ret
   rw [HE.out]
   exact ⟨_, rfl, S_ints (Kd.R_lower HR.out HX.out.size), below_then HX.out HX.out.size HB.out⟩
set_option maxHeartbeats 8000000 in
set_option maxRecDepth 100000 in
theorem sSum_any (x : TEng) (E0 : Option Addr) (d0 : Nat) (E1 : Option Addr) (d1 : Nat) (E2 : Option Addr) (d2 : Nat) (E3 : Option Addr) (d3 : Nat) (E4 : Option Addr) (d4 : Nat) (hl : x.f0.length ≤ 1048576) (hn : ∀ r ∈ x.f0, r.f0.size ≤ 9223372036854775807) (hc : ∀ r ∈ x.f0, cntL r.f3.f3 ≤ 1048576) (hf : x.f4.length ≤ 1048576) (w : World) (h0 : IsS kRule w x.f0 E0 d0) (h1 : IsS kGraph w x.f1 E1 d1) (h2 : IsS kEv w x.f2 E2 d2) (h3 : IsS (Kd.int .i64) w x.f3 E3 d3) (h4 : IsS kFire w x.f4 E4 d4) :
  Calls Tryz.prog 5 #[.agg #[.slice E0 x.f0.length d0, .slice E1 x.f1.length d1, .slice E2 x.f2.length d2, .slice E3 x.f3.length d3, .slice E4 x.f4.length d4]] w fun e w' => ToL (Kd.int .i64) 3 w w' (sumB x) e := by
 have hb0 := below_alloc (Below.refl w.heap.size w) (.cells #[.slice E0 x.f0.length d0, .slice E1 x.f1.length d1, .slice E2 x.f2.length d2, .slice E3 x.f3.length d3, .slice E4 x.f4.length d4] 36)
 have b0 := blk_new w (.cells #[.slice E0 x.f0.length d0, .slice E1 x.f1.length d1, .slice E2 x.f2.length d2, .slice E3 x.f3.length d3, .slice E4 x.f4.length d4] 36)
 have hl0 := h0.len
 have H0 := Aside0.mk (h0.below hb0)
 have hl1 := h1.len
 have H1 := Aside0.mk (h1.below hb0)
 have hl2 := h2.len
 have H2 := Aside0.mk (h2.below hb0)
 have hl3 := h3.len
 have H3 := Aside0.mk (h3.below hb0)
 have hl4 := h4.len
 have H4 := Aside0.mk (h4.below hb0)
 obtain ⟨W, hW⟩ : ∃ W, W = w.alloc (.cells #[.slice E0 x.f0.length d0, .slice E1 x.f1.length d1, .slice E2 x.f2.length d2, .slice E3 x.f3.length d3, .slice E4 x.f4.length d4] 36) := ⟨_, rfl⟩
 rw [← hW] at hb0 b0 H0 H1 H2 H3 H4
 have HW := Aside0.mk hW
 have HX := Aside0.mk hb0
 have B0 := Aside0.mk b0
 have HN := Aside0.mk hn
 have HC := Aside0.mk hc
 have p0 := (blk_cell b0 0).trans rfl
 have p1 := (blk_cell b0 1).trans rfl
 have p2 := (blk_cell b0 2).trans rfl
 have p3 := (blk_cell b0 3).trans rfl
 have p4 := (blk_cell b0 4).trans rfl
 clear hW hb0 b0 hn hc h0 h1 h2 h3 h4
 cases q0 : engB x with
 | false =>
  have Q0 := Aside0.mk q0
  have HE : Aside0 (sumB x = []) := ⟨by unfold sumB; rw [q0]; rfl⟩
  clear q0
  go_enter Tryz.func5, Tryz.ntmps5
  go_upto_region 1 with fail
  rw [← HW.out]
  go_wp2_with (go_at_call 18; refine (sEngOk_any x E0 d0 E1 d1 E2 d2 E3 d3 E4 d4 hl HN.out HC.out _ H0.out H1.out H2.out H3.out H4.out).mono ?_; rintro e w2 ⟨rfl, hb⟩; rw [Q0.out]; have HB2 := Aside0.mk hb; clear hb)
  go_ret
  rw [HE.out]
  exact ⟨_, rfl, S_empty9 (blk_new w2 (.cells #[] 3)) (Nat.le_trans HX.out.size HB2.out.size), below_then (below_then HX.out HX.out.size HB2.out) (Nat.le_trans HX.out.size HB2.out.size) (below_alloc (Below.refl _ _) _)⟩
 | true =>
 have Q0 := Aside0.mk q0
 have HE : Aside0 (sumB x = sumTo x x.f4.length) := ⟨by unfold sumB; rw [q0]; rfl⟩
 clear q0
 go_enter Tryz.func5, Tryz.ntmps5
 go_upto_region 1 with fail
 rw [← HW.out]
 go_upto_region 3 with (go_at_call 18; refine (sEngOk_any x E0 d0 E1 d1 E2 d2 E3 d3 E4 d4 hl HN.out HC.out _ H0.out H1.out H2.out H3.out H4.out).mono ?_; rintro e w2 ⟨rfl, hb⟩; rw [Q0.out]; have HB2 := Aside0.mk hb; clear hb)
 clear p0 p1 p2 p3 p4
 have hw2 : w.heap.size ≤ w2.heap.size := Nat.le_trans HX.out.size HB2.out.size
 go_upto_region 4 with ((with_reducible refine gate_dst (N := 10) rfl ?_); refine Kd.S_make (Kd.int .i64) (w0 := w2) (W := w2) w2.heap.size 3 rfl (N := 10) rfl 25 _ _ rfl (4 : Int) rfl rfl Tryz.underlying25 (.int .i64 0) 8 infoI rfl (by decide) (by decide) 0 (ok := fun _ => True) (okp := fun _ => False) rfl (fun _ h => h.elim) trivial (by decide) (by decide) (Below.refl _ _) (Nat.le_refl _) ?_; intro v3 w3 hs3 hb3 _ _; obtain ⟨g, c3, hv3, hgb, hgl, _⟩ := Kd.S_form hs3 (by decide); have hv3' : v3 = .slice (some ⟨g, 0, none⟩) 4 c3 := hv3; subst hv3'; have HR3 := Aside0.mk (Kd.S_R hs3); have HB3 := Aside0.mk (below_then HB2.out HB2.out.size hb3); have HGB := Aside0.mk (Nat.le_trans HB2.out.size hgb); clear hs3 hb3 hgb hgl)
 have k4 := (blk_cell (blk_below B0.out HB3.out) 4).trans rfl
 go_upto_region 5 with fail
 clear k4 hw2
 go_loopw [4] (fun vi wr => ∃ k : Nat, k ≤ x.f4.length ∧ vi = .int .i64 k ∧ Aside0 ((Kd.int .i64).R 3 wr W.heap.size (fun _ => True) (.slice (some ⟨g, 0, none⟩) 4 c3) (sumTo x k)) ∧ Aside0 (Below W.heap.size W wr)) (fun vi _ => x.f4.length - (intOf vi).toNat)
 case atStart => exact ⟨0, Nat.zero_le _, rfl, ⟨Kd.R_lower HR3.out HB2.out.size⟩, HB3⟩
 case round =>
  clear HR3 HB3
  obtain ⟨k, hk, rfl, HR, HB⟩ := hrel
  have k4 := (blk_cell (blk_below B0.out HB.out) 4).trans rfl
  by_cases hlt : k < x.f4.length
  ·have g1 : decide (k < x.f4.length) = true := decide_eq_true hlt
   have i1 : (k : Int) < x.f4.length := by omega
   obtain ⟨ad, A3, c3_, rfl, y0, y1, y2, y3, j3⟩ := atFire (H4.out.below HB.out) k hlt
   have hfp := fire_p Q0.out hlt
   have HSU := Aside0.mk (sumTo_succ x k hlt)
   have hbd := sumTo_bound Q0.out k (by omega)
   have hsl := sumTo_len x k (by omega)
   generalize x.f4.getD k zFire = o at y0 y1 y2 y3 j3 hfp HSU
   obtain ⟨i, hi⟩ : ∃ i : Nat, o.f0 = i := ⟨o.f0.toNat, by omega⟩
   have hilt : i < x.f0.length := by omega
   obtain ⟨adr, A6, c6, rfl, u0, u1, u2, u3, u4, u5, u6, u7, u8, u9, u10, u11, ju⟩ := atRule (H0.out.below HB.out) i hilt
   have hrp := rule_p Q0.out hilt
   have HST : Aside0 (sumTo x (k + 1) = (sumTo x k).set (x.f0.getD i zRule).f6.toNat ((sumTo x k).getD (x.f0.getD i zRule).f6.toNat 0 + (x.f0.getD i zRule).f7)) := ⟨by rw [HSU.out]; unfold stepK; rw [hi, Int.toNat_natCast]⟩
   generalize x.f0.getD i zRule = r at u0 u1 u2 u3 u4 u5 u6 u7 u8 u9 u10 u11 ju hrp HST
   unfold ruleP at hrp
   obtain ⟨kk, hkk⟩ : ∃ kk : Nat, r.f6 = kk := ⟨r.f6.toNat, by omega⟩
   rw [hkk] at u9
   rw [hkk, Int.toNat_natCast] at HST
   have hk4 : kk < 4 := by omega
   have hk4i : (kk : Int) < 4 := by omega
   have had : -9 ≤ r.f7 ∧ r.f7 ≤ 9 := by omega
   obtain ⟨z0, z1⟩ := Kd.R_celln (0 : Int) HR.out (kk : Int) (by omega) (by omega)
   rw [Int.toNat_natCast] at z0 z1
   have hz : rdOf (0 : Int) (sumTo x k) (kk : Int) = (sumTo x k).getD kk 0 := by unfold rdOf; rw [Int.toNat_natCast]
   rw [hz] at z0
   have hm : (sumTo x k).getD kk 0 ∈ sumTo x k := by rw [List.getD_eq_getElem?_getD, List.getElem?_eq_getElem (by omega)]; exact List.getElem_mem _
   have hbz := hbd _ hm
   have hpp := Kd.R_putg HR.out (kk : Int) ((sumTo x k).getD kk 0 + r.f7)
   rw [Int.toNat_natCast] at hpp
   rw [← HST.out] at hpp
   obtain ⟨a, hav⟩ : ∃ a, a = (sumTo x k).getD kk 0 := ⟨_, rfl⟩
   have HAV := Aside0.mk hav.symm
   rw [← hav] at z0 hbz
   clear hpp hav
   have hwr : IntKind.i64.wrap (a + r.f7) = a + r.f7 := by rw [IntKind.wrap_i64]; omega
   have hw1 : -9223372036854775808 ≤ a + r.f7 := by omega
   have hw2 : a + r.f7 ≤ 9223372036854775807 := by omega
   have hi2 : (i : Int) < x.f0.length := by omega
   rw [hi] at y0
   clear hbd hsl hm hz hrp hfp hkk hlt HSU j3 ju hi
   have k0 := (blk_cell (blk_below B0.out HB.out) 0).trans rfl
   go_upto_region 7 with fail
   have HDD : Below wr.heap.size wr wr.drew := below_drew (Below.refl _ _)
   replace k0 := pw_cell_below HDD k0
   replace k4 := pw_cell_below HDD k4
   replace y0 := pw_cell_below HDD y0
   replace u0 := pw_cell_below HDD u0
   replace u1 := pw_cell_below HDD u1
   replace u2 := pw_cell_below HDD u2
   replace u3 := pw_cell_below HDD u3
   replace u4 := pw_cell_below HDD u4
   replace u5 := pw_cell_below HDD u5
   replace u6 := pw_cell_below HDD u6
   replace u7 := pw_cell_below HDD u7
   replace u8 := pw_cell_below HDD u8
   replace u9 := pw_cell_below HDD u9
   replace u10 := pw_cell_below HDD u10
   replace u11 := pw_cell_below HDD u11
   refine Za.regionL (fun w' => w'.cell? ⟨w.heap.size, 0, none⟩ = some (.slice (some adr) x.f0.length d0) ∧ w'.cell? ⟨w.heap.size, 4, none⟩ = some (.slice (some ad) x.f4.length d4) ∧ w'.cell? (ad.add (k * 4)) = some (.int .i64 (i : Nat)) ∧ w'.cell? (adr.add (i * 12)) = some (.string r.f0) ∧ w'.cell? ⟨(adr.add (i * 12)).block, (adr.add (i * 12)).off + 1, none⟩ = some (.int .i64 r.f1) ∧ w'.cell? ⟨(adr.add (i * 12)).block, (adr.add (i * 12)).off + 2, none⟩ = some (.int .i64 r.f2) ∧ w'.cell? ⟨(adr.add (i * 12)).block, (adr.add (i * 12)).off + 3, none⟩ = some (.int .i64 r.f3.f0) ∧ w'.cell? ⟨(adr.add (i * 12)).block, (adr.add (i * 12)).off + 4, none⟩ = some (.int .i64 r.f3.f1) ∧ w'.cell? ⟨(adr.add (i * 12)).block, (adr.add (i * 12)).off + 5, none⟩ = some (.int .i64 r.f3.f2) ∧ w'.cell? ⟨(adr.add (i * 12)).block, (adr.add (i * 12)).off + 6, none⟩ = some (.slice A6 r.f3.f3.length c6) ∧ w'.cell? ⟨(adr.add (i * 12)).block, (adr.add (i * 12)).off + 7, none⟩ = some (.int .i64 r.f4) ∧ w'.cell? ⟨(adr.add (i * 12)).block, (adr.add (i * 12)).off + 8, none⟩ = some (.int .i64 r.f5) ∧ w'.cell? ⟨(adr.add (i * 12)).block, (adr.add (i * 12)).off + 9, none⟩ = some (.int .i64 (kk : Nat)) ∧ w'.cell? ⟨(adr.add (i * 12)).block, (adr.add (i * 12)).off + 10, none⟩ = some (.int .i64 r.f7) ∧ w'.cell? ⟨(adr.add (i * 12)).block, (adr.add (i * 12)).off + 11, none⟩ = some (.int .i64 r.f8)) [11] (by kernel_rfl) ?_
   have HBD := Aside0.mk (below_then HB.out HB.out.size HDD)
   have HRD := Aside0.mk (Kd.R_below HR.out HDD)
   clear HDD HB HR z0 z1 y1 y2 y3
   generalize wr.drew = wd at HBD HRD k0 k4 y0 u0 u1 u2 u3 u4 u5 u6 u7 u8 u9 u10 u11 ⊢
   have HS : (fun w' => w'.cell? ⟨w.heap.size, 0, none⟩ = some (.slice (some adr) x.f0.length d0) ∧ w'.cell? ⟨w.heap.size, 4, none⟩ = some (.slice (some ad) x.f4.length d4) ∧ w'.cell? (ad.add (k * 4)) = some (.int .i64 (i : Nat)) ∧ w'.cell? (adr.add (i * 12)) = some (.string r.f0) ∧ w'.cell? ⟨(adr.add (i * 12)).block, (adr.add (i * 12)).off + 1, none⟩ = some (.int .i64 r.f1) ∧ w'.cell? ⟨(adr.add (i * 12)).block, (adr.add (i * 12)).off + 2, none⟩ = some (.int .i64 r.f2) ∧ w'.cell? ⟨(adr.add (i * 12)).block, (adr.add (i * 12)).off + 3, none⟩ = some (.int .i64 r.f3.f0) ∧ w'.cell? ⟨(adr.add (i * 12)).block, (adr.add (i * 12)).off + 4, none⟩ = some (.int .i64 r.f3.f1) ∧ w'.cell? ⟨(adr.add (i * 12)).block, (adr.add (i * 12)).off + 5, none⟩ = some (.int .i64 r.f3.f2) ∧ w'.cell? ⟨(adr.add (i * 12)).block, (adr.add (i * 12)).off + 6, none⟩ = some (.slice A6 r.f3.f3.length c6) ∧ w'.cell? ⟨(adr.add (i * 12)).block, (adr.add (i * 12)).off + 7, none⟩ = some (.int .i64 r.f4) ∧ w'.cell? ⟨(adr.add (i * 12)).block, (adr.add (i * 12)).off + 8, none⟩ = some (.int .i64 r.f5) ∧ w'.cell? ⟨(adr.add (i * 12)).block, (adr.add (i * 12)).off + 9, none⟩ = some (.int .i64 (kk : Nat)) ∧ w'.cell? ⟨(adr.add (i * 12)).block, (adr.add (i * 12)).off + 10, none⟩ = some (.int .i64 r.f7) ∧ w'.cell? ⟨(adr.add (i * 12)).block, (adr.add (i * 12)).off + 11, none⟩ = some (.int .i64 r.f8)) wd := ⟨k0, k4, y0, u0, u1, u2, u3, u4, u5, u6, u7, u8, u9, u10, u11⟩
   refine Za.takeL 0 (v := ?vm0) rfl (by kernel_rfl) (by kernel_rfl) (by kernel_rfl) (by kernel_rfl) (fun _ _ _ h => h) (Or.inl ⟨by rfl, ?hym0⟩) HS ?restm0
   case hym0 => (intro w hSw; (try dsimp only at hSw); go_simp; try with_reducible rfl)
   (try simp only [Act.put, List.setIfInBounds_toArray, List.set_cons_zero, List.set_cons_succ])
   refine Za.takeL 1 (v := ?vm1) rfl (by kernel_rfl) (by kernel_rfl) (by kernel_rfl) (by kernel_rfl) (fun _ _ _ h => h) (Or.inl ⟨by rfl, ?hym1⟩) HS ?restm1
   case hym1 => (intro w hSw; (try dsimp only at hSw); go_simp; try with_reducible rfl)
   (try simp only [Act.put, List.setIfInBounds_toArray, List.set_cons_zero, List.set_cons_succ])
   refine Za.takeL 2 (v := ?vm2) rfl (by kernel_rfl) (by kernel_rfl) (by kernel_rfl) (by kernel_rfl) (fun _ _ _ h => h) (Or.inl ⟨by rfl, ?hym2⟩) HS ?restm2
   case hym2 => (intro w hSw; (try dsimp only at hSw); go_simp; try with_reducible rfl)
   (try simp only [Act.put, List.setIfInBounds_toArray, List.set_cons_zero, List.set_cons_succ])
   refine Za.takeL 3 (v := ?vm3) rfl (by kernel_rfl) (by kernel_rfl) (by kernel_rfl) (by kernel_rfl) (fun _ _ _ h => h) (Or.inl ⟨by rfl, ?hym3⟩) HS ?restm3
   case hym3 => (intro w hSw; (try dsimp only at hSw); go_simp; try with_reducible rfl)
   (try simp only [Act.put, List.setIfInBounds_toArray, List.set_cons_zero, List.set_cons_succ])
   refine Za.takeL 4 (v := ?vm4) rfl (by kernel_rfl) (by kernel_rfl) (by kernel_rfl) (by kernel_rfl) (fun _ _ _ h => h) (Or.inl ⟨by rfl, ?hym4⟩) HS ?restm4
   case hym4 => (intro w hSw; (try dsimp only at hSw); go_simp; try with_reducible rfl)
   (try simp only [Act.put, List.setIfInBounds_toArray, List.set_cons_zero, List.set_cons_succ])
   refine Za.takeL 5 (v := ?vm5) rfl (by kernel_rfl) (by kernel_rfl) (by kernel_rfl) (by kernel_rfl) (fun _ _ _ h => h) (Or.inl ⟨by rfl, ?hym5⟩) HS ?restm5
   case hym5 => (intro w hSw; (try dsimp only at hSw); go_simp; try with_reducible rfl)
   (try simp only [Act.put, List.setIfInBounds_toArray, List.set_cons_zero, List.set_cons_succ])
   refine Za.takeL 6 (v := ?vm6) rfl (by kernel_rfl) (by kernel_rfl) (by kernel_rfl) (by kernel_rfl) (fun _ _ _ h => h) (Or.inl ⟨by rfl, ?hym6⟩) HS ?restm6
   case hym6 => (intro w hSw; (try dsimp only at hSw); go_simp; try with_reducible rfl)
   (try simp only [Act.put, List.setIfInBounds_toArray, List.set_cons_zero, List.set_cons_succ])
   refine Za.takeL 7 (v := ?vm7) rfl (by kernel_rfl) (by kernel_rfl) (by kernel_rfl) (by kernel_rfl) (fun _ _ _ h => h) (Or.inl ⟨by rfl, ?hym7⟩) HS ?restm7
   case hym7 => (intro w hSw; (try dsimp only at hSw); go_simp; try with_reducible rfl)
   (try simp only [Act.put, List.setIfInBounds_toArray, List.set_cons_zero, List.set_cons_succ])
   refine Za.takeL 8 (v := ?vm8) rfl (by kernel_rfl) (by kernel_rfl) (by kernel_rfl) (by kernel_rfl) (fun _ _ _ h => h) (Or.inl ⟨by rfl, ?hym8⟩) HS ?restm8
   case hym8 => (intro w hSw; (try dsimp only at hSw); go_simp; try with_reducible rfl)
   (try simp only [Act.put, List.setIfInBounds_toArray, List.set_cons_zero, List.set_cons_succ])
   refine Za.takeL 9 (v := ?vm9) rfl (by kernel_rfl) (by kernel_rfl) (by kernel_rfl) (by kernel_rfl) (fun _ _ _ h => h) (Or.inl ⟨by rfl, ?hym9⟩) HS ?restm9
   case hym9 => (intro w hSw; (try dsimp only at hSw); go_simp; try with_reducible rfl)
   (try simp only [Act.put, List.setIfInBounds_toArray, List.set_cons_zero, List.set_cons_succ])
   clear HS
   have hba := below_alloc (Below.refl wd.heap.size wd) (.cells #[.string ⟨#[]⟩, .int .i64 0, .int .i64 0, .int .i64 0, .int .i64 0, .int .i64 0, .slice none 0 0, .int .i64 0, .int .i64 0, .int .i64 0, .int .i64 0, .int .i64 0] 52)
   have bX := blk_new wd (.cells #[.string ⟨#[]⟩, .int .i64 0, .int .i64 0, .int .i64 0, .int .i64 0, .int .i64 0, .slice none 0 0, .int .i64 0, .int .i64 0, .int .i64 0, .int .i64 0, .int .i64 0] 52)
   have hS2 : (fun w' => w'.cell? ⟨w.heap.size, 0, none⟩ = some (.slice (some adr) x.f0.length d0) ∧ w'.cell? ⟨w.heap.size, 4, none⟩ = some (.slice (some ad) x.f4.length d4) ∧ w'.cell? (ad.add (k * 4)) = some (.int .i64 (i : Nat)) ∧ w'.cell? (adr.add (i * 12)) = some (.string r.f0) ∧ w'.cell? ⟨(adr.add (i * 12)).block, (adr.add (i * 12)).off + 1, none⟩ = some (.int .i64 r.f1) ∧ w'.cell? ⟨(adr.add (i * 12)).block, (adr.add (i * 12)).off + 2, none⟩ = some (.int .i64 r.f2) ∧ w'.cell? ⟨(adr.add (i * 12)).block, (adr.add (i * 12)).off + 3, none⟩ = some (.int .i64 r.f3.f0) ∧ w'.cell? ⟨(adr.add (i * 12)).block, (adr.add (i * 12)).off + 4, none⟩ = some (.int .i64 r.f3.f1) ∧ w'.cell? ⟨(adr.add (i * 12)).block, (adr.add (i * 12)).off + 5, none⟩ = some (.int .i64 r.f3.f2) ∧ w'.cell? ⟨(adr.add (i * 12)).block, (adr.add (i * 12)).off + 6, none⟩ = some (.slice A6 r.f3.f3.length c6) ∧ w'.cell? ⟨(adr.add (i * 12)).block, (adr.add (i * 12)).off + 7, none⟩ = some (.int .i64 r.f4) ∧ w'.cell? ⟨(adr.add (i * 12)).block, (adr.add (i * 12)).off + 8, none⟩ = some (.int .i64 r.f5) ∧ w'.cell? ⟨(adr.add (i * 12)).block, (adr.add (i * 12)).off + 9, none⟩ = some (.int .i64 (kk : Nat)) ∧ w'.cell? ⟨(adr.add (i * 12)).block, (adr.add (i * 12)).off + 10, none⟩ = some (.int .i64 r.f7) ∧ w'.cell? ⟨(adr.add (i * 12)).block, (adr.add (i * 12)).off + 11, none⟩ = some (.int .i64 r.f8)) (wd.alloc (.cells #[.string ⟨#[]⟩, .int .i64 0, .int .i64 0, .int .i64 0, .int .i64 0, .int .i64 0, .slice none 0 0, .int .i64 0, .int .i64 0, .int .i64 0, .int .i64 0, .int .i64 0] 52)) := ⟨pw_cell_below hba k0, pw_cell_below hba k4, pw_cell_below hba y0, pw_cell_below hba u0, pw_cell_below hba u1, pw_cell_below hba u2, pw_cell_below hba u3, pw_cell_below hba u4, pw_cell_below hba u5, pw_cell_below hba u6, pw_cell_below hba u7, pw_cell_below hba u8, pw_cell_below hba u9, pw_cell_below hba u10, pw_cell_below hba u11⟩
   refine Za.nextL 10 (by kernel_rfl) rfl (fun K' hK => ?_)
   go_simp
   refine hK.out _ _ ⟨fun _ => hS2, ?_⟩
   clear hK K' hS2
   (try simp only [Act.put, List.setIfInBounds_toArray, List.set_cons_zero, List.set_cons_succ])
   replace k0 := pw_cell_below hba k0
   replace k4 := pw_cell_below hba k4
   replace y0 := pw_cell_below hba y0
   replace u0 := pw_cell_below hba u0
   replace u1 := pw_cell_below hba u1
   replace u2 := pw_cell_below hba u2
   replace u3 := pw_cell_below hba u3
   replace u4 := pw_cell_below hba u4
   replace u5 := pw_cell_below hba u5
   replace u6 := pw_cell_below hba u6
   replace u7 := pw_cell_below hba u7
   replace u8 := pw_cell_below hba u8
   replace u9 := pw_cell_below hba u9
   replace u10 := pw_cell_below hba u10
   replace u11 := pw_cell_below hba u11
   have HBA := Aside0.mk (below_then HBD.out HBD.out.size hba)
   have HRA := Aside0.mk (Kd.R_below HRD.out hba)
   have hNe : ∀ q, q < wd.heap.size → q ≠ wd.heap.size := fun q h => by omega
   obtain ⟨NB, hNB⟩ : ∃ NB, NB = wd.heap.size := ⟨_, rfl⟩
   have hNL : W.heap.size ≤ NB := by rw [hNB]; exact HBD.out.size
   have hgN : g < NB := by rw [hNB]; exact Kd.R_lt HRD.out g rfl
   rw [← hNB] at bX ⊢
   generalize wd.alloc (.cells #[.string ⟨#[]⟩, .int .i64 0, .int .i64 0, .int .i64 0, .int .i64 0, .int .i64 0, .slice none 0 0, .int .i64 0, .int .i64 0, .int .i64 0, .int .i64 0, .int .i64 0] 52) = Wa at hba bX HBA HRA k0 k4 y0 u0 u1 u2 u3 u4 u5 u6 u7 u8 u9 u10 u11 ⊢
   clear HBD HRD hNe hNB hba
   have r0_ := (blk_cell bX 0).trans rfl
   have f0_ := blk_frozen bX 0
   have r1_ := (blk_cell bX 1).trans rfl
   have f1_ := blk_frozen bX 1
   have r2_ := (blk_cell bX 2).trans rfl
   have f2_ := blk_frozen bX 2
   have r3_ := (blk_cell bX 3).trans rfl
   have f3_ := blk_frozen bX 3
   have r4_ := (blk_cell bX 4).trans rfl
   have f4_ := blk_frozen bX 4
   have r5_ := (blk_cell bX 5).trans rfl
   have f5_ := blk_frozen bX 5
   have r6_ := (blk_cell bX 6).trans rfl
   have f6_ := blk_frozen bX 6
   have r7_ := (blk_cell bX 7).trans rfl
   have f7_ := blk_frozen bX 7
   have r8_ := (blk_cell bX 8).trans rfl
   have f8_ := blk_frozen bX 8
   have r9_ := (blk_cell bX 9).trans rfl
   have f9_ := blk_frozen bX 9
   have r10_ := (blk_cell bX 10).trans rfl
   have f10_ := blk_frozen bX 10
   have r11_ := (blk_cell bX 11).trans rfl
   have f11_ := blk_frozen bX 11
   have hfr : Fr (fun q => q = NB) Wa ((((((((((((Wa.setCell ⟨NB, 0, none⟩ (.string r.f0)).setCell ⟨NB, 1, none⟩ (.int .i64 r.f1)).setCell ⟨NB, 2, none⟩ (.int .i64 r.f2)).setCell ⟨NB, 3, none⟩ (.int .i64 r.f3.f0)).setCell ⟨NB, 4, none⟩ (.int .i64 r.f3.f1)).setCell ⟨NB, 5, none⟩ (.int .i64 r.f3.f2)).setCell ⟨NB, 6, none⟩ (.slice A6 r.f3.f3.length c6)).setCell ⟨NB, 7, none⟩ (.int .i64 r.f4)).setCell ⟨NB, 8, none⟩ (.int .i64 r.f5)).setCell ⟨NB, 9, none⟩ (.int .i64 (kk : Nat))).setCell ⟨NB, 10, none⟩ (.int .i64 r.f7)).setCell ⟨NB, 11, none⟩ (.int .i64 r.f8)) := (Fr.set (Fr.set (Fr.set (Fr.set (Fr.set (Fr.set (Fr.set (Fr.set (Fr.set (Fr.set (Fr.set (Fr.set (Fr.refl _ _) (fun _ => rfl)) (fun _ => rfl)) (fun _ => rfl)) (fun _ => rfl)) (fun _ => rfl)) (fun _ => rfl)) (fun _ => rfl)) (fun _ => rfl)) (fun _ => rfl)) (fun _ => rfl)) (fun _ => rfl)) (fun _ => rfl))
   have b12 : ((((((((((((Wa.setCell ⟨NB, 0, none⟩ (.string r.f0)).setCell ⟨NB, 1, none⟩ (.int .i64 r.f1)).setCell ⟨NB, 2, none⟩ (.int .i64 r.f2)).setCell ⟨NB, 3, none⟩ (.int .i64 r.f3.f0)).setCell ⟨NB, 4, none⟩ (.int .i64 r.f3.f1)).setCell ⟨NB, 5, none⟩ (.int .i64 r.f3.f2)).setCell ⟨NB, 6, none⟩ (.slice A6 r.f3.f3.length c6)).setCell ⟨NB, 7, none⟩ (.int .i64 r.f4)).setCell ⟨NB, 8, none⟩ (.int .i64 r.f5)).setCell ⟨NB, 9, none⟩ (.int .i64 (kk : Nat))).setCell ⟨NB, 10, none⟩ (.int .i64 r.f7)).setCell ⟨NB, 11, none⟩ (.int .i64 r.f8)).heap[NB]? = some (.cells #[.string r.f0, .int .i64 r.f1, .int .i64 r.f2, .int .i64 r.f3.f0, .int .i64 r.f3.f1, .int .i64 r.f3.f2, .slice A6 r.f3.f3.length c6, .int .i64 r.f4, .int .i64 r.f5, .int .i64 (kk : Nat), .int .i64 r.f7, .int .i64 r.f8] 52 (0, 0)) := (blk_put (cs := #[.string r.f0, .int .i64 r.f1, .int .i64 r.f2, .int .i64 r.f3.f0, .int .i64 r.f3.f1, .int .i64 r.f3.f2, .slice A6 r.f3.f3.length c6, .int .i64 r.f4, .int .i64 r.f5, .int .i64 (kk : Nat), .int .i64 r.f7, .int .i64 0]) (blk_put (cs := #[.string r.f0, .int .i64 r.f1, .int .i64 r.f2, .int .i64 r.f3.f0, .int .i64 r.f3.f1, .int .i64 r.f3.f2, .slice A6 r.f3.f3.length c6, .int .i64 r.f4, .int .i64 r.f5, .int .i64 (kk : Nat), .int .i64 0, .int .i64 0]) (blk_put (cs := #[.string r.f0, .int .i64 r.f1, .int .i64 r.f2, .int .i64 r.f3.f0, .int .i64 r.f3.f1, .int .i64 r.f3.f2, .slice A6 r.f3.f3.length c6, .int .i64 r.f4, .int .i64 r.f5, .int .i64 0, .int .i64 0, .int .i64 0]) (blk_put (cs := #[.string r.f0, .int .i64 r.f1, .int .i64 r.f2, .int .i64 r.f3.f0, .int .i64 r.f3.f1, .int .i64 r.f3.f2, .slice A6 r.f3.f3.length c6, .int .i64 r.f4, .int .i64 0, .int .i64 0, .int .i64 0, .int .i64 0]) (blk_put (cs := #[.string r.f0, .int .i64 r.f1, .int .i64 r.f2, .int .i64 r.f3.f0, .int .i64 r.f3.f1, .int .i64 r.f3.f2, .slice A6 r.f3.f3.length c6, .int .i64 0, .int .i64 0, .int .i64 0, .int .i64 0, .int .i64 0]) (blk_put (cs := #[.string r.f0, .int .i64 r.f1, .int .i64 r.f2, .int .i64 r.f3.f0, .int .i64 r.f3.f1, .int .i64 r.f3.f2, .slice none 0 0, .int .i64 0, .int .i64 0, .int .i64 0, .int .i64 0, .int .i64 0]) (blk_put (cs := #[.string r.f0, .int .i64 r.f1, .int .i64 r.f2, .int .i64 r.f3.f0, .int .i64 r.f3.f1, .int .i64 0, .slice none 0 0, .int .i64 0, .int .i64 0, .int .i64 0, .int .i64 0, .int .i64 0]) (blk_put (cs := #[.string r.f0, .int .i64 r.f1, .int .i64 r.f2, .int .i64 r.f3.f0, .int .i64 0, .int .i64 0, .slice none 0 0, .int .i64 0, .int .i64 0, .int .i64 0, .int .i64 0, .int .i64 0]) (blk_put (cs := #[.string r.f0, .int .i64 r.f1, .int .i64 r.f2, .int .i64 0, .int .i64 0, .int .i64 0, .slice none 0 0, .int .i64 0, .int .i64 0, .int .i64 0, .int .i64 0, .int .i64 0]) (blk_put (cs := #[.string r.f0, .int .i64 r.f1, .int .i64 0, .int .i64 0, .int .i64 0, .int .i64 0, .slice none 0 0, .int .i64 0, .int .i64 0, .int .i64 0, .int .i64 0, .int .i64 0]) (blk_put (cs := #[.string r.f0, .int .i64 0, .int .i64 0, .int .i64 0, .int .i64 0, .int .i64 0, .slice none 0 0, .int .i64 0, .int .i64 0, .int .i64 0, .int .i64 0, .int .i64 0]) (blk_put (cs := #[.string ⟨#[]⟩, .int .i64 0, .int .i64 0, .int .i64 0, .int .i64 0, .int .i64 0, .slice none 0 0, .int .i64 0, .int .i64 0, .int .i64 0, .int .i64 0, .int .i64 0]) bX 0 _ rfl) 1 _ rfl) 2 _ rfl) 3 _ rfl) 4 _ rfl) 5 _ rfl) 6 _ rfl) 7 _ rfl) 8 _ rfl) 9 _ rfl) 10 _ rfl) 11 _ rfl)
   have HBC := Aside0.mk (below_trans9_ HBA.out (hfr.below HBA.out.size (fun q hq => by omega)))
   have HRC : Aside0 ((Kd.int .i64).R 3 (((((((((((((Wa.setCell ⟨NB, 0, none⟩ (.string r.f0)).setCell ⟨NB, 1, none⟩ (.int .i64 r.f1)).setCell ⟨NB, 2, none⟩ (.int .i64 r.f2)).setCell ⟨NB, 3, none⟩ (.int .i64 r.f3.f0)).setCell ⟨NB, 4, none⟩ (.int .i64 r.f3.f1)).setCell ⟨NB, 5, none⟩ (.int .i64 r.f3.f2)).setCell ⟨NB, 6, none⟩ (.slice A6 r.f3.f3.length c6)).setCell ⟨NB, 7, none⟩ (.int .i64 r.f4)).setCell ⟨NB, 8, none⟩ (.int .i64 r.f5)).setCell ⟨NB, 9, none⟩ (.int .i64 (kk : Nat))).setCell ⟨NB, 10, none⟩ (.int .i64 r.f7)).setCell ⟨NB, 11, none⟩ (.int .i64 r.f8))) W.heap.size (fun _ => True) (.slice (some ⟨g, 0, none⟩) 4 c3) (sumTo x k)) := ⟨Kd.R_mono (Kd.R_step (Kd.R_tight rfl HRA.out) (fun q hq hq2 => hfr.block q hq2 (by intro h; subst h; simp [Value.ownBlock] at hq; omega))) (fun _ _ => trivial)⟩
   clear k0 k4 y0 u0 u1 u2 u3 u4 u5 u6 u7 u8 u9 u10 u11
   refine Za.nextL 11 (by kernel_rfl) rfl (fun K' hK => ?_)
   go_simp
   refine hK.out _ _ ⟨fun h => absurd (by simp) h, ?_⟩
   clear hK K'
   (try simp only [Act.put, List.setIfInBounds_toArray, List.set_cons_zero, List.set_cons_succ])
   refine Za.Walk.done (by kernel_rfl) ?_
   clear r0_ f0_ r1_ f1_ r2_ f2_ r3_ f3_ r4_ f4_ r5_ f5_ r6_ f6_ r7_ f7_ r8_ f8_ r9_ f9_ r10_ f10_ r11_ f11_ hfr bX hgN HBA HRA
   generalize ((((((((((((Wa.setCell ⟨NB, 0, none⟩ (.string r.f0)).setCell ⟨NB, 1, none⟩ (.int .i64 r.f1)).setCell ⟨NB, 2, none⟩ (.int .i64 r.f2)).setCell ⟨NB, 3, none⟩ (.int .i64 r.f3.f0)).setCell ⟨NB, 4, none⟩ (.int .i64 r.f3.f1)).setCell ⟨NB, 5, none⟩ (.int .i64 r.f3.f2)).setCell ⟨NB, 6, none⟩ (.slice A6 r.f3.f3.length c6)).setCell ⟨NB, 7, none⟩ (.int .i64 r.f4)).setCell ⟨NB, 8, none⟩ (.int .i64 r.f5)).setCell ⟨NB, 9, none⟩ (.int .i64 (kk : Nat))).setCell ⟨NB, 10, none⟩ (.int .i64 r.f7)).setCell ⟨NB, 11, none⟩ (.int .i64 r.f8)) = Wc at b12 HBC HRC ⊢
   go_upto_region 8 with fail
   have HDD : Below Wc.heap.size Wc Wc.drew := below_drew (Below.refl _ _)
   refine Za.regionL (fun w' => w'.cell? ⟨NB, 9, none⟩ = some (.int .i64 (kk : Nat)) ∧ w'.cell? ⟨NB, 10, none⟩ = some (.int .i64 r.f7) ∧ w'.cell? ⟨g, kk, none⟩ = some (.int .i64 a)) [12] (by kernel_rfl) ?_
   have HBD := Aside0.mk (below_then HBC.out HBC.out.size HDD)
   have HRD := Aside0.mk (Kd.R_below HRC.out HDD)
   have bD := blk_below b12 HDD
   clear HDD HBC HRC b12 hNL
   generalize Wc.drew = wd at HBD HRD bD ⊢
   obtain ⟨z0, z1⟩ := Kd.R_celln (0 : Int) HRD.out (kk : Int) (by omega) (by omega)
   rw [Int.toNat_natCast] at z0 z1
   have hz : rdOf (0 : Int) (sumTo x k) (kk : Int) = a := by unfold rdOf; rw [Int.toNat_natCast]; exact HAV.out
   rw [hz] at z0
   clear hz
   have HS : (fun w' => w'.cell? ⟨NB, 9, none⟩ = some (.int .i64 (kk : Nat)) ∧ w'.cell? ⟨NB, 10, none⟩ = some (.int .i64 r.f7) ∧ w'.cell? ⟨g, kk, none⟩ = some (.int .i64 a)) wd := ⟨(blk_cell bD 9).trans rfl, (blk_cell bD 10).trans rfl, z0⟩
   clear bD
   refine Za.takeL 0 (v := ?vn0) rfl (by kernel_rfl) (by kernel_rfl) (by kernel_rfl) (by kernel_rfl) (fun _ _ _ h => h) (Or.inl ⟨by rfl, ?hyn0⟩) HS ?restn0
   case hyn0 => (intro w hSw; (try dsimp only at hSw); go_simp; try with_reducible rfl)
   (try simp only [Act.put, List.setIfInBounds_toArray, List.set_cons_zero, List.set_cons_succ])
   refine Za.takeL 1 (v := ?vn1) rfl (by kernel_rfl) (by kernel_rfl) (by kernel_rfl) (by kernel_rfl) (fun _ _ _ h => h) (Or.inl ⟨by rfl, ?hyn1⟩) HS ?restn1
   case hyn1 => (intro w hSw; (try dsimp only at hSw); go_simp; try with_reducible rfl)
   (try simp only [Act.put, List.setIfInBounds_toArray, List.set_cons_zero, List.set_cons_succ])
   refine Za.takeL 2 (v := ?vn2) rfl (by kernel_rfl) (by kernel_rfl) (by kernel_rfl) (by kernel_rfl) (fun _ _ _ h => h) (Or.inl ⟨by rfl, ?hyn2⟩) HS ?restn2
   case hyn2 => (intro w hSw; (try dsimp only at hSw); go_simp; try with_reducible rfl)
   (try simp only [Act.put, List.setIfInBounds_toArray, List.set_cons_zero, List.set_cons_succ])
   refine Za.takeL 3 (v := ?vn3) rfl (by kernel_rfl) (by kernel_rfl) (by kernel_rfl) (by kernel_rfl) (fun _ _ _ h => h) (Or.inl ⟨by rfl, ?hyn3⟩) HS ?restn3
   case hyn3 => (intro w hSw; (try dsimp only at hSw); go_simp; try with_reducible rfl)
   (try simp only [Act.put, List.setIfInBounds_toArray, List.set_cons_zero, List.set_cons_succ])
   refine Za.takeL 4 (v := ?vn4) rfl (by kernel_rfl) (by kernel_rfl) (by kernel_rfl) (by kernel_rfl) (fun _ _ _ h => h) (Or.inl ⟨by rfl, ?hyn4⟩) HS ?restn4
   case hyn4 => (intro w hSw; (try dsimp only at hSw); go_simp; try with_reducible rfl)
   (try simp only [Act.put, List.setIfInBounds_toArray, List.set_cons_zero, List.set_cons_succ])
   refine Za.takeL 5 (v := ?vn5) rfl (by kernel_rfl) (by kernel_rfl) (by kernel_rfl) (by kernel_rfl) (fun _ _ _ h => h) (Or.inl ⟨by rfl, ?hyn5⟩) HS ?restn5
   case hyn5 => (intro w hSw; (try dsimp only at hSw); go_simp; try with_reducible rfl)
   (try simp only [Act.put, List.setIfInBounds_toArray, List.set_cons_zero, List.set_cons_succ])
   refine Za.takeL 6 (v := ?vn6) rfl (by kernel_rfl) (by kernel_rfl) (by kernel_rfl) (by kernel_rfl) (fun _ _ _ h => h) (Or.inl ⟨by rfl, ?hyn6⟩) HS ?restn6
   case hyn6 => (intro w hSw; (try dsimp only at hSw); go_simp; try with_reducible rfl)
   (try simp only [Act.put, List.setIfInBounds_toArray, List.set_cons_zero, List.set_cons_succ])
   refine Za.takeL 7 (v := ?vn7) rfl (by kernel_rfl) (by kernel_rfl) (by kernel_rfl) (by kernel_rfl) (fun _ _ _ h => h) (Or.inl ⟨by rfl, ?hyn7⟩) HS ?restn7
   case hyn7 => (intro w hSw; (try dsimp only at hSw); go_simp; try with_reducible rfl)
   (try simp only [Act.put, List.setIfInBounds_toArray, List.set_cons_zero, List.set_cons_succ])
   refine Za.takeL 8 (v := ?vn8) rfl (by kernel_rfl) (by kernel_rfl) (by kernel_rfl) (by kernel_rfl) (fun _ _ _ h => h) (Or.inl ⟨by rfl, ?hyn8⟩) HS ?restn8
   case hyn8 => (intro w hSw; (try dsimp only at hSw); go_simp; try with_reducible rfl)
   (try simp only [Act.put, List.setIfInBounds_toArray, List.set_cons_zero, List.set_cons_succ])
   refine Za.takeL 9 (v := ?vn9) rfl (by kernel_rfl) (by kernel_rfl) (by kernel_rfl) (by kernel_rfl) (fun _ _ _ h => h) (Or.inl ⟨by rfl, ?hyn9⟩) HS ?restn9
   case hyn9 => (intro w hSw; (try dsimp only at hSw); go_simp; try with_reducible rfl)
   (try simp only [Act.put, List.setIfInBounds_toArray, List.set_cons_zero, List.set_cons_succ])
   refine Za.takeL 10 (v := ?vn10) rfl (by kernel_rfl) (by kernel_rfl) (by kernel_rfl) (by kernel_rfl) (fun _ _ _ h => h) (Or.inl ⟨by rfl, ?hyn10⟩) HS ?restn10
   case hyn10 => (intro w hSw; (try dsimp only at hSw); go_simp; try with_reducible rfl)
   (try simp only [Act.put, List.setIfInBounds_toArray, List.set_cons_zero, List.set_cons_succ])
   refine Za.takeL 11 (v := ?vn11) rfl (by kernel_rfl) (by kernel_rfl) (by kernel_rfl) (by kernel_rfl) (fun _ _ _ h => h) (Or.inl ⟨by rfl, ?hyn11⟩) HS ?restn11
   case hyn11 => (intro w hSw; (try dsimp only at hSw); go_simp; try with_reducible rfl)
   (try simp only [Act.put, List.setIfInBounds_toArray, List.set_cons_zero, List.set_cons_succ])
   clear HS z1
   obtain ⟨y, z1⟩ := Kd.R_celln (0 : Int) HRD.out (kk : Int) (by omega) (by omega)
   clear y
   rw [Int.toNat_natCast] at z1
   have hpp := Kd.R_putg HRD.out (kk : Int) (a + r.f7)
   rw [Int.toNat_natCast] at hpp
   have HPP : Aside0 ((Kd.int .i64).R 3 (wd.setCell ⟨g, kk, none⟩ (.int .i64 (a + r.f7))) W.heap.size (fun _ => True) (.slice (some ⟨g, 0, none⟩) 4 c3) (sumTo x (k + 1))) := ⟨by rw [HST.out, HAV.out]; exact hpp.1⟩
   have HBS := Aside0.mk (HBD.out.setCell (p := ⟨g, kk, none⟩) HGB.out (.int .i64 (a + r.f7)))
   clear hpp
   refine Za.nextL 12 (by kernel_rfl) rfl (fun K' hK => ?_)
   go_simp
   refine hK.out _ _ ⟨fun h => absurd (by simp) h, ?_⟩
   clear hK K'
   (try simp only [Act.put, List.setIfInBounds_toArray, List.set_cons_zero, List.set_cons_succ])
   refine Za.Walk.done (by kernel_rfl) ?_
   clear z0 z1
   go_wp2
   go_roundw
   case rel => exact ⟨k + 1, by omega, by go_num, HPP, HBS⟩
   case measure => simp [intOf]; omega
  ·have hke : k = x.f4.length := by omega
   subst hke
   have g1 : decide (x.f4.length < x.f4.length) = false := decide_eq_false (by omega)
   go_wp2
   go_ret
   rw [HE.out]
   exact ⟨_, rfl, S_ints (Kd.R_lower HR.out HX.out.size), below_then HX.out HX.out.size HB.out⟩
end Go.Proofs.YtckblabkapeigaaGreat.Pf9

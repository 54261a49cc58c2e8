
/- Copies of rules: both sides. -/
import Derived.Test.YtckblabkapeigaaKd2
import Derived.Test.YtckblabkapeigaaJi
import Derived.Test.YtckblabkapeigaaJk
set_option linter.unusedVariables false
set_option linter.unusedSimpArgs false
namespace Go.Proofs.Ytckblabkapeigaa.Ed8
open Go.RowKit Go.Proofs.YtckblabkapeigaaW.PrintWords Go.Proofs.Ytckblabkapeigaa.Ja Go.Proofs.Ytckblabkapeigaa.Jb Go.Proofs.Ytckblabkapeigaa.Jc Go.Proofs.Ytckblabkapeigaa.Jd Go.Proofs.Ytckblabkapeigaa.Jg Go.Proofs.Ytckblabkapeigaa.Jh Go.Proofs.Ytckblabkapeigaa.Ji Go.Proofs.Ytckblabkapeigaa.Jk Go.Proofs.Ytckblabkapeigaa.Ka Go.Proofs.Ytckblabkapeigaa.Kb Go.Proofs.Ytckblabkapeigaa.Kd2

set_option maxHeartbeats 4000000 in
set_option maxRecDepth 100000 in
theorem ruleClone_any (x : TRule) (A : Option Addr) (c : Nat) (w : World) (hx : cntL x.f3.f3 ≤ 1048576) (hL : IsEL 52 w x.f3.f3 A c) :
    Calls Try.prog 47 #[.agg #[.string x.f0, .int .i64 x.f1, .int .i64 x.f2, .int .i64 x.f3.f0, .int .i64 x.f3.f1, .int .i64 x.f3.f2, .slice A x.f3.f3.length c, .int .i64 x.f4, .int .i64 x.f5, .int .i64 x.f6, .int .i64 x.f7, .int .i64 x.f8]] w fun e w' => ToRule w w' x e := by
  obtain ⟨hb0, b0, b1⟩ := boxes2 w #[.string x.f0, .int .i64 x.f1, .int .i64 x.f2, .int .i64 x.f3.f0, .int .i64 x.f3.f1, .int .i64 x.f3.f2, .slice A x.f3.f3.length c, .int .i64 x.f4, .int .i64 x.f5, .int .i64 x.f6, .int .i64 x.f7, .int .i64 x.f8] #[.string ⟨#[]⟩, .int .i64 0, .int .i64 0, .int .i64 0, .int .i64 0, .int .i64 0, .slice none 0 0, .int .i64 0, .int .i64 0, .int .i64 0, .int .i64 0, .int .i64 0] 54 54
  have HL := Aside0.mk (hL.below hb0)
  have hsz : ((w.alloc (.cells #[.string x.f0, .int .i64 x.f1, .int .i64 x.f2, .int .i64 x.f3.f0, .int .i64 x.f3.f1, .int .i64 x.f3.f2, .slice A x.f3.f3.length c, .int .i64 x.f4, .int .i64 x.f5, .int .i64 x.f6, .int .i64 x.f7, .int .i64 x.f8] 54)).alloc (.cells #[.string ⟨#[]⟩, .int .i64 0, .int .i64 0, .int .i64 0, .int .i64 0, .int .i64 0, .slice none 0 0, .int .i64 0, .int .i64 0, .int .i64 0, .int .i64 0, .int .i64 0] 54)).heap.size = w.heap.size + 1 + 1 := by simp
  clear hL
  go_enter Try.func47, Try.ntmps47
  go_upto_region 1 with fail
  generalize (w.alloc (.cells #[.string x.f0, .int .i64 x.f1, .int .i64 x.f2, .int .i64 x.f3.f0, .int .i64 x.f3.f1, .int .i64 x.f3.f2, .slice A x.f3.f3.length c, .int .i64 x.f4, .int .i64 x.f5, .int .i64 x.f6, .int .i64 x.f7, .int .i64 x.f8] 54)).alloc (.cells #[.string ⟨#[]⟩, .int .i64 0, .int .i64 0, .int .i64 0, .int .i64 0, .int .i64 0, .slice none 0 0, .int .i64 0, .int .i64 0, .int .i64 0, .int .i64 0, .int .i64 0] 54) = W at hb0 b0 b1 HL hsz ⊢
  have HB0 := Aside0.mk hb0
  have BA := Aside0.mk b0
  have BR := Aside0.mk b1
  have HSZ := Aside0.mk hsz
  clear hb0 b0 b1 hsz
  have p3 := (blk_cell BA.out 3).trans rfl
  have p4 := (blk_cell BA.out 4).trans rfl
  have p5 := (blk_cell BA.out 5).trans rfl
  have p6 := (blk_cell BA.out 6).trans rfl
  go_upto_region 2 with (go_at_call 68; refine (clone_any x.f3 hx A c _ HL.out).mono ?_; rintro e w3 ⟨v3, rfl, hs3, hb3⟩; obtain ⟨P, r, rfl⟩ := Kd.S_slice hs3; have b3 := blk_below BA.out hb3; have BR3 := Aside0.mk (blk_below BR.out hb3); have HV := Aside0.mk (Kd.S_lower (Kd.S_mono (Kd.S_bound hs3) (ok' := fun k => w.heap.size + 1 < k) (fun k hk => by have h1 := hk.2.1; have h2 := HSZ.out; omega)) HB0.out.size); have HB3 := Aside0.mk (below_then HB0.out HB0.out.size hb3); have q3 := (blk_cell b3 3).trans rfl; have z3 := blk_frozen b3 3; have q4 := (blk_cell b3 4).trans rfl; have z4 := blk_frozen b3 4; have q5 := (blk_cell b3 5).trans rfl; have z5 := blk_frozen b3 5; have q6 := (blk_cell b3 6).trans rfl; have z6 := blk_frozen b3 6; clear hs3 hb3)
  clear p3 q3 z3 p4 q4 z4 p5 q5 z5 p6 q6 z6
  have BA4 : Aside0 (((((w3.setCell ⟨w.heap.size, 3, none⟩ (.int .i64 x.f3.f0)).setCell ⟨w.heap.size, 4, none⟩ (.int .i64 x.f3.f1)).setCell ⟨w.heap.size, 5, none⟩ (.int .i64 x.f3.f2)).setCell ⟨w.heap.size, 6, none⟩ (.slice P x.f3.f3.length r)).heap[w.heap.size]? = some (.cells #[.string x.f0, .int .i64 x.f1, .int .i64 x.f2, .int .i64 x.f3.f0, .int .i64 x.f3.f1, .int .i64 x.f3.f2, .slice P x.f3.f3.length r, .int .i64 x.f4, .int .i64 x.f5, .int .i64 x.f6, .int .i64 x.f7, .int .i64 x.f8] 54 (0, 0))) := ⟨(blk_put (cs := #[.string x.f0, .int .i64 x.f1, .int .i64 x.f2, .int .i64 x.f3.f0, .int .i64 x.f3.f1, .int .i64 x.f3.f2, .slice A x.f3.f3.length c, .int .i64 x.f4, .int .i64 x.f5, .int .i64 x.f6, .int .i64 x.f7, .int .i64 x.f8]) (blk_put (cs := #[.string x.f0, .int .i64 x.f1, .int .i64 x.f2, .int .i64 x.f3.f0, .int .i64 x.f3.f1, .int .i64 x.f3.f2, .slice A x.f3.f3.length c, .int .i64 x.f4, .int .i64 x.f5, .int .i64 x.f6, .int .i64 x.f7, .int .i64 x.f8]) (blk_put (cs := #[.string x.f0, .int .i64 x.f1, .int .i64 x.f2, .int .i64 x.f3.f0, .int .i64 x.f3.f1, .int .i64 x.f3.f2, .slice A x.f3.f3.length c, .int .i64 x.f4, .int .i64 x.f5, .int .i64 x.f6, .int .i64 x.f7, .int .i64 x.f8]) (blk_put (cs := #[.string x.f0, .int .i64 x.f1, .int .i64 x.f2, .int .i64 x.f3.f0, .int .i64 x.f3.f1, .int .i64 x.f3.f2, .slice A x.f3.f3.length c, .int .i64 x.f4, .int .i64 x.f5, .int .i64 x.f6, .int .i64 x.f7, .int .i64 x.f8]) b3 3 _ rfl) 4 _ rfl) 5 _ rfl) 6 _ rfl)⟩
  have BR4 := Aside0.mk (blk_far (blk_far (blk_far (blk_far BR3.out (p := ⟨w.heap.size, 3, none⟩) (by simp) (.int .i64 x.f3.f0)) (p := ⟨w.heap.size, 4, none⟩) (by simp) (.int .i64 x.f3.f1)) (p := ⟨w.heap.size, 5, none⟩) (by simp) (.int .i64 x.f3.f2)) (p := ⟨w.heap.size, 6, none⟩) (by simp) (.slice P x.f3.f3.length r))
  have HV4 := Aside0.mk (Kd.S_far (p := ⟨w.heap.size, 6, none⟩) (Kd.S_far (p := ⟨w.heap.size, 5, none⟩) (Kd.S_far (p := ⟨w.heap.size, 4, none⟩) (Kd.S_far (p := ⟨w.heap.size, 3, none⟩) HV.out (fun k hk => Nat.ne_of_gt (Nat.lt_trans (Nat.lt_succ_self _) hk)) (.int .i64 x.f3.f0)) (fun k hk => Nat.ne_of_gt (Nat.lt_trans (Nat.lt_succ_self _) hk)) (.int .i64 x.f3.f1)) (fun k hk => Nat.ne_of_gt (Nat.lt_trans (Nat.lt_succ_self _) hk)) (.int .i64 x.f3.f2)) (fun k hk => Nat.ne_of_gt (Nat.lt_trans (Nat.lt_succ_self _) hk)) (.slice P x.f3.f3.length r))
  have HB4 := Aside0.mk ((((HB3.out.setCell (p := ⟨w.heap.size, 3, none⟩) (by simp) (.int .i64 x.f3.f0)).setCell (p := ⟨w.heap.size, 4, none⟩) (by simp) (.int .i64 x.f3.f1)).setCell (p := ⟨w.heap.size, 5, none⟩) (by simp) (.int .i64 x.f3.f2)).setCell (p := ⟨w.heap.size, 6, none⟩) (by simp) (.slice P x.f3.f3.length r))
  clear b3
  generalize (((w3.setCell ⟨w.heap.size, 3, none⟩ (.int .i64 x.f3.f0)).setCell ⟨w.heap.size, 4, none⟩ (.int .i64 x.f3.f1)).setCell ⟨w.heap.size, 5, none⟩ (.int .i64 x.f3.f2)).setCell ⟨w.heap.size, 6, none⟩ (.slice P x.f3.f3.length r) = W4 at BA4 BR4 HV4 HB4 ⊢
  have r0_ := (blk_cell BA4.out 0).trans rfl
  have s0_ := (blk_cell BR4.out 0).trans rfl
  have t0_ := blk_frozen BR4.out 0
  have r1_ := (blk_cell BA4.out 1).trans rfl
  have s1_ := (blk_cell BR4.out 1).trans rfl
  have t1_ := blk_frozen BR4.out 1
  have r2_ := (blk_cell BA4.out 2).trans rfl
  have s2_ := (blk_cell BR4.out 2).trans rfl
  have t2_ := blk_frozen BR4.out 2
  have r3_ := (blk_cell BA4.out 3).trans rfl
  have s3_ := (blk_cell BR4.out 3).trans rfl
  have t3_ := blk_frozen BR4.out 3
  have r4_ := (blk_cell BA4.out 4).trans rfl
  have s4_ := (blk_cell BR4.out 4).trans rfl
  have t4_ := blk_frozen BR4.out 4
  have r5_ := (blk_cell BA4.out 5).trans rfl
  have s5_ := (blk_cell BR4.out 5).trans rfl
  have t5_ := blk_frozen BR4.out 5
  have r6_ := (blk_cell BA4.out 6).trans rfl
  have s6_ := (blk_cell BR4.out 6).trans rfl
  have t6_ := blk_frozen BR4.out 6
  have r7_ := (blk_cell BA4.out 7).trans rfl
  have s7_ := (blk_cell BR4.out 7).trans rfl
  have t7_ := blk_frozen BR4.out 7
  have r8_ := (blk_cell BA4.out 8).trans rfl
  have s8_ := (blk_cell BR4.out 8).trans rfl
  have t8_ := blk_frozen BR4.out 8
  have r9_ := (blk_cell BA4.out 9).trans rfl
  have s9_ := (blk_cell BR4.out 9).trans rfl
  have t9_ := blk_frozen BR4.out 9
  have r10_ := (blk_cell BA4.out 10).trans rfl
  have s10_ := (blk_cell BR4.out 10).trans rfl
  have t10_ := blk_frozen BR4.out 10
  have r11_ := (blk_cell BA4.out 11).trans rfl
  have s11_ := (blk_cell BR4.out 11).trans rfl
  have t11_ := blk_frozen BR4.out 11
  go_wp2
  refine bodyPost_ret (results_cell_row rfl _ _ (w.heap.size + 1) 54 #[.string x.f0, .int .i64 x.f1, .int .i64 x.f2, .int .i64 x.f3.f0, .int .i64 x.f3.f1, .int .i64 x.f3.f2, .slice P x.f3.f3.length r, .int .i64 x.f4, .int .i64 x.f5, .int .i64 x.f6, .int .i64 x.f7, .int .i64 x.f8] (0, 0) _ rfl (blk_put (cs := #[.string x.f0, .int .i64 x.f1, .int .i64 x.f2, .int .i64 x.f3.f0, .int .i64 x.f3.f1, .int .i64 x.f3.f2, .slice P x.f3.f3.length r, .int .i64 x.f4, .int .i64 x.f5, .int .i64 x.f6, .int .i64 x.f7, .int .i64 0]) (blk_put (cs := #[.string x.f0, .int .i64 x.f1, .int .i64 x.f2, .int .i64 x.f3.f0, .int .i64 x.f3.f1, .int .i64 x.f3.f2, .slice P x.f3.f3.length r, .int .i64 x.f4, .int .i64 x.f5, .int .i64 x.f6, .int .i64 0, .int .i64 0]) (blk_put (cs := #[.string x.f0, .int .i64 x.f1, .int .i64 x.f2, .int .i64 x.f3.f0, .int .i64 x.f3.f1, .int .i64 x.f3.f2, .slice P x.f3.f3.length r, .int .i64 x.f4, .int .i64 x.f5, .int .i64 0, .int .i64 0, .int .i64 0]) (blk_put (cs := #[.string x.f0, .int .i64 x.f1, .int .i64 x.f2, .int .i64 x.f3.f0, .int .i64 x.f3.f1, .int .i64 x.f3.f2, .slice P x.f3.f3.length r, .int .i64 x.f4, .int .i64 0, .int .i64 0, .int .i64 0, .int .i64 0]) (blk_put (cs := #[.string x.f0, .int .i64 x.f1, .int .i64 x.f2, .int .i64 x.f3.f0, .int .i64 x.f3.f1, .int .i64 x.f3.f2, .slice P x.f3.f3.length r, .int .i64 0, .int .i64 0, .int .i64 0, .int .i64 0, .int .i64 0]) (blk_put (cs := #[.string x.f0, .int .i64 x.f1, .int .i64 x.f2, .int .i64 x.f3.f0, .int .i64 x.f3.f1, .int .i64 x.f3.f2, .slice none 0 0, .int .i64 0, .int .i64 0, .int .i64 0, .int .i64 0, .int .i64 0]) (blk_put (cs := #[.string x.f0, .int .i64 x.f1, .int .i64 x.f2, .int .i64 x.f3.f0, .int .i64 x.f3.f1, .int .i64 0, .slice none 0 0, .int .i64 0, .int .i64 0, .int .i64 0, .int .i64 0, .int .i64 0]) (blk_put (cs := #[.string x.f0, .int .i64 x.f1, .int .i64 x.f2, .int .i64 x.f3.f0, .int .i64 0, .int .i64 0, .slice none 0 0, .int .i64 0, .int .i64 0, .int .i64 0, .int .i64 0, .int .i64 0]) (blk_put (cs := #[.string x.f0, .int .i64 x.f1, .int .i64 x.f2, .int .i64 0, .int .i64 0, .int .i64 0, .slice none 0 0, .int .i64 0, .int .i64 0, .int .i64 0, .int .i64 0, .int .i64 0]) (blk_put (cs := #[.string x.f0, .int .i64 x.f1, .int .i64 0, .int .i64 0, .int .i64 0, .int .i64 0, .slice none 0 0, .int .i64 0, .int .i64 0, .int .i64 0, .int .i64 0, .int .i64 0]) (blk_put (cs := #[.string x.f0, .int .i64 0, .int .i64 0, .int .i64 0, .int .i64 0, .int .i64 0, .slice none 0 0, .int .i64 0, .int .i64 0, .int .i64 0, .int .i64 0, .int .i64 0]) (blk_put (cs := #[.string ⟨#[]⟩, .int .i64 0, .int .i64 0, .int .i64 0, .int .i64 0, .int .i64 0, .slice none 0 0, .int .i64 0, .int .i64 0, .int .i64 0, .int .i64 0, .int .i64 0]) BR4.out 0 _ rfl) 1 _ rfl) 2 _ rfl) 3 _ rfl) 4 _ rfl) 5 _ rfl) 6 _ rfl) 7 _ rfl) 8 _ rfl) 9 _ rfl) 10 _ rfl) 11 _ rfl) Try.underlying54 rfl (by kernel_rfl)) rfl ?_
  exact ⟨_, rfl, Kd.S_mono (Kd.S_far (p := ⟨(w.heap.size + 1), 11, none⟩) (Kd.S_far (p := ⟨(w.heap.size + 1), 10, none⟩) (Kd.S_far (p := ⟨(w.heap.size + 1), 9, none⟩) (Kd.S_far (p := ⟨(w.heap.size + 1), 8, none⟩) (Kd.S_far (p := ⟨(w.heap.size + 1), 7, none⟩) (Kd.S_far (p := ⟨(w.heap.size + 1), 6, none⟩) (Kd.S_far (p := ⟨(w.heap.size + 1), 5, none⟩) (Kd.S_far (p := ⟨(w.heap.size + 1), 4, none⟩) (Kd.S_far (p := ⟨(w.heap.size + 1), 3, none⟩) (Kd.S_far (p := ⟨(w.heap.size + 1), 2, none⟩) (Kd.S_far (p := ⟨(w.heap.size + 1), 1, none⟩) (Kd.S_far (p := ⟨(w.heap.size + 1), 0, none⟩) HV4.out (fun k hk => Nat.ne_of_gt hk) _) (fun k hk => Nat.ne_of_gt hk) _) (fun k hk => Nat.ne_of_gt hk) _) (fun k hk => Nat.ne_of_gt hk) _) (fun k hk => Nat.ne_of_gt hk) _) (fun k hk => Nat.ne_of_gt hk) _) (fun k hk => Nat.ne_of_gt hk) _) (fun k hk => Nat.ne_of_gt hk) _) (fun k hk => Nat.ne_of_gt hk) _) (fun k hk => Nat.ne_of_gt hk) _) (fun k hk => Nat.ne_of_gt hk) _) (fun k hk => Nat.ne_of_gt hk) _) (fun _ _ => trivial), ((((((((((((HB4.out.setCell (p := ⟨(w.heap.size + 1), 0, none⟩) (by simp) _).setCell (p := ⟨(w.heap.size + 1), 1, none⟩) (by simp) _).setCell (p := ⟨(w.heap.size + 1), 2, none⟩) (by simp) _).setCell (p := ⟨(w.heap.size + 1), 3, none⟩) (by simp) _).setCell (p := ⟨(w.heap.size + 1), 4, none⟩) (by simp) _).setCell (p := ⟨(w.heap.size + 1), 5, none⟩) (by simp) _).setCell (p := ⟨(w.heap.size + 1), 6, none⟩) (by simp) _).setCell (p := ⟨(w.heap.size + 1), 7, none⟩) (by simp) _).setCell (p := ⟨(w.heap.size + 1), 8, none⟩) (by simp) _).setCell (p := ⟨(w.heap.size + 1), 9, none⟩) (by simp) _).setCell (p := ⟨(w.heap.size + 1), 10, none⟩) (by simp) _).setCell (p := ⟨(w.heap.size + 1), 11, none⟩) (by simp) _)⟩
set_option maxHeartbeats 4000000 in
set_option maxRecDepth 100000 in
theorem cloneRules_any (A : Option Addr) (c : Nat) (l : List TRule) (w : World) (hl : l.length ≤ 1048576) (hc : ∀ x ∈ l, cntL x.f3.f3 ≤ 1048576) (hL : IsS kRule w l A c) :
    Calls Try.prog 19 #[.slice A l.length c] w fun e w' => ToL kRule 54 w w' l e := by
  have HL := Aside0.mk hL
  have HC := Aside0.mk hc
  clear hL hc
  go_enter Try.func19, Try.ntmps19
  go_wp2
  go_loopw [3, 8] (fun vl' vi wr => ∃ (k : Nat) (vl : Value), k ≤ l.length ∧ vi = .int .i64 k ∧ vl = vl' ∧ Aside0 (Kd.S kRule 54 wr w.heap.size (fun _ => True) vl (l.take k)) ∧ Aside0 (Below w.heap.size w wr)) (fun _ vi _ => l.length - (intOf vi).toNat)
  case atStart => exact ⟨0, _, by omega, rfl, rfl, ⟨by simpa using Kd.S_nil kRule 54 w w.heap.size (fun _ => True)⟩, ⟨Below.refl _ _⟩⟩
  case round =>
    obtain ⟨k, vl, hk, rfl, rfl, HS, HB⟩ := hrel
    by_cases hlt : k < l.length
    · obtain ⟨ad, A2, c3, rfl, y0, y1, y2, y3, y4, y5, y6, y7, y8, y9, y10, y11, hIs⟩ := atRule (HL.out.below HB.out) k hlt
      have hT := take_succ_getD l k zRule hlt
      have hmem : l.getD k zRule ∈ l := by rw [List.getD_eq_getElem?_getD, List.getElem?_eq_getElem hlt]; exact List.getElem_mem hlt
      have HQ := Aside0.mk (HC.out _ hmem)
      have htl : (l.take k).length = k := by rw [List.length_take]; omega
      generalize l.getD k zRule = o at y0 y1 y2 y3 y4 y5 y6 y7 y8 y9 y10 y11 hIs hT HQ
      have HIS := Aside0.mk hIs
      have HT := Aside0.mk hT
      have HBX := Aside0.mk (below_alloc (Below.refl wr.heap.size wr) (.cells #[.string o.f0, .int .i64 o.f1, .int .i64 o.f2, .int .i64 o.f3.f0, .int .i64 o.f3.f1, .int .i64 o.f3.f2, .slice A2 o.f3.f3.length c3, .int .i64 o.f4, .int .i64 o.f5, .int .i64 o.f6, .int .i64 o.f7, .int .i64 o.f8] 54))
      have i1 : (k : Int) < l.length := by omega
      have g1 : decide (k < l.length) = true := decide_eq_true hlt
      clear hT hIs hmem
      have hown : ∀ j, vl.ownBlock = some j → j < wr.heap.size := Kd.S_lt HS.out
      go_wp2_with (first
        | (go_at_call 47; refine (ruleClone_any o A2 c3 _ HQ.out (HIS.out.below HBX.out)).mono ?_; rintro e w2 ⟨v2, rfl, hr2, hb2⟩; obtain ⟨Q2, u2, rfl⟩ := Kd.S_slice hr2; have HR2 := Aside0.mk hr2; have HB2 := Aside0.mk (below_then HBX.out HBX.out.size hb2); clear hr2 hb2)
        | ((with_reducible refine gate_dst (N := 16) rfl ?_); refine Kd.S_append kRule (w0 := w) w.heap.size rfl _ _ 24 54 (.agg #[.string ⟨#[]⟩, .int .i64 0, .int .i64 0, .int .i64 0, .int .i64 0, .int .i64 0, .slice none 0 0, .int .i64 0, .int .i64 0, .int .i64 0, .int .i64 0, .int .i64 0]) 120 rfl Try.underlying24 infoRule rfl (by decide) (by decide) vl (l.take k) o [.string o.f0, .int .i64 o.f1, .int .i64 o.f2, .int .i64 o.f3.f0, .int .i64 o.f3.f1, .int .i64 o.f3.f2, .slice Q2 o.f3.f3.length u2, .int .i64 o.f4, .int .i64 o.f5, .int .i64 o.f6, .int .i64 o.f7, .int .i64 o.f8] (fun _ => True) (fun j => wr.heap.size ≤ j) rfl rfl (kRule_mkM _ _ _ o (Kd.S_lower (Kd.S_mono (Kd.S_bound HR2.out) (fun j hj => by have h1 := hj.2.1; simp at h1; omega)) (Nat.le_trans HB.out.size HBX.out.size))) (fun j hj => ⟨trivial, fun h => by have := hown j h.symm; omega⟩) (fun _ _ => trivial) (Kd.S_below (Kd.S_mono (Kd.S_bound HS.out) (fun j hj => ⟨trivial, by have := hj.2.2.1; omega⟩)) HB2.out) (below_then HB.out HB.out.size HB2.out) (Nat.le_trans HB.out.size HB2.out.size) (by rw [htl]; omega) ?_; intro v3 w3 hs3 hb3 _ _; have HS3 := Aside0.mk hs3; have HB3 := Aside0.mk hb3; clear hs3 hb3))
      go_roundw
      case rel => exact ⟨k + 1, _, by omega, by go_num, rfl, ⟨by rw [HT.out]; exact HS3.out⟩, HB3⟩
      case measure => simp [intOf]; omega
    · have hke : k = l.length := by omega
      subst hke
      have g1 : decide (l.length < l.length) = false := decide_eq_false (by omega)
      have hS := HS.out
      rw [List.take_length] at hS
      have HS2 := Aside0.mk hS
      clear hS
      go_wp2
      go_ret
      exact ⟨_, rfl, HS2.out, HB.out⟩
theorem S_empty8 {α : Type} {d : Kd α} {e : Nat} {w : World} {base g : Nat} {ok : Nat → Prop} (hg : w.heap[g]? = some (.cells #[] e (0, 0))) (hb : base ≤ g) (hok : ok g) : Kd.S d e w base ok (.slice (some ⟨g, 0, none⟩) 0 0) [] :=
  ⟨fun _ => 0, fun k hk => by simp [Value.ownBlock] at hk; rw [← hk]; exact hok, [], ⟨by simp, .inr ⟨g, 0, #[], rfl, hb, hg, Nat.le_refl _, by decide, by simp, by simp⟩⟩, Reps.none _ _⟩
set_option maxHeartbeats 4000000 in
set_option maxRecDepth 100000 in
theorem l8Copy_any (A : Option Addr) (c : Nat) (l : List TRule) (w : World) (hl : l.length ≤ 1048576) (hc : ∀ x ∈ l, cntL x.f3.f3 ≤ 1048576) (hL : IsS kRule w l A c) :
    Calls Try.prog 15 #[.slice A l.length c] w fun e w' => ToL kRule 54 w w' l e := by
  have HL := Aside0.mk hL
  have HC := Aside0.mk hc
  have HE0 := Aside0.mk (S_empty8 (d := kRule) (base := w.heap.size) (ok := fun _ => True) (blk_new w (.cells #[] 54)) (Nat.le_refl _) trivial)
  have HW0 := Aside0.mk (below_alloc (Below.refl w.heap.size w) (.cells #[] 54))
  clear hL hc
  go_enter Try.func15, Try.ntmps15
  go_upto_region 3 with fail
  go_loopw [3, 4] (fun vl' vi wr => ∃ (k : Nat) (vl : Value), k ≤ l.length ∧ vi = .int .i64 k ∧ vl = vl' ∧ Aside0 (Kd.S kRule 54 wr w.heap.size (fun _ => True) vl (l.take k)) ∧ Aside0 (Below w.heap.size w wr)) (fun _ vi _ => l.length - (intOf vi).toNat)
  case atStart => exact ⟨0, _, by omega, rfl, rfl, ⟨by simpa using HE0.out⟩, HW0⟩
  case round =>
    clear HE0 HW0
    obtain ⟨k, vl, hk, rfl, rfl, HS, HB⟩ := hrel
    by_cases hlt : k < l.length
    · obtain ⟨ad, A2, c3, rfl, y0, y1, y2, y3, y4, y5, y6, y7, y8, y9, y10, y11, hIs⟩ := atRule (HL.out.below HB.out) k hlt
      have hT := take_succ_getD l k zRule hlt
      have hmem : l.getD k zRule ∈ l := by rw [List.getD_eq_getElem?_getD, List.getElem?_eq_getElem hlt]; exact List.getElem_mem hlt
      have HQ := Aside0.mk (HC.out _ hmem)
      have htl : (l.take k).length = k := by rw [List.length_take]; omega
      generalize l.getD k zRule = o at y0 y1 y2 y3 y4 y5 y6 y7 y8 y9 y10 y11 hIs hT HQ
      have HIS := Aside0.mk hIs
      have HT := Aside0.mk hT
      have HTL := Aside0.mk htl
      have HBX := Aside0.mk (below_alloc (Below.refl wr.heap.size wr) (.cells #[.string o.f0, .int .i64 o.f1, .int .i64 o.f2, .int .i64 o.f3.f0, .int .i64 o.f3.f1, .int .i64 o.f3.f2, .slice A2 o.f3.f3.length c3, .int .i64 o.f4, .int .i64 o.f5, .int .i64 o.f6, .int .i64 o.f7, .int .i64 o.f8] 54))
      have BXN := Aside0.mk (blk_new wr (.cells #[.string o.f0, .int .i64 o.f1, .int .i64 o.f2, .int .i64 o.f3.f0, .int .i64 o.f3.f1, .int .i64 o.f3.f2, .slice A2 o.f3.f3.length c3, .int .i64 o.f4, .int .i64 o.f5, .int .i64 o.f6, .int .i64 o.f7, .int .i64 o.f8] 54))
      have HXS : Aside0 (wr.heap.size < (wr.alloc (.cells #[.string o.f0, .int .i64 o.f1, .int .i64 o.f2, .int .i64 o.f3.f0, .int .i64 o.f3.f1, .int .i64 o.f3.f2, .slice A2 o.f3.f3.length c3, .int .i64 o.f4, .int .i64 o.f5, .int .i64 o.f6, .int .i64 o.f7, .int .i64 o.f8] 54)).heap.size) := ⟨by simp⟩
      have i1 : (k : Int) < l.length := by omega
      have g1 : decide (k < l.length) = true := decide_eq_true hlt
      clear hT hIs hmem htl
      have hown : ∀ j, vl.ownBlock = some j → j < wr.heap.size := Kd.S_lt HS.out
      go_upto_region 6 with fail
      obtain ⟨W5, hW5⟩ : ∃ W5, W5 = wr.alloc (.cells #[.string o.f0, .int .i64 o.f1, .int .i64 o.f2, .int .i64 o.f3.f0, .int .i64 o.f3.f1, .int .i64 o.f3.f2, .slice A2 o.f3.f3.length c3, .int .i64 o.f4, .int .i64 o.f5, .int .i64 o.f6, .int .i64 o.f7, .int .i64 o.f8] 54) := ⟨_, rfl⟩
      rw [← hW5] at HBX BXN HXS ⊢
      clear hW5
      have p3 := (blk_cell BXN.out 3).trans rfl
      have p4 := (blk_cell BXN.out 4).trans rfl
      have p5 := (blk_cell BXN.out 5).trans rfl
      have p6 := (blk_cell BXN.out 6).trans rfl
      go_upto_region 7 with (go_at_call 39; refine (l2Copy_any o.f3 HQ.out A2 c3 _ (HIS.out.below HBX.out)).mono ?_; rintro e w3 ⟨v3, rfl, hs3, hb3⟩; obtain ⟨Q2, u2, rfl⟩ := Kd.S_slice hs3; have b3 := blk_below BXN.out hb3; have HV := Aside0.mk (Kd.S_mono (Kd.S_bound hs3) (ok' := fun k => wr.heap.size < k) (fun k hk => by have h1 := hk.2.1; have h2 := HXS.out; omega)); have HB3 := Aside0.mk (below_then HBX.out HBX.out.size hb3); have q3 := (blk_cell b3 3).trans rfl; have z3 := blk_frozen b3 3; have q4 := (blk_cell b3 4).trans rfl; have z4 := blk_frozen b3 4; have q5 := (blk_cell b3 5).trans rfl; have z5 := blk_frozen b3 5; have q6 := (blk_cell b3 6).trans rfl; have z6 := blk_frozen b3 6; clear hs3 hb3)
      clear p3 q3 z3 p4 q4 z4 p5 q5 z5 p6 q6 z6
      have BA4 : Aside0 (((((w3.setCell ⟨wr.heap.size, 3, none⟩ (.int .i64 o.f3.f0)).setCell ⟨wr.heap.size, 4, none⟩ (.int .i64 o.f3.f1)).setCell ⟨wr.heap.size, 5, none⟩ (.int .i64 o.f3.f2)).setCell ⟨wr.heap.size, 6, none⟩ (.slice Q2 o.f3.f3.length u2)).heap[wr.heap.size]? = some (.cells #[.string o.f0, .int .i64 o.f1, .int .i64 o.f2, .int .i64 o.f3.f0, .int .i64 o.f3.f1, .int .i64 o.f3.f2, .slice Q2 o.f3.f3.length u2, .int .i64 o.f4, .int .i64 o.f5, .int .i64 o.f6, .int .i64 o.f7, .int .i64 o.f8] 54 (0, 0))) := ⟨(blk_put (cs := #[.string o.f0, .int .i64 o.f1, .int .i64 o.f2, .int .i64 o.f3.f0, .int .i64 o.f3.f1, .int .i64 o.f3.f2, .slice A2 o.f3.f3.length c3, .int .i64 o.f4, .int .i64 o.f5, .int .i64 o.f6, .int .i64 o.f7, .int .i64 o.f8]) (blk_put (cs := #[.string o.f0, .int .i64 o.f1, .int .i64 o.f2, .int .i64 o.f3.f0, .int .i64 o.f3.f1, .int .i64 o.f3.f2, .slice A2 o.f3.f3.length c3, .int .i64 o.f4, .int .i64 o.f5, .int .i64 o.f6, .int .i64 o.f7, .int .i64 o.f8]) (blk_put (cs := #[.string o.f0, .int .i64 o.f1, .int .i64 o.f2, .int .i64 o.f3.f0, .int .i64 o.f3.f1, .int .i64 o.f3.f2, .slice A2 o.f3.f3.length c3, .int .i64 o.f4, .int .i64 o.f5, .int .i64 o.f6, .int .i64 o.f7, .int .i64 o.f8]) (blk_put (cs := #[.string o.f0, .int .i64 o.f1, .int .i64 o.f2, .int .i64 o.f3.f0, .int .i64 o.f3.f1, .int .i64 o.f3.f2, .slice A2 o.f3.f3.length c3, .int .i64 o.f4, .int .i64 o.f5, .int .i64 o.f6, .int .i64 o.f7, .int .i64 o.f8]) b3 3 _ rfl) 4 _ rfl) 5 _ rfl) 6 _ rfl)⟩
      have HV4 := Aside0.mk (Kd.S_far (p := ⟨wr.heap.size, 6, none⟩) (Kd.S_far (p := ⟨wr.heap.size, 5, none⟩) (Kd.S_far (p := ⟨wr.heap.size, 4, none⟩) (Kd.S_far (p := ⟨wr.heap.size, 3, none⟩) HV.out (fun k hk => Nat.ne_of_gt hk) (.int .i64 o.f3.f0)) (fun k hk => Nat.ne_of_gt hk) (.int .i64 o.f3.f1)) (fun k hk => Nat.ne_of_gt hk) (.int .i64 o.f3.f2)) (fun k hk => Nat.ne_of_gt hk) (.slice Q2 o.f3.f3.length u2))
      have HB4 := Aside0.mk ((((HB3.out.setCell (p := ⟨wr.heap.size, 3, none⟩) (by simp) (.int .i64 o.f3.f0)).setCell (p := ⟨wr.heap.size, 4, none⟩) (by simp) (.int .i64 o.f3.f1)).setCell (p := ⟨wr.heap.size, 5, none⟩) (by simp) (.int .i64 o.f3.f2)).setCell (p := ⟨wr.heap.size, 6, none⟩) (by simp) (.slice Q2 o.f3.f3.length u2))
      clear b3
      generalize (((w3.setCell ⟨wr.heap.size, 3, none⟩ (.int .i64 o.f3.f0)).setCell ⟨wr.heap.size, 4, none⟩ (.int .i64 o.f3.f1)).setCell ⟨wr.heap.size, 5, none⟩ (.int .i64 o.f3.f2)).setCell ⟨wr.heap.size, 6, none⟩ (.slice Q2 o.f3.f3.length u2) = W6 at BA4 HV4 HB4 ⊢
      have r0 := (blk_cell BA4.out 0).trans rfl
      have r1 := (blk_cell BA4.out 1).trans rfl
      have r2 := (blk_cell BA4.out 2).trans rfl
      have r3 := (blk_cell BA4.out 3).trans rfl
      have r4 := (blk_cell BA4.out 4).trans rfl
      have r5 := (blk_cell BA4.out 5).trans rfl
      have r6 := (blk_cell BA4.out 6).trans rfl
      have r7 := (blk_cell BA4.out 7).trans rfl
      have r8 := (blk_cell BA4.out 8).trans rfl
      have r9 := (blk_cell BA4.out 9).trans rfl
      have r10 := (blk_cell BA4.out 10).trans rfl
      have r11 := (blk_cell BA4.out 11).trans rfl
      go_wp2_with ((with_reducible refine gate_dst (N := 24) rfl ?_); refine Kd.S_append kRule (w0 := w) w.heap.size rfl _ _ 24 54 (.agg #[.string ⟨#[]⟩, .int .i64 0, .int .i64 0, .int .i64 0, .int .i64 0, .int .i64 0, .slice none 0 0, .int .i64 0, .int .i64 0, .int .i64 0, .int .i64 0, .int .i64 0]) 120 rfl Try.underlying24 infoRule rfl (by decide) (by decide) vl (l.take k) o [.string o.f0, .int .i64 o.f1, .int .i64 o.f2, .int .i64 o.f3.f0, .int .i64 o.f3.f1, .int .i64 o.f3.f2, .slice Q2 o.f3.f3.length u2, .int .i64 o.f4, .int .i64 o.f5, .int .i64 o.f6, .int .i64 o.f7, .int .i64 o.f8] (fun _ => True) (fun j => wr.heap.size ≤ j) rfl rfl (kRule_mkM _ _ _ o (Kd.S_lower (Kd.S_mono HV4.out (fun j hj => Nat.le_of_lt hj)) (Nat.le_trans HB.out.size HBX.out.size))) (fun j hj => ⟨trivial, fun h => by have := hown j h.symm; omega⟩) (fun _ _ => trivial) (Kd.S_below (Kd.S_mono (Kd.S_bound HS.out) (fun j hj => ⟨trivial, by have := hj.2.2.1; omega⟩)) HB4.out) (below_then HB.out HB.out.size HB4.out) (Nat.le_trans HB.out.size HB4.out.size) (by rw [HTL.out]; omega) ?_; intro v7 w7 hs7 hb7 _ _; have HS7 := Aside0.mk hs7; have HB7 := Aside0.mk hb7; clear hs7 hb7)
      go_roundw
      case rel => exact ⟨k + 1, _, by omega, by go_num, rfl, ⟨by rw [HT.out]; exact HS7.out⟩, HB7⟩
      case measure => simp [intOf]; omega
    · have hke : k = l.length := by omega
      subst hke
      have g1 : decide (l.length < l.length) = false := decide_eq_false (by omega)
      have hS := HS.out
      rw [List.take_length] at hS
      have HS2 := Aside0.mk hS
      clear hS
      go_wp2
      go_ret
      exact ⟨_, rfl, HS2.out, HB.out⟩
end Go.Proofs.Ytckblabkapeigaa.Ed8

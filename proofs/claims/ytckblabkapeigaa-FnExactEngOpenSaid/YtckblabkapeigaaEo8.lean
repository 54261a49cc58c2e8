
/- GraphOf: the program's. -/
import Derived.Test.YtckblabkapeigaaEn8
import Derived.Test.YtckblabkapeigaaEa8
import Derived.Test.YtckblabkapeigaaJi
set_option linter.unusedVariables false
set_option linter.unusedSimpArgs false
namespace Go.Proofs.Ytckblabkapeigaa.Eo8
open Go.RowKit Go.Proofs.YtckblabkapeigaaW.PrintWords Go.Proofs.Ytckblabkapeigaa.Ja Go.Proofs.Ytckblabkapeigaa.Jb Go.Proofs.Ytckblabkapeigaa.Jc Go.Proofs.Ytckblabkapeigaa.Jd Go.Proofs.Ytckblabkapeigaa.Jg Go.Proofs.Ytckblabkapeigaa.Jh Go.Proofs.Ytckblabkapeigaa.Ji Go.Proofs.Ytckblabkapeigaa.Ka Go.Proofs.Ytckblabkapeigaa.Kd2 Go.Proofs.Ytckblabkapeigaa.Kf Go.Proofs.Ytckblabkapeigaa.Nb Go.Proofs.Ytckblabkapeigaa.Ea8 Go.Proofs.Ytckblabkapeigaa.Eg8 Go.Proofs.Ytckblabkapeigaa.Eh8 Go.Proofs.Ytckblabkapeigaa.El8 Go.Proofs.Ytckblabkapeigaa.Em8 Go.Proofs.Ytckblabkapeigaa.En8

mutual
theorem adX_le : ∀ (x : Ex) (es : List Ex), (adX x es).length ≤ es.length + 1 + cntL x.f3
  | .mk a b c l, es => by
    unfold adX
    split
    · omega
    · have := adL_le l es
      rw [List.length_append, List.length_singleton]
      show _ ≤ es.length + 1 + cntL l
      omega
theorem adL_le : ∀ (l : List Ex) (es : List Ex), (adL l es).length ≤ es.length + cntL l
  | [], es => by rw [adL]; omega
  | x :: xs, es => by
    have h1 := adX_le x es
    have h2 := adL_le xs (adX x es)
    rw [adL, cntL_cons]; omega
end
theorem Jk_below (w2 W3 w4 : World) (h : Below w2.heap.size w2 W3) (hf : Fr (fun j => j = w2.heap.size ∨ some j = (Value.slice none 0 0).ownBlock) W3 w4) : Below w2.heap.size w2 w4 := by
  have h1 : Below w2.heap.size W3 w4 := hf.below h.size (fun k hk => by rcases hk with h | h; omega; simp [Value.ownBlock] at h)
  exact ⟨h1.os.trans h.os, h1.tape.trans h.tape, h1.output.trans h.output, Nat.le_trans h.size h1.size, fun k hk => (h1.block k hk).trans (h.block k hk)⟩
theorem closed_nil : Closed [] := fun z hz => by simp at hz
/-- a fresh graph of an expression -/
def grO (x : Ex) (m : Int) : TGraph := if okE x = true ∧ inb m 0 4 = true then ⟨m, ndsT (adX x []), 0, 0, false⟩ else zGraph
set_option maxHeartbeats 4000000 in
set_option maxRecDepth 100000 in
theorem graphOf_any (x : Ex) (m : Int) (A : Option Addr) (c : Nat) (w : World) (hc : cntL x.f3 ≤ 1048576) (hL : IsEL 52 w x.f3 A c) :
    Calls Try.prog 20 #[X x.f0 x.f1 x.f2 A x.f3.length c, .int .i64 m] w fun e w' => ToGraph w w' (grO x m) e := by
  obtain ⟨hb0, b0, b1⟩ := boxes2 w #[.int .i64 x.f0, .int .i64 x.f1, .int .i64 x.f2, .slice A x.f3.length c] #[.int .i64 0, .slice none 0 0, .int .i64 0, .int .i64 0, .bool false] 52 48
  have hsz : ((w.alloc (.cells #[.int .i64 x.f0, .int .i64 x.f1, .int .i64 x.f2, .slice A x.f3.length c] 52)).alloc (.cells #[.int .i64 0, .slice none 0 0, .int .i64 0, .int .i64 0, .bool false] 48)).heap.size = w.heap.size + 1 + 1 := by simp
  have HL := Aside0.mk (hL.below hb0)
  clear hL
  by_cases hk : okE x = true
  rotate_left
  · have HO : Aside0 (grO x m = zGraph) := ⟨if_neg (fun h => hk h.1)⟩
    have HK : Aside0 (okE x = false) := ⟨by simpa using hk⟩
    clear hk
    go_enter Try.func20, Try.ntmps20
    go_upto_region 1 with fail
    generalize (w.alloc (.cells #[.int .i64 x.f0, .int .i64 x.f1, .int .i64 x.f2, .slice A x.f3.length c] 52)).alloc (.cells #[.int .i64 0, .slice none 0 0, .int .i64 0, .int .i64 0, .bool false] 48) = W at hb0 b0 b1 HL hsz ⊢
    have p0 := (blk_cell b0 0).trans rfl
    have p1 := (blk_cell b0 1).trans rfl
    have p2 := (blk_cell b0 2).trans rfl
    have p3 := (blk_cell b0 3).trans rfl
    have HB0 := Aside0.mk hb0
    have BB0 := Aside0.mk b0
    have BB1 := Aside0.mk b1
    have HSZ := Aside0.mk hsz
    clear hb0 b0 b1 hsz
    go_wp2_with (go_at_call 48; refine (exOk_any x A c _ hc HL.out).mono ?_; rintro e w2 ⟨rfl, hb2⟩; rw [HK.out]; have HB2 := Aside0.mk (below_then HB0.out HB0.out.size hb2); have g1' := blk_below BB1.out hb2; have s0 := (blk_cell g1' 0).trans rfl; have t0 := blk_frozen g1' 0; have s1 := (blk_cell g1' 1).trans rfl; have t1 := blk_frozen g1' 1; have s2 := (blk_cell g1' 2).trans rfl; have t2 := blk_frozen g1' 2; have s3 := (blk_cell g1' 3).trans rfl; have t3 := blk_frozen g1' 3; have s4 := (blk_cell g1' 4).trans rfl; have t4 := blk_frozen g1' 4; clear hb2)
    refine bodyPost_ret (results_cell_row rfl _ _ (w.heap.size + 1) 48 #[.int .i64 0, .slice none 0 0, .int .i64 0, .int .i64 0, .bool false] (0, 0) _ rfl (blk_put (cs := #[.int .i64 0, .slice none 0 0, .int .i64 0, .int .i64 0, .bool false]) (blk_put (cs := #[.int .i64 0, .slice none 0 0, .int .i64 0, .int .i64 0, .bool false]) (blk_put (cs := #[.int .i64 0, .slice none 0 0, .int .i64 0, .int .i64 0, .bool false]) (blk_put (cs := #[.int .i64 0, .slice none 0 0, .int .i64 0, .int .i64 0, .bool false]) (blk_put (cs := #[.int .i64 0, .slice none 0 0, .int .i64 0, .int .i64 0, .bool false]) g1' 0 _ rfl) 1 _ rfl) 2 _ rfl) 3 _ rfl) 4 _ rfl) Try.underlying48 rfl (by kernel_rfl)) rfl ?_
    rw [HO.out]
    exact ⟨_, rfl, Kd.S_nil _ _ _ _ _, (((((HB2.out.setCell (p := ⟨w.heap.size + 1, 0, none⟩) (by simp) _).setCell (p := ⟨w.heap.size + 1, 1, none⟩) (by simp) _).setCell (p := ⟨w.heap.size + 1, 2, none⟩) (by simp) _).setCell (p := ⟨w.heap.size + 1, 3, none⟩) (by simp) _).setCell (p := ⟨w.heap.size + 1, 4, none⟩) (by simp) _)⟩

  by_cases hm : inb m 0 4 = true
  rotate_left
  · have HO : Aside0 (grO x m = zGraph) := ⟨if_neg (fun h => hm h.2)⟩
    have HK := Aside0.mk hk
    have HMO : Aside0 (inb m 0 4 = false) := ⟨by simpa using hm⟩
    clear hk hm
    go_enter Try.func20, Try.ntmps20
    go_upto_region 1 with fail
    generalize (w.alloc (.cells #[.int .i64 x.f0, .int .i64 x.f1, .int .i64 x.f2, .slice A x.f3.length c] 52)).alloc (.cells #[.int .i64 0, .slice none 0 0, .int .i64 0, .int .i64 0, .bool false] 48) = W at hb0 b0 b1 HL hsz ⊢
    have p0 := (blk_cell b0 0).trans rfl
    have p1 := (blk_cell b0 1).trans rfl
    have p2 := (blk_cell b0 2).trans rfl
    have p3 := (blk_cell b0 3).trans rfl
    have HB0 := Aside0.mk hb0
    have BB0 := Aside0.mk b0
    have BB1 := Aside0.mk b1
    have HSZ := Aside0.mk hsz
    clear hb0 b0 b1 hsz
    go_wp2_with (first
      | (go_at_call 49; refine (isMode_any m _).mono ?_; rintro e w3 ⟨rfl, he⟩; have he2 := he.symm; subst he2; rw [HMO.out])
      | (go_at_call 48; refine (exOk_any x A c _ hc HL.out).mono ?_; rintro e w2 ⟨rfl, hb2⟩; rw [HK.out]; have HB2 := Aside0.mk (below_then HB0.out HB0.out.size hb2); have g1' := blk_below BB1.out hb2; have s0 := (blk_cell g1' 0).trans rfl; have t0 := blk_frozen g1' 0; have s1 := (blk_cell g1' 1).trans rfl; have t1 := blk_frozen g1' 1; have s2 := (blk_cell g1' 2).trans rfl; have t2 := blk_frozen g1' 2; have s3 := (blk_cell g1' 3).trans rfl; have t3 := blk_frozen g1' 3; have s4 := (blk_cell g1' 4).trans rfl; have t4 := blk_frozen g1' 4; clear hb2))
    refine bodyPost_ret (results_cell_row rfl _ _ (w.heap.size + 1) 48 #[.int .i64 0, .slice none 0 0, .int .i64 0, .int .i64 0, .bool false] (0, 0) _ rfl (blk_put (cs := #[.int .i64 0, .slice none 0 0, .int .i64 0, .int .i64 0, .bool false]) (blk_put (cs := #[.int .i64 0, .slice none 0 0, .int .i64 0, .int .i64 0, .bool false]) (blk_put (cs := #[.int .i64 0, .slice none 0 0, .int .i64 0, .int .i64 0, .bool false]) (blk_put (cs := #[.int .i64 0, .slice none 0 0, .int .i64 0, .int .i64 0, .bool false]) (blk_put (cs := #[.int .i64 0, .slice none 0 0, .int .i64 0, .int .i64 0, .bool false]) g1' 0 _ rfl) 1 _ rfl) 2 _ rfl) 3 _ rfl) 4 _ rfl) Try.underlying48 rfl (by kernel_rfl)) rfl ?_
    rw [HO.out]
    exact ⟨_, rfl, Kd.S_nil _ _ _ _ _, (((((HB2.out.setCell (p := ⟨w.heap.size + 1, 0, none⟩) (by simp) _).setCell (p := ⟨w.heap.size + 1, 1, none⟩) (by simp) _).setCell (p := ⟨w.heap.size + 1, 2, none⟩) (by simp) _).setCell (p := ⟨w.heap.size + 1, 3, none⟩) (by simp) _).setCell (p := ⟨w.heap.size + 1, 4, none⟩) (by simp) _)⟩

  have HO : Aside0 (grO x m = ⟨m, ndsT (adX x []), 0, 0, false⟩) := ⟨if_pos ⟨hk, hm⟩⟩
  have HK := Aside0.mk hk
  have HMO := Aside0.mk hm
  have hcn : cntL x.f3 ≤ 11 := by
    unfold okE at hk
    simp only [Bool.and_eq_true, decide_eq_true_eq] at hk
    omega
  clear hk hm
  · skip
    go_enter Try.func20, Try.ntmps20
    go_upto_region 1 with fail
    generalize (w.alloc (.cells #[.int .i64 x.f0, .int .i64 x.f1, .int .i64 x.f2, .slice A x.f3.length c] 52)).alloc (.cells #[.int .i64 0, .slice none 0 0, .int .i64 0, .int .i64 0, .bool false] 48) = W at hb0 b0 b1 HL hsz ⊢
    have p0 := (blk_cell b0 0).trans rfl
    have p1 := (blk_cell b0 1).trans rfl
    have p2 := (blk_cell b0 2).trans rfl
    have p3 := (blk_cell b0 3).trans rfl
    have HB0 := Aside0.mk hb0
    have BB0 := Aside0.mk b0
    have BB1 := Aside0.mk b1
    have HSZ := Aside0.mk hsz
    clear hb0 b0 b1 hsz
    go_upto_region 3 with (first
      | (go_at_call 49; refine (isMode_any m _).mono ?_; rintro e w3 ⟨rfl, he⟩; have he2 := he.symm; subst he2; rw [HMO.out])
      | (go_at_call 48; refine (exOk_any x A c _ hc HL.out).mono ?_; rintro e w2 ⟨rfl, hb2⟩; rw [HK.out]; have HB2 := Aside0.mk hb2; clear hb2))
    clear p0 p1 p2 p3
    go_upto_region 4 with fail
    have hb3 := below_alloc (Below.refl w2.heap.size w2) (.cells (gC m (.slice none 0 0)) 48)
    have bG := blk_new w2 (.cells (gC m (.slice none 0 0)) 48)
    have hs3 : (w2.alloc (.cells (gC m (.slice none 0 0)) 48)).heap.size = w2.heap.size + 1 := by simp
    unfold gC at hb3 bG hs3
    generalize w2.alloc (.cells #[.int .i64 m, .slice none 0 0, .int .i64 0, .int .i64 0, .bool false] 48) = W3 at hb3 bG hs3 ⊢
    have HB3 := Aside0.mk hb3
    have HS3 := Aside0.mk hs3
    have HG3 : Aside0 (GMem W3 w2.heap.size (w2.heap.size + 1) (fun _ => False) m (.slice none 0 0) []) := ⟨bG, Kd.S_nil _ _ _ _ _⟩
    have HCALL := Aside0.mk (add_any x (by omega) w2 w2.heap.size (w2.heap.size + 1) (fun _ => False) m (.slice none 0 0) [] A c W3 hb3 (Nat.le_refl _) (by omega) (by omega) closed_nil List.nodup_nil (by rw [ad_ai x [] closed_nil]; have := adX_le x []; simp at this; omega) HG3.out (HL.out.below HB2.out))
    clear hb3 bG hs3
    have BX3 := Aside0.mk (blk_below (blk_below BB0.out HB2.out) HB3.out)
    have BR3 := Aside0.mk (blk_below (blk_below BB1.out HB2.out) HB3.out)
    have p0 := (blk_cell BX3.out 0).trans rfl
    have p1 := (blk_cell BX3.out 1).trans rfl
    have p2 := (blk_cell BX3.out 2).trans rfl
    have p3 := (blk_cell BX3.out 3).trans rfl
    go_upto_region 5 with (go_at_call 50; refine HCALL.out.mono ?_; rintro e w4 ⟨rfl, v4, hg4, hf4, -⟩; obtain ⟨V4, c4, rfl⟩ := Kd.S_slice hg4.row; have HG4 := Aside0.mk hg4; have HF4 := Aside0.mk hf4; clear hg4 hf4)
    clear p0 p1 p2 p3
    have h2 := HB2.out.size
    have h3 := HSZ.out
    have g1' : w4.heap[w.heap.size + 1]? = some (.cells #[.int .i64 0, .slice none 0 0, .int .i64 0, .int .i64 0, .bool false] 48 (0, 0)) := (HF4.out.block _ (by have := HS3.out; omega) (by rintro (h | h); omega; simp [Value.ownBlock] at h)).trans BR3.out
    have HB4 : Aside0 (Below w.heap.size w w4) := ⟨below_then (below_then HB0.out HB0.out.size HB2.out) (Nat.le_trans HB0.out.size HB2.out.size) (Jk_below w2 W3 w4 HB3.out HF4.out)⟩
    have HI2 := Aside0.mk (show w.heap.size + 1 < w2.heap.size + 1 by omega)
    clear h2 h3
    have r0 := (blk_cell HG4.out.box 0).trans rfl
    have r1 := (blk_cell HG4.out.box 1).trans rfl
    have r2 := (blk_cell HG4.out.box 2).trans rfl
    have r3 := (blk_cell HG4.out.box 3).trans rfl
    have r4 := (blk_cell HG4.out.box 4).trans rfl
    have s0 := (blk_cell g1' 0).trans rfl; have t0 := blk_frozen g1' 0; have s1 := (blk_cell g1' 1).trans rfl; have t1 := blk_frozen g1' 1; have s2 := (blk_cell g1' 2).trans rfl; have t2 := blk_frozen g1' 2; have s3 := (blk_cell g1' 3).trans rfl; have t3 := blk_frozen g1' 3; have s4 := (blk_cell g1' 4).trans rfl; have t4 := blk_frozen g1' 4
    have HAE := Aside0.mk (ad_ai x [] closed_nil)
    rw [HAE.out] at HG4 r1
    go_wp2
    refine bodyPost_ret (results_cell_row rfl _ _ (w.heap.size + 1) 48 #[.int .i64 m, .slice V4 (ndsT (adX x [])).length c4, .int .i64 0, .int .i64 0, .bool false] (0, 0) _ rfl (blk_put (cs := #[.int .i64 m, .slice V4 (ndsT (adX x [])).length c4, .int .i64 0, .int .i64 0, .bool false]) (blk_put (cs := #[.int .i64 m, .slice V4 (ndsT (adX x [])).length c4, .int .i64 0, .int .i64 0, .bool false]) (blk_put (cs := #[.int .i64 m, .slice V4 (ndsT (adX x [])).length c4, .int .i64 0, .int .i64 0, .bool false]) (blk_put (cs := #[.int .i64 m, .slice none 0 0, .int .i64 0, .int .i64 0, .bool false]) (blk_put (cs := #[.int .i64 0, .slice none 0 0, .int .i64 0, .int .i64 0, .bool false]) g1' 0 _ rfl) 1 _ rfl) 2 _ rfl) 3 _ rfl) 4 _ rfl) Try.underlying48 rfl (by kernel_rfl)) rfl ?_
    rw [HO.out]
    exact ⟨_, rfl, Kd.S_mono (Kd.S_lower (Kd.S_far (p := ⟨w.heap.size + 1, 4, none⟩) (Kd.S_far (p := ⟨w.heap.size + 1, 3, none⟩) (Kd.S_far (p := ⟨w.heap.size + 1, 2, none⟩) (Kd.S_far (p := ⟨w.heap.size + 1, 1, none⟩) (Kd.S_far (p := ⟨w.heap.size + 1, 0, none⟩) (Kd.S_mono (Kd.S_bound HG4.out.row) (ok' := fun j => w2.heap.size + 1 ≤ j) (fun j hj => hj.2.1)) (fun k hk => by show k ≠ w.heap.size + 1; have := HI2.out; omega) _) (fun k hk => by show k ≠ w.heap.size + 1; have := HI2.out; omega) _) (fun k hk => by show k ≠ w.heap.size + 1; have := HI2.out; omega) _) (fun k hk => by show k ≠ w.heap.size + 1; have := HI2.out; omega) _) (fun k hk => by show k ≠ w.heap.size + 1; have := HI2.out; omega) _) (by have := HI2.out; omega)) (fun _ _ => trivial), (((((HB4.out.setCell (p := ⟨w.heap.size + 1, 0, none⟩) (by simp) _).setCell (p := ⟨w.heap.size + 1, 1, none⟩) (by simp) _).setCell (p := ⟨w.heap.size + 1, 2, none⟩) (by simp) _).setCell (p := ⟨w.heap.size + 1, 3, none⟩) (by simp) _).setCell (p := ⟨w.heap.size + 1, 4, none⟩) (by simp) _)⟩

end Go.Proofs.Ytckblabkapeigaa.Eo8


/- Copies of the program's struct types: the laws' own functions. Printed by genTy.py. -/
import Derived.Test.YtckblabkapeigaaKb
import Derived.Test.YtckblabkapeigaaJd
set_option linter.unusedVariables false
set_option linter.unusedSimpArgs false
namespace Go.Proofs.Ytckblabkapeigaa.Kd2
open Go.RowKit Go.Proofs.YtckblabkapeigaaW.PrintWords Go.Proofs.Ytckblabkapeigaa.Ja Go.Proofs.Ytckblabkapeigaa.Jb Go.Proofs.Ytckblabkapeigaa.Jc Go.Proofs.Ytckblabkapeigaa.Jd Go.Proofs.Ytckblabkapeigaa.Ka Go.Proofs.Ytckblabkapeigaa.Kb
theorem S_behind' {α : Type} {d : Kd α} {e : Nat} {w w3 : World} {g : Nat} {ok : Nat → Prop} {v : Value} {xs : List α} {base : Nat} (h : Kd.S d e w3 w.heap.size ok v xs) (hg : g < w.heap.size) (hb : base ≤ w.heap.size) : Kd.S d e w3 base (fun k => g < k) v xs :=
  Kd.S_lower (Kd.S_mono (Kd.S_bound h) (fun k hk => Nat.lt_of_lt_of_le hg hk.2.1)) hb
/-- a row of numbers has no rows inside: it is apart -/
theorem S_ints {e : Nat} {w : World} {base : Nat} {ok : Nat → Prop} {v : Value} {xs : List Int} (h : (Kd.int .i64).R e w base ok v xs) : Kd.S (Kd.int .i64) e w base ok v xs := Kd.S_bare h
def ToL {α : Type} (d : Kd α) (e : Nat) (w w' : World) (l : List α) (r : Ending) : Prop := ∃ v, r = .returned v ∧ Kd.S d e w' w.heap.size (fun _ => True) v l ∧ Below w.heap.size w w'
theorem size_set (w : World) (p : Addr) (u : Value) : (w.setCell p u).heap.size = w.heap.size := by simp [World.setCell]
theorem Ap.mono : ∀ {os : List (Nat → Prop)} {ok ok' : Nat → Prop}, Ap ok os → (∀ k, ok k → ok' k) → Ap ok' os
  | [], _, _, _, _ => trivial
  | _ :: _, _, _, h, hk => ⟨fun k h2 => hk k (h.1 k h2), h.2.1, Ap.mono h.2.2 hk⟩
theorem infoI : (Try.prog.info? 3).map (fun i => (i.zero, i.size, i.bytes)) = some (some (.int .i64 0), 1, 8) := by kernel_rfl
theorem infoOcc : (Try.prog.info? 85).map (fun i => (i.zero, i.size, i.bytes)) = some (some (.agg #[.int .i64 0, .int .i64 0, .slice none 0 0]), 3, 40) := by kernel_rfl
def ToOcc (w w' : World) (x : TOcc) (r : Ending) : Prop := ∃ v2, r = .returned (.agg #[.int .i64 x.f0, .int .i64 x.f1, v2]) ∧ Kd.S (Kd.int .i64) 3 w' w.heap.size (fun _ => True) v2 x.f2 ∧ Below w.heap.size w w'
theorem infoPair : (Try.prog.info? 99).map (fun i => (i.zero, i.size, i.bytes)) = some (some (.agg #[.slice none 0 0, .slice none 0 0]), 2, 48) := by kernel_rfl
def ToPair (w w' : World) (x : TPair) (r : Ending) : Prop := ∃ v0, ∃ v1, ∃ o0, ∃ o1, r = .returned (.agg #[v0, v1]) ∧ Kd.S kOcc 85 w' w.heap.size o0 v0 x.f0 ∧ Kd.S kOcc 85 w' w.heap.size o1 v1 x.f1 ∧ Ap (fun k => w.heap.size ≤ k ∧ k < w'.heap.size) [o0, o1] ∧ Below w.heap.size w w'
theorem infoSpan : (Try.prog.info? 101).map (fun i => (i.zero, i.size, i.bytes)) = some (some (.agg #[.slice none 0 0, .slice none 0 0]), 2, 48) := by kernel_rfl
def ToSpan (w w' : World) (x : TSpan) (r : Ending) : Prop := ∃ v0, ∃ v1, ∃ o0, ∃ o1, r = .returned (.agg #[v0, v1]) ∧ Kd.S kOcc 85 w' w.heap.size o0 v0 x.f0 ∧ Kd.S kOcc 85 w' w.heap.size o1 v1 x.f1 ∧ Ap (fun k => w.heap.size ≤ k ∧ k < w'.heap.size) [o0, o1] ∧ Below w.heap.size w w'
theorem infoNode : (Try.prog.info? 103).map (fun i => (i.zero, i.size, i.bytes)) = some (some (.agg #[.int .i64 0, .int .i64 0, .int .i64 0, .slice none 0 0, .slice none 0 0, .slice none 0 0, .slice none 0 0, .slice none 0 0, .slice none 0 0, .int .i64 0]), 10, 176) := by kernel_rfl
def ToNode (w w' : World) (x : TNode) (r : Ending) : Prop := ∃ v3, ∃ v4, ∃ v5, ∃ v6, ∃ v7, ∃ v8, ∃ o3, ∃ o4, ∃ o5, ∃ o6, ∃ o7, ∃ o8, r = .returned (.agg #[.int .i64 x.f0, .int .i64 x.f1, .int .i64 x.f2, v3, v4, v5, v6, v7, v8, .int .i64 x.f7]) ∧ Kd.S (Kd.int .i64) 3 w' w.heap.size o3 v3 x.f3 ∧ Kd.S kOcc 85 w' w.heap.size o4 v4 x.f4.f0 ∧ Kd.S kOcc 85 w' w.heap.size o5 v5 x.f4.f1 ∧ Kd.S kOcc 85 w' w.heap.size o6 v6 x.f5.f0 ∧ Kd.S kOcc 85 w' w.heap.size o7 v7 x.f5.f1 ∧ Kd.S kOcc 85 w' w.heap.size o8 v8 x.f6 ∧ Ap (fun k => w.heap.size ≤ k ∧ k < w'.heap.size) [o3, o4, o5, o6, o7, o8] ∧ Below w.heap.size w w'
theorem infoGraph : (Try.prog.info? 48).map (fun i => (i.zero, i.size, i.bytes)) = some (some (.agg #[.int .i64 0, .slice none 0 0, .int .i64 0, .int .i64 0, .bool false]), 5, 56) := by kernel_rfl
def ToGraph (w w' : World) (x : TGraph) (r : Ending) : Prop := ∃ v1, r = .returned (.agg #[.int .i64 x.f0, v1, .int .i64 x.f2, .int .i64 x.f3, .bool x.f4]) ∧ Kd.S kNode 103 w' w.heap.size (fun _ => True) v1 x.f1 ∧ Below w.heap.size w w'
theorem infoEv : (Try.prog.info? 82).map (fun i => (i.zero, i.size, i.bytes)) = some (some (.agg #[.int .i64 0, .int .i64 0, .int .i64 0]), 3, 24) := by kernel_rfl
def ToEv (w w' : World) (x : TEv) (r : Ending) : Prop := r = .returned (.agg #[.int .i64 x.f0, .int .i64 x.f1, .int .i64 x.f2]) ∧ Below w.heap.size w w'
theorem infoFire : (Try.prog.info? 87).map (fun i => (i.zero, i.size, i.bytes)) = some (some (.agg #[.int .i64 0, .int .i64 0, .int .i64 0, .slice none 0 0]), 4, 48) := by kernel_rfl
def ToFire (w w' : World) (x : TFire) (r : Ending) : Prop := ∃ v3, r = .returned (.agg #[.int .i64 x.f0, .int .i64 x.f1.f0, .int .i64 x.f1.f1, v3]) ∧ Kd.S (Kd.int .i64) 3 w' w.heap.size (fun _ => True) v3 x.f1.f2 ∧ Below w.heap.size w w'
theorem infoRule : (Try.prog.info? 54).map (fun i => (i.zero, i.size, i.bytes)) = some (some (.agg #[.string ⟨#[]⟩, .int .i64 0, .int .i64 0, .int .i64 0, .int .i64 0, .int .i64 0, .slice none 0 0, .int .i64 0, .int .i64 0, .int .i64 0, .int .i64 0, .int .i64 0]), 12, 120) := by kernel_rfl
def ToRule (w w' : World) (x : TRule) (r : Ending) : Prop := ∃ v6, r = .returned (.agg #[.string x.f0, .int .i64 x.f1, .int .i64 x.f2, .int .i64 x.f3.f0, .int .i64 x.f3.f1, .int .i64 x.f3.f2, v6, .int .i64 x.f4, .int .i64 x.f5, .int .i64 x.f6, .int .i64 x.f7, .int .i64 x.f8]) ∧ Kd.S (kE 52) 52 w' w.heap.size (fun _ => True) v6 x.f3.f3 ∧ Below w.heap.size w w'
set_option maxHeartbeats 4000000 in
set_option maxRecDepth 100000 in
theorem toRule_any (x : TRule) (A6 : Option Addr) (c6 : Nat) (w : World) (hx : cRule x ≤ 1048576) (hL6 : IsS (kE 52) w x.f3.f3 A6 c6) :
    Calls Try.prog 17 #[.agg #[.string x.f0, .int .i64 x.f1, .int .i64 x.f2, .int .i64 x.f3.f0, .int .i64 x.f3.f1, .int .i64 x.f3.f2, .slice A6 x.f3.f3.length c6, .int .i64 x.f4, .int .i64 x.f5, .int .i64 x.f6, .int .i64 x.f7, .int .i64 x.f8]] w fun e w' => ToRule w w' x e := by
  obtain ⟨hb0, b0, b1, b2⟩ := boxes3 w #[.string x.f0, .int .i64 x.f1, .int .i64 x.f2, .int .i64 x.f3.f0, .int .i64 x.f3.f1, .int .i64 x.f3.f2, .slice A6 x.f3.f3.length c6, .int .i64 x.f4, .int .i64 x.f5, .int .i64 x.f6, .int .i64 x.f7, .int .i64 x.f8] #[.string ⟨#[]⟩, .int .i64 0, .int .i64 0, .int .i64 0, .int .i64 0, .int .i64 0, .slice none 0 0, .int .i64 0, .int .i64 0, .int .i64 0, .int .i64 0, .int .i64 0] #[.string ⟨#[]⟩, .int .i64 0, .int .i64 0, .int .i64 0, .int .i64 0, .int .i64 0, .slice none 0 0, .int .i64 0, .int .i64 0, .int .i64 0, .int .i64 0, .int .i64 0] 43 54 54
  have HL6 := Aside0.mk hL6
  clear hL6
  have hx' : x.f0.size + cntL x.f3.f3 ≤ 1048576 := hx
  have hz0 : x.f0.size ≤ 1048576 := by omega
  have hz1 : cntL x.f3.f3 ≤ 1048576 := by omega
  have HZ := Aside0.mk hx'
  clear hx hx'
  go_enter Try.func17, Try.ntmps17
  go_upto_region 2 with fail
  generalize ((w.alloc (.cells #[.string x.f0, .int .i64 x.f1, .int .i64 x.f2, .int .i64 x.f3.f0, .int .i64 x.f3.f1, .int .i64 x.f3.f2, .slice A6 x.f3.f3.length c6, .int .i64 x.f4, .int .i64 x.f5, .int .i64 x.f6, .int .i64 x.f7, .int .i64 x.f8] 43)).alloc (.cells #[.string ⟨#[]⟩, .int .i64 0, .int .i64 0, .int .i64 0, .int .i64 0, .int .i64 0, .slice none 0 0, .int .i64 0, .int .i64 0, .int .i64 0, .int .i64 0, .int .i64 0] 54)).alloc (.cells #[.string ⟨#[]⟩, .int .i64 0, .int .i64 0, .int .i64 0, .int .i64 0, .int .i64 0, .slice none 0 0, .int .i64 0, .int .i64 0, .int .i64 0, .int .i64 0, .int .i64 0] 54) = W0 at hb0 b0 b1 b2 ⊢
  have HB := Aside0.mk hb0
  have BA := Aside0.mk b0
  have BR := Aside0.mk b1
  have BO := Aside0.mk b2
  clear hb0 b0 b1 b2
  have p0 := (blk_cell BA.out 0).trans rfl
  have z0 := blk_frozen BO.out 0
  have q0 := (blk_cell BO.out 0).trans rfl
  go_upto_region 3 with fail
  have BA' := Aside0.mk (blk_far BA.out (p := ⟨w.heap.size + 1 + 1, 0, none⟩) (by simp; omega) (.string x.f0))
  have BR' := Aside0.mk (blk_far BR.out (p := ⟨w.heap.size + 1 + 1, 0, none⟩) (by simp) (.string x.f0))
  have BO' := Aside0.mk (show (W0.setCell ⟨w.heap.size + 1 + 1, 0, none⟩ (.string x.f0)).heap[w.heap.size + 1 + 1]? = some (.cells #[.string x.f0, .int .i64 0, .int .i64 0, .int .i64 0, .int .i64 0, .int .i64 0, .slice none 0 0, .int .i64 0, .int .i64 0, .int .i64 0, .int .i64 0, .int .i64 0] 54 (0, 0)) from blk_put BO.out 0 _ rfl)
  have HB' := Aside0.mk (HB.out.setCell (p := ⟨w.heap.size + 1 + 1, 0, none⟩) (by simp; omega) (.string x.f0))
  clear BA BR BO HB p0 z0 q0 
  generalize (W0.setCell ⟨w.heap.size + 1 + 1, 0, none⟩ (.string x.f0)) = W1 at BA' BR' BO' HB'   ⊢
  have BA := BA'
  have BR := BR'
  have BO := BO'
  have HB := HB'
  clear BA' BR' BO' HB' 
  have p1 := (blk_cell BA.out 1).trans rfl
  have z1 := blk_frozen BO.out 1
  have q1 := (blk_cell BO.out 1).trans rfl
  go_upto_region 4 with fail
  have BA' := Aside0.mk (blk_far BA.out (p := ⟨w.heap.size + 1 + 1, 1, none⟩) (by simp; omega) (.int .i64 x.f1))
  have BR' := Aside0.mk (blk_far BR.out (p := ⟨w.heap.size + 1 + 1, 1, none⟩) (by simp) (.int .i64 x.f1))
  have BO' := Aside0.mk (show (W1.setCell ⟨w.heap.size + 1 + 1, 1, none⟩ (.int .i64 x.f1)).heap[w.heap.size + 1 + 1]? = some (.cells #[.string x.f0, .int .i64 x.f1, .int .i64 0, .int .i64 0, .int .i64 0, .int .i64 0, .slice none 0 0, .int .i64 0, .int .i64 0, .int .i64 0, .int .i64 0, .int .i64 0] 54 (0, 0)) from blk_put BO.out 1 _ rfl)
  have HB' := Aside0.mk (HB.out.setCell (p := ⟨w.heap.size + 1 + 1, 1, none⟩) (by simp; omega) (.int .i64 x.f1))
  clear BA BR BO HB p1 z1 q1 
  generalize (W1.setCell ⟨w.heap.size + 1 + 1, 1, none⟩ (.int .i64 x.f1)) = W2 at BA' BR' BO' HB'   ⊢
  have BA := BA'
  have BR := BR'
  have BO := BO'
  have HB := HB'
  clear BA' BR' BO' HB' 
  have p2 := (blk_cell BA.out 2).trans rfl
  have z2 := blk_frozen BO.out 2
  have q2 := (blk_cell BO.out 2).trans rfl
  go_upto_region 5 with fail
  have BA' := Aside0.mk (blk_far BA.out (p := ⟨w.heap.size + 1 + 1, 2, none⟩) (by simp; omega) (.int .i64 x.f2))
  have BR' := Aside0.mk (blk_far BR.out (p := ⟨w.heap.size + 1 + 1, 2, none⟩) (by simp) (.int .i64 x.f2))
  have BO' := Aside0.mk (show (W2.setCell ⟨w.heap.size + 1 + 1, 2, none⟩ (.int .i64 x.f2)).heap[w.heap.size + 1 + 1]? = some (.cells #[.string x.f0, .int .i64 x.f1, .int .i64 x.f2, .int .i64 0, .int .i64 0, .int .i64 0, .slice none 0 0, .int .i64 0, .int .i64 0, .int .i64 0, .int .i64 0, .int .i64 0] 54 (0, 0)) from blk_put BO.out 2 _ rfl)
  have HB' := Aside0.mk (HB.out.setCell (p := ⟨w.heap.size + 1 + 1, 2, none⟩) (by simp; omega) (.int .i64 x.f2))
  clear BA BR BO HB p2 z2 q2 
  generalize (W2.setCell ⟨w.heap.size + 1 + 1, 2, none⟩ (.int .i64 x.f2)) = W3 at BA' BR' BO' HB'   ⊢
  have BA := BA'
  have BR := BR'
  have BO := BO'
  have HB := HB'
  clear BA' BR' BO' HB' 
  have p3 := (blk_cell BA.out 3).trans rfl
  have p4 := (blk_cell BA.out 4).trans rfl
  have p5 := (blk_cell BA.out 5).trans rfl
  have p6 := (blk_cell BA.out 6).trans rfl
  go_upto_region 6 with (go_at_call 43; refine (toEx_any x.f3 A6 c6 _ hz1 (HL6.out.below HB.out)).mono ?_; rintro e w3_ ⟨v3, rfl, hr3, hb3⟩; obtain ⟨P6, r6, rfl⟩ := Kd.S_slice hr3; have z3 := blk_frozen (blk_below BO.out hb3) 3; have q3 := (blk_cell (blk_below BO.out hb3) 3).trans rfl; have z4 := blk_frozen (blk_below BO.out hb3) 4; have q4 := (blk_cell (blk_below BO.out hb3) 4).trans rfl; have z5 := blk_frozen (blk_below BO.out hb3) 5; have q5 := (blk_cell (blk_below BO.out hb3) 5).trans rfl; have z6 := blk_frozen (blk_below BO.out hb3) 6; have q6 := (blk_cell (blk_below BO.out hb3) 6).trans rfl; have BA2 := Aside0.mk (blk_below BA.out hb3); have BR2 := Aside0.mk (blk_below BR.out hb3); have BO2 := Aside0.mk (blk_below BO.out hb3); have HS6 := Aside0.mk (S_behind' hr3 (blk_lt BO.out) HB.out.size); have HB2 := Aside0.mk (below_then HB.out HB.out.size hb3); clear hb3 hr3)
  clear BA BR BO HB
  have BA := BA2
  have BR := BR2
  have BO := BO2
  have HB := HB2
  clear BA2 BR2 BO2 HB2
  have BA' := Aside0.mk (blk_far (blk_far (blk_far (blk_far BA.out (p := ⟨w.heap.size + 1 + 1, 3, none⟩) (by simp; omega) (.int .i64 x.f3.f0)) (p := ⟨w.heap.size + 1 + 1, 4, none⟩) (by simp; omega) (.int .i64 x.f3.f1)) (p := ⟨w.heap.size + 1 + 1, 5, none⟩) (by simp; omega) (.int .i64 x.f3.f2)) (p := ⟨w.heap.size + 1 + 1, 6, none⟩) (by simp; omega) (.slice P6 x.f3.f3.length r6))
  have BR' := Aside0.mk (blk_far (blk_far (blk_far (blk_far BR.out (p := ⟨w.heap.size + 1 + 1, 3, none⟩) (by simp) (.int .i64 x.f3.f0)) (p := ⟨w.heap.size + 1 + 1, 4, none⟩) (by simp) (.int .i64 x.f3.f1)) (p := ⟨w.heap.size + 1 + 1, 5, none⟩) (by simp) (.int .i64 x.f3.f2)) (p := ⟨w.heap.size + 1 + 1, 6, none⟩) (by simp) (.slice P6 x.f3.f3.length r6))
  have BO' := Aside0.mk (show ((((w3_.setCell ⟨w.heap.size + 1 + 1, 3, none⟩ (.int .i64 x.f3.f0)).setCell ⟨w.heap.size + 1 + 1, 4, none⟩ (.int .i64 x.f3.f1)).setCell ⟨w.heap.size + 1 + 1, 5, none⟩ (.int .i64 x.f3.f2)).setCell ⟨w.heap.size + 1 + 1, 6, none⟩ (.slice P6 x.f3.f3.length r6)).heap[w.heap.size + 1 + 1]? = some (.cells #[.string x.f0, .int .i64 x.f1, .int .i64 x.f2, .int .i64 x.f3.f0, .int .i64 x.f3.f1, .int .i64 x.f3.f2, .slice P6 x.f3.f3.length r6, .int .i64 0, .int .i64 0, .int .i64 0, .int .i64 0, .int .i64 0] 54 (0, 0)) from blk_put (show (((w3_.setCell ⟨w.heap.size + 1 + 1, 3, none⟩ (.int .i64 x.f3.f0)).setCell ⟨w.heap.size + 1 + 1, 4, none⟩ (.int .i64 x.f3.f1)).setCell ⟨w.heap.size + 1 + 1, 5, none⟩ (.int .i64 x.f3.f2)).heap[w.heap.size + 1 + 1]? = some (.cells #[.string x.f0, .int .i64 x.f1, .int .i64 x.f2, .int .i64 x.f3.f0, .int .i64 x.f3.f1, .int .i64 x.f3.f2, .slice none 0 0, .int .i64 0, .int .i64 0, .int .i64 0, .int .i64 0, .int .i64 0] 54 (0, 0)) from blk_put (show ((w3_.setCell ⟨w.heap.size + 1 + 1, 3, none⟩ (.int .i64 x.f3.f0)).setCell ⟨w.heap.size + 1 + 1, 4, none⟩ (.int .i64 x.f3.f1)).heap[w.heap.size + 1 + 1]? = some (.cells #[.string x.f0, .int .i64 x.f1, .int .i64 x.f2, .int .i64 x.f3.f0, .int .i64 x.f3.f1, .int .i64 0, .slice none 0 0, .int .i64 0, .int .i64 0, .int .i64 0, .int .i64 0, .int .i64 0] 54 (0, 0)) from blk_put (show (w3_.setCell ⟨w.heap.size + 1 + 1, 3, none⟩ (.int .i64 x.f3.f0)).heap[w.heap.size + 1 + 1]? = some (.cells #[.string x.f0, .int .i64 x.f1, .int .i64 x.f2, .int .i64 x.f3.f0, .int .i64 0, .int .i64 0, .slice none 0 0, .int .i64 0, .int .i64 0, .int .i64 0, .int .i64 0, .int .i64 0] 54 (0, 0)) from blk_put BO.out 3 _ rfl) 4 _ rfl) 5 _ rfl) 6 _ rfl)
  have HB' := Aside0.mk ((((HB.out.setCell (p := ⟨w.heap.size + 1 + 1, 3, none⟩) (by simp; omega) (.int .i64 x.f3.f0)).setCell (p := ⟨w.heap.size + 1 + 1, 4, none⟩) (by simp; omega) (.int .i64 x.f3.f1)).setCell (p := ⟨w.heap.size + 1 + 1, 5, none⟩) (by simp; omega) (.int .i64 x.f3.f2)).setCell (p := ⟨w.heap.size + 1 + 1, 6, none⟩) (by simp; omega) (.slice P6 x.f3.f3.length r6))
  have HS6' := Aside0.mk (Kd.S_far (p := ⟨w.heap.size + 1 + 1, 6, none⟩) (Kd.S_far (p := ⟨w.heap.size + 1 + 1, 5, none⟩) (Kd.S_far (p := ⟨w.heap.size + 1 + 1, 4, none⟩) (Kd.S_far (p := ⟨w.heap.size + 1 + 1, 3, none⟩) HS6.out (fun k hk => Nat.ne_of_gt hk) (.int .i64 x.f3.f0)) (fun k hk => Nat.ne_of_gt hk) (.int .i64 x.f3.f1)) (fun k hk => Nat.ne_of_gt hk) (.int .i64 x.f3.f2)) (fun k hk => Nat.ne_of_gt hk) (.slice P6 x.f3.f3.length r6))
  clear BA BR BO HB p3 z3 q3 p4 z4 q4 p5 z5 q5 p6 z6 q6 HS6
  generalize ((((w3_.setCell ⟨w.heap.size + 1 + 1, 3, none⟩ (.int .i64 x.f3.f0)).setCell ⟨w.heap.size + 1 + 1, 4, none⟩ (.int .i64 x.f3.f1)).setCell ⟨w.heap.size + 1 + 1, 5, none⟩ (.int .i64 x.f3.f2)).setCell ⟨w.heap.size + 1 + 1, 6, none⟩ (.slice P6 x.f3.f3.length r6)) = W4 at BA' BR' BO' HB' HS6'  ⊢
  have BA := BA'
  have BR := BR'
  have BO := BO'
  have HB := HB'
  have HS6 := HS6'
  clear BA' BR' BO' HB' HS6'
  have p7 := (blk_cell BA.out 7).trans rfl
  have z7 := blk_frozen BO.out 7
  have q7 := (blk_cell BO.out 7).trans rfl
  go_upto_region 7 with fail
  have BA' := Aside0.mk (blk_far BA.out (p := ⟨w.heap.size + 1 + 1, 7, none⟩) (by simp; omega) (.int .i64 x.f4))
  have BR' := Aside0.mk (blk_far BR.out (p := ⟨w.heap.size + 1 + 1, 7, none⟩) (by simp) (.int .i64 x.f4))
  have BO' := Aside0.mk (show (W4.setCell ⟨w.heap.size + 1 + 1, 7, none⟩ (.int .i64 x.f4)).heap[w.heap.size + 1 + 1]? = some (.cells #[.string x.f0, .int .i64 x.f1, .int .i64 x.f2, .int .i64 x.f3.f0, .int .i64 x.f3.f1, .int .i64 x.f3.f2, .slice P6 x.f3.f3.length r6, .int .i64 x.f4, .int .i64 0, .int .i64 0, .int .i64 0, .int .i64 0] 54 (0, 0)) from blk_put BO.out 7 _ rfl)
  have HB' := Aside0.mk (HB.out.setCell (p := ⟨w.heap.size + 1 + 1, 7, none⟩) (by simp; omega) (.int .i64 x.f4))
  have HS6' := Aside0.mk (Kd.S_far (p := ⟨w.heap.size + 1 + 1, 7, none⟩) HS6.out (fun k hk => Nat.ne_of_gt hk) (.int .i64 x.f4))
  clear BA BR BO HB p7 z7 q7 HS6
  generalize (W4.setCell ⟨w.heap.size + 1 + 1, 7, none⟩ (.int .i64 x.f4)) = W5 at BA' BR' BO' HB' HS6'  ⊢
  have BA := BA'
  have BR := BR'
  have BO := BO'
  have HB := HB'
  have HS6 := HS6'
  clear BA' BR' BO' HB' HS6'
  have p8 := (blk_cell BA.out 8).trans rfl
  have z8 := blk_frozen BO.out 8
  have q8 := (blk_cell BO.out 8).trans rfl
  go_upto_region 8 with fail
  have BA' := Aside0.mk (blk_far BA.out (p := ⟨w.heap.size + 1 + 1, 8, none⟩) (by simp; omega) (.int .i64 x.f5))
  have BR' := Aside0.mk (blk_far BR.out (p := ⟨w.heap.size + 1 + 1, 8, none⟩) (by simp) (.int .i64 x.f5))
  have BO' := Aside0.mk (show (W5.setCell ⟨w.heap.size + 1 + 1, 8, none⟩ (.int .i64 x.f5)).heap[w.heap.size + 1 + 1]? = some (.cells #[.string x.f0, .int .i64 x.f1, .int .i64 x.f2, .int .i64 x.f3.f0, .int .i64 x.f3.f1, .int .i64 x.f3.f2, .slice P6 x.f3.f3.length r6, .int .i64 x.f4, .int .i64 x.f5, .int .i64 0, .int .i64 0, .int .i64 0] 54 (0, 0)) from blk_put BO.out 8 _ rfl)
  have HB' := Aside0.mk (HB.out.setCell (p := ⟨w.heap.size + 1 + 1, 8, none⟩) (by simp; omega) (.int .i64 x.f5))
  have HS6' := Aside0.mk (Kd.S_far (p := ⟨w.heap.size + 1 + 1, 8, none⟩) HS6.out (fun k hk => Nat.ne_of_gt hk) (.int .i64 x.f5))
  clear BA BR BO HB p8 z8 q8 HS6
  generalize (W5.setCell ⟨w.heap.size + 1 + 1, 8, none⟩ (.int .i64 x.f5)) = W6 at BA' BR' BO' HB' HS6'  ⊢
  have BA := BA'
  have BR := BR'
  have BO := BO'
  have HB := HB'
  have HS6 := HS6'
  clear BA' BR' BO' HB' HS6'
  have p9 := (blk_cell BA.out 9).trans rfl
  have z9 := blk_frozen BO.out 9
  have q9 := (blk_cell BO.out 9).trans rfl
  go_upto_region 9 with fail
  have BA' := Aside0.mk (blk_far BA.out (p := ⟨w.heap.size + 1 + 1, 9, none⟩) (by simp; omega) (.int .i64 x.f6))
  have BR' := Aside0.mk (blk_far BR.out (p := ⟨w.heap.size + 1 + 1, 9, none⟩) (by simp) (.int .i64 x.f6))
  have BO' := Aside0.mk (show (W6.setCell ⟨w.heap.size + 1 + 1, 9, none⟩ (.int .i64 x.f6)).heap[w.heap.size + 1 + 1]? = some (.cells #[.string x.f0, .int .i64 x.f1, .int .i64 x.f2, .int .i64 x.f3.f0, .int .i64 x.f3.f1, .int .i64 x.f3.f2, .slice P6 x.f3.f3.length r6, .int .i64 x.f4, .int .i64 x.f5, .int .i64 x.f6, .int .i64 0, .int .i64 0] 54 (0, 0)) from blk_put BO.out 9 _ rfl)
  have HB' := Aside0.mk (HB.out.setCell (p := ⟨w.heap.size + 1 + 1, 9, none⟩) (by simp; omega) (.int .i64 x.f6))
  have HS6' := Aside0.mk (Kd.S_far (p := ⟨w.heap.size + 1 + 1, 9, none⟩) HS6.out (fun k hk => Nat.ne_of_gt hk) (.int .i64 x.f6))
  clear BA BR BO HB p9 z9 q9 HS6
  generalize (W6.setCell ⟨w.heap.size + 1 + 1, 9, none⟩ (.int .i64 x.f6)) = W7 at BA' BR' BO' HB' HS6'  ⊢
  have BA := BA'
  have BR := BR'
  have BO := BO'
  have HB := HB'
  have HS6 := HS6'
  clear BA' BR' BO' HB' HS6'
  have p10 := (blk_cell BA.out 10).trans rfl
  have z10 := blk_frozen BO.out 10
  have q10 := (blk_cell BO.out 10).trans rfl
  go_upto_region 10 with fail
  have BA' := Aside0.mk (blk_far BA.out (p := ⟨w.heap.size + 1 + 1, 10, none⟩) (by simp; omega) (.int .i64 x.f7))
  have BR' := Aside0.mk (blk_far BR.out (p := ⟨w.heap.size + 1 + 1, 10, none⟩) (by simp) (.int .i64 x.f7))
  have BO' := Aside0.mk (show (W7.setCell ⟨w.heap.size + 1 + 1, 10, none⟩ (.int .i64 x.f7)).heap[w.heap.size + 1 + 1]? = some (.cells #[.string x.f0, .int .i64 x.f1, .int .i64 x.f2, .int .i64 x.f3.f0, .int .i64 x.f3.f1, .int .i64 x.f3.f2, .slice P6 x.f3.f3.length r6, .int .i64 x.f4, .int .i64 x.f5, .int .i64 x.f6, .int .i64 x.f7, .int .i64 0] 54 (0, 0)) from blk_put BO.out 10 _ rfl)
  have HB' := Aside0.mk (HB.out.setCell (p := ⟨w.heap.size + 1 + 1, 10, none⟩) (by simp; omega) (.int .i64 x.f7))
  have HS6' := Aside0.mk (Kd.S_far (p := ⟨w.heap.size + 1 + 1, 10, none⟩) HS6.out (fun k hk => Nat.ne_of_gt hk) (.int .i64 x.f7))
  clear BA BR BO HB p10 z10 q10 HS6
  generalize (W7.setCell ⟨w.heap.size + 1 + 1, 10, none⟩ (.int .i64 x.f7)) = W8 at BA' BR' BO' HB' HS6'  ⊢
  have BA := BA'
  have BR := BR'
  have BO := BO'
  have HB := HB'
  have HS6 := HS6'
  clear BA' BR' BO' HB' HS6'
  have p11 := (blk_cell BA.out 11).trans rfl
  have z11 := blk_frozen BO.out 11
  have q11 := (blk_cell BO.out 11).trans rfl
  go_upto_region 11 with fail
  have BA' := Aside0.mk (blk_far BA.out (p := ⟨w.heap.size + 1 + 1, 11, none⟩) (by simp; omega) (.int .i64 x.f8))
  have BR' := Aside0.mk (blk_far BR.out (p := ⟨w.heap.size + 1 + 1, 11, none⟩) (by simp) (.int .i64 x.f8))
  have BO' := Aside0.mk (show (W8.setCell ⟨w.heap.size + 1 + 1, 11, none⟩ (.int .i64 x.f8)).heap[w.heap.size + 1 + 1]? = some (.cells #[.string x.f0, .int .i64 x.f1, .int .i64 x.f2, .int .i64 x.f3.f0, .int .i64 x.f3.f1, .int .i64 x.f3.f2, .slice P6 x.f3.f3.length r6, .int .i64 x.f4, .int .i64 x.f5, .int .i64 x.f6, .int .i64 x.f7, .int .i64 x.f8] 54 (0, 0)) from blk_put BO.out 11 _ rfl)
  have HB' := Aside0.mk (HB.out.setCell (p := ⟨w.heap.size + 1 + 1, 11, none⟩) (by simp; omega) (.int .i64 x.f8))
  have HS6' := Aside0.mk (Kd.S_far (p := ⟨w.heap.size + 1 + 1, 11, none⟩) HS6.out (fun k hk => Nat.ne_of_gt hk) (.int .i64 x.f8))
  clear BA BR BO HB p11 z11 q11 HS6
  generalize (W8.setCell ⟨w.heap.size + 1 + 1, 11, none⟩ (.int .i64 x.f8)) = W9 at BA' BR' BO' HB' HS6'  ⊢
  have BA := BA'
  have BR := BR'
  have BO := BO'
  have HB := HB'
  have HS6 := HS6'
  clear BA' BR' BO' HB' HS6'
  have r0_ := (blk_cell BO.out 0).trans rfl
  have s0_ := (blk_cell BR.out 0).trans rfl
  have t0_ := blk_frozen BR.out 0
  have r1_ := (blk_cell BO.out 1).trans rfl
  have s1_ := (blk_cell BR.out 1).trans rfl
  have t1_ := blk_frozen BR.out 1
  have r2_ := (blk_cell BO.out 2).trans rfl
  have s2_ := (blk_cell BR.out 2).trans rfl
  have t2_ := blk_frozen BR.out 2
  have r3_ := (blk_cell BO.out 3).trans rfl
  have s3_ := (blk_cell BR.out 3).trans rfl
  have t3_ := blk_frozen BR.out 3
  have r4_ := (blk_cell BO.out 4).trans rfl
  have s4_ := (blk_cell BR.out 4).trans rfl
  have t4_ := blk_frozen BR.out 4
  have r5_ := (blk_cell BO.out 5).trans rfl
  have s5_ := (blk_cell BR.out 5).trans rfl
  have t5_ := blk_frozen BR.out 5
  have r6_ := (blk_cell BO.out 6).trans rfl
  have s6_ := (blk_cell BR.out 6).trans rfl
  have t6_ := blk_frozen BR.out 6
  have r7_ := (blk_cell BO.out 7).trans rfl
  have s7_ := (blk_cell BR.out 7).trans rfl
  have t7_ := blk_frozen BR.out 7
  have r8_ := (blk_cell BO.out 8).trans rfl
  have s8_ := (blk_cell BR.out 8).trans rfl
  have t8_ := blk_frozen BR.out 8
  have r9_ := (blk_cell BO.out 9).trans rfl
  have s9_ := (blk_cell BR.out 9).trans rfl
  have t9_ := blk_frozen BR.out 9
  have r10_ := (blk_cell BO.out 10).trans rfl
  have s10_ := (blk_cell BR.out 10).trans rfl
  have t10_ := blk_frozen BR.out 10
  have r11_ := (blk_cell BO.out 11).trans rfl
  have s11_ := (blk_cell BR.out 11).trans rfl
  have t11_ := blk_frozen BR.out 11
  go_wp2
  refine bodyPost_ret (results_cell_row rfl _ _ (w.heap.size + 1) 54 #[.string x.f0, .int .i64 x.f1, .int .i64 x.f2, .int .i64 x.f3.f0, .int .i64 x.f3.f1, .int .i64 x.f3.f2, .slice P6 x.f3.f3.length r6, .int .i64 x.f4, .int .i64 x.f5, .int .i64 x.f6, .int .i64 x.f7, .int .i64 x.f8] (0, 0) _ rfl (blk_put (cs := #[.string x.f0, .int .i64 x.f1, .int .i64 x.f2, .int .i64 x.f3.f0, .int .i64 x.f3.f1, .int .i64 x.f3.f2, .slice P6 x.f3.f3.length r6, .int .i64 x.f4, .int .i64 x.f5, .int .i64 x.f6, .int .i64 x.f7, .int .i64 0]) (blk_put (cs := #[.string x.f0, .int .i64 x.f1, .int .i64 x.f2, .int .i64 x.f3.f0, .int .i64 x.f3.f1, .int .i64 x.f3.f2, .slice P6 x.f3.f3.length r6, .int .i64 x.f4, .int .i64 x.f5, .int .i64 x.f6, .int .i64 0, .int .i64 0]) (blk_put (cs := #[.string x.f0, .int .i64 x.f1, .int .i64 x.f2, .int .i64 x.f3.f0, .int .i64 x.f3.f1, .int .i64 x.f3.f2, .slice P6 x.f3.f3.length r6, .int .i64 x.f4, .int .i64 x.f5, .int .i64 0, .int .i64 0, .int .i64 0]) (blk_put (cs := #[.string x.f0, .int .i64 x.f1, .int .i64 x.f2, .int .i64 x.f3.f0, .int .i64 x.f3.f1, .int .i64 x.f3.f2, .slice P6 x.f3.f3.length r6, .int .i64 x.f4, .int .i64 0, .int .i64 0, .int .i64 0, .int .i64 0]) (blk_put (cs := #[.string x.f0, .int .i64 x.f1, .int .i64 x.f2, .int .i64 x.f3.f0, .int .i64 x.f3.f1, .int .i64 x.f3.f2, .slice P6 x.f3.f3.length r6, .int .i64 0, .int .i64 0, .int .i64 0, .int .i64 0, .int .i64 0]) (blk_put (cs := #[.string x.f0, .int .i64 x.f1, .int .i64 x.f2, .int .i64 x.f3.f0, .int .i64 x.f3.f1, .int .i64 x.f3.f2, .slice none 0 0, .int .i64 0, .int .i64 0, .int .i64 0, .int .i64 0, .int .i64 0]) (blk_put (cs := #[.string x.f0, .int .i64 x.f1, .int .i64 x.f2, .int .i64 x.f3.f0, .int .i64 x.f3.f1, .int .i64 0, .slice none 0 0, .int .i64 0, .int .i64 0, .int .i64 0, .int .i64 0, .int .i64 0]) (blk_put (cs := #[.string x.f0, .int .i64 x.f1, .int .i64 x.f2, .int .i64 x.f3.f0, .int .i64 0, .int .i64 0, .slice none 0 0, .int .i64 0, .int .i64 0, .int .i64 0, .int .i64 0, .int .i64 0]) (blk_put (cs := #[.string x.f0, .int .i64 x.f1, .int .i64 x.f2, .int .i64 0, .int .i64 0, .int .i64 0, .slice none 0 0, .int .i64 0, .int .i64 0, .int .i64 0, .int .i64 0, .int .i64 0]) (blk_put (cs := #[.string x.f0, .int .i64 x.f1, .int .i64 0, .int .i64 0, .int .i64 0, .int .i64 0, .slice none 0 0, .int .i64 0, .int .i64 0, .int .i64 0, .int .i64 0, .int .i64 0]) (blk_put (cs := #[.string x.f0, .int .i64 0, .int .i64 0, .int .i64 0, .int .i64 0, .int .i64 0, .slice none 0 0, .int .i64 0, .int .i64 0, .int .i64 0, .int .i64 0, .int .i64 0]) (blk_put BR.out 0 _ rfl) 1 _ rfl) 2 _ rfl) 3 _ rfl) 4 _ rfl) 5 _ rfl) 6 _ rfl) 7 _ rfl) 8 _ rfl) 9 _ rfl) 10 _ rfl) 11 _ rfl) Try.underlying54 rfl (by kernel_rfl)) rfl ?_
  exact ⟨_, rfl, Kd.S_mono (Kd.S_far (p := ⟨w.heap.size + 1, 11, none⟩) (Kd.S_far (p := ⟨w.heap.size + 1, 10, none⟩) (Kd.S_far (p := ⟨w.heap.size + 1, 9, none⟩) (Kd.S_far (p := ⟨w.heap.size + 1, 8, none⟩) (Kd.S_far (p := ⟨w.heap.size + 1, 7, none⟩) (Kd.S_far (p := ⟨w.heap.size + 1, 6, none⟩) (Kd.S_far (p := ⟨w.heap.size + 1, 5, none⟩) (Kd.S_far (p := ⟨w.heap.size + 1, 4, none⟩) (Kd.S_far (p := ⟨w.heap.size + 1, 3, none⟩) (Kd.S_far (p := ⟨w.heap.size + 1, 2, none⟩) (Kd.S_far (p := ⟨w.heap.size + 1, 1, none⟩) (Kd.S_far (p := ⟨w.heap.size + 1, 0, none⟩) HS6.out (fun k hk => Nat.ne_of_gt (Nat.lt_trans (Nat.lt_succ_self _) hk)) _) (fun k hk => Nat.ne_of_gt (Nat.lt_trans (Nat.lt_succ_self _) hk)) _) (fun k hk => Nat.ne_of_gt (Nat.lt_trans (Nat.lt_succ_self _) hk)) _) (fun k hk => Nat.ne_of_gt (Nat.lt_trans (Nat.lt_succ_self _) hk)) _) (fun k hk => Nat.ne_of_gt (Nat.lt_trans (Nat.lt_succ_self _) hk)) _) (fun k hk => Nat.ne_of_gt (Nat.lt_trans (Nat.lt_succ_self _) hk)) _) (fun k hk => Nat.ne_of_gt (Nat.lt_trans (Nat.lt_succ_self _) hk)) _) (fun k hk => Nat.ne_of_gt (Nat.lt_trans (Nat.lt_succ_self _) hk)) _) (fun k hk => Nat.ne_of_gt (Nat.lt_trans (Nat.lt_succ_self _) hk)) _) (fun k hk => Nat.ne_of_gt (Nat.lt_trans (Nat.lt_succ_self _) hk)) _) (fun k hk => Nat.ne_of_gt (Nat.lt_trans (Nat.lt_succ_self _) hk)) _) (fun k hk => Nat.ne_of_gt (Nat.lt_trans (Nat.lt_succ_self _) hk)) _) (fun _ _ => trivial), ((((((((((((HB.out.setCell (p := ⟨w.heap.size + 1, 0, none⟩) (by simp) _).setCell (p := ⟨w.heap.size + 1, 1, none⟩) (by simp) _).setCell (p := ⟨w.heap.size + 1, 2, none⟩) (by simp) _).setCell (p := ⟨w.heap.size + 1, 3, none⟩) (by simp) _).setCell (p := ⟨w.heap.size + 1, 4, none⟩) (by simp) _).setCell (p := ⟨w.heap.size + 1, 5, none⟩) (by simp) _).setCell (p := ⟨w.heap.size + 1, 6, none⟩) (by simp) _).setCell (p := ⟨w.heap.size + 1, 7, none⟩) (by simp) _).setCell (p := ⟨w.heap.size + 1, 8, none⟩) (by simp) _).setCell (p := ⟨w.heap.size + 1, 9, none⟩) (by simp) _).setCell (p := ⟨w.heap.size + 1, 10, none⟩) (by simp) _).setCell (p := ⟨w.heap.size + 1, 11, none⟩) (by simp) _)⟩
set_option maxHeartbeats 4000000 in
set_option maxRecDepth 100000 in
theorem toRuleS_any (A : Option Addr) (c : Nat) (l : List TRule) (w : World) (hx : cS cRule l ≤ 1048576) (hL : IsS kRule w l A c) :
    Calls Try.prog 6 #[.slice A l.length c] w fun e w' => ToL kRule 54 w w' l e := by
  have hll : l.length ≤ 1048576 := by have h : l.length + (l.map cRule).sum ≤ 1048576 := hx; omega
  have hn : (0 : Int) ≤ l.length := by omega
  have hlb : ((l.length : Int)).toNat * 120 ≤ 281474976710656 := by omega
  have HL := Aside0.mk hL
  have HXL := Aside0.mk hx
  clear hL hx
  go_enter Try.func6, Try.ntmps6
  go_wp2_with ((with_reducible refine gate_dst (N := 7) rfl ?_); refine Kd.S_make kRule (w0 := w) w.heap.size 54 rfl (N := 7) rfl 24 _ _ rfl (l.length : Int) rfl rfl Try.underlying24 (.agg #[.string ⟨#[]⟩, .int .i64 0, .int .i64 0, .int .i64 0, .int .i64 0, .int .i64 0, .slice none 0 0, .int .i64 0, .int .i64 0, .int .i64 0, .int .i64 0, .int .i64 0]) 120 infoRule rfl (by decide) (by omega) zRule (ok := fun _ => True) (okp := fun _ => True) (kRule_mkM w w.heap.size (fun _ => False) zRule (Kd.S_nil _ _ _ _ _)) (fun _ hk => hk) trivial hn hlb (Below.refl _ _) (Nat.le_refl _) ?_; intro v7 w7 hr7 hb7 hg7 _; simp only [Int.toNat_natCast] at hr7; have HR := Aside0.mk hr7; have HB := Aside0.mk hb7; clear hr7 hb7 hg7)
  clear hlb hn
  go_loopw [4] (fun vi wr => ∃ k : Nat, k ≤ l.length ∧ vi = .int .i64 k ∧ Aside0 (Kd.S kRule 54 wr w.heap.size (fun _ => True) v7 (l.take k ++ (List.replicate l.length zRule).drop k)) ∧ Aside0 (Below w.heap.size w wr)) (fun vi _ => l.length - (intOf vi).toNat)
  case atStart => exact ⟨0, Nat.zero_le _, rfl, by simpa using HR, HB⟩
  case round =>
    clear HR HB
    obtain ⟨k, hk, rfl, HR, HB⟩ := hrel
    by_cases hlt : k < l.length
    · have g1 : decide (k < l.length) = true := decide_eq_true hlt
      have i1 : (k : Int) < l.length := by omega
      have hlen : (l.take k ++ (List.replicate l.length zRule).drop k).length = l.length := by simp; omega
      have HSET := Aside0.mk (show (l.take k ++ (List.replicate l.length zRule).drop k).set ((k : Int)).toNat (l.getD k zRule) = l.take (k + 1) ++ (List.replicate l.length zRule).drop (k + 1) by
        rw [Int.toNat_natCast, mid_set _ _ _ _ (by rw [List.length_take]; omega) (by simpa using hlt), take_snoc l k zRule hlt])
      obtain ⟨g, cap, rfl, hgb, hgl, hG⟩ := Kd.S_form HR.out (by omega)
      rw [hlen] at HR ⊢
      obtain ⟨ad, A6_, c6_, rfl, y0_, y1_, y2_, y3_, y4_, y5_, y6_, y7_, y8_, y9_, y10_, y11_, j6_⟩ := atRule (HL.out.below HB.out) k hlt
      have helm : cRule (l.getD k zRule) ≤ 1048576 := by have h1 := sum_snoc cRule zRule l k hlt; have h2 := sum_le cRule l (k + 1); have h3 : l.length + (l.map cRule).sum ≤ 1048576 := HXL.out; omega
      generalize l.getD k zRule = o at y0_ y1_ y2_ y3_ y4_ y5_ y6_ y7_ y8_ y9_ y10_ y11_ j6_ HSET helm
      have HJ6 := Aside0.mk j6_
      have HWB := Aside0.mk HB.out.size
      clear j6_ hlen
      go_wp2_with (first
        | ((with_reducible refine gate_store (t := 54) (p := 21) rfl ?_); obtain ⟨oki, ce, hce1, hce2, hce3, hce4, hH⟩ := Kd.S_lend HR.out zRule (k : Int) (by omega) (by omega); refine Kd.H_store kRule (w0 := w) w.heap.size rfl rfl 54 _ _ rfl 54 (k : Int) 0 (l.take k ++ (List.replicate l.length zRule).drop k) o (.agg #[.string o.f0, .int .i64 o.f1, .int .i64 o.f2, .int .i64 o.f3.f0, .int .i64 o.f3.f1, .int .i64 o.f3.f2, .slice Q6 o.f3.f3.length u6, .int .i64 o.f4, .int .i64 o.f5, .int .i64 o.f6, .int .i64 o.f7, .int .i64 o.f8]) [.string o.f0, .int .i64 o.f1, .int .i64 o.f2, .int .i64 o.f3.f0, .int .i64 o.f3.f1, .int .i64 o.f3.f2, .slice Q6 o.f3.f3.length u6, .int .i64 o.f4, .int .i64 o.f5, .int .i64 o.f6, .int .i64 o.f7, .int .i64 o.f8] ce (fun _ => True) (fun j => oki j ∨ True ∧ wr.heap.size ≤ j) (fun j => wr.heap.size ≤ j) rfl (show k * 12 = ((k : Int)).toNat * 12 + 0 by simp) rfl rfl (by kernel_rfl) ?h1 (Kd.H_below (Kd.H_widen hH) HB4.out) (by omega) (by omega) (Nat.le_refl 12) ?hM (fun _ h => .inr ⟨trivial, h⟩) (below_then HB.out HB.out.size HB4.out) ?_; (case h1 => intro q hq; simp at hq; rcases hq with rfl | rfl | rfl | rfl | rfl | rfl | rfl | rfl | rfl | rfl | rfl | rfl <;> rfl); (case hM => rw [List.drop_of_length_le (by rw [hce1]; exact Nat.le_refl 12), List.append_nil]; exact kRule_mkM _ _ _ o (Kd.S_lower (Kd.S_mono (Kd.S_bound HC6.out) (fun j hj => hj.2.1)) HWB.out)); intro w5 hs5 hb5 _; rw [HSET.out] at hs5; have HS5 := Aside0.mk hs5; have HB5 := Aside0.mk hb5; clear hs5 hb5 hce1 hce2 hce3 hce4 hH)
        | (go_at_call 17; refine (toRule_any o A6_ c6_ _ helm HJ6.out).mono ?_; rintro e w4 ⟨v6, rfl, hc6, hb4⟩; obtain ⟨Q6, u6, rfl⟩ := Kd.S_slice hc6; have HC6 := Aside0.mk hc6; have HB4 := Aside0.mk hb4; clear hb4 hc6))
      go_roundw
      case rel => exact ⟨k + 1, by omega, by go_num, HS5, HB5⟩
      case measure => simp [intOf]; omega
    · have hke : k = l.length := by omega
      subst hke
      have g1 : decide (l.length < l.length) = false := decide_eq_false (by omega)
      have hR := HR.out
      rw [List.take_length, List.drop_of_length_le (by simp), List.append_nil] at hR
      have HR2 := Aside0.mk hR
      clear hR
      go_wp2
      go_ret
      exact ⟨v7, rfl, HR2.out, HB.out⟩
theorem infoEng : (Try.prog.info? 30).map (fun i => (i.zero, i.size, i.bytes)) = some (some (.agg #[.slice none 0 0, .slice none 0 0, .slice none 0 0, .slice none 0 0, .slice none 0 0]), 5, 120) := by kernel_rfl
def ToEng (w w' : World) (x : TEng) (r : Ending) : Prop := ∃ v0, ∃ v1, ∃ v2, ∃ v3, ∃ v4, ∃ o0, ∃ o1, ∃ o2, ∃ o3, ∃ o4, r = .returned (.agg #[v0, v1, v2, v3, v4]) ∧ Kd.S kRule 54 w' w.heap.size o0 v0 x.f0 ∧ Kd.S kGraph 48 w' w.heap.size o1 v1 x.f1 ∧ Kd.S kEv 82 w' w.heap.size o2 v2 x.f2 ∧ Kd.S (Kd.int .i64) 3 w' w.heap.size o3 v3 x.f3 ∧ Kd.S kFire 87 w' w.heap.size o4 v4 x.f4 ∧ Ap (fun k => w.heap.size ≤ k ∧ k < w'.heap.size) [o0, o1, o2, o3, o4] ∧ Below w.heap.size w w'
end Go.Proofs.Ytckblabkapeigaa.Kd2


/- What an expression must be: plain; the program's small functions, and its size. -/
import Derived.Test.YtckblabkapeigaaGreatNJd
set_option linter.unusedVariables false
set_option linter.unusedSimpArgs false
namespace Go.Proofs.YtckblabkapeigaaGreat.Jg
open Go.RowKit Go.Proofs.YtckblabkapeigaaGreatW.PrintWords Go.Proofs.YtckblabkapeigaaGreat.Ja Go.Proofs.YtckblabkapeigaaGreat.Jb Go.Proofs.YtckblabkapeigaaGreat.Jc Go.Proofs.YtckblabkapeigaaGreat.Jd

mutual
def deepX : Ex → Nat
 | .mk _ _ _ l => 1 + deepL l
def deepL : List Ex → Nat
 | [] => 0
 | x :: xs => max (deepX x) (deepL xs)
end
theorem deepX_eq (x : Ex) : deepX x = 1 + deepL x.f3 := by cases x; simp [deepX, Ex.f3]
theorem deepL_nil : deepL [] = 0 := by simp [deepL]
theorem deepL_cons (x : Ex) (xs : List Ex) : deepL (x :: xs) = max (1 + deepL x.f3) (deepL xs) := by rw [deepL, deepX_eq]
theorem deepL_append : ∀ (l m : List Ex), deepL (l ++ m) = max (deepL l) (deepL m)
 | [], m => by rw [deepL_nil]; simp
 | x :: xs, m => by rw [List.cons_append, deepL_cons, deepL_cons, deepL_append xs m]; omega
theorem deepL_snoc (l : List Ex) (i : Nat) (h : i < l.length) : deepL (l.take (i + 1)) = max (deepL (l.take i)) (1 + deepL (l.getD i zE).f3) := by
 rw [take_snoc l i zE h, deepL_append, deepL_cons, deepL_nil]; omega
theorem deepL_le_cnt : ∀ l : List Ex, deepL l ≤ cntL l
 | [] => by rw [deepL_nil]; exact Nat.zero_le _
 | x :: xs => by
  rw [deepL_cons, cntL_cons]
  have h1 := deepL_le_cnt x.f3
  have h2 := deepL_le_cnt xs
  omega
termination_by l => cntL l
decreasing_by
 ·rw [cntL_cons]; omega
 ·rw [cntL_cons]; omega
theorem deepL_mem {l : List Ex} {x : Ex} (h : x ∈ l) : 1 + deepL x.f3 ≤ deepL l := by
 induction l with
 | nil => simp at h
 | cons y ys ih =>
  rw [deepL_cons]
  rcases List.mem_cons.1 h with e | e
  ·subst e; omega
  ·have := ih e; omega
def kidsN (k : Int) : Int := if k = 1 then 0 else if k = 7 then 1 else if k ≤ 4 then 2 else 3
structure HeadOk (k s n : Int) (m : Nat) : Prop where
 kind : 1 ≤ k ∧ k ≤ 7
 kids : (m : Int) = kidsN k
 sym : 0 ≤ s ∧ s ≤ 4
 no : ¬ k = 1 → s = 0
 plus : k = 7 → 1 ≤ n ∧ n ≤ 20
 noN : ¬ k = 7 → n = 0
instance (k s n : Int) (m : Nat) : Decidable (HeadOk k s n m) :=
 if h : (1 ≤ k ∧ k ≤ 7) ∧ (m : Int) = kidsN k ∧ (0 ≤ s ∧ s ≤ 4) ∧ (¬ k = 1 → s = 0) ∧ (k = 7 → 1 ≤ n ∧ n ≤ 20) ∧ (¬ k = 7 → n = 0) then
  isTrue ⟨h.1, h.2.1, h.2.2.1, h.2.2.2.1, h.2.2.2.2.1, h.2.2.2.2.2⟩
 else isFalse (fun g => h ⟨g.kind, g.kids, g.sym, g.no, g.plus, g.noN⟩)
mutual
def formB : Ex → Bool
 | .mk k s n l => decide (HeadOk k s n l.length) && formL l
def formL : List Ex → Bool
 | [] => true
 | x :: xs => formB x && formL xs
end
theorem formB_eq (x : Ex) : formB x = (decide (HeadOk x.f0 x.f1 x.f2 x.f3.length) && formL x.f3) := by cases x; rw [formB]; rfl
theorem formL_nil : formL [] = true := by simp [formL]
theorem formL_cons (x : Ex) (xs : List Ex) : formL (x :: xs) = (formB x && formL xs) := by rw [formL]
theorem formL_all : ∀ l : List Ex, formL l = l.all formB
 | [] => by rw [formL_nil]; rfl
 | x :: xs => by rw [formL_cons, List.all_cons, formL_all xs]
theorem formL_any (l : List Ex) : (!(l.any (fun x => !formB x))) = formL l := by
 rw [formL_all]
 induction l with
 | nil => rfl
 | cons x xs ih => rw [List.any_cons, List.all_cons, ← ih]; cases formB x <;> simp
def okE (x : Ex) : Bool := decide (1 + cntL x.f3 ≤ 12) && decide (1 + deepL x.f3 ≤ 5) && formB x

/-! small -/
theorem isKind_any (k : Int) (w : World) : Calls Tryz.prog 125 #[.int .i64 k] w fun e w' => e = .returned (.bool (inb k 1 7)) ∧ w' = w := by
 go_enter Tryz.func125, Tryz.ntmps125
 go_wp2_with (go_at_call 54; refine (in_any k 1 7 _).mono ?_; rintro e w2 ⟨rfl, rfl⟩)
 go_ret
 exact ⟨rfl, rfl⟩
theorem isSym_any (k : Int) (w : World) : Calls Tryz.prog 107 #[.int .i64 k] w fun e w' => e = .returned (.bool (inb k 0 4)) ∧ w' = w := by
 go_enter Tryz.func107, Tryz.ntmps107
 go_wp2_with (go_at_call 54; refine (in_any k 0 4 _).mono ?_; rintro e w2 ⟨rfl, rfl⟩)
 go_ret
 exact ⟨rfl, rfl⟩
set_option maxHeartbeats 1000000 in
set_option maxRecDepth 100000 in
theorem kids_any (k : Int) (h1 : 1 ≤ k) (h2 : k ≤ 7) (w : World) : Calls Tryz.prog 126 #[.int .i64 k] w fun e w' => e = .returned (.int .i64 (kidsN k)) ∧ Below w.heap.size w w' := by
 have hb := below_alloc (Below.refl w.heap.size w) (.cells #[.int .i64 0, .int .i64 0, .int .i64 2, .int .i64 2, .int .i64 2, .int .i64 3, .int .i64 3, .int .i64 1] 3)
 rcases (show k = 1 ∨ k = 2 ∨ k = 3 ∨ k = 4 ∨ k = 5 ∨ k = 6 ∨ k = 7 by omega) with rfl | rfl | rfl | rfl | rfl | rfl | rfl
 all_goals
  go_enter Tryz.func126, Tryz.ntmps126
  go_wp2
  go_ret
  exact ⟨rfl, by repeat (first | exact Below.refl _ _ | apply below_alloc)⟩

/-! how many, how deep -/
def SizeOut (w w' : World) (l : List Ex) (e : Ending) : Prop := e = .returned (.tuple #[.int .i64 (1 + (cntL l : Int)), .int .i64 (1 + (deepL l : Int))]) ∧ Below w.heap.size w w'
set_option maxHeartbeats 1000000 in
set_option maxRecDepth 100000 in
theorem size_of (f0 f1 f2 : Int) (A : Option Addr) (c : Nat) (l : List Ex) (w : World) (hc : cntL l ≤ 1048576) (hL : IsEL 50 w l A c)
  (hE : ∀ x, x ∈ l → ∀ A c w', IsEL 50 w' x.f3 A c → Calls Tryz.prog 123 #[X x.f0 x.f1 x.f2 A x.f3.length c] w' fun e w'' => SizeOut w' w'' x.f3 e) :
  Calls Tryz.prog 123 #[X f0 f1 f2 A l.length c] w fun e w' => SizeOut w w' l e := by
 have hbx := box4 w (.int .i64 f0) (.int .i64 f1) (.int .i64 f2) (.slice A l.length c) 50
 have hx3 := hbx.2.2.2.2
 have HX := Aside0.mk hbx.1
 have hn := hL.len
 have HL := Aside0.mk hL
 have HE := Aside0.mk hE
 have hll := len_le_cnt l
 clear hbx hL hE
 go_enter Tryz.func123, Tryz.ntmps123
 go_wp2
 go_loopw [4, 5, 13] (fun vm vd vi wr => ∃ (k : Nat) (m d : Int), k ≤ l.length ∧ vi = .int .i64 k ∧ vm = .int .i64 m ∧ vd = .int .i64 d ∧ Aside0 (m = 1 + (cntL (l.take k) : Int)) ∧ Aside0 (d = 1 + (deepL (l.take k) : Int)) ∧ Aside0 (Below w.heap.size w wr)) (fun _ _ vi _ => l.length - (intOf vi).toNat)
 case atStart => exact ⟨0, 1, 1, Nat.zero_le _, rfl, rfl, rfl, ⟨by simp [cntL_nil]⟩, ⟨by simp [deepL_nil]⟩, HX⟩
 case round =>
  clear HX hx3
  obtain ⟨k, m, d, hk, rfl, rfl, rfl, HM, HD, HB⟩ := hrel
  by_cases hlt : k < l.length
  ·have g1 : decide (k < l.length) = true := decide_eq_true hlt
   have i1 : (k : Int) < l.length := by omega
   obtain ⟨ad, A3, c3, rfl, pa, pb, pc, pd, pL⟩ := atE (HL.out.below HB.out) k hlt
   have HQ := Aside0.mk (HE.out _ (getE_mem hlt))
   have hc1 := cntL_snoc l k hlt
   have hc2 := cntL_take_le l (k + 1)
   have hd1 := deepL_snoc l k hlt
   have hd2 := deepL_le_cnt (l.take (k + 1))
   generalize l.getD k zE = o at pa pb pc pd pL HQ hc1 hd1
   have hm := HM.out
   have hd := HD.out
   have HPL := Aside0.mk pL
   obtain ⟨r, hr⟩ : ∃ r : Int, r = 1 + (cntL o.f3 : Int) := ⟨_, rfl⟩
   obtain ⟨t, ht⟩ : ∃ t : Int, t = 1 + (deepL o.f3 : Int) := ⟨_, rfl⟩
   have HR := Aside0.mk hr
   have HT := Aside0.mk ht
   have b1 : 0 ≤ r ∧ 0 ≤ m ∧ m + r ≤ 1048577 := by omega
   have b2 : 0 ≤ t ∧ 0 ≤ d ∧ t + 1 ≤ 1048578 := by omega
   have HM2 : Aside0 (m + r = 1 + (cntL (l.take (k + 1)) : Int)) := ⟨by omega⟩
   have HB0 := Aside0.mk (box4 wr (.int .i64 o.f0) (.int .i64 o.f1) (.int .i64 o.f2) (.slice A3 o.f3.length c3) 50).1
   obtain ⟨b1a, b1b, b1c⟩ := b1
   obtain ⟨b2a, b2b, b2c⟩ := b2
   clear pL HM HD hm hr
   by_cases hmx : d < t + 1
   ·have q1 : decide (d < t + 1) = true := decide_eq_true hmx
    have HD2 : Aside0 (t + 1 = 1 + (deepL (l.take (k + 1)) : Int)) := ⟨by omega⟩
    have hmm : max d (t + 1) = t + 1 := by omega
    clear hc1 hc2 hd1 hd2 hd ht hmx
    go_wp2_with (go_at_call 123; refine (HQ.out A3 c3 _ (HPL.out.below HB0.out)).mono ?_; rintro e w2 ⟨rfl, hb2⟩; rw [← HR.out, ← HT.out]; have HB2 := Aside0.mk (below_then HB.out HB.out.size (below_then HB0.out HB0.out.size hb2)); clear hb2)
    go_roundw
    case rel => exact ⟨k + 1, m + r, t + 1, by omega, by go_num, by go_num, by go_num, HM2, HD2, HB2⟩
    case measure => simp [intOf]; omega
   ·have q1 : decide (d < t + 1) = false := decide_eq_false hmx
    have HD2 : Aside0 (d = 1 + (deepL (l.take (k + 1)) : Int)) := ⟨by omega⟩
    have hmm : max d (t + 1) = d := by omega
    clear hc1 hc2 hd1 hd2 hd ht hmx
    go_wp2_with (go_at_call 123; refine (HQ.out A3 c3 _ (HPL.out.below HB0.out)).mono ?_; rintro e w2 ⟨rfl, hb2⟩; rw [← HR.out, ← HT.out]; have HB2 := Aside0.mk (below_then HB.out HB.out.size (below_then HB0.out HB0.out.size hb2)); clear hb2)
    go_roundw
    case rel => exact ⟨k + 1, m + r, d, by omega, by go_num, by go_num, by go_num, HM2, HD2, HB2⟩
    case measure => simp [intOf]; omega
  ·have hke : k = l.length := by omega
   subst hke
   have g1 : decide (l.length < l.length) = false := decide_eq_false (by omega)
   have hm := HM.out
   have hd := HD.out
   rw [List.take_length] at hm hd
   have HM2 := Aside0.mk hm
   have HD2 := Aside0.mk hd
   clear hm hd HM HD
   go_wp2
   go_ret2
   exact ⟨by (rw [HM2.out, HD2.out]; try rfl), HB.out⟩
theorem size_any (f0 f1 f2 : Int) (l : List Ex) (A : Option Addr) (c : Nat) (w : World) (hc : cntL l ≤ 1048576) (hL : IsEL 50 w l A c) : Calls Tryz.prog 123 #[X f0 f1 f2 A l.length c] w fun e w' => SizeOut w w' l e :=
 size_of f0 f1 f2 A c l w hc hL (fun x hx A2 c2 w2 h2 =>
  have := cnt_mem hx
  size_any x.f0 x.f1 x.f2 x.f3 A2 c2 w2 (by omega) h2)
termination_by cntL l
end Go.Proofs.YtckblabkapeigaaGreat.Jg

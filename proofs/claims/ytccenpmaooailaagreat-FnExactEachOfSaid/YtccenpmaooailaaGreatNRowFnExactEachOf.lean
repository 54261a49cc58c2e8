
/- EachOf of the program returns, for all arguments, what the reference's returns; it leaves its arguments as they were, and what it returns shares no memory with them nor with what another call returns. Conditions: none beyond those of the given statement. -/
import Derived.Test.YtccenpmaooailaaGreatRows
import Derived.Test.YtccenpmaooailaaGreatNEq
import Derived.WalkKit
import Derived.ProofKit
import Derived.OpenShut
import Derived.ShutString
import Derived.ChangeOld
import Derived.Below
import Derived.SizedLaws
namespace Go.Proofs.YtccenpmaooailaaGreat.fnExactEachOf
open Go.Proofs.YtccenpmaooailaaGreatW.PrintWords Go.Proofs.YtccenpmaooailaaGreat.Wd
open Go.Proofs.YtccenpmaooailaaGreat.Pu Go.Proofs.YtccenpmaooailaaGreat.Cf
open Go.ChangeShapes Go.WideShapes Go.ChangeAt Go.RowKit
set_option linter.unusedVariables false
theorem own : ownKnob Tryz.prog.godebug = none := by kernel_rfl
theorem laidOut : laidOutB Tryz.prog = true := by kernel_rfl
theorem opn_occ {H : Type} (enc : TypeId × Value → H) (w : World) (base : Nat) (spare : Nat → Bool) (held : Bool) : ∃ ok, Opn enc Tryz.prog w base spare held 82 kO ok := by
  have hi := fun (t : TypeId) h => opn_int (enc := enc) (P := Tryz.prog) (w := w) (base := base) (spare := spare) (held := held) (t := t) (k := .i64) h
  exact ⟨_, opn_iso (f := fun x : Occ => (x.f0, x.f1, x.f2)) (g := fun p => ⟨p.1, p.2.1, p.2.2⟩) (fun _ => rfl) (opn_struct Tryz.underlying82 (by kernel_rfl) (opn_cons (by kernel_rfl) (by kernel_rfl) (hi _ Tryz.underlying3) (opn_cons (by kernel_rfl) (by kernel_rfl) (hi _ Tryz.underlying3) (opn_last (by kernel_rfl) (by kernel_rfl) (opn_slice (e := 3) (e0 := 3) Tryz.underlying41 (by kernel_rfl) (hi _ Tryz.underlying3))))))⟩
theorem opn_occs {H : Type} (enc : TypeId × Value → H) (w : World) (base : Nat) (spare : Nat → Bool) (held : Bool) : ∃ ok, Opn enc Tryz.prog w base spare held 50 (Kd.slice 82 kO) ok := by
  obtain ⟨ok, h⟩ := opn_occ enc w base spare held
  exact ⟨_, opn_slice (e := 82) (e0 := 82) Tryz.underlying50 (by kernel_rfl) h⟩
set_option maxRecDepth 100000 in
theorem lifted (os : Os) (started : os.Started) (H : Type) (enc : TypeId × Value → H) :
    ReturnsInHanded {} Tryz.checked os 9 .any (Rows.fnExactEachOfSpec.pre6 enc Tryz.prog Tryz.f9 Rows.fnExactEachOfRow.domain false) (Rows.fnExactEachOfSpec.post enc Tryz.prog Tryz.f9 false true false false) := by
  refine returnsInHanded_of_change_sized (C := Tryz.checked) own started (by kernel_rfl) Tryz.func9
    (ChangeSpec.witness6 (enc := enc) (C := Tryz.checked) false ⟨#[], #[.int .i64 0, .slice none 0 0, .slice none 0 0, .slice none 0 0], []⟩ 8 (by kernel_rfl) (by kernel_rfl) (by kernel_rfl) (by kernel_rfl)) ?_
  intro W base args ds gs before hval0 hW hcnd hsz0 _
  have hW' := hW
  obtain ⟨p, q, hA0, hV, rfl, hfz, hnd⟩ := hW
  have hA : DataW.TrodAll enc Tryz.prog W 0 (fun _ => true) true Tryz.f9.params.toList args.toList ds p := hA0
  rw [Tryz.params9] at hA
  obtain ⟨v0, vs0, d0, ds0, p0, q0, hargs, rfl, rfl, h0, r0⟩ := trodAll_cons hA
  obtain ⟨v1, vs1, d1, ds1, p1, q1, rfl, rfl, rfl, h1, r1⟩ := trodAll_cons r0
  obtain ⟨v2, vs2, d2, ds2, p2, q2, rfl, rfl, rfl, h2, r2⟩ := trodAll_cons r1
  obtain ⟨v3, vs3, d3, ds3, p3, q3, rfl, rfl, rfl, h3, r3⟩ := trodAll_cons r2
  obtain ⟨rfl, rfl, rfl⟩ := trodAll_nil r3
  obtain rfl : args = #[v0, v1, v2, v3] := by cases args; simp_all
  obtain ⟨rfl, rfl⟩ := trodVars_none hV
  have k0 := h0
  have lt0 : ∀ x ∈ p0, x.block < W.heap.size := by obtain ⟨m, hm⟩ := k0; exact DataW.trod_lt m _ _ _ hm
  obtain ⟨fuel0, hf0⟩ := h0
  have k1 := h1
  have lt1 : ∀ x ∈ p1, x.block < W.heap.size := by obtain ⟨m, hm⟩ := k1; exact DataW.trod_lt m _ _ _ hm
  obtain ⟨fuel1, hf1⟩ := h1
  have k2 := h2
  have lt2 : ∀ x ∈ p2, x.block < W.heap.size := by obtain ⟨m, hm⟩ := k2; exact DataW.trod_lt m _ _ _ hm
  obtain ⟨fuel2, hf2⟩ := h2
  have k3 := h3
  have lt3 : ∀ x ∈ p3, x.block < W.heap.size := by obtain ⟨m, hm⟩ := k3; exact DataW.trod_lt m _ _ _ hm
  obtain ⟨fuel3, hf3⟩ := h3
  have hval : ∀ (j : Nat) t v, Tryz.f9.params[j]? = some t → #[v0, v1, v2, v3][j]? = some v → Value.okWide Tryz.prog W .any base t v := hval0
  obtain ⟨n0, rfl⟩ := okWide_int Tryz.underlying3 (hval 0 3 v0 (by rw [Tryz.params9]; rfl) rfl)
  obtain ⟨ok1, hopn1⟩ := opn_occs enc W 0 (fun _ => true) true
  obtain ⟨z1, ⟨A1, c1, hcs1, hl1, hC1⟩, _⟩ := hopn1 _ _ _ hf1
  obtain ⟨a1, len1, cap1, rfl⟩ := okWide_slice Tryz.underlying50 (hval 1 50 v1 (by rw [Tryz.params9]; rfl) rfl)
  simp [Value.cells] at hcs1
  obtain ⟨rfl, rfl, rfl⟩ := hcs1
  obtain ⟨ok2, hopn2⟩ := opn_occs enc W 0 (fun _ => true) true
  obtain ⟨z2, ⟨A2, c2, hcs2, hl2, hC2⟩, _⟩ := hopn2 _ _ _ hf2
  obtain ⟨a2, len2, cap2, rfl⟩ := okWide_slice Tryz.underlying50 (hval 2 50 v2 (by rw [Tryz.params9]; rfl) rfl)
  simp [Value.cells] at hcs2
  obtain ⟨rfl, rfl, rfl⟩ := hcs2
  obtain ⟨ok3, hopn3⟩ := opn_occs enc W 0 (fun _ => true) true
  obtain ⟨z3, ⟨A3, c3, hcs3, hl3, hC3⟩, _⟩ := hopn3 _ _ _ hf3
  obtain ⟨a3, len3, cap3, rfl⟩ := okWide_slice Tryz.underlying50 (hval 3 50 v3 (by rw [Tryz.params9]; rfl) rfl)
  simp [Value.cells] at hcs3
  obtain ⟨rfl, rfl, rfl⟩ := hcs3
  clear hA0 hval0 hsz0
  refine (Eq.walk n0 a1 a2 a3 cap1 cap2 cap3 z1 z2 z3 W ⟨hl1, hC1⟩ ⟨hl2, hC2⟩ ⟨hl3, hC3⟩).mono fun e W' ⟨he, bel⟩ => ?_
  subst he
  exact ⟨_, rfl, _, _, _, [], _, [], hW', trodAll_mk1 (shut_bool Tryz.underlying4 _), (trodAll_cons_mk (Below.trod laidOut (by kernel_rfl) (of_decide_eq_true (by kernel_rfl)) k0 bel lt0) (trodAll_cons_mk (Below.trod laidOut (by kernel_rfl) (of_decide_eq_true (by kernel_rfl)) k1 bel lt1) (trodAll_cons_mk (Below.trod laidOut (by kernel_rfl) (of_decide_eq_true (by kernel_rfl)) k2 bel lt2) (trodAll_cons_mk (Below.trod laidOut (by kernel_rfl) (of_decide_eq_true (by kernel_rfl)) k3 bel lt3) trodAll_mk0)))), rfl, bel.frame _, fun h => by cases h⟩
theorem over : Rows.fnExactEachOfRow.holds Tryz.pinned (OpenSpec.ofChange Rows.fnExactEachOfSpec) :=
  OpenClaim.holds_of_wide 9 Tryz.f9 rfl rfl rfl rfl rfl rfl rfl ⟨rfl, rfl, rfl, rfl, rfl⟩ rfl rfl rfl rfl rfl (by kernel_rfl) Tryz.func9 (by kernel_rfl)
    (of_decide_eq_true (by kernel_rfl)) (by unfold Func.isWrapper; first | (rw [if_pos (by decide +kernel)]; kernel_rfl) | (rw [if_neg (by decide +kernel)]; exact ⟨rfl, rfl⟩))
    (fun os started H enc _ => lifted os started H enc)
theorem proved : Rows.FnExactEachOfSaid := over
#print axioms proved
end Go.Proofs.YtccenpmaooailaaGreat.fnExactEachOf
namespace Go.Proofs.YtccenpmaooailaaGreat
/-- The row, under a short name, for the claim. -/
theorem fnExactEachOf_holds : Rows.FnExactEachOfSaid := fnExactEachOf.proved
end Go.Proofs.YtccenpmaooailaaGreat

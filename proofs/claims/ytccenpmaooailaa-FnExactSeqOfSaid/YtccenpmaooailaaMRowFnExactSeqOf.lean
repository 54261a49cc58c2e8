
/- SeqOf of the program returns, for all arguments, what the reference's returns; it leaves its arguments as they were, and what it returns shares no memory with them nor with what another call returns. Conditions: none beyond those of the given statement. -/
import Derived.Test.YtccenpmaooailaaRows
import Derived.Test.YtccenpmaooailaaMEm
import Derived.WalkKit
import Derived.ProofKit
import Derived.OpenShut
import Derived.ShutString
import Derived.ChangeOld
import Derived.Below
import Derived.SizedLaws
namespace Go.Proofs.Ytccenpmaooailaa.fnExactSeqOf
open Go.Proofs.YtccenpmaooailaaW.PrintWords Go.Proofs.Ytccenpmaooailaa.Wd
open Go.Proofs.Ytccenpmaooailaa.Pu Go.Proofs.Ytccenpmaooailaa.Cf
open Go.ChangeShapes Go.WideShapes Go.ChangeAt Go.RowKit
set_option linter.unusedVariables false
theorem own : ownKnob Try.prog.godebug = none := by kernel_rfl
theorem laidOut : laidOutB Try.prog = true := by kernel_rfl
theorem opn_occ {H : Type} (enc : TypeId × Value → H) (w : World) (base : Nat) (spare : Nat → Bool) (held : Bool) : ∃ ok, Opn enc Try.prog w base spare held 61 kO ok := by
  have hi := fun (t : TypeId) h => opn_int (enc := enc) (P := Try.prog) (w := w) (base := base) (spare := spare) (held := held) (t := t) (k := .i64) h
  exact ⟨_, opn_iso (f := fun x : Occ => (x.f0, x.f1, x.f2)) (g := fun p => ⟨p.1, p.2.1, p.2.2⟩) (fun _ => rfl) (opn_struct Try.underlying61 (by kernel_rfl) (opn_cons (by kernel_rfl) (by kernel_rfl) (hi _ Try.underlying3) (opn_cons (by kernel_rfl) (by kernel_rfl) (hi _ Try.underlying3) (opn_last (by kernel_rfl) (by kernel_rfl) (opn_slice (e := 3) (e0 := 3) Try.underlying59 (by kernel_rfl) (hi _ Try.underlying3))))))⟩
theorem opn_occs {H : Type} (enc : TypeId × Value → H) (w : World) (base : Nat) (spare : Nat → Bool) (held : Bool) : ∃ ok, Opn enc Try.prog w base spare held 22 (Kd.slice 61 kO) ok := by
  obtain ⟨ok, h⟩ := opn_occ enc w base spare held
  exact ⟨_, opn_slice (e := 61) (e0 := 61) Try.underlying22 (by kernel_rfl) h⟩
set_option maxRecDepth 100000 in
theorem lifted (os : Os) (started : os.Started) (H : Type) (enc : TypeId × Value → H) :
    ReturnsInHanded {} Try.checked os 5 .any (Rows.fnExactSeqOfSpec.pre6 enc Try.prog Try.f5 Rows.fnExactSeqOfRow.domain false) (Rows.fnExactSeqOfSpec.post enc Try.prog Try.f5 false true false false) := by
  refine returnsInHanded_of_change_sized (C := Try.checked) own started (by kernel_rfl) Try.func5
    (ChangeSpec.witness6 (enc := enc) (C := Try.checked) false ⟨#[], #[.int .i64 0, .slice none 0 0, .slice none 0 0], []⟩ 8 (by kernel_rfl) (by kernel_rfl) (by kernel_rfl) (by kernel_rfl)) ?_
  intro W base args ds gs before hval0 hW hcnd hsz0 _
  have hW' := hW
  obtain ⟨p, q, hA0, hV, rfl, hfz, hnd⟩ := hW
  have hA : DataW.TrodAll enc Try.prog W 0 (fun _ => true) true Try.f5.params.toList args.toList ds p := hA0
  rw [Try.params5] at hA
  obtain ⟨v0, vs0, d0, ds0, p0, q0, hargs, rfl, rfl, h0, r0⟩ := trodAll_cons hA
  obtain ⟨v1, vs1, d1, ds1, p1, q1, rfl, rfl, rfl, h1, r1⟩ := trodAll_cons r0
  obtain ⟨v2, vs2, d2, ds2, p2, q2, rfl, rfl, rfl, h2, r2⟩ := trodAll_cons r1
  obtain ⟨rfl, rfl, rfl⟩ := trodAll_nil r2
  obtain rfl : args = #[v0, v1, v2] := by cases args; simp_all
  obtain ⟨rfl, rfl⟩ := trodVars_none hV
  have k0 := h0
  have lt0 : ∀ x ∈ p0, x.block < W.heap.size := by obtain ⟨m, hm⟩ := k0; exact DataW.trod_lt m _ _ _ hm
  obtain ⟨fuel0, hf0⟩ := h0
  have k1 := h1
  have lt1 : ∀ x ∈ p1, x.block < W.heap.size := by obtain ⟨m, hm⟩ := k1; exact DataW.trod_lt m _ _ _ hm
  obtain ⟨fuel1, hf1⟩ := h1
  have k2 := h2
  have lt2 : ∀ x ∈ p2, x.block < W.heap.size := by obtain ⟨m, hm⟩ := k2; exact DataW.trod_lt m _ _ _ hm
  obtain ⟨fuel2, hf2⟩ := h2
  have hval : ∀ (j : Nat) t v, Try.f5.params[j]? = some t → #[v0, v1, v2][j]? = some v → Value.okWide Try.prog W .any base t v := hval0
  obtain ⟨n0, rfl⟩ := okWide_int Try.underlying3 (hval 0 3 v0 (by rw [Try.params5]; rfl) rfl)
  obtain ⟨ok1, hopn1⟩ := opn_occs enc W 0 (fun _ => true) true
  obtain ⟨z1, ⟨A1, c1, hcs1, hl1, hC1⟩, _⟩ := hopn1 _ _ _ hf1
  obtain ⟨a1, len1, cap1, rfl⟩ := okWide_slice Try.underlying22 (hval 1 22 v1 (by rw [Try.params5]; rfl) rfl)
  simp [Value.cells] at hcs1
  obtain ⟨rfl, rfl, rfl⟩ := hcs1
  obtain ⟨ok2, hopn2⟩ := opn_occs enc W 0 (fun _ => true) true
  obtain ⟨z2, ⟨A2, c2, hcs2, hl2, hC2⟩, _⟩ := hopn2 _ _ _ hf2
  obtain ⟨a2, len2, cap2, rfl⟩ := okWide_slice Try.underlying22 (hval 2 22 v2 (by rw [Try.params5]; rfl) rfl)
  simp [Value.cells] at hcs2
  obtain ⟨rfl, rfl, rfl⟩ := hcs2
  clear hA0 hval0 hsz0
  refine (Em.walk n0 a1 a2 cap1 cap2 z1 z2 W ⟨hl1, hC1⟩ ⟨hl2, hC2⟩).mono fun e W' ⟨he, bel⟩ => ?_
  subst he
  exact ⟨_, rfl, _, _, _, [], _, [], hW', trodAll_mk1 (shut_bool Try.underlying4 _), (trodAll_cons_mk (Below.trod laidOut (by kernel_rfl) (of_decide_eq_true (by kernel_rfl)) k0 bel lt0) (trodAll_cons_mk (Below.trod laidOut (by kernel_rfl) (of_decide_eq_true (by kernel_rfl)) k1 bel lt1) (trodAll_cons_mk (Below.trod laidOut (by kernel_rfl) (of_decide_eq_true (by kernel_rfl)) k2 bel lt2) trodAll_mk0))), rfl, bel.frame _, fun h => by cases h⟩
theorem over : Rows.fnExactSeqOfRow.holds Try.pinned (OpenSpec.ofChange Rows.fnExactSeqOfSpec) :=
  OpenClaim.holds_of_wide 5 Try.f5 rfl rfl rfl rfl rfl rfl rfl ⟨rfl, rfl, rfl, rfl, rfl⟩ rfl rfl rfl rfl rfl (by kernel_rfl) Try.func5 (by kernel_rfl)
    (of_decide_eq_true (by kernel_rfl)) (by unfold Func.isWrapper; first | (rw [if_pos (by decide +kernel)]; kernel_rfl) | (rw [if_neg (by decide +kernel)]; exact ⟨rfl, rfl⟩))
    (fun os started H enc _ => lifted os started H enc)
theorem proved : Rows.FnExactSeqOfSaid := over
#print axioms proved
end Go.Proofs.Ytccenpmaooailaa.fnExactSeqOf
namespace Go.Proofs.Ytccenpmaooailaa
/-- The row, under a short name, for the claim. -/
theorem fnExactSeqOf_holds : Rows.FnExactSeqOfSaid := fnExactSeqOf.proved
end Go.Proofs.Ytccenpmaooailaa

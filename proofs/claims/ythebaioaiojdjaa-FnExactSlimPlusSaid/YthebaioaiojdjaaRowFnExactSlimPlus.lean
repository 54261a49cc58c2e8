
/- The program's SlimPlus returns what the reference's returns, for all arguments Conditions: none beyond those of the given statement. -/
import Derived.Test.YthebaioaiojdjaaRows
import Derived.Test.YthebaioaiojdjaaJm
import Derived.WalkKit
import Derived.ProofKit
import Derived.OpenShut
import Derived.ShutString
import Derived.ChangeOld
import Derived.Below
import Derived.SizedLaws
namespace Go.Proofs.Ythebaioaiojdjaa.fnExactSlimPlus
open Go.Proofs.YthebaioaiojdjaaW.PrintWords Go.Proofs.Ythebaioaiojdjaa.Ja Go.Proofs.Ythebaioaiojdjaa.Jb Go.Proofs.Ythebaioaiojdjaa.Jc
open Go.ChangeShapes Go.WideShapes Go.ChangeAt Go.RowKit
set_option linter.unusedVariables false
theorem own : ownKnob Try.prog.godebug = none := by kernel_rfl
theorem laidOut : laidOutB Try.prog = true := by kernel_rfl
theorem opn_E {H : Type} (enc : TypeId × Value → H) (w : World) (base : Nat) (spare : Nat → Bool) (held : Bool) : ∀ N, OpnB enc Try.prog w base spare held N 24 (kU 28 N)
  | 0 => fun fuel cs x h => absurd h (Nat.not_lt_zero _)
  | N + 1 => by
    have hi := OpnB.of (N := N) (opn_int (enc := enc) (P := Try.prog) (w := w) (base := base) (spare := spare) (held := held) (t := 3) (k := .i64) Try.underlying3)
    have hs : OpnB enc Try.prog w base spare held N 22 (sliceS 28 (kU 28 N)) := opnB_slice (e0 := 28) Try.underlying22 ((show Try.prog.cellsOf 24 = 4 by kernel_rfl).trans (kU_sz _ N).symm) (opn_E enc w base spare held N)
    exact opnB_iso (f := fun x : Ex => (x.f0, x.f1, x.f2, x.f3)) (g := fun p => .mk p.1 p.2.1 p.2.2.1 p.2.2.2) (fun _ => rfl) (opnB_struct Try.underlying24 (by kernel_rfl) (opnB_cons (by kernel_rfl) (by kernel_rfl) hi (opnB_cons (by kernel_rfl) (by kernel_rfl) hi (opnB_cons (by kernel_rfl) (by kernel_rfl) hi (opnB_last (by kernel_rfl) (by kernel_rfl) hs)))))
set_option maxRecDepth 100000 in
theorem lifted (os : Os) (started : os.Started) (H : Type) (enc : TypeId × Value → H) :
    ReturnsInHanded {} Try.checked os 3 .any (Rows.fnExactSlimPlusSpec.pre6 enc Try.prog Try.f3 Rows.fnExactSlimPlusRow.domain false) (Rows.fnExactSlimPlusSpec.post enc Try.prog Try.f3 false true false false) := by
  refine returnsInHanded_of_change_sized (C := Try.checked) own started (by kernel_rfl) Try.func3
    (ChangeSpec.witness6 (enc := enc) (C := Try.checked) false ⟨#[], #[.agg #[.int .i64 0, .int .i64 0, .int .i64 0, .slice none 0 0]], []⟩ 8 (by kernel_rfl) (by kernel_rfl) (by kernel_rfl) (by kernel_rfl)) ?_
  intro W base args ds gs before hval0 hW hcnd hsz0 _
  have hW' := hW
  obtain ⟨p, q, hA0, hV, rfl, hfz, hnd⟩ := hW
  have hA : DataW.TrodAll enc Try.prog W 0 (fun _ => true) true Try.f3.params.toList args.toList ds p := hA0
  rw [Try.params3] at hA
  obtain ⟨v0, vs0, d0, ds0, p0, q0, hargs, rfl, rfl, h0, r0⟩ := trodAll_cons hA
  obtain ⟨rfl, rfl, rfl⟩ := trodAll_nil r0
  obtain rfl : args = #[v0] := by cases args; simp_all
  obtain ⟨rfl, rfl⟩ := trodVars_none hV
  have k0 := h0
  have lt0 : ∀ x ∈ p0, x.block < W.heap.size := by obtain ⟨m, hm⟩ := k0; exact DataW.trod_lt m _ _ _ hm
  obtain ⟨fuel, hf⟩ := h0
  obtain ⟨o0, hKn⟩ := opn_E enc W 0 (fun _ => true) true _ fuel _ _ (Nat.lt_succ_self _) hf
  obtain ⟨A, c, hcs, hlc, hC⟩ := kE_open (t := 28) (x := o0) ⟨_, hKn⟩
  have hval : ∀ (j : Nat) t v, Try.f3.params[j]? = some t → #[v0][j]? = some v → Value.okWide Try.prog W .any base t v := hval0
  obtain ⟨cs0, rfl, _⟩ := okWide_struct Try.underlying24 (hval 0 24 v0 (by rw [Try.params3]; rfl) rfl)
  obtain rfl : cs0 = #[.int .i64 o0.f0, .int .i64 o0.f1, .int .i64 o0.f2, .slice A o0.f3.length c] := by
    have h : cs0.toList = _ := hcs
    cases cs0; simpa using h
  clear hA0 hval0 hsz0
  refine (Jm.walk o0 A c W ⟨hlc, hC⟩).mono fun e W' ⟨he, bel⟩ => ?_
  subst he
  exact ⟨_, rfl, _, _, _, [], _, [], hW', trodAll_mk1 (shut_bool Try.underlying4 _), (trodAll_cons_mk (Below.trod laidOut (by kernel_rfl) (of_decide_eq_true (by kernel_rfl)) k0 bel lt0) trodAll_mk0), rfl, bel.frame _, fun h => by cases h⟩
theorem over : Rows.fnExactSlimPlusRow.holds Try.pinned (OpenSpec.ofChange Rows.fnExactSlimPlusSpec) :=
  OpenClaim.holds_of_wide 3 Try.f3 rfl rfl rfl rfl rfl rfl rfl ⟨rfl, rfl, rfl, rfl, rfl⟩ rfl rfl rfl rfl rfl (by kernel_rfl) Try.func3 (by kernel_rfl)
    (of_decide_eq_true (by kernel_rfl)) (by unfold Func.isWrapper; first | (rw [if_pos (by decide +kernel)]; kernel_rfl) | (rw [if_neg (by decide +kernel)]; exact ⟨rfl, rfl⟩))
    (fun os started H enc _ => lifted os started H enc)
theorem proved : Rows.FnExactSlimPlusSaid := over
#print axioms proved
end Go.Proofs.Ythebaioaiojdjaa.fnExactSlimPlus
namespace Go.Proofs.Ythebaioaiojdjaa
/-- The row, under a short name, for the claim. -/
theorem fnExactSlimPlus_holds : Rows.FnExactSlimPlusSaid := fnExactSlimPlus.proved
end Go.Proofs.Ythebaioaiojdjaa

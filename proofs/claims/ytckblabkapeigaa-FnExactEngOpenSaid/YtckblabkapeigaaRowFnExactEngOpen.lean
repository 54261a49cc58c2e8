
/- For all rules the program opens the engine that the reference opens, leaves its argument alone, and what it gives is its own. Conditions: none beyond those of the given statement. -/
import Derived.Test.YtckblabkapeigaaRows
import Derived.Test.YtckblabkapeigaaLo8
import Derived.WalkKit
import Derived.ProofKit
import Derived.OpenShut
import Derived.ShutString
import Derived.ChangeOld
import Derived.Below
import Derived.SizedLaws
namespace Go.Proofs.Ytckblabkapeigaa.fnExactEngOpen
open Go.Proofs.YtckblabkapeigaaW.PrintWords Go.Proofs.Ytckblabkapeigaa.Ja Go.Proofs.Ytckblabkapeigaa.Jb Go.Proofs.Ytckblabkapeigaa.Jc Go.Proofs.Ytckblabkapeigaa.Ka
open Go.ChangeShapes Go.WideShapes Go.ChangeAt Go.RowKit
set_option linter.unusedVariables false
theorem own : ownKnob Try.prog.godebug = none := by kernel_rfl
theorem laidOut : laidOutB Try.prog = true := by kernel_rfl
theorem opn_bool {H : Type} {enc : TypeId × Value → H} {P : Program} {w : World} {base : Nat} {spare : Nat → Bool} {held : Bool} {t : TypeId} (ht : P.underlying t = some .bool) : Opn enc P w base spare held t Kd.bool (fun _ => True) := fun fuel cs x h => by
  obtain ⟨b, hb, _⟩ := DataW.trod_bool ht h
  exact ⟨b, hb, trivial⟩
theorem opn_string {H : Type} {enc : TypeId × Value → H} {P : Program} {w : World} {base : Nat} {spare : Nat → Bool} {held : Bool} {t : TypeId} (ht : P.underlying t = some .string) : Opn enc P w base spare held t Kd.string (fun s => s.size ≤ 9223372036854775807) := fun fuel cs x h => by
  obtain ⟨b, hb, _, hs⟩ := DataW.trod_string ht h
  exact ⟨b, hb, by unfold maxLen at hs; omega⟩
theorem opn_sl {H : Type} {enc : TypeId × Value → H} {P : Program} {w : World} {base : Nat} {spare : Nat → Bool} {held : Bool} {α : Type} {t e e0 : TypeId} {d : Kd α} {ok : α → Prop} (ht : P.underlying t = some (.slice e)) (hc : P.cellsOf e = d.sz) (hd : Opn enc P w base spare held e d ok) :
    Opn enc P w base spare held t (sliceS e0 d) (fun l => ∀ x ∈ l, ok x) := opn_slice (e0 := e0) ht hc hd
theorem opn_E {H : Type} (enc : TypeId × Value → H) (w : World) (base : Nat) (spare : Nat → Bool) (held : Bool) : ∀ N, OpnB enc Try.prog w base spare held N 41 (kU 52 N)
  | 0 => fun fuel cs x h => absurd h (Nat.not_lt_zero _)
  | N + 1 => by
    have hi := OpnB.of (N := N) (opn_int (enc := enc) (P := Try.prog) (w := w) (base := base) (spare := spare) (held := held) (t := 3) (k := .i64) Try.underlying3)
    have hs : OpnB enc Try.prog w base spare held N 39 (sliceS 52 (kU 52 N)) := opnB_slice (e0 := 52) Try.underlying39 ((show Try.prog.cellsOf 41 = 4 by kernel_rfl).trans (kU_sz _ N).symm) (opn_E enc w base spare held N)
    exact opnB_iso (f := fun x : Ex => (x.f0, x.f1, x.f2, x.f3)) (g := fun p => .mk p.1 p.2.1 p.2.2.1 p.2.2.2) (fun _ => rfl) (opnB_struct Try.underlying41 (by kernel_rfl) (opnB_cons (by kernel_rfl) (by kernel_rfl) hi (opnB_cons (by kernel_rfl) (by kernel_rfl) hi (opnB_cons (by kernel_rfl) (by kernel_rfl) hi (opnB_last (by kernel_rfl) (by kernel_rfl) hs)))))
theorem opn_Ex {H : Type} (enc : TypeId × Value → H) (w : World) (base : Nat) (spare : Nat → Bool) (held : Bool) : Opn enc Try.prog w base spare held 41 (kE 52) (fun _ => True) := fun fuel cs x h => by
  obtain ⟨a, hK⟩ := opn_E enc w base spare held _ fuel cs x (Nat.lt_succ_self _) h
  exact ⟨a, ⟨_, hK⟩, trivial⟩
theorem opn_Rule {H : Type} (enc : TypeId × Value → H) (w : World) (base : Nat) (spare : Nat → Bool) (held : Bool) : Opn enc Try.prog w base spare held 43 kRule (fun r : TRule => r.f0.size ≤ 9223372036854775807) :=
  opn_imp (opn_iso (f := fun x : TRule => (x.f0, x.f1, x.f2, x.f3, x.f4, x.f5, x.f6, x.f7, x.f8)) (g := fun p => ⟨p.1, p.2.1, p.2.2.1, p.2.2.2.1, p.2.2.2.2.1, p.2.2.2.2.2.1, p.2.2.2.2.2.2.1, p.2.2.2.2.2.2.2.1, p.2.2.2.2.2.2.2.2⟩) (fun _ => rfl) (opn_struct Try.underlying43 (by kernel_rfl) (opn_cons (by kernel_rfl) (by kernel_rfl) (opn_string Try.underlying9) (opn_cons (by kernel_rfl) (by kernel_rfl) (opn_int Try.underlying3) (opn_cons (by kernel_rfl) (by kernel_rfl) (opn_int Try.underlying3) (opn_cons (by kernel_rfl) (by kernel_rfl) (opn_Ex enc w base spare held) (opn_cons (by kernel_rfl) (by kernel_rfl) (opn_int Try.underlying3) (opn_cons (by kernel_rfl) (by kernel_rfl) (opn_int Try.underlying3) (opn_cons (by kernel_rfl) (by kernel_rfl) (opn_int Try.underlying3) (opn_cons (by kernel_rfl) (by kernel_rfl) (opn_int Try.underlying3) (opn_last (by kernel_rfl) (by kernel_rfl) (opn_int Try.underlying3)))))))))))) (fun r h => h.1)
set_option maxRecDepth 100000 in
theorem lifted (os : Os) (started : os.Started) (H : Type) (enc : TypeId × Value → H) :
    ReturnsInHanded {} Try.checked os 3 .any (Rows.fnExactEngOpenSpec.pre6 enc Try.prog Try.f3 Rows.fnExactEngOpenRow.domain false) (Rows.fnExactEngOpenSpec.post enc Try.prog Try.f3 false true false false) := by
  refine returnsInHanded_of_change_sized (C := Try.checked) own started (by kernel_rfl) Try.func3
    (ChangeSpec.witness6 (enc := enc) (C := Try.checked) false ⟨#[], #[.slice none 0 0], []⟩ 16 (by kernel_rfl) (by kernel_rfl) (by kernel_rfl) (by kernel_rfl)) ?_
  intro W base args ds gs before hval0 hW hcnd hsz0 _
  have hW' := hW
  obtain ⟨p, q, hA0, hV, rfl, hfz, hnd⟩ := hW
  have hA : DataW.TrodAll enc Try.prog W 0 (fun _ => true) true Try.f3.params.toList args.toList ds p := hA0
  rw [Try.params3] at hA
  obtain ⟨v0, vs0, d0, ds0, p0, q0, hargs, rfl, rfl, h0, r0⟩ := trodAll_cons hA
  obtain ⟨rfl, rfl, rfl⟩ := trodAll_nil r0
  obtain rfl : args = #[v0] := by cases args; simp_all
  obtain ⟨rfl, rfl⟩ := trodVars_none hV
  have k0 := h0
  have lt0 : ∀ x ∈ p0, x.block < W.heap.size := by obtain ⟨m, hm⟩ := k0; exact DataW.trod_lt m _ _ _ hm
  obtain ⟨fuel0, hf0⟩ := h0
  have hval : ∀ (j : Nat) t v, Try.f3.params[j]? = some t → #[v0][j]? = some v → Value.okWide Try.prog W .any base t v := hval0
  obtain ⟨z0, ⟨A0_, c0_, hcs0, hl0, hC0⟩, hok0⟩ := (opn_sl (e := 43) (e0 := 54) Try.underlying22 (by kernel_rfl) (opn_Rule enc W 0 (fun _ => true) true) : Opn enc Try.prog W 0 (fun _ => true) true 22 (sliceS 54 kRule) _) _ _ _ hf0
  obtain ⟨a0, len0, cap0, rfl⟩ := okWide_slice Try.underlying22 (hval 0 22 v0 (by rw [Try.params3]; rfl) rfl)
  simp [Value.cells] at hcs0
  obtain ⟨rfl, rfl, rfl⟩ := hcs0
  clear hA0 hval0 hsz0
  refine (Lo8.walk z0 a0 cap0  hok0 W ⟨hl0, hC0⟩).mono fun e W' ⟨he, bel⟩ => ?_
  subst he
  exact ⟨_, rfl, _, _, _, [], _, [], hW', trodAll_mk1 (shut_bool Try.underlying4 _), (trodAll_cons_mk (Below.trod laidOut (by kernel_rfl) (of_decide_eq_true (by kernel_rfl)) k0 bel lt0) trodAll_mk0), rfl, bel.frame _, fun h => by cases h⟩
theorem over : Rows.fnExactEngOpenRow.holds Try.pinned (OpenSpec.ofChange Rows.fnExactEngOpenSpec) :=
  OpenClaim.holds_of_wide 3 Try.f3 rfl rfl rfl rfl rfl rfl rfl ⟨rfl, rfl, rfl, rfl, rfl⟩ rfl rfl rfl rfl rfl (by kernel_rfl) Try.func3 (by kernel_rfl)
    (of_decide_eq_true (by kernel_rfl)) (by unfold Func.isWrapper; first | (rw [if_pos (by decide +kernel)]; kernel_rfl) | (rw [if_neg (by decide +kernel)]; exact ⟨rfl, rfl⟩))
    (fun os started H enc _ => lifted os started H enc)
theorem proved : Rows.FnExactEngOpenSaid := over
#print axioms proved
end Go.Proofs.Ytckblabkapeigaa.fnExactEngOpen
namespace Go.Proofs.Ytckblabkapeigaa
/-- The row, under a short name, for the claim. -/
theorem fnExactEngOpen_holds : Rows.FnExactEngOpenSaid := fnExactEngOpen.proved
end Go.Proofs.Ytckblabkapeigaa

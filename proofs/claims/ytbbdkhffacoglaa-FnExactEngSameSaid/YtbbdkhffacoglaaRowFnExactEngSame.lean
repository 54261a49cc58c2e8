
/- The program's EngSame returns what the reference's returns, for all arguments. Conditions: none beyond those of the given statement. -/
import Derived.Test.YtbbdkhffacoglaaRows
import Derived.Test.YtbbdkhffacoglaaKt
import Derived.WalkKit
import Derived.ProofKit
import Derived.OpenShut
import Derived.ShutString
import Derived.ChangeOld
import Derived.Below
import Derived.SizedLaws
namespace Go.Proofs.Ytbbdkhffacoglaa.fnExactEngSame
open Go.Proofs.YtbbdkhffacoglaaW.PrintWords Go.Proofs.Ytbbdkhffacoglaa.Ja Go.Proofs.Ytbbdkhffacoglaa.Jb Go.Proofs.Ytbbdkhffacoglaa.Jc Go.Proofs.Ytbbdkhffacoglaa.Ka
open Go.ChangeShapes Go.WideShapes Go.ChangeAt Go.RowKit
set_option linter.unusedVariables false
theorem own : ownKnob Try.prog.godebug = none := by kernel_rfl
theorem laidOut : laidOutB Try.prog = true := by kernel_rfl
theorem opn_bool {H : Type} {enc : TypeId × Value → H} {P : Program} {w : World} {base : Nat} {spare : Nat → Bool} {held : Bool} {t : TypeId} (ht : P.underlying t = some .bool) : Opn enc P w base spare held t Kd.bool (fun _ => True) := fun fuel cs x h => by
  obtain ⟨b, hb, _⟩ := DataW.trod_bool ht h
  exact ⟨b, hb, trivial⟩
theorem opn_string {H : Type} {enc : TypeId × Value → H} {P : Program} {w : World} {base : Nat} {spare : Nat → Bool} {held : Bool} {t : TypeId} (ht : P.underlying t = some .string) : Opn enc P w base spare held t Kd.string (fun s => s.size ≤ 9223372036854775807) := fun fuel cs x h => by
  obtain ⟨b, hb, _, hs⟩ := DataW.trod_string ht h
  exact ⟨b, hb, by unfold maxLen at hs; omega⟩
theorem opn_sl {H : Type} {enc : TypeId × Value → H} {P : Program} {w : World} {base : Nat} {spare : Nat → Bool} {held : Bool} {α : Type} {t e e0 : TypeId} {d : Kd α} {ok : α → Prop} (ht : P.underlying t = some (.slice e)) (hc : P.cellsOf e = d.sz) (hd : Opn enc P w base spare held e d ok) :
    Opn enc P w base spare held t (sliceS e0 d) (fun l => ∀ x ∈ l, ok x) := opn_slice (e0 := e0) ht hc hd
theorem opn_E {H : Type} (enc : TypeId × Value → H) (w : World) (base : Nat) (spare : Nat → Bool) (held : Bool) : ∀ N, OpnB enc Try.prog w base spare held N 69 (kU 83 N)
  | 0 => fun fuel cs x h => absurd h (Nat.not_lt_zero _)
  | N + 1 => by
    have hi := OpnB.of (N := N) (opn_int (enc := enc) (P := Try.prog) (w := w) (base := base) (spare := spare) (held := held) (t := 3) (k := .i64) Try.underlying3)
    have hs : OpnB enc Try.prog w base spare held N 67 (sliceS 83 (kU 83 N)) := opnB_slice (e0 := 83) Try.underlying67 ((show Try.prog.cellsOf 69 = 4 by kernel_rfl).trans (kU_sz _ N).symm) (opn_E enc w base spare held N)
    exact opnB_iso (f := fun x : Ex => (x.f0, x.f1, x.f2, x.f3)) (g := fun p => .mk p.1 p.2.1 p.2.2.1 p.2.2.2) (fun _ => rfl) (opnB_struct Try.underlying69 (by kernel_rfl) (opnB_cons (by kernel_rfl) (by kernel_rfl) hi (opnB_cons (by kernel_rfl) (by kernel_rfl) hi (opnB_cons (by kernel_rfl) (by kernel_rfl) hi (opnB_last (by kernel_rfl) (by kernel_rfl) hs)))))
theorem opn_Ex {H : Type} (enc : TypeId × Value → H) (w : World) (base : Nat) (spare : Nat → Bool) (held : Bool) : Opn enc Try.prog w base spare held 69 (kE 83) (fun _ => True) := fun fuel cs x h => by
  obtain ⟨a, hK⟩ := opn_E enc w base spare held _ fuel cs x (Nat.lt_succ_self _) h
  exact ⟨a, ⟨_, hK⟩, trivial⟩
theorem opn_Rule {H : Type} (enc : TypeId × Value → H) (w : World) (base : Nat) (spare : Nat → Bool) (held : Bool) : Opn enc Try.prog w base spare held 71 kRule (fun r : TRule => r.f0.size ≤ 9223372036854775807) :=
  opn_imp (opn_iso (f := fun x : TRule => (x.f0, x.f1, x.f2, x.f3, x.f4, x.f5, x.f6, x.f7, x.f8)) (g := fun p => ⟨p.1, p.2.1, p.2.2.1, p.2.2.2.1, p.2.2.2.2.1, p.2.2.2.2.2.1, p.2.2.2.2.2.2.1, p.2.2.2.2.2.2.2.1, p.2.2.2.2.2.2.2.2⟩) (fun _ => rfl) (opn_struct Try.underlying71 (by kernel_rfl) (opn_cons (by kernel_rfl) (by kernel_rfl) (opn_string Try.underlying9) (opn_cons (by kernel_rfl) (by kernel_rfl) (opn_int Try.underlying3) (opn_cons (by kernel_rfl) (by kernel_rfl) (opn_int Try.underlying3) (opn_cons (by kernel_rfl) (by kernel_rfl) (opn_Ex enc w base spare held) (opn_cons (by kernel_rfl) (by kernel_rfl) (opn_int Try.underlying3) (opn_cons (by kernel_rfl) (by kernel_rfl) (opn_int Try.underlying3) (opn_cons (by kernel_rfl) (by kernel_rfl) (opn_int Try.underlying3) (opn_cons (by kernel_rfl) (by kernel_rfl) (opn_int Try.underlying3) (opn_last (by kernel_rfl) (by kernel_rfl) (opn_int Try.underlying3)))))))))))) (fun r h => h.1)
theorem opn_Occ {H : Type} (enc : TypeId × Value → H) (w : World) (base : Nat) (spare : Nat → Bool) (held : Bool) : Opn enc Try.prog w base spare held 77 kOcc (fun _ => True) :=
  opn_imp (opn_iso (f := fun x : TOcc => (x.f0, x.f1, x.f2)) (g := fun p => ⟨p.1, p.2.1, p.2.2⟩) (fun _ => rfl) (opn_struct Try.underlying77 (by kernel_rfl) (opn_cons (by kernel_rfl) (by kernel_rfl) (opn_int Try.underlying3) (opn_cons (by kernel_rfl) (by kernel_rfl) (opn_int Try.underlying3) (opn_last (by kernel_rfl) (by kernel_rfl) (opn_sl (e := 3) (e0 := 3) Try.underlying25 (by kernel_rfl) (opn_int Try.underlying3))))))) (fun _ _ => trivial)
theorem opn_Pair {H : Type} (enc : TypeId × Value → H) (w : World) (base : Nat) (spare : Nat → Bool) (held : Bool) : Opn enc Try.prog w base spare held 125 kPair (fun _ => True) :=
  opn_imp (opn_iso (f := fun x : TPair => (x.f0, x.f1)) (g := fun p => ⟨p.1, p.2⟩) (fun _ => rfl) (opn_struct Try.underlying125 (by kernel_rfl) (opn_cons (by kernel_rfl) (by kernel_rfl) (opn_sl (e := 77) (e0 := 60) Try.underlying123 (by kernel_rfl) (opn_Occ enc w base spare held)) (opn_last (by kernel_rfl) (by kernel_rfl) (opn_sl (e := 77) (e0 := 60) Try.underlying123 (by kernel_rfl) (opn_Occ enc w base spare held)))))) (fun _ _ => trivial)
theorem opn_Span {H : Type} (enc : TypeId × Value → H) (w : World) (base : Nat) (spare : Nat → Bool) (held : Bool) : Opn enc Try.prog w base spare held 127 kSpan (fun _ => True) :=
  opn_imp (opn_iso (f := fun x : TSpan => (x.f0, x.f1)) (g := fun p => ⟨p.1, p.2⟩) (fun _ => rfl) (opn_struct Try.underlying127 (by kernel_rfl) (opn_cons (by kernel_rfl) (by kernel_rfl) (opn_sl (e := 77) (e0 := 60) Try.underlying123 (by kernel_rfl) (opn_Occ enc w base spare held)) (opn_last (by kernel_rfl) (by kernel_rfl) (opn_sl (e := 77) (e0 := 60) Try.underlying123 (by kernel_rfl) (opn_Occ enc w base spare held)))))) (fun _ _ => trivial)
theorem opn_Node {H : Type} (enc : TypeId × Value → H) (w : World) (base : Nat) (spare : Nat → Bool) (held : Bool) : Opn enc Try.prog w base spare held 129 kNode (fun _ => True) :=
  opn_imp (opn_iso (f := fun x : TNode => (x.f0, x.f1, x.f2, x.f3, x.f4, x.f5, x.f6, x.f7)) (g := fun p => ⟨p.1, p.2.1, p.2.2.1, p.2.2.2.1, p.2.2.2.2.1, p.2.2.2.2.2.1, p.2.2.2.2.2.2.1, p.2.2.2.2.2.2.2⟩) (fun _ => rfl) (opn_struct Try.underlying129 (by kernel_rfl) (opn_cons (by kernel_rfl) (by kernel_rfl) (opn_int Try.underlying3) (opn_cons (by kernel_rfl) (by kernel_rfl) (opn_int Try.underlying3) (opn_cons (by kernel_rfl) (by kernel_rfl) (opn_int Try.underlying3) (opn_cons (by kernel_rfl) (by kernel_rfl) (opn_sl (e := 3) (e0 := 3) Try.underlying25 (by kernel_rfl) (opn_int Try.underlying3)) (opn_cons (by kernel_rfl) (by kernel_rfl) (opn_Pair enc w base spare held) (opn_cons (by kernel_rfl) (by kernel_rfl) (opn_Span enc w base spare held) (opn_cons (by kernel_rfl) (by kernel_rfl) (opn_sl (e := 77) (e0 := 60) Try.underlying123 (by kernel_rfl) (opn_Occ enc w base spare held)) (opn_last (by kernel_rfl) (by kernel_rfl) (opn_int Try.underlying3))))))))))) (fun _ _ => trivial)
theorem opn_Graph {H : Type} (enc : TypeId × Value → H) (w : World) (base : Nat) (spare : Nat → Bool) (held : Bool) : Opn enc Try.prog w base spare held 75 kGraph (fun _ => True) :=
  opn_imp (opn_iso (f := fun x : TGraph => (x.f0, x.f1, x.f2, x.f3, x.f4)) (g := fun p => ⟨p.1, p.2.1, p.2.2.1, p.2.2.2.1, p.2.2.2.2⟩) (fun _ => rfl) (opn_struct Try.underlying75 (by kernel_rfl) (opn_cons (by kernel_rfl) (by kernel_rfl) (opn_int Try.underlying3) (opn_cons (by kernel_rfl) (by kernel_rfl) (opn_sl (e := 129) (e0 := 96) Try.underlying73 (by kernel_rfl) (opn_Node enc w base spare held)) (opn_cons (by kernel_rfl) (by kernel_rfl) (opn_int Try.underlying3) (opn_cons (by kernel_rfl) (by kernel_rfl) (opn_int Try.underlying3) (opn_last (by kernel_rfl) (by kernel_rfl) (opn_bool Try.underlying4)))))))) (fun _ _ => trivial)
theorem opn_Ev {H : Type} (enc : TypeId × Value → H) (w : World) (base : Nat) (spare : Nat → Bool) (held : Bool) : Opn enc Try.prog w base spare held 100 kEv (fun _ => True) :=
  opn_imp (opn_iso (f := fun x : TEv => (x.f0, x.f1, x.f2)) (g := fun p => ⟨p.1, p.2.1, p.2.2⟩) (fun _ => rfl) (opn_struct Try.underlying100 (by kernel_rfl) (opn_cons (by kernel_rfl) (by kernel_rfl) (opn_int Try.underlying3) (opn_cons (by kernel_rfl) (by kernel_rfl) (opn_int Try.underlying3) (opn_last (by kernel_rfl) (by kernel_rfl) (opn_int Try.underlying3)))))) (fun _ _ => trivial)
theorem opn_Fire {H : Type} (enc : TypeId × Value → H) (w : World) (base : Nat) (spare : Nat → Bool) (held : Bool) : Opn enc Try.prog w base spare held 79 kFire (fun _ => True) :=
  opn_imp (opn_iso (f := fun x : TFire => (x.f0, x.f1)) (g := fun p => ⟨p.1, p.2⟩) (fun _ => rfl) (opn_struct Try.underlying79 (by kernel_rfl) (opn_cons (by kernel_rfl) (by kernel_rfl) (opn_int Try.underlying3) (opn_last (by kernel_rfl) (by kernel_rfl) (opn_Occ enc w base spare held))))) (fun _ _ => trivial)
theorem opn_Eng {H : Type} (enc : TypeId × Value → H) (w : World) (base : Nat) (spare : Nat → Bool) (held : Bool) : Opn enc Try.prog w base spare held 28 kEng (fun x : TEng => ∀ r ∈ x.f0, r.f0.size ≤ 9223372036854775807) :=
  opn_imp (opn_iso (f := fun x : TEng => (x.f0, x.f1, x.f2, x.f3, x.f4)) (g := fun p => ⟨p.1, p.2.1, p.2.2.1, p.2.2.2.1, p.2.2.2.2⟩) (fun _ => rfl) (opn_struct Try.underlying28 (by kernel_rfl) (opn_cons (by kernel_rfl) (by kernel_rfl) (opn_sl (e := 71) (e0 := 85) Try.underlying22 (by kernel_rfl) (opn_Rule enc w base spare held)) (opn_cons (by kernel_rfl) (by kernel_rfl) (opn_sl (e := 75) (e0 := 50) Try.underlying23 (by kernel_rfl) (opn_Graph enc w base spare held)) (opn_cons (by kernel_rfl) (by kernel_rfl) (opn_sl (e := 100) (e0 := 87) Try.underlying24 (by kernel_rfl) (opn_Ev enc w base spare held)) (opn_cons (by kernel_rfl) (by kernel_rfl) (opn_sl (e := 3) (e0 := 3) Try.underlying25 (by kernel_rfl) (opn_int Try.underlying3)) (opn_last (by kernel_rfl) (by kernel_rfl) (opn_sl (e := 79) (e0 := 62) Try.underlying26 (by kernel_rfl) (opn_Fire enc w base spare held))))))))) (fun x h => h.1)
set_option maxRecDepth 100000 in
theorem lifted (os : Os) (started : os.Started) (H : Type) (enc : TypeId × Value → H) :
    ReturnsInHanded {} Try.checked os 3 .any (Rows.fnExactEngSameSpec.pre6 enc Try.prog Try.f3 Rows.fnExactEngSameRow.domain false) (Rows.fnExactEngSameSpec.post enc Try.prog Try.f3 false true false false) := by
  refine returnsInHanded_of_change_sized (C := Try.checked) own started (by kernel_rfl) Try.func3
    (ChangeSpec.witness6 (enc := enc) (C := Try.checked) false ⟨#[], #[.agg #[.slice none 0 0, .slice none 0 0, .slice none 0 0, .slice none 0 0, .slice none 0 0], .agg #[.slice none 0 0, .slice none 0 0, .slice none 0 0, .slice none 0 0, .slice none 0 0]], []⟩ 16 (by kernel_rfl) (by kernel_rfl) (by kernel_rfl) (by kernel_rfl)) ?_
  intro W base args ds gs before hval0 hW hcnd hsz0 _
  have hW' := hW
  obtain ⟨p, q, hA0, hV, rfl, hfz, hnd⟩ := hW
  have hA : DataW.TrodAll enc Try.prog W 0 (fun _ => true) true Try.f3.params.toList args.toList ds p := hA0
  rw [Try.params3] at hA
  obtain ⟨v0, vs0, d0, ds0, p0, q0, hargs, rfl, rfl, h0, r0⟩ := trodAll_cons hA
  obtain ⟨v1, vs1, d1, ds1, p1, q1, rfl, rfl, rfl, h1, r1⟩ := trodAll_cons r0
  obtain ⟨rfl, rfl, rfl⟩ := trodAll_nil r1
  obtain rfl : args = #[v0, v1] := by cases args; simp_all
  obtain ⟨rfl, rfl⟩ := trodVars_none hV
  have k0 := h0
  have lt0 : ∀ x ∈ p0, x.block < W.heap.size := by obtain ⟨m, hm⟩ := k0; exact DataW.trod_lt m _ _ _ hm
  obtain ⟨fuel0, hf0⟩ := h0
  have k1 := h1
  have lt1 : ∀ x ∈ p1, x.block < W.heap.size := by obtain ⟨m, hm⟩ := k1; exact DataW.trod_lt m _ _ _ hm
  obtain ⟨fuel1, hf1⟩ := h1
  have hval : ∀ (j : Nat) t v, Try.f3.params[j]? = some t → #[v0, v1][j]? = some v → Value.okWide Try.prog W .any base t v := hval0
  obtain ⟨z0, hK0, hok0⟩ := opn_Eng enc W 0 (fun _ => true) true _ _ _ hf0
  obtain ⟨A0_0, c0_0, A0_1, c0_1, A0_2, c0_2, A0_3, c0_3, A0_4, c0_4, hcs0, i0_0, i0_1, i0_2, i0_3, i0_4⟩ := kEng_open hK0
  obtain ⟨cs0, rfl, _⟩ := okWide_struct Try.underlying28 (hval 0 28 v0 (by rw [Try.params3]; rfl) rfl)
  obtain rfl : cs0 = #[.slice A0_0 z0.f0.length c0_0, .slice A0_1 z0.f1.length c0_1, .slice A0_2 z0.f2.length c0_2, .slice A0_3 z0.f3.length c0_3, .slice A0_4 z0.f4.length c0_4] := by
    have h : cs0.toList = _ := hcs0
    cases cs0; simpa using h
  obtain ⟨z1, hK1, hok1⟩ := opn_Eng enc W 0 (fun _ => true) true _ _ _ hf1
  obtain ⟨A1_0, c1_0, A1_1, c1_1, A1_2, c1_2, A1_3, c1_3, A1_4, c1_4, hcs1, i1_0, i1_1, i1_2, i1_3, i1_4⟩ := kEng_open hK1
  obtain ⟨cs1, rfl, _⟩ := okWide_struct Try.underlying28 (hval 1 28 v1 (by rw [Try.params3]; rfl) rfl)
  obtain rfl : cs1 = #[.slice A1_0 z1.f0.length c1_0, .slice A1_1 z1.f1.length c1_1, .slice A1_2 z1.f2.length c1_2, .slice A1_3 z1.f3.length c1_3, .slice A1_4 z1.f4.length c1_4] := by
    have h : cs1.toList = _ := hcs1
    cases cs1; simpa using h
  clear hA0 hval0 hsz0
  refine (Kt.walk z0 z1 A0_0 c0_0 A0_1 c0_1 A0_2 c0_2 A0_3 c0_3 A0_4 c0_4 A1_0 c1_0 A1_1 c1_1 A1_2 c1_2 A1_3 c1_3 A1_4 c1_4 hok0 hok1 W i0_0 i0_1 i0_2 i0_3 i0_4 i1_0 i1_1 i1_2 i1_3 i1_4).mono fun e W' ⟨he, bel⟩ => ?_
  subst he
  exact ⟨_, rfl, _, _, _, [], _, [], hW', trodAll_mk1 (shut_bool Try.underlying4 _), (trodAll_cons_mk (Below.trod laidOut (by kernel_rfl) (of_decide_eq_true (by kernel_rfl)) k0 bel lt0) (trodAll_cons_mk (Below.trod laidOut (by kernel_rfl) (of_decide_eq_true (by kernel_rfl)) k1 bel lt1) trodAll_mk0)), rfl, bel.frame _, fun h => by cases h⟩
theorem over : Rows.fnExactEngSameRow.holds Try.pinned (OpenSpec.ofChange Rows.fnExactEngSameSpec) :=
  OpenClaim.holds_of_wide 3 Try.f3 rfl rfl rfl rfl rfl rfl rfl ⟨rfl, rfl, rfl, rfl, rfl⟩ rfl rfl rfl rfl rfl (by kernel_rfl) Try.func3 (by kernel_rfl)
    (of_decide_eq_true (by kernel_rfl)) (by unfold Func.isWrapper; first | (rw [if_pos (by decide +kernel)]; kernel_rfl) | (rw [if_neg (by decide +kernel)]; exact ⟨rfl, rfl⟩))
    (fun os started H enc _ => lifted os started H enc)
theorem proved : Rows.FnExactEngSameSaid := over
#print axioms proved
end Go.Proofs.Ytbbdkhffacoglaa.fnExactEngSame
namespace Go.Proofs.Ytbbdkhffacoglaa
/-- The row, under a short name, for the claim. -/
theorem fnExactEngSame_holds : Rows.FnExactEngSameSaid := fnExactEngSame.proved
end Go.Proofs.Ytbbdkhffacoglaa

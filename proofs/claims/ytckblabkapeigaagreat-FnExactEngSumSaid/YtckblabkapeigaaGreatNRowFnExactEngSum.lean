
/- For all engines the program tells what the reference tells of what all firings have added, leaves its argument alone, and what it gives is its own. Conditions: none beyond those of the given statement. -/
import Derived.Test.YtckblabkapeigaaGreatRows
import Derived.Test.YtckblabkapeigaaGreatNLq9
import Derived.WalkKit
import Derived.ProofKit
import Derived.OpenShut
import Derived.ShutString
import Derived.ChangeOld
import Derived.Below
import Derived.SizedLaws
namespace Go.Proofs.YtckblabkapeigaaGreat.fnExactEngSum
open Go.Proofs.YtckblabkapeigaaGreatW.PrintWords Go.Proofs.YtckblabkapeigaaGreat.Ja Go.Proofs.YtckblabkapeigaaGreat.Jb Go.Proofs.YtckblabkapeigaaGreat.Jc Go.Proofs.YtckblabkapeigaaGreat.Ka
open Go.ChangeShapes Go.WideShapes Go.ChangeAt Go.RowKit
set_option linter.unusedVariables false
theorem own : ownKnob Tryz.prog.godebug = none := by kernel_rfl
theorem laidOut : laidOutB Tryz.prog = true := by kernel_rfl
theorem opn_bool {H : Type} {enc : TypeId × Value → H} {P : Program} {w : World} {base : Nat} {spare : Nat → Bool} {held : Bool} {t : TypeId} (ht : P.underlying t = some .bool) : Opn enc P w base spare held t Kd.bool (fun _ => True) := fun fuel cs x h => by
 obtain ⟨b, hb, _⟩ := DataW.trod_bool ht h
 exact ⟨b, hb, trivial⟩
theorem opn_string {H : Type} {enc : TypeId × Value → H} {P : Program} {w : World} {base : Nat} {spare : Nat → Bool} {held : Bool} {t : TypeId} (ht : P.underlying t = some .string) : Opn enc P w base spare held t Kd.string (fun s => s.size ≤ 9223372036854775807) := fun fuel cs x h => by
 obtain ⟨b, hb, _, hs⟩ := DataW.trod_string ht h
 exact ⟨b, hb, by unfold maxLen at hs; omega⟩
theorem opn_consS {H : Type} {enc : TypeId × Value → H} {P : Program} {w : World} {base : Nat} {spare : Nat → Bool} {held : Bool} {α β : Type} {off : Nat} {f : Field} {fs : List Field} {d : Kd α} {d2 : Kd β} {ok : α → Prop} {ok2 : β → Prop} (ho : f.offset = off) (hc : P.cellsOf f.type = d.sz) (hd : Opn enc P w base spare held f.type d ok)
  (hr : OpnF enc P w base spare held (off + d.sz) fs d2 ok2) : OpnF enc P w base spare held off (f :: fs) (pairS d d2) (fun x => ok x.1 ∧ ok2 x.2) := opn_cons ho hc hd hr
theorem opn_sl {H : Type} {enc : TypeId × Value → H} {P : Program} {w : World} {base : Nat} {spare : Nat → Bool} {held : Bool} {α : Type} {t e e0 : TypeId} {d : Kd α} {ok : α → Prop} (ht : P.underlying t = some (.slice e)) (hc : P.cellsOf e = d.sz) (hd : Opn enc P w base spare held e d ok) :
  Opn enc P w base spare held t (sliceS e0 d) (fun l => ∀ x ∈ l, ok x) := opn_slice (e0 := e0) ht hc hd
theorem opn_E {H : Type} (enc : TypeId × Value → H) (w : World) (base : Nat) (spare : Nat → Bool) (held : Bool) : ∀ N, OpnB enc Tryz.prog w base spare held N 73 (kU 50 N)
 | 0 => fun fuel cs x h => absurd h (Nat.not_lt_zero _)
 | N + 1 => by
  have hi := OpnB.of (N := N) (opn_int (enc := enc) (P := Tryz.prog) (w := w) (base := base) (spare := spare) (held := held) (t := 3) (k := .i64) Tryz.underlying3)
  have hs : OpnB enc Tryz.prog w base spare held N 71 (sliceS 50 (kU 50 N)) := opnB_slice (e0 := 50) Tryz.underlying71 ((show Tryz.prog.cellsOf 73 = 4 by kernel_rfl).trans (kU_sz _ N).symm) (opn_E enc w base spare held N)
  exact opnB_iso (f := fun x : Ex => (x.f0, x.f1, x.f2, x.f3)) (g := fun p => .mk p.1 p.2.1 p.2.2.1 p.2.2.2) (fun _ => rfl) (opnB_struct Tryz.underlying73 (by kernel_rfl) (opnB_cons (by kernel_rfl) (by kernel_rfl) hi (opnB_cons (by kernel_rfl) (by kernel_rfl) hi (opnB_cons (by kernel_rfl) (by kernel_rfl) hi (opnB_last (by kernel_rfl) (by kernel_rfl) hs)))))
theorem opn_Ex {H : Type} (enc : TypeId × Value → H) (w : World) (base : Nat) (spare : Nat → Bool) (held : Bool) : Opn enc Tryz.prog w base spare held 73 (kE 50) (fun _ => True) := fun fuel cs x h => by
 obtain ⟨a, hK⟩ := opn_E enc w base spare held _ fuel cs x (Nat.lt_succ_self _) h
 exact ⟨a, ⟨_, hK⟩, trivial⟩
theorem opn_Rule {H : Type} (enc : TypeId × Value → H) (w : World) (base : Nat) (spare : Nat → Bool) (held : Bool) : Opn enc Tryz.prog w base spare held 75 kRule (fun r : TRule => r.f0.size ≤ 9223372036854775807) :=
 opn_imp (opn_iso (f := fun x : TRule => (x.f0, x.f1, x.f2, x.f3, x.f4, x.f5, x.f6, x.f7, x.f8)) (g := fun p => ⟨p.1, p.2.1, p.2.2.1, p.2.2.2.1, p.2.2.2.2.1, p.2.2.2.2.2.1, p.2.2.2.2.2.2.1, p.2.2.2.2.2.2.2.1, p.2.2.2.2.2.2.2.2⟩) (fun _ => rfl) (opn_struct Tryz.underlying75 (by kernel_rfl) (opn_cons (by kernel_rfl) (by kernel_rfl) (opn_string Tryz.underlying9) (opn_cons (by kernel_rfl) (by kernel_rfl) (opn_int Tryz.underlying3) (opn_cons (by kernel_rfl) (by kernel_rfl) (opn_int Tryz.underlying3) (opn_cons (by kernel_rfl) (by kernel_rfl) (opn_Ex enc w base spare held) (opn_cons (by kernel_rfl) (by kernel_rfl) (opn_int Tryz.underlying3) (opn_cons (by kernel_rfl) (by kernel_rfl) (opn_int Tryz.underlying3) (opn_cons (by kernel_rfl) (by kernel_rfl) (opn_int Tryz.underlying3) (opn_cons (by kernel_rfl) (by kernel_rfl) (opn_int Tryz.underlying3) (opn_last (by kernel_rfl) (by kernel_rfl) (opn_int Tryz.underlying3)))))))))))) (fun r h => h.1)
theorem opn_Occ {H : Type} (enc : TypeId × Value → H) (w : World) (base : Nat) (spare : Nat → Bool) (held : Bool) : Opn enc Tryz.prog w base spare held 81 kOcc (fun _ => True) :=
 opn_imp (opn_iso (f := fun x : TOcc => (x.f0, x.f1, x.f2)) (g := fun p => ⟨p.1, p.2.1, p.2.2⟩) (fun _ => rfl) (opn_struct Tryz.underlying81 (by kernel_rfl) (opn_cons (by kernel_rfl) (by kernel_rfl) (opn_int Tryz.underlying3) (opn_cons (by kernel_rfl) (by kernel_rfl) (opn_int Tryz.underlying3) (opn_last (by kernel_rfl) (by kernel_rfl) (opn_sl (e := 3) (e0 := 3) Tryz.underlying25 (by kernel_rfl) (opn_int Tryz.underlying3))))))) (fun _ _ => trivial)
theorem opn_Pair {H : Type} (enc : TypeId × Value → H) (w : World) (base : Nat) (spare : Nat → Bool) (held : Bool) : Opn enc Tryz.prog w base spare held 147 kPair (fun _ => True) :=
 opn_imp (opn_iso (f := fun x : TPair => (x.f0, x.f1)) (g := fun p => ⟨p.1, p.2⟩) (fun _ => rfl) (opn_struct Tryz.underlying147 (by kernel_rfl) (opn_consS (by kernel_rfl) (by kernel_rfl) (opn_sl (e := 81) (e0 := 54) Tryz.underlying145 (by kernel_rfl) (opn_Occ enc w base spare held)) (opn_last (by kernel_rfl) (by kernel_rfl) (opn_sl (e := 81) (e0 := 54) Tryz.underlying145 (by kernel_rfl) (opn_Occ enc w base spare held)))))) (fun _ _ => trivial)
theorem opn_Span {H : Type} (enc : TypeId × Value → H) (w : World) (base : Nat) (spare : Nat → Bool) (held : Bool) : Opn enc Tryz.prog w base spare held 149 kSpan (fun _ => True) :=
 opn_imp (opn_iso (f := fun x : TSpan => (x.f0, x.f1)) (g := fun p => ⟨p.1, p.2⟩) (fun _ => rfl) (opn_struct Tryz.underlying149 (by kernel_rfl) (opn_consS (by kernel_rfl) (by kernel_rfl) (opn_sl (e := 81) (e0 := 54) Tryz.underlying145 (by kernel_rfl) (opn_Occ enc w base spare held)) (opn_last (by kernel_rfl) (by kernel_rfl) (opn_sl (e := 81) (e0 := 54) Tryz.underlying145 (by kernel_rfl) (opn_Occ enc w base spare held)))))) (fun _ _ => trivial)
theorem opn_Node {H : Type} (enc : TypeId × Value → H) (w : World) (base : Nat) (spare : Nat → Bool) (held : Bool) : Opn enc Tryz.prog w base spare held 151 kNode (fun _ => True) :=
 opn_imp (opn_iso (f := fun x : TNode => (x.f0, x.f1, x.f2, x.f3, x.f4, x.f5, x.f6, x.f7)) (g := fun p => ⟨p.1, p.2.1, p.2.2.1, p.2.2.2.1, p.2.2.2.2.1, p.2.2.2.2.2.1, p.2.2.2.2.2.2.1, p.2.2.2.2.2.2.2⟩) (fun _ => rfl) (opn_struct Tryz.underlying151 (by kernel_rfl) (opn_cons (by kernel_rfl) (by kernel_rfl) (opn_int Tryz.underlying3) (opn_cons (by kernel_rfl) (by kernel_rfl) (opn_int Tryz.underlying3) (opn_cons (by kernel_rfl) (by kernel_rfl) (opn_int Tryz.underlying3) (opn_consS (by kernel_rfl) (by kernel_rfl) (opn_sl (e := 3) (e0 := 3) Tryz.underlying25 (by kernel_rfl) (opn_int Tryz.underlying3)) (opn_consS (by kernel_rfl) (by kernel_rfl) (opn_Pair enc w base spare held) (opn_consS (by kernel_rfl) (by kernel_rfl) (opn_Span enc w base spare held) (opn_cons (by kernel_rfl) (by kernel_rfl) (opn_sl (e := 81) (e0 := 54) Tryz.underlying145 (by kernel_rfl) (opn_Occ enc w base spare held)) (opn_last (by kernel_rfl) (by kernel_rfl) (opn_int Tryz.underlying3))))))))))) (fun _ _ => trivial)
theorem opn_Graph {H : Type} (enc : TypeId × Value → H) (w : World) (base : Nat) (spare : Nat → Bool) (held : Bool) : Opn enc Tryz.prog w base spare held 79 kGraph (fun _ => True) :=
 opn_imp (opn_iso (f := fun x : TGraph => (x.f0, x.f1, x.f2, x.f3, x.f4)) (g := fun p => ⟨p.1, p.2.1, p.2.2.1, p.2.2.2.1, p.2.2.2.2⟩) (fun _ => rfl) (opn_struct Tryz.underlying79 (by kernel_rfl) (opn_cons (by kernel_rfl) (by kernel_rfl) (opn_int Tryz.underlying3) (opn_cons (by kernel_rfl) (by kernel_rfl) (opn_sl (e := 151) (e0 := 126) Tryz.underlying77 (by kernel_rfl) (opn_Node enc w base spare held)) (opn_cons (by kernel_rfl) (by kernel_rfl) (opn_int Tryz.underlying3) (opn_cons (by kernel_rfl) (by kernel_rfl) (opn_int Tryz.underlying3) (opn_last (by kernel_rfl) (by kernel_rfl) (opn_bool Tryz.underlying4)))))))) (fun _ _ => trivial)
theorem opn_Ev {H : Type} (enc : TypeId × Value → H) (w : World) (base : Nat) (spare : Nat → Bool) (held : Bool) : Opn enc Tryz.prog w base spare held 99 kEv (fun _ => True) :=
 opn_imp (opn_iso (f := fun x : TEv => (x.f0, x.f1, x.f2)) (g := fun p => ⟨p.1, p.2.1, p.2.2⟩) (fun _ => rfl) (opn_struct Tryz.underlying99 (by kernel_rfl) (opn_cons (by kernel_rfl) (by kernel_rfl) (opn_int Tryz.underlying3) (opn_cons (by kernel_rfl) (by kernel_rfl) (opn_int Tryz.underlying3) (opn_last (by kernel_rfl) (by kernel_rfl) (opn_int Tryz.underlying3)))))) (fun _ _ => trivial)
theorem opn_Fire {H : Type} (enc : TypeId × Value → H) (w : World) (base : Nat) (spare : Nat → Bool) (held : Bool) : Opn enc Tryz.prog w base spare held 83 kFire (fun _ => True) :=
 opn_imp (opn_iso (f := fun x : TFire => (x.f0, x.f1)) (g := fun p => ⟨p.1, p.2⟩) (fun _ => rfl) (opn_struct Tryz.underlying83 (by kernel_rfl) (opn_cons (by kernel_rfl) (by kernel_rfl) (opn_int Tryz.underlying3) (opn_last (by kernel_rfl) (by kernel_rfl) (opn_Occ enc w base spare held))))) (fun _ _ => trivial)
theorem opn_Eng {H : Type} (enc : TypeId × Value → H) (w : World) (base : Nat) (spare : Nat → Bool) (held : Bool) : Opn enc Tryz.prog w base spare held 28 kEng (fun x : TEng => ∀ r ∈ x.f0, r.f0.size ≤ 9223372036854775807) :=
 opn_imp (opn_iso (f := fun x : TEng => (x.f0, x.f1, x.f2, x.f3, x.f4)) (g := fun p => ⟨p.1, p.2.1, p.2.2.1, p.2.2.2.1, p.2.2.2.2⟩) (fun _ => rfl) (opn_struct Tryz.underlying28 (by kernel_rfl) (opn_consS (by kernel_rfl) (by kernel_rfl) (opn_sl (e := 75) (e0 := 52) Tryz.underlying22 (by kernel_rfl) (opn_Rule enc w base spare held)) (opn_consS (by kernel_rfl) (by kernel_rfl) (opn_sl (e := 79) (e0 := 89) Tryz.underlying23 (by kernel_rfl) (opn_Graph enc w base spare held)) (opn_consS (by kernel_rfl) (by kernel_rfl) (opn_sl (e := 99) (e0 := 97) Tryz.underlying24 (by kernel_rfl) (opn_Ev enc w base spare held)) (opn_consS (by kernel_rfl) (by kernel_rfl) (opn_sl (e := 3) (e0 := 3) Tryz.underlying25 (by kernel_rfl) (opn_int Tryz.underlying3)) (opn_last (by kernel_rfl) (by kernel_rfl) (opn_sl (e := 83) (e0 := 56) Tryz.underlying26 (by kernel_rfl) (opn_Fire enc w base spare held))))))))) (fun x h => h.1)
set_option maxRecDepth 100000 in
theorem lifted (os : Os) (started : os.Started) (H : Type) (enc : TypeId × Value → H) :
  ReturnsInHanded {} Tryz.checked os 3 .any (Rows.fnExactEngSumSpec.pre6 enc Tryz.prog Tryz.f3 Rows.fnExactEngSumRow.domain false) (Rows.fnExactEngSumSpec.post enc Tryz.prog Tryz.f3 false true false false) := by
 refine returnsInHanded_of_change_sized (C := Tryz.checked) own started (by kernel_rfl) Tryz.func3
  (ChangeSpec.witness6 (enc := enc) (C := Tryz.checked) false ⟨#[], #[.agg #[.slice none 0 0, .slice none 0 0, .slice none 0 0, .slice none 0 0, .slice none 0 0]], []⟩ 16 (by kernel_rfl) (by kernel_rfl) (by kernel_rfl) (by kernel_rfl)) ?_
 intro W base args ds gs before hval0 hW hcnd hsz0 _
 have hW' := hW
 obtain ⟨p, q, hA0, hV, rfl, hfz, hnd⟩ := hW
 have hA : DataW.TrodAll enc Tryz.prog W 0 (fun _ => true) true Tryz.f3.params.toList args.toList ds p := hA0
 rw [Tryz.params3] at hA
 obtain ⟨v0, vs0, d0, ds0, p0, q0, hargs, rfl, rfl, h0, r0⟩ := trodAll_cons hA
 obtain ⟨rfl, rfl, rfl⟩ := trodAll_nil r0
 obtain rfl : args = #[v0] := by cases args; simp_all
 obtain ⟨rfl, rfl⟩ := trodVars_none hV
 have k0 := h0
 have lt0 : ∀ x ∈ p0, x.block < W.heap.size := by obtain ⟨m, hm⟩ := k0; exact DataW.trod_lt m _ _ _ hm
 obtain ⟨fuel0, hf0⟩ := h0
 have hval : ∀ (j : Nat) t v, Tryz.f3.params[j]? = some t → #[v0][j]? = some v → Value.okWide Tryz.prog W .any base t v := hval0
 obtain ⟨z0, hK0, hok0⟩ := opn_Eng enc W 0 (fun _ => true) true _ _ _ hf0
 obtain ⟨A0_0, c0_0, A0_1, c0_1, A0_2, c0_2, A0_3, c0_3, A0_4, c0_4, hcs0, i0_0, i0_1, i0_2, i0_3, i0_4⟩ := kEng_open hK0
 obtain ⟨cs0, rfl, _⟩ := okWide_struct Tryz.underlying28 (hval 0 28 v0 (by rw [Tryz.params3]; rfl) rfl)
 obtain rfl : cs0 = #[.slice A0_0 z0.f0.length c0_0, .slice A0_1 z0.f1.length c0_1, .slice A0_2 z0.f2.length c0_2, .slice A0_3 z0.f3.length c0_3, .slice A0_4 z0.f4.length c0_4] := by
  have h : cs0.toList = _ := hcs0
  cases cs0; simpa using h
 clear hA0 hval0 hsz0
 refine (Lq9.walk z0 A0_0 c0_0 A0_1 c0_1 A0_2 c0_2 A0_3 c0_3 A0_4 c0_4 hok0 W i0_0 i0_1 i0_2 i0_3 i0_4).mono fun e W' ⟨he, bel⟩ => ?_
 subst he
 exact ⟨_, rfl, _, _, _, [], _, [], hW', trodAll_mk1 (shut_bool Tryz.underlying4 _), (trodAll_cons_mk (Below.trod laidOut (by kernel_rfl) (of_decide_eq_true (by kernel_rfl)) k0 bel lt0) trodAll_mk0), rfl, bel.frame _, fun h => by cases h⟩
theorem over : Rows.fnExactEngSumRow.holds Tryz.pinned (OpenSpec.ofChange Rows.fnExactEngSumSpec) :=
 OpenClaim.holds_of_wide 3 Tryz.f3 rfl rfl rfl rfl rfl rfl rfl ⟨rfl, rfl, rfl, rfl, rfl⟩ rfl rfl rfl rfl rfl (by kernel_rfl) Tryz.func3 (by kernel_rfl)
  (of_decide_eq_true (by kernel_rfl)) (by unfold Func.isWrapper; first | (rw [if_pos (by decide +kernel)]; kernel_rfl) | (rw [if_neg (by decide +kernel)]; exact ⟨rfl, rfl⟩))
  (fun os started H enc _ => lifted os started H enc)
theorem proved : Rows.FnExactEngSumSaid := over
#print axioms proved
end Go.Proofs.YtckblabkapeigaaGreat.fnExactEngSum
namespace Go.Proofs.YtckblabkapeigaaGreat
/-- The row, under a short name, for the claim. -/
theorem fnExactEngSum_holds : Rows.FnExactEngSumSaid := fnExactEngSum.proved
end Go.Proofs.YtckblabkapeigaaGreat

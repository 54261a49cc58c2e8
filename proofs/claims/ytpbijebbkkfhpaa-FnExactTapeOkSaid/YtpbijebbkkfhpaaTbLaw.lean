/- TapeOk of the program says of every list of calls what TapeOk of the reference says: at most 30, each with a type from 0 to 4, a gap from 1 to 20, a value from 0 to 100; the list stays as it was. Conditions: none beyond those of the given statement. -/
import Derived.Test.YtpbijebbkkfhpaaRows
import Derived.Test.YtpbijebbkkfhpaaTb
import Derived.WalkKit
import Derived.ProofKit
import Derived.OpenShut
import Derived.ShutString
import Derived.ChangeOld
import Derived.Below
import Derived.SizedLaws
namespace Go.Proofs.Ytpbijebbkkfhpaa.Tb
open Go.RowKit Go.Proofs.YtpbijebbkkfhpaaW.PrintWords Go.Proofs.Ytpbijebbkkfhpaa.Wd
set_option linter.unusedVariables false

theorem walk (A : Option Addr) (c : Nat) (xs : List T3) (w : World) (hr : k3.C w A xs.length xs) :
    Calls Try.prog 4 #[.slice A xs.length c] w fun e w' => e = .returned (.bool true) ∧ Below w.heap.size w w' := by
  have hn := (C_len hr).2
  have hsz := sz_any A xs.length c hn
  by_cases hm : xs.length ≤ 1048576
  · rw [if_pos hm] at hsz
    have h1 : (0 : Int) ≤ 1048576 - xs.length := by omega
    have h2 : decide ((1048576 : Int) - xs.length < 0) = false := by simp; omega
    have HM := Aside0.mk hm
    clear hm
    go_enter Try.func4, Try.ntmps4
    go_wp2_with fail
    refine (hsz _).mono ?_
    rintro e w' ⟨rfl, rfl⟩
    go_wp2_with fail
    refine (toCallS_any A c xs _ hr HM.out).mono ?_
    rintro e w1 ⟨v1, rfl, ho1, hb1⟩
    obtain ⟨A1, c1, rfl, hl1, hC1⟩ := Kd.R_reads ho1
    clear ho1
    go_wp2_with fail
    refine (spec_any A1 c1 xs _ hC1).mono ?_
    rintro e w2 ⟨rfl, hb2⟩
    have hb2' := below_then hb1 hb1.size hb2
    clear hb2 hC1 hb1
    generalize hR : (decide (xs.length ≤ 30) && xs.all okCall) = R
    have HR := Aside0.mk hR
    clear hR
    have hr2 := Kd.C_below hr hb2'
    go_wp2_with fail
    refine (toCallS_any A c xs _ hr2 HM.out).mono ?_
    rintro e w3 ⟨v3, rfl, ho3, hb3⟩
    obtain ⟨A3, c3, rfl, hl3, hC3⟩ := Kd.R_reads ho3
    have hb4 := below_then hb2' hb2'.size hb3
    clear ho3 hb3 hr2 hb2'
    go_wp2_with fail
    refine (impl_any A3 c3 xs _ hC3).mono ?_
    rintro e w4 ⟨rfl, hb5⟩
    rw [HR.out]
    have hC4 := Kd.C_below hC3 hb5
    have hb6 := below_then hb4 hb4.size hb5
    clear hC3 hb5 hb4
    have hr4 := Kd.C_below hr hb6
    have hRR : (R != R) = false := by simp
    go_wp2_with fail
    refine (toCallS_any A c xs _ hr4 HM.out).mono ?_
    rintro e w5 ⟨v5, rfl, ho5, hb7⟩
    obtain ⟨A5, c5, rfl, hl5, hC5⟩ := Kd.R_reads ho5
    have hC6 := Kd.C_below hC4 hb7
    have hb8 := below_then hb6 hb6.size hb7
    clear ho5 hb7 hr4 hC4 hb6
    go_wp2_with fail
    refine (eqCallS_any A3 A5 c3 c5 xs _ hC6 hC5).mono ?_
    rintro e w6 ⟨rfl, hb9⟩
    have hb10 := below_then hb8 hb8.size hb9
    clear hb9 hC6 hC5 hb8
    go_wp2
    go_ret
    exact ⟨rfl, hb10⟩
  · rw [if_neg hm] at hsz
    clear hm
    go_enter Try.func4, Try.ntmps4
    go_wp2_with fail
    refine (hsz _).mono ?_
    rintro e w' ⟨rfl, rfl⟩
    go_wp2
    go_ret
    exact ⟨rfl, Below.refl _ _⟩
end Go.Proofs.Ytpbijebbkkfhpaa.Tb
namespace Go.Proofs.Ytpbijebbkkfhpaa.fnExactTapeOk
open Go.Proofs.YtpbijebbkkfhpaaW.PrintWords Go.Proofs.Ytpbijebbkkfhpaa.Wd
open Go.ChangeShapes Go.WideShapes Go.ChangeAt Go.RowKit
set_option linter.unusedVariables false
theorem own : ownKnob Try.prog.godebug = none := by kernel_rfl
theorem laidOut : laidOutB Try.prog = true := by kernel_rfl
theorem opn_call {H : Type} (enc : TypeId × Value → H) (w : World) (base : Nat) (spare : Nat → Bool) (held : Bool) : ∃ ok, Opn enc Try.prog w base spare held 26 (Kd.slice 63 k3) ok := by
  have hi := fun (t : TypeId) h => opn_int (enc := enc) (P := Try.prog) (w := w) (base := base) (spare := spare) (held := held) (t := t) (k := .i64) h
  refine ⟨_, opn_slice (e := 63) Try.underlying26 (by kernel_rfl) (opn_iso (f := fun x : T3 => (x.a, x.b, x.c)) (g := fun p => ⟨p.1, p.2.1, p.2.2⟩) (fun _ => rfl) (opn_struct Try.underlying63 (by kernel_rfl) (opn_cons (by kernel_rfl) (by kernel_rfl) (hi _ Try.underlying3) (opn_cons (by kernel_rfl) (by kernel_rfl) (hi _ Try.underlying3) (opn_last (by kernel_rfl) (by kernel_rfl) (hi _ Try.underlying3))))))⟩
set_option maxRecDepth 100000 in
theorem lifted (os : Os) (started : os.Started) (H : Type) (enc : TypeId × Value → H) :
    ReturnsInHanded {} Try.checked os 4 .any (Rows.fnExactTapeOkSpec.pre6 enc Try.prog Try.f4 Rows.fnExactTapeOkRow.domain false) (Rows.fnExactTapeOkSpec.post enc Try.prog Try.f4 false true false false) := by
  refine returnsInHanded_of_change_sized (C := Try.checked) own started (by kernel_rfl) Try.func4
    (ChangeSpec.witness6 (enc := enc) (C := Try.checked) false ⟨#[], #[.slice none 0 0], []⟩ 8 (by kernel_rfl) (by kernel_rfl) (by kernel_rfl) (by kernel_rfl)) ?_
  intro W base args ds gs before hval0 hW hcnd hsz0 _
  have hW' := hW
  obtain ⟨p, q, hA0, hV, rfl, hfz, hnd⟩ := hW
  have hA : DataW.TrodAll enc Try.prog W 0 (fun _ => true) true Try.f4.params.toList args.toList ds p := hA0
  rw [Try.params4] at hA
  obtain ⟨v0, vs0, d0, ds0, p0, q0, hargs, rfl, rfl, h0, r0⟩ := trodAll_cons hA
  obtain ⟨rfl, rfl, rfl⟩ := trodAll_nil r0
  obtain rfl : args = #[v0] := by cases args; simp_all
  obtain ⟨rfl, rfl⟩ := trodVars_none hV
  have k0 := h0
  have lt0 : ∀ x ∈ p0, x.block < W.heap.size := by obtain ⟨m, hm⟩ := k0; exact DataW.trod_lt m _ _ _ hm
  obtain ⟨fuel, hf⟩ := h0
  obtain ⟨ok, hopn⟩ := opn_call enc W 0 (fun _ => true) true
  obtain ⟨z0, ⟨A, c, hcs, hlc, hC⟩, _⟩ := hopn _ _ _ hf
  have hval : ∀ (j : Nat) t v, Try.f4.params[j]? = some t → #[v0][j]? = some v → Value.okWide Try.prog W .any base t v := hval0
  obtain ⟨a0, len0, cap0, rfl⟩ := okWide_slice Try.underlying26 (hval 0 26 v0 (by rw [Try.params4]; rfl) rfl)
  simp [Value.cells] at hcs
  obtain ⟨rfl, rfl, rfl⟩ := hcs
  clear hA0 hval0 hsz0 hopn
  refine (Tb.walk a0 cap0 z0 W hC).mono fun e W' ⟨he, bel⟩ => ?_
  subst he
  exact ⟨_, rfl, _, _, _, [], _, [], hW', trodAll_mk1 (shut_bool Try.underlying4 _), (trodAll_cons_mk (Below.trod laidOut (by kernel_rfl) (of_decide_eq_true (by kernel_rfl)) k0 bel lt0) trodAll_mk0), rfl, bel.frame _, fun h => by cases h⟩
theorem over : Rows.fnExactTapeOkRow.holds Try.pinned (OpenSpec.ofChange Rows.fnExactTapeOkSpec) :=
  OpenClaim.holds_of_wide 4 Try.f4 rfl rfl rfl rfl rfl rfl rfl ⟨rfl, rfl, rfl, rfl, rfl⟩ rfl rfl rfl rfl rfl (by kernel_rfl) Try.func4 (by kernel_rfl)
    (of_decide_eq_true (by kernel_rfl)) (by unfold Func.isWrapper; first | (rw [if_pos (by decide +kernel)]; kernel_rfl) | (rw [if_neg (by decide +kernel)]; exact ⟨rfl, rfl⟩))
    (fun os started H enc _ => lifted os started H enc)
theorem proved : Rows.FnExactTapeOkSaid := over
#print axioms proved
end Go.Proofs.Ytpbijebbkkfhpaa.fnExactTapeOk
namespace Go.Proofs.Ytpbijebbkkfhpaa
/-- The row, under a short name, for the claim. -/
theorem fnExactTapeOk_holds : Rows.FnExactTapeOkSaid := fnExactTapeOk.proved
end Go.Proofs.Ytpbijebbkkfhpaa

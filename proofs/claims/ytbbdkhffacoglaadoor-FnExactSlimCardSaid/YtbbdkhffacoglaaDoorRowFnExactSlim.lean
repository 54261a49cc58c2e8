
/- The program's Slim returns what the reference's returns, for all arguments Conditions: none beyond those of the given statement. -/
import Derived.Test.YtbbdkhffacoglaaDoorRows
import Derived.Test.YtbbdkhffacoglaaDoorNx
import Derived.Test.YtbbdkhffacoglaaDoorTie
import Derived.Test.YtbbdkhffacoglaaDoorCards
import Derived.WalkKit
import Derived.ProofKit
import Derived.OpenShut
import Derived.ShutString
import Derived.ChangeOld
import Derived.Below
import Derived.SizedLaws
import Derived.LaidMore
import Derived.LaidHandle
import Derived.LaidLaws
import Derived.MakeChecks
import Derived.OpenVars
import Derived.ChangeVars
import Derived.SevenTiedAt
import Derived.Stop.Joined
namespace Go.Proofs.YtbbdkhffacoglaaDoor.fnExactSlim
open Go.Proofs.YtbbdkhffacoglaaDoorW.PrintWords Go.Proofs.YtbbdkhffacoglaaDoor.Ja Go.Proofs.YtbbdkhffacoglaaDoor.Jb Go.Proofs.YtbbdkhffacoglaaDoor.Jc Go.Proofs.YtbbdkhffacoglaaDoor.Na Go.Proofs.YtbbdkhffacoglaaDoor.Nd Go.Proofs.YtbbdkhffacoglaaDoor.Nf
open Go.ChangeShapes Go.WideShapes Go.ChangeAt Go.RowKit
set_option linter.unusedVariables false
theorem own : ownKnob Tryd.prog.godebug = none := by kernel_rfl
theorem laidOut : laidOutB Tryd.prog = true := by kernel_rfl
theorem gW : Tryd.prog.globalNamed "loop.example/bellman/impl.exWords" = some 0 := by kernel_rfl
theorem tW : (Tryd.prog.globals[0]?).map (·.type) = some 55 := by kernel_rfl
theorem bs_of {b : ByteArray} {s : List UInt8} (h : b.data.toList = s) : b = bs s := by
  subst h
  cases b
  simp [bs]
/-- what the condition gives: the words' cells -/
theorem words_of_laid {W : World} (h : laidMetH Tryd.prog Rows.fnExactSlimRow.laid W) : Words W := by
  rw [MakeChecks.laidMetH_plain _ _ _ (by kernel_rfl)] at h
  obtain ⟨ps, hv, _⟩ := h
  obtain ⟨_, _, _, _, _, _, _, _, _, _, hv, _⟩ := hv
  obtain ⟨_, _, _, _, _, _, _, _, _, _, hv, _⟩ := hv
  obtain ⟨_, _, _, _, _, _, _, _, _, _, hv, _⟩ := hv
  obtain ⟨g, t, cs, fuel, p, q, hg, ht, hvar, hd, _, _⟩ := hv
  obtain rfl := Option.some.inj (gW.symm.trans hg)
  obtain rfl := Option.some.inj (tW.symm.trans ht)
  unfold Rows.laid_loop_example_bellman_impl_exWords at hd
  obtain ⟨a, cap, hcs, hl, hall⟩ := open_row Tryd.underlying55 (by kernel_rfl) hd
  have hc0 : W.cell? ⟨0, 0, none⟩ = some (.slice (some a) 8 cap) := by
    have h := World.var?_cell gW hvar 0
    rw [Array.eq_one_of_toList hcs] at h
    simpa using h
  have one : ∀ (i : Nat) (s : List UInt8), [DataW.lit (H := Unit) (.string []), .lit (.string []), .lit (.string [111, 114]), .lit (.string [97, 110, 100]), .lit (.string [115, 101, 113]), .lit (.string [110, 111, 116]), .lit (.string [101, 97, 99, 104]), .lit (.string [112, 108, 117, 115])][i]? = some (.lit (.string s)) → W.cell? (a.add i) = some (.string (bs s)) := fun i s hi => by
    obtain ⟨v, n, q2, hcell, htr⟩ := hall i _ hi
    obtain ⟨b, hb, hx, _⟩ := DataW.trod_string Tryd.underlying9 htr
    simp only [Prod.mk.injEq, DataW.lit.injEq, Lit.string.injEq] at hx
    obtain rfl : v = .string b := by simpa using hb
    rw [hcell, bs_of hx.1.symm]
  refine ⟨a, cap, hc0, fun k h2 h7 => ?_⟩
  have hk : k = 2 ∨ k = 3 ∨ k = 4 ∨ k = 5 ∨ k = 6 ∨ k = 7 := by omega
  rcases hk with rfl | rfl | rfl | rfl | rfl | rfl
  · exact one 2 _ rfl
  · exact one 3 _ rfl
  · exact one 4 _ rfl
  · exact one 5 _ rfl
  · exact one 6 _ rfl
  · exact one 7 _ rfl
/-- The door's own heap meets the condition. -/
theorem door_met (os : Os) (args : Array Value) : laidMetH Tryd.prog Rows.fnExactSlimRow.laid ((World.doorLaid Tryd.prog 77 os).forCall (fun _ _ => 0) ⟨#[], args, []⟩).memory :=
  laidMetH_of_parts3 (fuel := 8) (laidMet_of_run' 8 (by kernel_rfl) (by kernel_rfl)) (by kernel_rfl) (by kernel_rfl)
theorem opn_E {H : Type} (enc : TypeId × Value → H) (w : World) (base : Nat) (spare : Nat → Bool) (held : Bool) : ∀ N, OpnB enc Tryd.prog w base spare held N 24 (kU 29 N)
  | 0 => fun fuel cs x h => absurd h (Nat.not_lt_zero _)
  | N + 1 => by
    have hi := OpnB.of (N := N) (opn_int (enc := enc) (P := Tryd.prog) (w := w) (base := base) (spare := spare) (held := held) (t := 3) (k := .i64) Tryd.underlying3)
    have hs : OpnB enc Tryd.prog w base spare held N 22 (sliceS 29 (kU 29 N)) := opnB_slice (e0 := 29) Tryd.underlying22 ((show Tryd.prog.cellsOf 24 = 4 by kernel_rfl).trans (kU_sz _ N).symm) (opn_E enc w base spare held N)
    exact opnB_iso (f := fun x : Ex => (x.f0, x.f1, x.f2, x.f3)) (g := fun p => .mk p.1 p.2.1 p.2.2.1 p.2.2.2) (fun _ => rfl) (opnB_struct Tryd.underlying24 (by kernel_rfl) (opnB_cons (by kernel_rfl) (by kernel_rfl) hi (opnB_cons (by kernel_rfl) (by kernel_rfl) hi (opnB_cons (by kernel_rfl) (by kernel_rfl) hi (opnB_last (by kernel_rfl) (by kernel_rfl) hs)))))
set_option maxRecDepth 100000 in
theorem lifted (os : Os) (started : os.Started) (H : Type) (enc : TypeId × Value → H) :
    ReturnsInHanded {} Tryd.checked os 4 .any (fun w args => (Rows.fnExactSlimSpec.pre enc Tryd.prog Tryd.f4 [] false w args ∧ laidMetH Tryd.prog Rows.fnExactSlimRow.laid w) ∧ sizedMet enc Tryd.prog Tryd.f4 (OpenSpec.ofChange Rows.fnExactSlimSpec) false w args) (Rows.fnExactSlimSpec.post enc Tryd.prog Tryd.f4 false true false false) := by
  refine returnsInHanded_of_change_and (C := Tryd.checked) (X := fun w _ => laidMetH Tryd.prog Rows.fnExactSlimRow.laid w) (fun _ _ _ hh h => h.of_heap hh) own started (by kernel_rfl) Tryd.func4
    (ChangeSpec.witness_shaped (enc := enc) (C := Tryd.checked) (os := os) (X := fun w _ => laidMetH Tryd.prog Rows.fnExactSlimRow.laid w) false (World.doorLaid Tryd.prog 77 os) #[.agg #[.int .i64 0, .int .i64 0, .int .i64 0, .slice none 0 0]] 16 rfl (World.shaped_of_RefB (by kernel_rfl) (by kernel_rfl)) (by kernel_rfl) (by kernel_rfl) (by kernel_rfl) (door_met os _)) ?_
  intro W base args ds gs before hval0 hW _ _ hLd _
  have hW' := hW
  obtain ⟨p, q, hA0, hV, rfl, hfz, hnd⟩ := hW
  have hA : DataW.TrodAll enc Tryd.prog W 0 (fun _ => true) true Tryd.f4.params.toList args.toList ds p := hA0
  rw [Tryd.params4] at hA
  obtain ⟨v0, vs0, d0, ds0, p0, q0, hargs, rfl, rfl, h0, r0⟩ := trodAll_cons hA
  obtain ⟨rfl, rfl, rfl⟩ := trodAll_nil r0
  obtain rfl : args = #[v0] := by cases args; simp_all
  obtain ⟨gd, rfl⟩ : ∃ d, gs = [d] := by
    obtain ⟨_, _, _, _, d, _, h, _⟩ := trodVars_one hV
    exact ⟨d, h⟩
  have hWd := words_of_laid hLd
  have k0 := h0
  have lt0 : ∀ x ∈ p0, x.block < W.heap.size := by obtain ⟨m, hm⟩ := k0; exact DataW.trod_lt m _ _ _ hm
  obtain ⟨fuel, hf⟩ := h0
  obtain ⟨o0, hKn⟩ := opn_E enc W 0 (fun _ => true) true _ fuel _ _ (Nat.lt_succ_self _) hf
  obtain ⟨A, c, hcs, hlc, hC⟩ := kE_open (t := 29) (x := o0) ⟨_, hKn⟩
  have hval : ∀ (j : Nat) t v, Tryd.f4.params[j]? = some t → #[v0][j]? = some v → Value.okWide Tryd.prog W .any base t v := hval0
  obtain ⟨cs0, rfl, _⟩ := okWide_struct Tryd.underlying24 (hval 0 24 v0 (by rw [Tryd.params4]; rfl) rfl)
  obtain rfl : cs0 = #[.int .i64 o0.f0, .int .i64 o0.f1, .int .i64 o0.f2, .slice A o0.f3.length c] := by
    have h : cs0.toList = _ := hcs
    cases cs0; simpa using h
  clear hA0 hval0
  refine (Nx.walk o0 A c W hWd ⟨hlc, hC⟩).mono fun e W' ⟨he, bel⟩ => ?_
  subst he
  exact ⟨_, rfl, _, _, _, [], _, _, hW', trodAll_mk1 (shut_bool Tryd.underlying4 _), (trodAll_cons_mk (Below.trod laidOut (by kernel_rfl) (of_decide_eq_true (by kernel_rfl)) k0 bel lt0) trodAll_mk0), Below.trodVars laidOut bel (by kernel_rfl) hV, bel.frame _, fun h => by cases h⟩
theorem over : Rows.fnExactSlimRow.holds Tryd.pinned (OpenSpec.ofChange Rows.fnExactSlimSpec) :=
  OpenClaim.holds_of_wide 4 Tryd.f4 rfl rfl rfl rfl rfl rfl rfl ⟨rfl, rfl, rfl, rfl, rfl⟩ rfl rfl rfl rfl rfl (by kernel_rfl) Tryd.func4 (by kernel_rfl)
    (of_decide_eq_true (by kernel_rfl)) (by unfold Func.isWrapper; first | (rw [if_pos (by decide +kernel)]; kernel_rfl) | (rw [if_neg (by decide +kernel)]; exact ⟨rfl, rfl⟩))
    (fun os started H enc _ => lifted os started H enc)
theorem proved : Rows.FnExactSlimSaid := over
#print axioms proved
theorem card : Rows.FnExactSlimCardSaid :=
  Claim7.holds_tied_plain_at .later [] [.data, .data, .data, .widerDeep] true (true, "c909cbee9373471901515a4d39c16f9d3f9b8f6de20e8c25cb0f0efb6360d200") true
    proved (fun _ h => by cases h) (by kernel_rfl) (fun _ h => by cases h) fnExactSlim_row_tie rfl ⟨rfl, rfl⟩ (by kernel_rfl) rfl
    (fun f fn hf hfn => by
      obtain rfl : f = 4 := Option.some.inj ((show Tryd.prog.funcNamed "loop.example/bellman/laws.FnExactSlim" = some 4 by kernel_rfl).symm.trans hf) |>.symm
      obtain rfl : fn = Tryd.f4 := (Option.some.inj (Tryd.func4.symm.trans hfn)).symm
      exact ⟨by kernel_rfl, fun j t ht => by
        rw [Tryd.params4] at ht
        have hm : t ∈ [24] := by simpa using Array.mem_of_getElem? ht
        have hall : ([24].all fun u => !Tryd.prog.wantsStandIn u) = true := by kernel_rfl
        exact (show Tryd.prog.wantsStandIn t = false by simpa using List.all_eq_true.1 hall t hm)⟩)
    (by kernel_rfl)
#print axioms card
end Go.Proofs.YtbbdkhffacoglaaDoor.fnExactSlim
namespace Go.Proofs.YtbbdkhffacoglaaDoor
/-- The row, under a short name, for the claim. -/
theorem fnExactSlim_holds : Rows.FnExactSlimSaid := fnExactSlim.proved
/-- The card, under a short name, for the claim. -/
theorem fnExactSlim_card_holds : Rows.FnExactSlimCardSaid := fnExactSlim.card
end Go.Proofs.YtbbdkhffacoglaaDoor


/- Scripts of calls are read back exactly as written; a drawn text is read by the program as by the reference. Conditions: what the package's variables hold at the start is tied to the program's text by the card. -/
import Derived.Test.YtdohneeejfeknaaDoorRows
import Derived.Test.YtdohneeejfeknaaDoorTqo
import Derived.Test.YtdohneeejfeknaaDoorTie
import Derived.Test.YtdohneeejfeknaaDoorCards
import Derived.WalkKit
import Derived.ProofKit
import Derived.OpenShut
import Derived.ShutString
import Derived.ChangeOld
import Derived.Below
import Derived.SizedLaws
import Derived.LaidMore
import Derived.LaidHandle
import Derived.LaidLaws
import Derived.MakeChecks
import Derived.OpenVars
import Derived.ChangeVars
import Derived.ChangeMaps5
import Derived.SevenTiedAt
import Derived.Stop.Joined
import Derived.Stop.LaidErr
import Derived.Lib.LaidTab
import Derived.Lay
namespace Go.Proofs.YtdohneeejfeknaaDoor.fnTapeText
open Go.Proofs.YtdohneeejfeknaaDoorW.PrintWords Go.Proofs.YtdohneeejfeknaaDoor.Ja Go.Proofs.YtdohneeejfeknaaDoor.Tqb Go.Proofs.YtdohneeejfeknaaDoor.Tqf
open Go.ChangeShapes Go.WideShapes Go.ChangeAt Go.RowKit
set_option linter.unusedVariables false
theorem own : ownKnob Tryd.prog.godebug = none := by kernel_rfl
theorem laidOut : laidOutB Tryd.prog = true := by kernel_rfl
theorem u8 {n : Int} (h : (Lit.int .u8 n).wf = true) : 0 ≤ n ∧ n ≤ 255 := by
  unfold Lit.wf at h
  simp only [Bool.and_eq_true, decide_eq_true_eq] at h
  exact h
theorem bs_of (b : ByteArray) : b = bs b.data.toList := by
  cases b
  simp [bs]
theorem gTab : Tryd.prog.globalNamed "internal/strconv.uint64pow10" = some (Ls.itoaRen.g 17) := by kernel_rfl
theorem pow_tab : (Rows.laid_internal_strconv_uint64pow10 : DataW Unit) = Lib.tabData .u64 Lib.pow10Tab := by kernel_rfl
theorem star : ("*errors.errorString" : String) = "*" ++ "errors.errorString" := by decide
theorem rowE (u : TypeId) (h : Tryd.prog.typeName? 3 u = some "*errors.errorString") : u = 116 :=
  typeName_ptr_named (nm := "errors.errorString") (by rw [← star]; kernel_rfl) (by kernel_rfl) (by decide) u (by rw [← star]; exact h)
/-- what the condition and the reading give: the library's variables -/
theorem vars_of {W : World} (h : laidMetH Tryd.prog Rows.fnTapeTextRow.laid W) (hsh : W.ShapedOpen Tryd.prog) : Vars W := by
  rw [MakeChecks.laidMetH_plain _ _ _ (by kernel_rfl)] at h
  have h0 : laidMet Tryd.prog _ W := h
  have h3 := laidMet.tail (laidMet.tail h0)
  have hR := laidMet.tail (laidMet.tail h3)
  have hS := laidMet.tail hR
  rw [pow_tab] at h3
  obtain ⟨aR, _, hvR, _⟩ := laid_sentinel (P := Tryd.prog) (g := Ls.atoiRen.g 16) (ti := 63) (tp := 116) (te := 118) (ts := 9) hR (by kernel_rfl) (by kernel_rfl) Tryd.underlying63 rowE Tryd.underlying116 Tryd.underlying118 rfl rfl Tryd.underlying9 (by kernel_rfl) (by kernel_rfl)
  obtain ⟨aS, _, hvS, _⟩ := laid_sentinel (P := Tryd.prog) (g := Ls.atoiRen.g 15) (ti := 63) (tp := 116) (te := 118) (ts := 9) hS (by kernel_rfl) (by kernel_rfl) Tryd.underlying63 rowE Tryd.underlying116 Tryd.underlying118 rfl rfl Tryd.underlying9 (by kernel_rfl) (by kernel_rfl)
  have hT := Lib.tabIs_of_head (P := Tryd.prog) (W := W) (g := Ls.itoaRen.g 17) (t := 120) (e := 96) (n := 20) (by kernel_rfl) (by kernel_rfl) (by kernel_rfl) (by kernel_rfl) (by kernel_rfl) (by kernel_rfl) h3
  exact ⟨Ls.split.s1_3 W hsh, ⟨_, (World.var?_cell (by kernel_rfl) hvS 0), Or.inr ⟨_, _, rfl⟩⟩, ⟨_, (World.var?_cell (by kernel_rfl) hvR 0), Or.inr ⟨_, _, rfl⟩⟩, hT⟩
/-- a law over listed variables, the world's shape kept -/
theorem handed_laid {H : Type} {enc : TypeId × Value → H} {a : Assume} {C : Checked} {os : Os} {f : FuncId} {fn : Func} {s : ChangeSpec} {conds : List PathCond} {apart fresh handsOn again : Bool} {X : World → Array Value → Prop}
    (hX : ∀ (w w' : World) (args : Array Value), w.heap = w'.heap → X w args → X w' args) (own : ownKnob C.prog.godebug = none) (started : os.Started) (noInit : C.prog.inits.idxOf? f = none) (hfn : C.prog.funcs[f]? = some fn)
    (witness : ∃ (w : World) (tape : Tape) (i : Input), w.os = os ∧ (w.forCall tape i).Shaped C.prog ∧ i.vars = [] ∧ Input.okWide C.prog (w.forCall tape i) .any w.heap.size f i ∧ ((s.pre enc C.prog fn conds apart (w.forCall tape i).memory i.args ∧ X (w.forCall tape i).memory i.args) ∧ sizedMet enc C.prog fn (OpenSpec.ofChange s) apart (w.forCall tape i).memory i.args) ∧ a.holds C.prog (lone (Frame.enter C.prog f i.args .normal) [] (w.forCall tape i)))
    (main : ∀ (W : World) (base : Nat) (args : Array Value) (ds gs : List (DataW H)) (before : List MemPlace), (∀ (j : Nat) t v, fn.params[j]? = some t → args[j]? = some v → Value.okWide C.prog W .any base t v) → DataW.Whole enc C.prog fn.params.toList s.vars apart W args.toList ds gs before → X W args → W.ShapedOpen C.prog →
      Calls C.prog f args W fun e W' => ∃ v, e = .returned v ∧ s.post enc C.prog fn apart fresh handsOn again W args v W') :
    ReturnsInHanded a C os f .any (fun w args => (s.pre enc C.prog fn conds apart w args ∧ X w args) ∧ sizedMet enc C.prog fn (OpenSpec.ofChange s) apart w args) (s.post enc C.prog fn apart fresh handsOn again) :=
  returnsInHanded_of_calls own started noInit witness fun w tape i _ hsh _ hok hpre _ => by
    obtain ⟨_, _, _, gn, hgn, _, _, _, _, hval⟩ := hok
    obtain rfl : gn = fn := Option.some.inj (hgn.symm.trans hfn)
    obtain ⟨⟨⟨ds, gs, before, hw, _⟩, hx⟩, _⟩ := hpre
    refine (main (w.forCall tape i) w.heap.size i.args ds gs before hval (DataW.Whole.of_heap (w' := w.forCall tape i) (by rfl) hw) (hX _ _ _ (by rfl) hx) hsh).mono ?_
    rintro e W' ⟨v, rfl, hp⟩
    exact ChangeSpec.post_blind hp
set_option maxRecDepth 100000 in
theorem lifted (os : Os) (started : os.Started) (H : Type) (enc : TypeId × Value → H) :
    ReturnsInHanded {} Tryd.checked os 4 .any (fun w args => (Rows.fnTapeTextSpec.pre enc Tryd.prog Tryd.f4 [] false w args ∧ laidMetH Tryd.prog Rows.fnTapeTextRow.laid w) ∧ sizedMet enc Tryd.prog Tryd.f4 (OpenSpec.ofChange Rows.fnTapeTextSpec) false w args) (Rows.fnTapeTextSpec.post enc Tryd.prog Tryd.f4 false true false false) := by
  refine handed_laid (C := Tryd.checked) (X := fun w _ => laidMetH Tryd.prog Rows.fnTapeTextRow.laid w) (fun _ _ _ hh h => h.of_heap hh) own started (by kernel_rfl) Tryd.func4
    (ChangeSpec.witness_shaped (enc := enc) (C := Tryd.checked) (os := os) (X := fun w _ => laidMetH Tryd.prog Rows.fnTapeTextRow.laid w) false (World.laidAll Tryd.prog os Rows.fnTapeTextRow.laid) #[.slice none 0 0, .slice none 0 0] 16 (World.laidAll_os _ _ _) (World.shaped_of_ZipB (by kernel_rfl) (by kernel_rfl)) (by kernel_rfl) (by kernel_rfl) (by kernel_rfl) (by rw [MakeChecks.laidMetH_plain _ _ _ (by kernel_rfl)]; exact laidMet_laidAll _ (by kernel_rfl) (by kernel_rfl))) ?_
  intro W base args ds gs before hval0 hW hLd hsh
  have hW' := hW
  obtain ⟨p, q, hA0, hV, rfl, hfz, hnd⟩ := hW
  have hWd := vars_of hLd hsh
  obtain ⟨rfl, rfl⟩ := trodVars_none hV
  have hA : DataW.TrodAll enc Tryd.prog W 0 (fun _ => true) true Tryd.f4.params.toList args.toList ds p := hA0
  rw [Tryd.params4] at hA
  obtain ⟨v0, vs0, d0, ds0, p0, q0, hargs, rfl, rfl, h0, r0⟩ := trodAll_cons hA
  obtain ⟨v1, vs1, d1, ds1, p1, q1, rfl, rfl, rfl, h1, r1⟩ := trodAll_cons r0
  obtain ⟨rfl, rfl, rfl⟩ := trodAll_nil r1
  obtain rfl : args = #[v0, v1] := by cases args; simp_all
  have k0 := h0
  have lt0 : ∀ x ∈ p0, x.block < W.heap.size := by obtain ⟨m, hm⟩ := k0; exact DataW.trod_lt m _ _ _ hm
  obtain ⟨fuel0, hf0⟩ := h0
  obtain ⟨z0, ⟨A0, c0, hcs0, hlc0, hC0⟩, hok0⟩ := opn_slice (enc := enc) (P := Tryd.prog) (w := W) (base := 0) (spare := fun _ => true) (held := true) (e := 5) (e0 := 5) (d := Kd.int .u8) Tryd.underlying28 (by kernel_rfl) (opn_int Tryd.underlying5) _ _ _ hf0
  have k1 := h1
  have lt1 : ∀ x ∈ p1, x.block < W.heap.size := by obtain ⟨m, hm⟩ := k1; exact DataW.trod_lt m _ _ _ hm
  obtain ⟨fuel1, hf1⟩ := h1
  obtain ⟨z1, ⟨A1, c1, hcs1, hlc1, hC1⟩, hok1⟩ := opn_slice (enc := enc) (P := Tryd.prog) (w := W) (base := 0) (spare := fun _ => true) (held := true) (e := 5) (e0 := 5) (d := Kd.int .u8) Tryd.underlying28 (by kernel_rfl) (opn_int Tryd.underlying5) _ _ _ hf1
  have hval : ∀ (j : Nat) t v, Tryd.f4.params[j]? = some t → #[v0, v1][j]? = some v → Value.okWide Tryd.prog W .any base t v := hval0
  obtain ⟨a0, len0, cap0, rfl⟩ := okWide_slice Tryd.underlying28 (hval 0 28 v0 (by rw [Tryd.params4]; rfl) rfl)
  simp [Value.cells] at hcs0
  obtain ⟨rfl, rfl, rfl⟩ := hcs0
  obtain ⟨a1, len1, cap1, rfl⟩ := okWide_slice Tryd.underlying28 (hval 1 28 v1 (by rw [Tryd.params4]; rfl) rfl)
  simp [Value.cells] at hcs1
  obtain ⟨rfl, rfl, rfl⟩ := hcs1
  clear hA0 hval0
  refine (Tqo.walk a0 cap0 z0 W hC0 hlc0 (fun b hb => u8 (hok0 b hb)) a1 cap1 z1 hC1 hlc1 (fun b hb => u8 (hok1 b hb)) hWd).mono fun e W' ⟨he, bel⟩ => ?_
  subst he
  exact ⟨_, rfl, _, _, _, [], _, [], hW', trodAll_mk1 (shut_bool Tryd.underlying4 _), (trodAll_cons_mk (Below.trod laidOut (by kernel_rfl) (of_decide_eq_true (by kernel_rfl)) k0 bel lt0) (trodAll_cons_mk (Below.trod laidOut (by kernel_rfl) (of_decide_eq_true (by kernel_rfl)) k1 bel lt1) trodAll_mk0)), rfl, bel.frame _, fun h => by cases h⟩
theorem over : Rows.fnTapeTextRow.holds Tryd.pinned (OpenSpec.ofChange Rows.fnTapeTextSpec) :=
  OpenClaim.holds_of_wide 4 Tryd.f4 rfl rfl rfl rfl rfl rfl rfl ⟨rfl, rfl, rfl, rfl, rfl⟩ rfl rfl rfl rfl rfl (by kernel_rfl) Tryd.func4 (by kernel_rfl)
    (of_decide_eq_true (by kernel_rfl)) (by unfold Func.isWrapper; first | (rw [if_pos (by decide +kernel)]; kernel_rfl) | (rw [if_neg (by decide +kernel)]; exact ⟨rfl, rfl⟩))
    (fun os started H enc _ => lifted os started H enc)
theorem proved : Rows.FnTapeTextSaid := over
#print axioms proved
theorem card : Rows.FnTapeTextCardSaid :=
  Claim7.holds_tied_plain_at .later [] [.data, .data, .data, .data, .sentinel, .sentinel, .pinned] true (true, "d6a3cd5bce561459e5a656d33e28e39bb6684caa9290327331b2d843666ccdb0") true
    proved (fun _ h => by cases h) (by kernel_rfl) (fun _ h => by cases h) fnTapeText_row_tie rfl ⟨rfl, rfl⟩ (by kernel_rfl) rfl
    (fun f fn hf hfn => by
      obtain rfl : f = 4 := Option.some.inj ((show Tryd.prog.funcNamed "loop.example/bellman/laws.FnTapeText" = some 4 by kernel_rfl).symm.trans hf) |>.symm
      obtain rfl : fn = Tryd.f4 := (Option.some.inj (Tryd.func4.symm.trans hfn)).symm
      exact ⟨by kernel_rfl, fun j t ht => by
        rw [Tryd.params4] at ht
        have hm : t ∈ [28, 28] := by simpa using Array.mem_of_getElem? ht
        have hall : ([28, 28].all fun u => !Tryd.prog.wantsStandIn u) = true := by kernel_rfl
        exact (show Tryd.prog.wantsStandIn t = false by simpa using List.all_eq_true.1 hall t hm)⟩)
    (by kernel_rfl)
#print axioms card
end Go.Proofs.YtdohneeejfeknaaDoor.fnTapeText
namespace Go.Proofs.YtdohneeejfeknaaDoor
/-- The row, under a short name, for the claim. -/
theorem fnTapeText_holds : Rows.FnTapeTextSaid := fnTapeText.proved
/-- The card, under a short name, for the claim. -/
theorem fnTapeText_card_holds : Rows.FnTapeTextCardSaid := fnTapeText.card
end Go.Proofs.YtdohneeejfeknaaDoor

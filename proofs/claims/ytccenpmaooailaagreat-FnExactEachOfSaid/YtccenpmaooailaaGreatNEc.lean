
/- Comparisons of lists of occurrences: the laws' own functions. -/
import Derived.Test.YtccenpmaooailaaGreatNB7
import Derived.Test.YtccenpmaooailaaGreatNB6
import Derived.Test.YtccenpmaooailaaGreatNEa
set_option linter.unusedVariables false
set_option linter.unusedSimpArgs false
namespace Go.Proofs.YtccenpmaooailaaGreat.Ec
open Go.RowKit Go.Proofs.YtccenpmaooailaaGreatW.PrintWords Go.Proofs.YtccenpmaooailaaGreat.Wd Go.Proofs.YtccenpmaooailaaGreat.Pu Go.Proofs.YtccenpmaooailaaGreat.Pv Go.Proofs.YtccenpmaooailaaGreat.Ca Go.Proofs.YtccenpmaooailaaGreat.Cb Go.Proofs.YtccenpmaooailaaGreat.Cc Go.Proofs.YtccenpmaooailaaGreat.Cp Go.Proofs.YtccenpmaooailaaGreat.Cd Go.Proofs.YtccenpmaooailaaGreat.Ci Go.Proofs.YtccenpmaooailaaGreat.Ce Go.Proofs.YtccenpmaooailaaGreat.Cf Go.Proofs.YtccenpmaooailaaGreat.Cg Go.Proofs.YtccenpmaooailaaGreat.Sc Go.Proofs.YtccenpmaooailaaGreat.Se Go.Proofs.YtccenpmaooailaaGreat.Sh Go.Proofs.YtccenpmaooailaaGreat.Si Go.Proofs.YtccenpmaooailaaGreat.Sp Go.Proofs.YtccenpmaooailaaGreat.Ia Go.Proofs.YtccenpmaooailaaGreat.Ib Go.Proofs.YtccenpmaooailaaGreat.Ic Go.Proofs.YtccenpmaooailaaGreat.Id Go.Proofs.YtccenpmaooailaaGreat.Ie Go.Proofs.YtccenpmaooailaaGreat.If Go.Proofs.YtccenpmaooailaaGreat.Ig Go.Proofs.YtccenpmaooailaaGreat.Ih Go.Proofs.YtccenpmaooailaaGreat.Ij Go.Proofs.YtccenpmaooailaaGreat.Ik Go.Proofs.YtccenpmaooailaaGreat.Ra Go.Proofs.YtccenpmaooailaaGreat.Rb Go.Proofs.YtccenpmaooailaaGreat.Rc Go.Proofs.YtccenpmaooailaaGreat.Rd Go.Proofs.YtccenpmaooailaaGreat.Re Go.Proofs.YtccenpmaooailaaGreat.Sj Go.Proofs.YtccenpmaooailaaGreat.Ya Go.Proofs.YtccenpmaooailaaGreat.Yd Go.Proofs.YtccenpmaooailaaGreat.Yf Go.Proofs.YtccenpmaooailaaGreat.Yg Go.Proofs.YtccenpmaooailaaGreat.Ih Go.Proofs.YtccenpmaooailaaGreat.Yh Go.Proofs.YtccenpmaooailaaGreat.Yi Go.Proofs.YtccenpmaooailaaGreat.Sg Go.Proofs.YtccenpmaooailaaGreat.Sf Go.Proofs.YtccenpmaooailaaGreat.Yj Go.Proofs.YtccenpmaooailaaGreat.Ig Go.Proofs.YtccenpmaooailaaGreat.Yk Go.Proofs.YtccenpmaooailaaGreat.Ik Go.Proofs.YtccenpmaooailaaGreat.Yl Go.Proofs.YtccenpmaooailaaGreat.Ij Go.Proofs.YtccenpmaooailaaGreat.Ym Go.Proofs.YtccenpmaooailaaGreat.Il Go.Proofs.YtccenpmaooailaaGreat.Yn Go.Proofs.YtccenpmaooailaaGreat.Yo Go.Proofs.YtccenpmaooailaaGreat.In Go.Proofs.YtccenpmaooailaaGreat.Yq Go.Proofs.YtccenpmaooailaaGreat.Pw Go.Proofs.YtccenpmaooailaaGreat.Px Go.Proofs.YtccenpmaooailaaGreat.La Go.Proofs.YtccenpmaooailaaGreat.Db Go.Proofs.YtccenpmaooailaaGreat.Sh Go.Proofs.YtccenpmaooailaaGreat.Id Go.Proofs.YtccenpmaooailaaGreat.Ea

/-! comparisons: of what is equal -/
set_option maxRecDepth 100000 in
theorem eqIntS_any (A B : Option Addr) (c c2 : Nat) (a : List Int) (w : World) (ha : (Kd.int .i64).C w A a.length a) (hb : (Kd.int .i64).C w B a.length a) :
    Calls Tryz.prog 115 #[.slice A a.length c, .slice B a.length c2] w fun e w' => e = .returned (.bool true) ∧ Below w.heap.size w w' := by
  have hn := (C_len ha).2
  have hl2 : ((a.length : Int) != (a.length : Int)) = false := by simp
  go_enter Tryz.func115, Tryz.ntmps115
  go_wp2
  go_loopw [5] (fun vi wr => ∃ k : Nat, k ≤ a.length ∧ vi = .int .i64 k ∧ Aside0 (Below w.heap.size w wr)) (fun vi _ => a.length - (intOf vi).toNat)
  case atStart => exact ⟨0, Nat.zero_le _, rfl, ⟨Below.refl _ _⟩⟩
  case round =>
    obtain ⟨k, hk, rfl, HB⟩ := hrel
    by_cases hlt : k < a.length
    · have g1 : decide (k < a.length) = true := decide_eq_true hlt
      have i1 : (k : Int) < a.length := by omega
      obtain ⟨ad, rfl, hc⟩ := at1 (Kd.C_below ha HB.out) k hlt
      obtain ⟨ad2, rfl, hc2⟩ := at1 (Kd.C_below hb HB.out) k hlt
      generalize a.getD k 0 = x at hc hc2
      have hx : (x != x) = false := by simp
      replace hc := cellE hc
      replace hc2 := cellE hc2
      go_wp2
      refine region_ext (W := wr) (Below.refl _ _) (by kernel_rfl) (by kernel_rfl) ?_
      repeat (first | go_big_quiet_step (fail) | quiet_step (fail))
      refine wpQuiet_nil ?_
      rintro _ ⟨s, rfl⟩
      have HB3 := Aside0.mk (below_then HB.out HB.out.size s.2)
      generalize s.1 = W2 at HB3
      go_wp2
      go_roundw
      case rel => exact ⟨k + 1, by omega, by go_num, HB3⟩
      case measure => simp [intOf]; omega
    · have hke : k = a.length := by omega
      subst hke
      have g1 : decide (a.length < a.length) = false := decide_eq_false (by omega)
      go_wp2
      go_ret
      exact ⟨rfl, HB.out⟩
set_option maxHeartbeats 1000000 in
set_option maxRecDepth 100000 in
theorem eqOcc_any (A B : Option Addr) (c d : Nat) (o : Occ) (w : World) (ha : IsO w o A c) (hb : IsO w o B d) :
    Calls Tryz.prog 74 #[.agg #[.int .i64 o.f0, .int .i64 o.f1, .slice A o.f2.length c], .agg #[.int .i64 o.f0, .int .i64 o.f1, .slice B o.f2.length d]] w fun e w' => e = .returned (.bool true) ∧ Below w.heap.size w w' := by
  obtain ⟨hb0, bP, bQ⟩ := boxes2 w #[.int .i64 o.f0, .int .i64 o.f1, .slice A o.f2.length c] #[.int .i64 o.f0, .int .i64 o.f1, .slice B o.f2.length d] 43 43
  have HA := Aside0.mk (ha.below hb0)
  have HBo := Aside0.mk (hb.below hb0)
  have HB0 := Aside0.mk hb0
  clear ha hb
  go_enter Tryz.func74, Tryz.ntmps74
  go_upto_region 1 with fail
  generalize (w.alloc (.cells #[.int .i64 o.f0, .int .i64 o.f1, .slice A o.f2.length c] 43)).alloc (.cells #[.int .i64 o.f0, .int .i64 o.f1, .slice B o.f2.length d] 43) = W at hb0 bP bQ HA HBo HB0 ⊢
  clear hb0
  have p0 := (blk_cell bP 0).trans rfl
  have p1 := (blk_cell bP 1).trans rfl
  have p2 := (blk_cell bP 2).trans rfl
  have q0 := (blk_cell bQ 0).trans rfl
  have q1 := (blk_cell bQ 1).trans rfl
  have q2 := (blk_cell bQ 2).trans rfl
  have x0 : (o.f0 != o.f0) = false := by simp
  have x1 : (o.f1 != o.f1) = false := by simp
  go_wp2_with (go_at_call 115; refine (eqIntS_any A B c d o.f2 _ HA.out.2 HBo.out.2).mono ?_; rintro e w2 ⟨rfl, hb2⟩; have HB2 := Aside0.mk (below_then HB0.out HB0.out.size hb2); clear hb2)
  go_ret
  exact ⟨rfl, HB2.out⟩

set_option maxHeartbeats 4000000 in
set_option maxRecDepth 100000 in
theorem eqOccS_any (A B : Option Addr) (c cb : Nat) (a : List Occ) (w : World) (ha : IsL w a A c) (hb : IsL w a B cb) :
    Calls Tryz.prog 35 #[.slice A a.length c, .slice B a.length cb] w fun e w' => e = .returned (.bool true) ∧ Below w.heap.size w w' := by
  have HA := Aside0.mk ha
  have HBb := Aside0.mk hb
  have hna := (C_len ha.rd).2
  have hl2 : ((a.length : Int) != (a.length : Int)) = false := by simp
  clear ha hb
  go_enter Tryz.func35, Tryz.ntmps35
  go_wp2
  go_loopw [5] (fun vi wr => ∃ (k : Nat), k ≤ a.length ∧ vi = .int .i64 k ∧ Aside0 (Below w.heap.size w wr)) (fun vi _ => a.length - (intOf vi).toNat)
  case atStart => exact ⟨0, by omega, rfl, ⟨Below.refl _ _⟩⟩
  case round =>
    obtain ⟨k, hk, rfl, HB⟩ := hrel
    by_cases hlt : k < a.length
    · have g1 : decide (k < a.length) = true := decide_eq_true hlt
      have k1 : (k : Int) < a.length := by omega
      obtain ⟨ada, A2, c2, eXa, hix, hex⟩ := elem (HA.out.below HB.out) hlt
      obtain ⟨adb, B2, d2, eXb, hiy, hey⟩ := elem (HBb.out.below HB.out) hlt
      subst eXa eXb
      generalize a.getD k zO = x at hix hex hiy hey
      have HIX := Aside0.mk hix
      have HIY := Aside0.mk hiy
      have HF6 : Aside0 (∀ w', Below wr.heap.size wr w' → (fun w' => (w'.cell? (ada.add (k * 3)) = some (.int .i64 x.f0) ∧ w'.cell? ⟨(ada.add (k * 3)).block, (ada.add (k * 3)).off + 1, none⟩ = some (.int .i64 x.f1) ∧ w'.cell? ⟨(ada.add (k * 3)).block, (ada.add (k * 3)).off + 2, none⟩ = some (.slice A2 x.f2.length c2)) ∧ (w'.cell? (adb.add (k * 3)) = some (.int .i64 x.f0) ∧ w'.cell? ⟨(adb.add (k * 3)).block, (adb.add (k * 3)).off + 1, none⟩ = some (.int .i64 x.f1) ∧ w'.cell? ⟨(adb.add (k * 3)).block, (adb.add (k * 3)).off + 2, none⟩ = some (.slice B2 x.f2.length d2))) w') := ⟨fun w' h => ⟨⟨pw_cell_below h hex.a, pw_cell_below h hex.b, pw_cell_below h hex.c⟩, ⟨pw_cell_below h hey.a, pw_cell_below h hey.b, pw_cell_below h hey.c⟩⟩⟩
      have HB0 : Below wr.heap.size wr wr.drew := below_drew (Below.refl _ _)
      clear hix hiy hex hey
      go_upto_region 6 with fail
      refine Za.regionL (fun w' => (w'.cell? (ada.add (k * 3)) = some (.int .i64 x.f0) ∧ w'.cell? ⟨(ada.add (k * 3)).block, (ada.add (k * 3)).off + 1, none⟩ = some (.int .i64 x.f1) ∧ w'.cell? ⟨(ada.add (k * 3)).block, (ada.add (k * 3)).off + 2, none⟩ = some (.slice A2 x.f2.length c2)) ∧ (w'.cell? (adb.add (k * 3)) = some (.int .i64 x.f0) ∧ w'.cell? ⟨(adb.add (k * 3)).block, (adb.add (k * 3)).off + 1, none⟩ = some (.int .i64 x.f1) ∧ w'.cell? ⟨(adb.add (k * 3)).block, (adb.add (k * 3)).off + 2, none⟩ = some (.slice B2 x.f2.length d2))) [] (by kernel_rfl) ?_
      have HS : (fun w' => (w'.cell? (ada.add (k * 3)) = some (.int .i64 x.f0) ∧ w'.cell? ⟨(ada.add (k * 3)).block, (ada.add (k * 3)).off + 1, none⟩ = some (.int .i64 x.f1) ∧ w'.cell? ⟨(ada.add (k * 3)).block, (ada.add (k * 3)).off + 2, none⟩ = some (.slice A2 x.f2.length c2)) ∧ (w'.cell? (adb.add (k * 3)) = some (.int .i64 x.f0) ∧ w'.cell? ⟨(adb.add (k * 3)).block, (adb.add (k * 3)).off + 1, none⟩ = some (.int .i64 x.f1) ∧ w'.cell? ⟨(adb.add (k * 3)).block, (adb.add (k * 3)).off + 2, none⟩ = some (.slice B2 x.f2.length d2))) wr.drew := HF6.out _ HB0
      refine Za.takeL 0 (v := ?va0) rfl (by kernel_rfl) (by kernel_rfl) (by kernel_rfl) (by kernel_rfl) (fun _ _ _ h => h) (Or.inl ⟨by rfl, ?hya0⟩) HS ?resta0
      case hya0 => (intro w hSw; (try dsimp only at hSw); go_simp; try with_reducible rfl)
      (try simp only [Act.put, List.setIfInBounds_toArray, List.set_cons_zero, List.set_cons_succ])
      refine Za.takeL 1 (v := ?va1) rfl (by kernel_rfl) (by kernel_rfl) (by kernel_rfl) (by kernel_rfl) (fun _ _ _ h => h) (Or.inl ⟨by rfl, ?hya1⟩) HS ?resta1
      case hya1 => (intro w hSw; (try dsimp only at hSw); go_simp; try with_reducible rfl)
      (try simp only [Act.put, List.setIfInBounds_toArray, List.set_cons_zero, List.set_cons_succ])
      refine Za.takeL 2 (v := ?va2) rfl (by kernel_rfl) (by kernel_rfl) (by kernel_rfl) (by kernel_rfl) (fun _ _ _ h => h) (Or.inl ⟨by rfl, ?hya2⟩) HS ?resta2
      case hya2 => (intro w hSw; (try dsimp only at hSw); go_simp; try with_reducible rfl)
      (try simp only [Act.put, List.setIfInBounds_toArray, List.set_cons_zero, List.set_cons_succ])
      refine Za.takeL 3 (v := ?va3) rfl (by kernel_rfl) (by kernel_rfl) (by kernel_rfl) (by kernel_rfl) (fun _ _ _ h => h) (Or.inl ⟨by rfl, ?hya3⟩) HS ?resta3
      case hya3 => (intro w hSw; (try dsimp only at hSw); go_simp; try with_reducible rfl)
      (try simp only [Act.put, List.setIfInBounds_toArray, List.set_cons_zero, List.set_cons_succ])
      refine Za.takeL 4 (v := ?va4) rfl (by kernel_rfl) (by kernel_rfl) (by kernel_rfl) (by kernel_rfl) (fun _ _ _ h => h) (Or.inl ⟨by rfl, ?hya4⟩) HS ?resta4
      case hya4 => (intro w hSw; (try dsimp only at hSw); go_simp; try with_reducible rfl)
      (try simp only [Act.put, List.setIfInBounds_toArray, List.set_cons_zero, List.set_cons_succ])
      refine Za.takeL 5 (v := ?va5) rfl (by kernel_rfl) (by kernel_rfl) (by kernel_rfl) (by kernel_rfl) (fun _ _ _ h => h) (Or.inl ⟨by rfl, ?hya5⟩) HS ?resta5
      case hya5 => (intro w hSw; (try dsimp only at hSw); go_simp; try with_reducible rfl)
      (try simp only [Act.put, List.setIfInBounds_toArray, List.set_cons_zero, List.set_cons_succ])
      refine Za.takeL 6 (v := ?va6) rfl (by kernel_rfl) (by kernel_rfl) (by kernel_rfl) (by kernel_rfl) (fun _ _ _ h => h) (Or.inl ⟨by rfl, ?hya6⟩) HS ?resta6
      case hya6 => (intro w hSw; (try dsimp only at hSw); go_simp; try with_reducible rfl)
      (try simp only [Act.put, List.setIfInBounds_toArray, List.set_cons_zero, List.set_cons_succ])
      refine Za.takeL 7 (v := ?va7) rfl (by kernel_rfl) (by kernel_rfl) (by kernel_rfl) (by kernel_rfl) (fun _ _ _ h => h) (Or.inl ⟨by rfl, ?hya7⟩) HS ?resta7
      case hya7 => (intro w hSw; (try dsimp only at hSw); go_simp; try with_reducible rfl)
      (try simp only [Act.put, List.setIfInBounds_toArray, List.set_cons_zero, List.set_cons_succ])
      clear HS
      refine Za.nextL 8 (by kernel_rfl) rfl (fun K' hK => ?_)
      go_simp
      (go_at_call 74; refine (eqOcc_any _ _ _ _ x _ (HIX.out.below HB0) (HIY.out.below HB0)).mono ?_; rintro e w4 ⟨rfl, hb4⟩; have HB4 : Below wr.heap.size wr w4 := keepD hb4; have HB5 := Aside0.mk HB4; clear hb4)
      go_wp2_with fail
      refine hK.out _ _ ⟨fun _ => HF6.out _ HB4, ?_⟩
      clear hK K'
      (try simp only [Act.put, List.setIfInBounds_toArray, List.set_cons_zero, List.set_cons_succ])
      have HS : (fun w' => (w'.cell? (ada.add (k * 3)) = some (.int .i64 x.f0) ∧ w'.cell? ⟨(ada.add (k * 3)).block, (ada.add (k * 3)).off + 1, none⟩ = some (.int .i64 x.f1) ∧ w'.cell? ⟨(ada.add (k * 3)).block, (ada.add (k * 3)).off + 2, none⟩ = some (.slice A2 x.f2.length c2)) ∧ (w'.cell? (adb.add (k * 3)) = some (.int .i64 x.f0) ∧ w'.cell? ⟨(adb.add (k * 3)).block, (adb.add (k * 3)).off + 1, none⟩ = some (.int .i64 x.f1) ∧ w'.cell? ⟨(adb.add (k * 3)).block, (adb.add (k * 3)).off + 2, none⟩ = some (.slice B2 x.f2.length d2))) w4 := HF6.out _ HB4
      refine Za.takeL 9 (v := ?va9) rfl (by kernel_rfl) (by kernel_rfl) (by kernel_rfl) (by kernel_rfl) (fun _ _ _ h => h) (Or.inl ⟨by rfl, ?hya9⟩) HS ?resta9
      case hya9 => (intro w hSw; (try dsimp only at hSw); go_simp; try with_reducible rfl)
      (try simp only [Act.put, List.setIfInBounds_toArray, List.set_cons_zero, List.set_cons_succ])
      refine Za.Walk.done (by kernel_rfl) ?_
      clear HS
      go_wp2
      go_roundw
      case rel => exact ⟨k + 1, by omega, by go_num, ⟨below_then HB.out HB.out.size HB5.out⟩⟩
      case measure => simp [intOf]; omega
    · have g1 : decide (k < a.length) = false := decide_eq_false hlt
      go_wp2
      go_ret
      exact ⟨rfl, HB.out⟩
end Go.Proofs.YtccenpmaooailaaGreat.Ec

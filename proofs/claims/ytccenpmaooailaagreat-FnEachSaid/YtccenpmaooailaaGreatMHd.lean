
/- FnEach: the walk. -/
import Derived.Test.YtccenpmaooailaaGreatMB7
import Derived.Test.YtccenpmaooailaaGreatMB6
import Derived.Test.YtccenpmaooailaaGreatMHc
set_option linter.unusedVariables false
set_option linter.unusedSimpArgs false
namespace Go.Proofs.YtccenpmaooailaaGreat.Hd
open Go.RowKit Go.Proofs.YtccenpmaooailaaGreatW.PrintWords Go.Proofs.YtccenpmaooailaaGreat.Wd Go.Proofs.YtccenpmaooailaaGreat.Pu Go.Proofs.YtccenpmaooailaaGreat.Pv Go.Proofs.YtccenpmaooailaaGreat.Ca Go.Proofs.YtccenpmaooailaaGreat.Cb Go.Proofs.YtccenpmaooailaaGreat.Cc Go.Proofs.YtccenpmaooailaaGreat.Cp Go.Proofs.YtccenpmaooailaaGreat.Cd Go.Proofs.YtccenpmaooailaaGreat.Ci Go.Proofs.YtccenpmaooailaaGreat.Ce Go.Proofs.YtccenpmaooailaaGreat.Cf Go.Proofs.YtccenpmaooailaaGreat.Cg Go.Proofs.YtccenpmaooailaaGreat.Sc Go.Proofs.YtccenpmaooailaaGreat.Se Go.Proofs.YtccenpmaooailaaGreat.Sh Go.Proofs.YtccenpmaooailaaGreat.Si Go.Proofs.YtccenpmaooailaaGreat.Sp Go.Proofs.YtccenpmaooailaaGreat.Ia Go.Proofs.YtccenpmaooailaaGreat.Ib Go.Proofs.YtccenpmaooailaaGreat.Ic Go.Proofs.YtccenpmaooailaaGreat.Id Go.Proofs.YtccenpmaooailaaGreat.Ie Go.Proofs.YtccenpmaooailaaGreat.If Go.Proofs.YtccenpmaooailaaGreat.Ig Go.Proofs.YtccenpmaooailaaGreat.Ih Go.Proofs.YtccenpmaooailaaGreat.Ij Go.Proofs.YtccenpmaooailaaGreat.Ik Go.Proofs.YtccenpmaooailaaGreat.Ra Go.Proofs.YtccenpmaooailaaGreat.Rb Go.Proofs.YtccenpmaooailaaGreat.Rc Go.Proofs.YtccenpmaooailaaGreat.Rd Go.Proofs.YtccenpmaooailaaGreat.Re Go.Proofs.YtccenpmaooailaaGreat.Sj Go.Proofs.YtccenpmaooailaaGreat.Ya Go.Proofs.YtccenpmaooailaaGreat.Yd Go.Proofs.YtccenpmaooailaaGreat.Yf Go.Proofs.YtccenpmaooailaaGreat.Yg Go.Proofs.YtccenpmaooailaaGreat.Ih Go.Proofs.YtccenpmaooailaaGreat.Yh Go.Proofs.YtccenpmaooailaaGreat.Yi Go.Proofs.YtccenpmaooailaaGreat.Sg Go.Proofs.YtccenpmaooailaaGreat.Sf Go.Proofs.YtccenpmaooailaaGreat.Yj Go.Proofs.YtccenpmaooailaaGreat.Ig Go.Proofs.YtccenpmaooailaaGreat.Yk Go.Proofs.YtccenpmaooailaaGreat.Ik Go.Proofs.YtccenpmaooailaaGreat.Yl Go.Proofs.YtccenpmaooailaaGreat.Ij Go.Proofs.YtccenpmaooailaaGreat.Ym Go.Proofs.YtccenpmaooailaaGreat.Il Go.Proofs.YtccenpmaooailaaGreat.Yn Go.Proofs.YtccenpmaooailaaGreat.Yo Go.Proofs.YtccenpmaooailaaGreat.In Go.Proofs.YtccenpmaooailaaGreat.Yq Go.Proofs.YtccenpmaooailaaGreat.Pw Go.Proofs.YtccenpmaooailaaGreat.Px Go.Proofs.YtccenpmaooailaaGreat.La Go.Proofs.YtccenpmaooailaaGreat.Db Go.Proofs.YtccenpmaooailaaGreat.Ta Go.Proofs.YtccenpmaooailaaGreat.Tb Go.Proofs.YtccenpmaooailaaGreat.Td Go.Proofs.YtccenpmaooailaaGreat.Te Go.Proofs.YtccenpmaooailaaGreat.Sh Go.Proofs.YtccenpmaooailaaGreat.Id Go.Proofs.YtccenpmaooailaaGreat.Ik Go.Proofs.YtccenpmaooailaaGreat.Il Go.Proofs.YtccenpmaooailaaGreat.Ij Go.Proofs.YtccenpmaooailaaGreat.Ga Go.Proofs.YtccenpmaooailaaGreat.Ih Go.Proofs.YtccenpmaooailaaGreat.Ig Go.Proofs.YtccenpmaooailaaGreat.Gb Go.Proofs.YtccenpmaooailaaGreat.Gc Go.Proofs.YtccenpmaooailaaGreat.Ha Go.Proofs.YtccenpmaooailaaGreat.Hb Go.Proofs.YtccenpmaooailaaGreat.Yq Go.Proofs.YtccenpmaooailaaGreat.Hc

set_option maxHeartbeats 60000000 in
set_option maxRecDepth 100000 in
theorem walk (A : Option Addr) (c : Nat) (bs : List Int) (w : World) (hC : (Kd.int .u8).C w A bs.length bs) (hc : bs.length ≤ c) (hb : ∀ b ∈ bs, 0 ≤ b ∧ b ≤ 255) :
    Calls Tryz.prog 4 #[.slice A bs.length c] w fun e w' => e = .returned (.bool true) ∧ Below w.heap.size w w' := by
  by_cases hbig : bs.length > 1048576
  · have d1 : decide ((bs.length : Int) > 1048576) = true := decide_eq_true (by omega)
    go_enter Tryz.func4, Tryz.ntmps4
    go_wp2
    go_ret
    exact ⟨rfl, Below.refl _ _⟩
  have d1 : decide ((bs.length : Int) > 1048576) = false := decide_eq_false (by omega)
  go_enter Tryz.func4, Tryz.ntmps4
  go_upto_region 4 with (go_at_call 22; refine (dDrawEachOf_any A c bs _ hC hc hb).mono ?_; rintro e w0 ⟨md, a, b, m, Xa, Xb, Xm, ca, cb, cm, rfl, hA0, hB0, hM0, hbel⟩; have HA0 := Aside0.mk hA0; have HB0 := Aside0.mk hB0; have HM0 := Aside0.mk hM0; have HBel0 := Aside0.mk hbel; clear hA0 hB0 hM0 hbel)
  rcases ofN_cases each3 (fun md a b m => ew md a m b) ofN_each md a b m with hp | ⟨hm, ⟨ka, na⟩, ⟨kb, nb⟩, ⟨km, nm⟩, hl40, hp⟩
  · have HP := Aside0.mk hp
    clear hp
    go_upto_region 5 with (go_at_call 23; refine (iEach md Xa Xb Xm ca cb cm a b m ([], false) _ HP.out HA0.out HB0.out HM0.out).mono ?_; rintro e w1 ⟨R1, r1, rfl, hl1, hb1⟩; have HBel1 := Aside0.mk (below_then HBel0.out HBel0.out.size hb1); have HA1 := Aside0.mk (HA0.out.below hb1); have HB1 := Aside0.mk (HB0.out.below hb1); have HM1 := Aside0.mk (HM0.out.below hb1); have L1_1 := Aside0.mk hl1; clear hl1 hb1)
    go_upto_region 6 with (go_at_call 24; refine (sEach md Xa Xb Xm ca cb cm a b m ([], false) _ HP.out HA1.out HB1.out HM1.out).mono ?_; rintro e w2 ⟨R2, r2, rfl, hl2, hb2⟩; have HBel2 := Aside0.mk (below_then HBel1.out HBel1.out.size hb2); have HA2 := Aside0.mk (HA1.out.below hb2); have HB2 := Aside0.mk (HB1.out.below hb2); have HM2 := Aside0.mk (HM1.out.below hb2); have L1_2 := Aside0.mk (L1_1.out.below hb2); have L2_2 := Aside0.mk hl2; clear hl2 hb2)
    go_wp2_with (go_at_call 17; refine (occsSame_any _ _ _ _ _ _ _ L1_2.out.rd L2_2.out.rd).mono ?_; rintro e w3 ⟨rfl, hb3⟩; rw [decide_eq_true rfl]; have HBel3 := Aside0.mk (below_then HBel2.out HBel2.out.size hb3); clear hb3)
    go_ret
    exact ⟨rfl, HBel3.out⟩
  · have HKA := Aside0.mk ka
    have HKB := Aside0.mk kb
    obtain ⟨l, hl⟩ : ∃ l, l = ew md a m b := ⟨_, rfl⟩
    have hp2 : ofN each3 md a b m = (l, true) := by rw [hl]; exact hp
    have hl2 : l.length ≤ 40 := by rw [hl]; exact hl40
    clear hl40 hp
    have HLS := Aside0.mk hl
    have HPL := Aside0.mk hp2
    clear hl hp2
    go_upto_region 5 with (go_at_call 23; refine (iEach md Xa Xb Xm ca cb cm a b m (l, true) _ HPL.out HA0.out HB0.out HM0.out).mono ?_; rintro e w1 ⟨R1, r1, rfl, hl1, hb1⟩; have HBel1 := Aside0.mk (below_then HBel0.out HBel0.out.size hb1); have HA1 := Aside0.mk (HA0.out.below hb1); have HB1 := Aside0.mk (HB0.out.below hb1); have HM1 := Aside0.mk (HM0.out.below hb1); have L1_1 := Aside0.mk hl1; clear hl1 hb1)
    go_upto_region 6 with (go_at_call 24; refine (sEach md Xa Xb Xm ca cb cm a b m (l, true) _ HPL.out HA1.out HB1.out HM1.out).mono ?_; rintro e w2 ⟨R2, r2, rfl, hl2, hb2⟩; have HBel2 := Aside0.mk (below_then HBel1.out HBel1.out.size hb2); have HA2 := Aside0.mk (HA1.out.below hb2); have HB2 := Aside0.mk (HB1.out.below hb2); have HM2 := Aside0.mk (HM1.out.below hb2); have L1_2 := Aside0.mk (L1_1.out.below hb2); have L2_2 := Aside0.mk hl2; clear hl2 hb2)
    go_wp2_with (go_at_call 17; refine (occsSame_any _ _ _ _ _ _ _ L1_2.out.rd L2_2.out.rd).mono ?_; rintro e w3 ⟨rfl, hb3⟩; rw [decide_eq_true rfl]; have HBel3 := Aside0.mk (below_then HBel2.out HBel2.out.size hb3); have HA3 := Aside0.mk (HA2.out.below hb3); have HB3 := Aside0.mk (HB2.out.below hb3); have HM3 := Aside0.mk (HM2.out.below hb3); have L1_3 := Aside0.mk (L1_2.out.below hb3); clear hb3)
    go_loopw [11, 12] (fun v10 vi wr => ∃ (i : Nat) (L : List Occ) (G : Option Addr) (cg : Nat), i ≤ a.length ∧ vi = .int .i64 i ∧ v10 = .slice G L.length cg ∧ Aside0 (Got (canM m) a b i 0 L) ∧ Aside0 (IsL wr L G cg) ∧ Aside0 (Below w.heap.size w wr) ∧ Aside0 (Below w3.heap.size w3 wr)) (fun _ vi _ => a.length - (intOf vi).toNat)
    case atStart => exact ⟨0, [], _, 0, Nat.zero_le _, rfl, rfl, ⟨Got.start _ _ _⟩, ⟨isL_nil _ _ _⟩, ⟨below_then HBel3.out HBel3.out.size (below_alloc (Below.refl _ _) _)⟩, ⟨below_alloc (Below.refl _ _) _⟩⟩
    case round =>
      obtain ⟨i, L, G, cg, hi, rfl, rfl, HG, HL, HBw, HB3w⟩ := hrel
      obtain ⟨wo, rfl⟩ : ∃ wo : World, wo = wr := ⟨_, rfl⟩
      by_cases hlt : i < a.length
      · have g1 : decide (i < a.length) = true := decide_eq_true hlt
        have i1 : (i : Int) < a.length := by omega
        obtain ⟨ada, A2, c2, eXa, hix, hex⟩ := elem (HA3.out.below HB3w.out) hlt
        subst eXa
        have hkx := HKA.out.all _ (getD_mem hlt)
        obtain ⟨x, hxe⟩ : ∃ x, x = a.getD i zO := ⟨_, rfl⟩
        rw [← hxe] at hix hex hkx
        have HX := Aside0.mk hxe
        have HIX := Aside0.mk hix
        have HEX := Aside0.mk hex
        have HKX := Aside0.mk hkx
        clear hxe hix hex hkx
        go_wp2
        go_loopw [11, 13] (fun v10 vk wq => ∃ (k : Nat) (L2 : List Occ) (G2 : Option Addr) (cg2 : Nat), k ≤ b.length ∧ vk = .int .i64 k ∧ v10 = .slice G2 L2.length cg2 ∧ Aside0 (Got (canM m) a b i k L2) ∧ Aside0 (IsL wq L2 G2 cg2) ∧ Aside0 (Below w.heap.size w wq) ∧ Aside0 (Below w3.heap.size w3 wq) ∧ Aside0 (Below wo.heap.size wo wq)) (fun _ vk _ => b.length - (intOf vk).toNat)
        case atStart => exact ⟨0, L, G, cg, Nat.zero_le _, rfl, rfl, HG, HL, HBw, HB3w, ⟨Below.refl _ _⟩⟩
        case round =>
          obtain ⟨k, L2, G2, cg2, hk, rfl, rfl, HG2, HL2, HW2, HB32, HQ⟩ := hrel
          obtain ⟨wq, rfl⟩ : ∃ wq : World, wq = wr := ⟨_, rfl⟩
          by_cases hlk : k < b.length
          · have g2 : decide (k < b.length) = true := decide_eq_true hlk
            have k1 : (k : Int) < b.length := by omega
            obtain ⟨adb, B2, d2, eXb, hiy, hey⟩ := elem (HB3.out.below HB32.out) hlk
            subst eXb
            have hky := HKB.out.all _ (getD_mem hlk)
            obtain ⟨y, hye⟩ : ∃ y, y = b.getD k zO := ⟨_, rfl⟩
            rw [← hye] at hiy hey hky
            have hex2 := HEX.out.below HQ.out
            have F : ∀ w', Below wq.heap.size wq w' → (fun w' => (w'.cell? (ada.add (i * 3)) = some (.int .i64 x.f0) ∧ w'.cell? ⟨(ada.add (i * 3)).block, (ada.add (i * 3)).off + 1, none⟩ = some (.int .i64 x.f1) ∧ w'.cell? ⟨(ada.add (i * 3)).block, (ada.add (i * 3)).off + 2, none⟩ = some (.slice A2 x.f2.length c2)) ∧ (w'.cell? (adb.add (k * 3)) = some (.int .i64 y.f0) ∧ w'.cell? ⟨(adb.add (k * 3)).block, (adb.add (k * 3)).off + 1, none⟩ = some (.int .i64 y.f1) ∧ w'.cell? ⟨(adb.add (k * 3)).block, (adb.add (k * 3)).off + 2, none⟩ = some (.slice B2 y.f2.length d2))) w' := fun w' h => ⟨⟨pw_cell_below h hex2.a, pw_cell_below h hex2.b, pw_cell_below h hex2.c⟩, ⟨pw_cell_below h hey.a, pw_cell_below h hey.b, pw_cell_below h hey.c⟩⟩
            have HF := Aside0.mk F
            have HY := Aside0.mk hye
            have HIY := Aside0.mk hiy
            have HKY := Aside0.mk hky
            have HGok := HG2.out.ok
            have hGle := HG2.out.le
            have HJ := Aside0.mk (joinO_ok HKX.out HKY.out)
            have HJL := Aside0.mk (isOk_big (isOk_join HKX.out HKY.out))
            have HP := Aside0.mk (putO_ok HGok hGle (isOk_join HKX.out HKY.out))
            have HL2L := Aside0.mk (fun z hz => isOk_big (HGok.all z hz))
            clear F hex2 hye hiy hey hky HGok
            have HB0 : Below wq.heap.size wq wq.drew := below_drew (Below.refl _ _)
            go_upto_region 17 with fail
            refine Za.regionL (fun w' => (w'.cell? (ada.add (i * 3)) = some (.int .i64 x.f0) ∧ w'.cell? ⟨(ada.add (i * 3)).block, (ada.add (i * 3)).off + 1, none⟩ = some (.int .i64 x.f1) ∧ w'.cell? ⟨(ada.add (i * 3)).block, (ada.add (i * 3)).off + 2, none⟩ = some (.slice A2 x.f2.length c2)) ∧ (w'.cell? (adb.add (k * 3)) = some (.int .i64 y.f0) ∧ w'.cell? ⟨(adb.add (k * 3)).block, (adb.add (k * 3)).off + 1, none⟩ = some (.int .i64 y.f1) ∧ w'.cell? ⟨(adb.add (k * 3)).block, (adb.add (k * 3)).off + 2, none⟩ = some (.slice B2 y.f2.length d2))) [] (by kernel_rfl) ?_
            have HS : (fun w' => (w'.cell? (ada.add (i * 3)) = some (.int .i64 x.f0) ∧ w'.cell? ⟨(ada.add (i * 3)).block, (ada.add (i * 3)).off + 1, none⟩ = some (.int .i64 x.f1) ∧ w'.cell? ⟨(ada.add (i * 3)).block, (ada.add (i * 3)).off + 2, none⟩ = some (.slice A2 x.f2.length c2)) ∧ (w'.cell? (adb.add (k * 3)) = some (.int .i64 y.f0) ∧ w'.cell? ⟨(adb.add (k * 3)).block, (adb.add (k * 3)).off + 1, none⟩ = some (.int .i64 y.f1) ∧ w'.cell? ⟨(adb.add (k * 3)).block, (adb.add (k * 3)).off + 2, none⟩ = some (.slice B2 y.f2.length d2))) wq.drew := HF.out _ HB0
            refine Za.takeL 0 (v := ?vo0) rfl (by kernel_rfl) (by kernel_rfl) (by kernel_rfl) (by kernel_rfl) (fun _ _ _ h => h) (Or.inl ⟨by rfl, ?hyo0⟩) HS ?resto0
            case hyo0 => (intro w hSw; (try dsimp only at hSw); go_simp; try with_reducible rfl)
            (try simp only [Act.put, List.setIfInBounds_toArray, List.set_cons_zero, List.set_cons_succ])
            refine Za.takeL 1 (v := ?vo1) rfl (by kernel_rfl) (by kernel_rfl) (by kernel_rfl) (by kernel_rfl) (fun _ _ _ h => h) (Or.inl ⟨by rfl, ?hyo1⟩) HS ?resto1
            case hyo1 => (intro w hSw; (try dsimp only at hSw); go_simp; try with_reducible rfl)
            (try simp only [Act.put, List.setIfInBounds_toArray, List.set_cons_zero, List.set_cons_succ])
            refine Za.takeL 2 (v := ?vo2) rfl (by kernel_rfl) (by kernel_rfl) (by kernel_rfl) (by kernel_rfl) (fun _ _ _ h => h) (Or.inl ⟨by rfl, ?hyo2⟩) HS ?resto2
            case hyo2 => (intro w hSw; (try dsimp only at hSw); go_simp; try with_reducible rfl)
            (try simp only [Act.put, List.setIfInBounds_toArray, List.set_cons_zero, List.set_cons_succ])
            refine Za.takeL 3 (v := ?vo3) rfl (by kernel_rfl) (by kernel_rfl) (by kernel_rfl) (by kernel_rfl) (fun _ _ _ h => h) (Or.inl ⟨by rfl, ?hyo3⟩) HS ?resto3
            case hyo3 => (intro w hSw; (try dsimp only at hSw); go_simp; try with_reducible rfl)
            (try simp only [Act.put, List.setIfInBounds_toArray, List.set_cons_zero, List.set_cons_succ])
            refine Za.takeL 4 (v := ?vo4) rfl (by kernel_rfl) (by kernel_rfl) (by kernel_rfl) (by kernel_rfl) (fun _ _ _ h => h) (Or.inl ⟨by rfl, ?hyo4⟩) HS ?resto4
            case hyo4 => (intro w hSw; (try dsimp only at hSw); go_simp; try with_reducible rfl)
            (try simp only [Act.put, List.setIfInBounds_toArray, List.set_cons_zero, List.set_cons_succ])
            refine Za.takeL 5 (v := ?vo5) rfl (by kernel_rfl) (by kernel_rfl) (by kernel_rfl) (by kernel_rfl) (fun _ _ _ h => h) (Or.inl ⟨by rfl, ?hyo5⟩) HS ?resto5
            case hyo5 => (intro w hSw; (try dsimp only at hSw); go_simp; try with_reducible rfl)
            (try simp only [Act.put, List.setIfInBounds_toArray, List.set_cons_zero, List.set_cons_succ])
            refine Za.takeL 6 (v := ?vo6) rfl (by kernel_rfl) (by kernel_rfl) (by kernel_rfl) (by kernel_rfl) (fun _ _ _ h => h) (Or.inl ⟨by rfl, ?hyo6⟩) HS ?resto6
            case hyo6 => (intro w hSw; (try dsimp only at hSw); go_simp; try with_reducible rfl)
            (try simp only [Act.put, List.setIfInBounds_toArray, List.set_cons_zero, List.set_cons_succ])
            refine Za.takeL 7 (v := ?vo7) rfl (by kernel_rfl) (by kernel_rfl) (by kernel_rfl) (by kernel_rfl) (fun _ _ _ h => h) (Or.inl ⟨by rfl, ?hyo7⟩) HS ?resto7
            case hyo7 => (intro w hSw; (try dsimp only at hSw); go_simp; try with_reducible rfl)
            (try simp only [Act.put, List.setIfInBounds_toArray, List.set_cons_zero, List.set_cons_succ])
            refine Za.takeL 8 (v := ?vo8) rfl (by kernel_rfl) (by kernel_rfl) (by kernel_rfl) (by kernel_rfl) (fun _ _ _ h => h) (Or.inl ⟨by rfl, ?hyo8⟩) HS ?resto8
            case hyo8 => (intro w hSw; (try dsimp only at hSw); go_simp; try with_reducible rfl)
            (try simp only [Act.put, List.setIfInBounds_toArray, List.set_cons_zero, List.set_cons_succ])
            refine Za.takeL 9 (v := ?vo9) rfl (by kernel_rfl) (by kernel_rfl) (by kernel_rfl) (by kernel_rfl) (fun _ _ _ h => h) (Or.inl ⟨by rfl, ?hyo9⟩) HS ?resto9
            case hyo9 => (intro w hSw; (try dsimp only at hSw); go_simp; try with_reducible rfl)
            (try simp only [Act.put, List.setIfInBounds_toArray, List.set_cons_zero, List.set_cons_succ])
            refine Za.takeL 10 (v := ?vo10) rfl (by kernel_rfl) (by kernel_rfl) (by kernel_rfl) (by kernel_rfl) (fun _ _ _ h => h) (Or.inl ⟨by rfl, ?hyo10⟩) HS ?resto10
            case hyo10 => (intro w hSw; (try dsimp only at hSw); go_simp; try with_reducible rfl)
            (try simp only [Act.put, List.setIfInBounds_toArray, List.set_cons_zero, List.set_cons_succ])
            refine Za.takeL 11 (v := ?vo11) rfl (by kernel_rfl) (by kernel_rfl) (by kernel_rfl) (by kernel_rfl) (fun _ _ _ h => h) (Or.inl ⟨by rfl, ?hyo11⟩) HS ?resto11
            case hyo11 => (intro w hSw; (try dsimp only at hSw); go_simp; try with_reducible rfl)
            (try simp only [Act.put, List.setIfInBounds_toArray, List.set_cons_zero, List.set_cons_succ])
            refine Za.Walk.done (by kernel_rfl) ?_
            clear HS
            have HF1 := Aside0.mk (fun w' (h : Below wq.drew.heap.size wq.drew w') => HF.out w' (below_then HB0 HB0.size h))
            have HIX0 := Aside0.mk ((HIX.out.below HQ.out).below HB0)
            have HIY0 := Aside0.mk (HIY.out.below HB0)
            have HL20 := Aside0.mk (HL2.out.below HB0)
            have HW0 := Aside0.mk (below_then HW2.out HW2.out.size HB0)
            have HB30 := Aside0.mk (below_then HB32.out HB32.out.size HB0)
            have HQ0 := Aside0.mk (below_then HQ.out HQ.out.size HB0)
            clear HF HIY HL2 HW2 HB32 HQ HB0
            generalize wq.drew = wq at HF1 HIX0 HIY0 HL20 HW0 HB30 HQ0 ⊢
            obtain ⟨o0, ho0⟩ : ∃ o : Bool, o = decide (x.f1 < y.f0) := ⟨_, rfl⟩
            rw [← ho0]
            have HO0 := Aside0.mk ho0
            clear ho0
            go_wp2
            go_loopw [14, 15] (fun v14 vj wj => ∃ (j : Nat) (o : Bool), j ≤ m.length ∧ vj = .int .i64 j ∧ v14 = .bool o ∧ Aside0 (o = (decide (x.f1 < y.f0) && !between (m.take j) x.f1 y.f0)) ∧ Aside0 (Below wq.heap.size wq wj)) (fun _ vj _ => m.length - (intOf vj).toNat)
            case atStart => exact ⟨0, o0, Nat.zero_le _, rfl, rfl, ⟨by rw [HO0.out]; simp [between]⟩, ⟨Below.refl _ _⟩⟩
            case round =>
              obtain ⟨j, o, hj, rfl, rfl, HO, HBj⟩ := hrel
              obtain ⟨wj, rfl⟩ : ∃ wj : World, wj = wr := ⟨_, rfl⟩
              by_cases hlj : j < m.length
              · have g3 : decide (j < m.length) = true := decide_eq_true hlj
                have j1 : (j : Int) < m.length := by omega
                obtain ⟨adm, M2, e2, eXm, hiz, hez⟩ := elem (HM3.out.below (below_then HB30.out HB30.out.size HBj.out)) hlj
                subst eXm
                have HS := Aside0.mk (any_take_succ (p := fun z => decide (x.f1 < z.f0) && decide (z.f1 < y.f0)) hlj)
                obtain ⟨z, hze⟩ : ∃ z, z = m.getD j zO := ⟨_, rfl⟩
                rw [← hze] at hiz hez HS
                obtain ⟨⟨hx0, hx1, hx2⟩, ⟨hy0, hy1, hy2⟩⟩ := HF1.out _ HBj.out
                have hz0 := hez.a
                have hz1 := hez.b
                clear hiz hez hze hx0 hx2 hy1 hy2
                replace hx1 := cellE hx1
                replace hy0 := cellE hy0
                replace hz0 := cellE hz0
                replace hz1 := cellE hz1
                cases o with
                | false =>
                  go_wp2
                  refine region_ext (W := wj) (Below.refl _ _) (by kernel_rfl) (by kernel_rfl) ?_
                  repeat (first | go_big_quiet_step (fail) | quiet_step (fail))
                  refine wpQuiet_nil ?_
                  rintro _ ⟨s, rfl⟩
                  have HB3 := Aside0.mk (below_then HBj.out HBj.out.size s.2)
                  generalize s.1 = W2 at HB3
                  go_wp2
                  go_roundw
                  case rel => exact ⟨j + 1, false, by omega, by go_num, rfl, ⟨by have h := HO.out; unfold between at h ⊢; rw [HS.out]; revert h; cases (decide (x.f1 < y.f0)) <;> cases ((m.take j).any fun z => decide (x.f1 < z.f0) && decide (z.f1 < y.f0)) <;> simp⟩, HB3⟩
                  case measure => simp [intOf]; omega
                | true =>
                  cases h1 : decide (x.f1 < z.f0) with
                  | false =>
                    go_wp2
                    refine region_ext (W := wj) (Below.refl _ _) (by kernel_rfl) (by kernel_rfl) ?_
                    repeat (first | go_big_quiet_step (fail) | quiet_step (fail))
                    refine wpQuiet_nil ?_
                    rintro _ ⟨s, rfl⟩
                    have HB3 := Aside0.mk (below_then HBj.out HBj.out.size s.2)
                    generalize s.1 = W2 at HB3
                    go_wp2
                    go_roundw
                    case rel => exact ⟨j + 1, true, by omega, by go_num, rfl, ⟨by have h := HO.out; unfold between at h ⊢; rw [HS.out]; revert h; rw [h1]; cases (decide (x.f1 < y.f0)) <;> cases ((m.take j).any fun z => decide (x.f1 < z.f0) && decide (z.f1 < y.f0)) <;> simp⟩, HB3⟩
                    case measure => simp [intOf]; omega
                  | true =>
                    cases h2 : decide (z.f1 < y.f0) with
                    | false =>
                      go_wp2
                      refine region_ext (W := wj) (Below.refl _ _) (by kernel_rfl) (by kernel_rfl) ?_
                      repeat (first | go_big_quiet_step (fail) | quiet_step (fail))
                      refine wpQuiet_nil ?_
                      rintro _ ⟨s, rfl⟩
                      have HB3 := Aside0.mk (below_then HBj.out HBj.out.size s.2)
                      generalize s.1 = W2 at HB3
                      go_wp2
                      go_roundw
                      case rel => exact ⟨j + 1, true, by omega, by go_num, rfl, ⟨by have h := HO.out; unfold between at h ⊢; rw [HS.out]; revert h; rw [h1, h2]; cases (decide (x.f1 < y.f0)) <;> cases ((m.take j).any fun z => decide (x.f1 < z.f0) && decide (z.f1 < y.f0)) <;> simp⟩, HB3⟩
                      case measure => simp [intOf]; omega
                    | true =>
                      go_wp2
                      refine region_ext (W := wj) (Below.refl _ _) (by kernel_rfl) (by kernel_rfl) ?_
                      repeat (first | go_big_quiet_step (fail) | quiet_step (fail))
                      refine wpQuiet_nil ?_
                      rintro _ ⟨s, rfl⟩
                      have HB3 := Aside0.mk (below_then HBj.out HBj.out.size s.2)
                      generalize s.1 = W2 at HB3
                      go_wp2
                      go_roundw
                      case rel => exact ⟨j + 1, false, by omega, by go_num, rfl, ⟨by have h := HO.out; unfold between at h ⊢; rw [HS.out]; revert h; rw [h1, h2]; cases (decide (x.f1 < y.f0)) <;> cases ((m.take j).any fun z => decide (x.f1 < z.f0) && decide (z.f1 < y.f0)) <;> simp⟩, HB3⟩
                      case measure => simp [intOf]; omega
              · have hje : j = m.length := by omega
                subst hje
                have g3 : decide (m.length < m.length) = false := decide_eq_false (by omega)
                have ho : o = canM m x y := by
                  have h := HO.out
                  rwa [List.take_length] at h
                have HIX1 := Aside0.mk (HIX0.out.below HBj.out)
                have HIY1 := Aside0.mk (HIY0.out.below HBj.out)
                have HL21 := Aside0.mk (HL20.out.below HBj.out)
                have HW1 := Aside0.mk (below_then HW0.out HW0.out.size HBj.out)
                have HB31 := Aside0.mk (below_then HB30.out HB30.out.size HBj.out)
                have HQ1 := Aside0.mk (below_then HQ0.out HQ0.out.size HBj.out)
                have HF2 := Aside0.mk (fun w' (h : Below wj.heap.size wj w') => HF1.out w' (below_then HBj.out HBj.out.size h))
                clear HF1 HIX0 HIY0 HL20 HW0 HB30 HQ0 HBj HO
                cases o with
                | false =>
                  have HN := Aside0.mk (Got.no hlt hlk HG2.out (by rw [← HX.out, ← HY.out]; exact ho.symm))
                  clear ho
                  go_wp2
                  go_roundw
                  case rel => exact ⟨k + 1, L2, G2, cg2, by omega, by go_num, rfl, HN, HL21, HW1, HB31, HQ1⟩
                  case measure => simp [intOf]; omega
                | true =>
                  have HCAN := Aside0.mk ho.symm
                  clear ho
                  go_upto_region 23 with fail
                  have HB0 : Below wj.heap.size wj wj.drew := below_drew (Below.refl _ _)
                  refine Za.regionL (fun w' => (w'.cell? (ada.add (i * 3)) = some (.int .i64 x.f0) ∧ w'.cell? ⟨(ada.add (i * 3)).block, (ada.add (i * 3)).off + 1, none⟩ = some (.int .i64 x.f1) ∧ w'.cell? ⟨(ada.add (i * 3)).block, (ada.add (i * 3)).off + 2, none⟩ = some (.slice A2 x.f2.length c2)) ∧ (w'.cell? (adb.add (k * 3)) = some (.int .i64 y.f0) ∧ w'.cell? ⟨(adb.add (k * 3)).block, (adb.add (k * 3)).off + 1, none⟩ = some (.int .i64 y.f1) ∧ w'.cell? ⟨(adb.add (k * 3)).block, (adb.add (k * 3)).off + 2, none⟩ = some (.slice B2 y.f2.length d2))) [] (by kernel_rfl) ?_
                  have HS : (fun w' => (w'.cell? (ada.add (i * 3)) = some (.int .i64 x.f0) ∧ w'.cell? ⟨(ada.add (i * 3)).block, (ada.add (i * 3)).off + 1, none⟩ = some (.int .i64 x.f1) ∧ w'.cell? ⟨(ada.add (i * 3)).block, (ada.add (i * 3)).off + 2, none⟩ = some (.slice A2 x.f2.length c2)) ∧ (w'.cell? (adb.add (k * 3)) = some (.int .i64 y.f0) ∧ w'.cell? ⟨(adb.add (k * 3)).block, (adb.add (k * 3)).off + 1, none⟩ = some (.int .i64 y.f1) ∧ w'.cell? ⟨(adb.add (k * 3)).block, (adb.add (k * 3)).off + 2, none⟩ = some (.slice B2 y.f2.length d2))) wj.drew := HF2.out _ HB0
                  refine Za.takeL 0 (v := ?vp0) rfl (by kernel_rfl) (by kernel_rfl) (by kernel_rfl) (by kernel_rfl) (fun _ _ _ h => h) (Or.inl ⟨by rfl, ?hyp0⟩) HS ?restp0
                  case hyp0 => (intro w hSw; (try dsimp only at hSw); go_simp; try with_reducible rfl)
                  (try simp only [Act.put, List.setIfInBounds_toArray, List.set_cons_zero, List.set_cons_succ])
                  refine Za.takeL 1 (v := ?vp1) rfl (by kernel_rfl) (by kernel_rfl) (by kernel_rfl) (by kernel_rfl) (fun _ _ _ h => h) (Or.inl ⟨by rfl, ?hyp1⟩) HS ?restp1
                  case hyp1 => (intro w hSw; (try dsimp only at hSw); go_simp; try with_reducible rfl)
                  (try simp only [Act.put, List.setIfInBounds_toArray, List.set_cons_zero, List.set_cons_succ])
                  refine Za.takeL 2 (v := ?vp2) rfl (by kernel_rfl) (by kernel_rfl) (by kernel_rfl) (by kernel_rfl) (fun _ _ _ h => h) (Or.inl ⟨by rfl, ?hyp2⟩) HS ?restp2
                  case hyp2 => (intro w hSw; (try dsimp only at hSw); go_simp; try with_reducible rfl)
                  (try simp only [Act.put, List.setIfInBounds_toArray, List.set_cons_zero, List.set_cons_succ])
                  refine Za.takeL 3 (v := ?vp3) rfl (by kernel_rfl) (by kernel_rfl) (by kernel_rfl) (by kernel_rfl) (fun _ _ _ h => h) (Or.inl ⟨by rfl, ?hyp3⟩) HS ?restp3
                  case hyp3 => (intro w hSw; (try dsimp only at hSw); go_simp; try with_reducible rfl)
                  (try simp only [Act.put, List.setIfInBounds_toArray, List.set_cons_zero, List.set_cons_succ])
                  refine Za.takeL 4 (v := ?vp4) rfl (by kernel_rfl) (by kernel_rfl) (by kernel_rfl) (by kernel_rfl) (fun _ _ _ h => h) (Or.inl ⟨by rfl, ?hyp4⟩) HS ?restp4
                  case hyp4 => (intro w hSw; (try dsimp only at hSw); go_simp; try with_reducible rfl)
                  (try simp only [Act.put, List.setIfInBounds_toArray, List.set_cons_zero, List.set_cons_succ])
                  refine Za.takeL 5 (v := ?vp5) rfl (by kernel_rfl) (by kernel_rfl) (by kernel_rfl) (by kernel_rfl) (fun _ _ _ h => h) (Or.inl ⟨by rfl, ?hyp5⟩) HS ?restp5
                  case hyp5 => (intro w hSw; (try dsimp only at hSw); go_simp; try with_reducible rfl)
                  (try simp only [Act.put, List.setIfInBounds_toArray, List.set_cons_zero, List.set_cons_succ])
                  refine Za.takeL 6 (v := ?vp6) rfl (by kernel_rfl) (by kernel_rfl) (by kernel_rfl) (by kernel_rfl) (fun _ _ _ h => h) (Or.inl ⟨by rfl, ?hyp6⟩) HS ?restp6
                  case hyp6 => (intro w hSw; (try dsimp only at hSw); go_simp; try with_reducible rfl)
                  (try simp only [Act.put, List.setIfInBounds_toArray, List.set_cons_zero, List.set_cons_succ])
                  refine Za.takeL 7 (v := ?vp7) rfl (by kernel_rfl) (by kernel_rfl) (by kernel_rfl) (by kernel_rfl) (fun _ _ _ h => h) (Or.inl ⟨by rfl, ?hyp7⟩) HS ?restp7
                  case hyp7 => (intro w hSw; (try dsimp only at hSw); go_simp; try with_reducible rfl)
                  (try simp only [Act.put, List.setIfInBounds_toArray, List.set_cons_zero, List.set_cons_succ])
                  refine Za.takeL 8 (v := ?vp8) rfl (by kernel_rfl) (by kernel_rfl) (by kernel_rfl) (by kernel_rfl) (fun _ _ _ h => h) (Or.inl ⟨by rfl, ?hyp8⟩) HS ?restp8
                  case hyp8 => (intro w hSw; (try dsimp only at hSw); go_simp; try with_reducible rfl)
                  (try simp only [Act.put, List.setIfInBounds_toArray, List.set_cons_zero, List.set_cons_succ])
                  clear HS
                  refine Za.nextL 9 (by kernel_rfl) rfl (fun K' hK => ?_)
                  go_simp
                  (go_at_call 26; refine (iJoin x y (join x y) _ _ _ _ _ HJ.out (isOk_big HKX.out) (isOk_big HKY.out) (HIX1.out.below HB0) (HIY1.out.below HB0)).mono ?_; rintro e w4 ⟨J, cj, rfl, hj, hb4⟩; have HB4 : Below wj.heap.size wj w4 := keepD hb4; have HJ4 := Aside0.mk hj; clear hj hb4)
                  go_wp2_with fail
                  refine hK.out _ _ ⟨fun _ => HF2.out _ HB4, ?_⟩
                  clear hK K'
                  (try simp only [Act.put, List.setIfInBounds_toArray, List.set_cons_zero, List.set_cons_succ])
                  have HS : (fun w' => (w'.cell? (ada.add (i * 3)) = some (.int .i64 x.f0) ∧ w'.cell? ⟨(ada.add (i * 3)).block, (ada.add (i * 3)).off + 1, none⟩ = some (.int .i64 x.f1) ∧ w'.cell? ⟨(ada.add (i * 3)).block, (ada.add (i * 3)).off + 2, none⟩ = some (.slice A2 x.f2.length c2)) ∧ (w'.cell? (adb.add (k * 3)) = some (.int .i64 y.f0) ∧ w'.cell? ⟨(adb.add (k * 3)).block, (adb.add (k * 3)).off + 1, none⟩ = some (.int .i64 y.f1) ∧ w'.cell? ⟨(adb.add (k * 3)).block, (adb.add (k * 3)).off + 2, none⟩ = some (.slice B2 y.f2.length d2))) w4 := HF2.out _ HB4
                  clear HS
                  refine Za.nextL 10 (by kernel_rfl) rfl (fun K' hK => ?_)
                  go_simp
                  (go_at_call 25; refine (iPut G2 J cg2 cj L2 (put L2 (join x y)) (join x y) _ HP.out (by omega) HJL.out HL2L.out (HL21.out.below HB4) HJ4.out).mono ?_; rintro e w5 ⟨P, cp, rfl, hp, hb5⟩; have HB5 : Below wj.heap.size wj w5 := below_then HB4 HB4.size hb5; have HP5 := Aside0.mk hp; clear hp hb5)
                  go_wp2_with fail
                  refine hK.out _ _ ⟨fun _ => HF2.out _ HB5, ?_⟩
                  clear hK K'
                  (try simp only [Act.put, List.setIfInBounds_toArray, List.set_cons_zero, List.set_cons_succ])
                  have HS : (fun w' => (w'.cell? (ada.add (i * 3)) = some (.int .i64 x.f0) ∧ w'.cell? ⟨(ada.add (i * 3)).block, (ada.add (i * 3)).off + 1, none⟩ = some (.int .i64 x.f1) ∧ w'.cell? ⟨(ada.add (i * 3)).block, (ada.add (i * 3)).off + 2, none⟩ = some (.slice A2 x.f2.length c2)) ∧ (w'.cell? (adb.add (k * 3)) = some (.int .i64 y.f0) ∧ w'.cell? ⟨(adb.add (k * 3)).block, (adb.add (k * 3)).off + 1, none⟩ = some (.int .i64 y.f1) ∧ w'.cell? ⟨(adb.add (k * 3)).block, (adb.add (k * 3)).off + 2, none⟩ = some (.slice B2 y.f2.length d2))) w5 := HF2.out _ HB5
                  refine Za.takeL 11 (v := ?vp11) rfl (by kernel_rfl) (by kernel_rfl) (by kernel_rfl) (by kernel_rfl) (fun _ _ _ h => h) (Or.inl ⟨by rfl, ?hyp11⟩) HS ?restp11
                  case hyp11 => (intro w hSw; (try dsimp only at hSw); go_simp; try with_reducible rfl)
                  (try simp only [Act.put, List.setIfInBounds_toArray, List.set_cons_zero, List.set_cons_succ])
                  refine Za.Walk.done (by kernel_rfl) ?_
                  clear HS
                  by_cases hbg : (put L2 (join x y)).length > 40
                  · have d40 : decide (((put L2 (join x y)).length : Int) > 40) = true := decide_eq_true (by omega)
                    go_wp2
                    go_ret
                    exact ⟨rfl, below_then HW1.out HW1.out.size HB5⟩
                  · have d40 : decide (((put L2 (join x y)).length : Int) > 40) = false := decide_eq_false (by omega)
                    have HN : Aside0 (Got (canM m) a b i (k + 1) (put L2 (join x y))) := ⟨by rw [HX.out, HY.out]; exact Got.yes hlt hlk HKA.out HKB.out HG2.out (by rw [← HX.out, ← HY.out]; exact HCAN.out) (by rw [← HX.out, ← HY.out]; omega)⟩
                    generalize put L2 (join x y) = L3 at *
                    go_wp2
                    go_roundw
                    case rel => exact ⟨k + 1, L3, P, cp, by omega, by go_num, rfl, HN, HP5, ⟨below_then HW1.out HW1.out.size HB5⟩, ⟨below_then HB31.out HB31.out.size HB5⟩, ⟨below_then HQ1.out HQ1.out.size HB5⟩⟩
                    case measure => simp [intOf]; omega
          · have hke : k = b.length := by omega
            subst hke
            have g2 : decide (b.length < b.length) = false := decide_eq_false (by omega)
            have HN := Aside0.mk (Got.row hlt HG2.out)
            go_wp2
            go_roundw
            case rel => exact ⟨i + 1, L2, G2, cg2, by omega, by go_num, rfl, HN, HL2, HW2, HB32⟩
            case measure => simp [intOf]; omega
      · have hie : i = a.length := by omega
        subst hie
        have g1 : decide (a.length < a.length) = false := decide_eq_false (by omega)
        have HLok := Aside0.mk HG.out.ok
        have hLle := HG.out.le
        have HLLn := Aside0.mk (fun z hz => isOk_big (HLok.out.all z hz))
        have e9 : (decide (0 < l.length) == decide (0 < L.length)) = true := by
          rw [beq_iff_eq, decide_eq_decide, List.length_pos_iff, List.length_pos_iff, got_pos HKA.out HKB.out HG.out, HLS.out, ew_some]
        have HSUB4 : Aside0 (md ≠ 4 → ∀ z ∈ l, z ∈ L) := ⟨fun h4 z hz => by rw [HLS.out] at hz; exact (got_mem HKA.out HKB.out HG.out z).2 (ew_from h4 hz)⟩
        have HEQ : Aside0 ((md = 0 ∨ md = 3) → l = L) := ⟨fun h => by rw [HLS.out]; exact sorted_ext sorted_ew HG.out.ok.sorted (fun z => by rw [mem_ew0 h, got_mem HKA.out HKB.out HG.out z])⟩
        have HLq := Aside0.mk (L1_3.out.below HB3w.out)
        have HLr := HL
        have HBq := HBw
        clear HG HL HBw
        obtain h0 | h1 | h2 | h3 | h4 : md = 0 ∨ md = 1 ∨ md = 2 ∨ md = 3 ∨ md = 4 := by omega
        · have HSUB := Aside0.mk (HSUB4.out (by omega))
          have HEQ0 := Aside0.mk (HEQ.out (by omega))
          subst h0
          go_upto_region 29 with (go_at_call 17; refine (occsSame_any _ _ _ _ _ _ _ HLq.out.rd HLr.out.rd).mono ?_; rintro e wz ⟨rfl, hbz⟩; rw [decide_eq_true HEQ0.out]; have HBz := Aside0.mk (below_then HBq.out HBq.out.size hbz); have HLl := Aside0.mk (HLq.out.below hbz); have HLa := Aside0.mk (HLr.out.below hbz); clear hbz)
          
          go_loopw [16] (fun vi wv => ∃ (k : Nat), k ≤ l.length ∧ vi = .int .i64 k ∧ Aside0 (Below w.heap.size w wv) ∧ Aside0 (Below wz.heap.size wz wv)) (fun vi _ => l.length - (intOf vi).toNat)
          case atStart => exact ⟨0, Nat.zero_le _, rfl, HBz, ⟨Below.refl _ _⟩⟩
          case round =>
            obtain ⟨k, hk, rfl, HBv, HBzv⟩ := hrel
            obtain ⟨wv, rfl⟩ : ∃ wv : World, wv = wr := ⟨_, rfl⟩
            by_cases hlk : k < l.length
            · have g2 : decide (k < l.length) = true := decide_eq_true hlk
              have k1 : (k : Int) < l.length := by omega
              obtain ⟨adl, A2, c2, eR, hiz, hez⟩ := elem (HLl.out.below HBzv.out) hlk
              subst eR
              have hmem := HSUB.out _ (getD_mem hlk)
              have hkz := HLok.out.all _ hmem
              have HP := Aside0.mk (putO_mem HLok.out hLle hmem)
              have HZL := Aside0.mk (isOk_big hkz)
              generalize l.getD k zO = z at *
              have HIZ := Aside0.mk hiz
              have z0 := hez.a
              have z1 := hez.b
              have z2 := hez.c
              clear hiz hez hmem hkz
              go_wp2_with (go_at_call 25; refine (iPut G A2 cg c2 L L z _ HP.out (by omega) HZL.out HLLn.out (HLa.out.below HBzv.out) HIZ.out).mono ?_; rintro e w5 ⟨P, cp, rfl, hp, hb5⟩; have HB5 := Aside0.mk hb5; clear hp hb5)
              go_roundw
              case rel => exact ⟨k + 1, by omega, by go_num, ⟨below_then HBv.out HBv.out.size HB5.out⟩, ⟨below_then HBzv.out HBzv.out.size HB5.out⟩⟩
              case measure => simp [intOf]; omega
            · have hke : k = l.length := by omega
              subst hke
              have g2 : decide (l.length < l.length) = false := decide_eq_false (by omega)
              go_wp2
              go_ret
              exact ⟨rfl, HBv.out⟩
        · have HSUB := Aside0.mk (HSUB4.out (by omega))
          subst h1
          go_upto_region 29 with fail
          obtain ⟨wz, rfl⟩ : ∃ wz : World, wz = wo := ⟨_, rfl⟩
          have HLl := HLq
          have HLa := HLr
          have HBz := HBq
          go_loopw [16] (fun vi wv => ∃ (k : Nat), k ≤ l.length ∧ vi = .int .i64 k ∧ Aside0 (Below w.heap.size w wv) ∧ Aside0 (Below wz.heap.size wz wv)) (fun vi _ => l.length - (intOf vi).toNat)
          case atStart => exact ⟨0, Nat.zero_le _, rfl, HBz, ⟨Below.refl _ _⟩⟩
          case round =>
            obtain ⟨k, hk, rfl, HBv, HBzv⟩ := hrel
            obtain ⟨wv, rfl⟩ : ∃ wv : World, wv = wr := ⟨_, rfl⟩
            by_cases hlk : k < l.length
            · have g2 : decide (k < l.length) = true := decide_eq_true hlk
              have k1 : (k : Int) < l.length := by omega
              obtain ⟨adl, A2, c2, eR, hiz, hez⟩ := elem (HLl.out.below HBzv.out) hlk
              subst eR
              have hmem := HSUB.out _ (getD_mem hlk)
              have hkz := HLok.out.all _ hmem
              have HP := Aside0.mk (putO_mem HLok.out hLle hmem)
              have HZL := Aside0.mk (isOk_big hkz)
              generalize l.getD k zO = z at *
              have HIZ := Aside0.mk hiz
              have z0 := hez.a
              have z1 := hez.b
              have z2 := hez.c
              clear hiz hez hmem hkz
              go_wp2_with (go_at_call 25; refine (iPut G A2 cg c2 L L z _ HP.out (by omega) HZL.out HLLn.out (HLa.out.below HBzv.out) HIZ.out).mono ?_; rintro e w5 ⟨P, cp, rfl, hp, hb5⟩; have HB5 := Aside0.mk hb5; clear hp hb5)
              go_roundw
              case rel => exact ⟨k + 1, by omega, by go_num, ⟨below_then HBv.out HBv.out.size HB5.out⟩, ⟨below_then HBzv.out HBzv.out.size HB5.out⟩⟩
              case measure => simp [intOf]; omega
            · have hke : k = l.length := by omega
              subst hke
              have g2 : decide (l.length < l.length) = false := decide_eq_false (by omega)
              go_wp2
              go_ret
              exact ⟨rfl, HBv.out⟩
        · have HSUB := Aside0.mk (HSUB4.out (by omega))
          subst h2
          go_upto_region 29 with fail
          obtain ⟨wz, rfl⟩ : ∃ wz : World, wz = wo := ⟨_, rfl⟩
          have HLl := HLq
          have HLa := HLr
          have HBz := HBq
          go_loopw [16] (fun vi wv => ∃ (k : Nat), k ≤ l.length ∧ vi = .int .i64 k ∧ Aside0 (Below w.heap.size w wv) ∧ Aside0 (Below wz.heap.size wz wv)) (fun vi _ => l.length - (intOf vi).toNat)
          case atStart => exact ⟨0, Nat.zero_le _, rfl, HBz, ⟨Below.refl _ _⟩⟩
          case round =>
            obtain ⟨k, hk, rfl, HBv, HBzv⟩ := hrel
            obtain ⟨wv, rfl⟩ : ∃ wv : World, wv = wr := ⟨_, rfl⟩
            by_cases hlk : k < l.length
            · have g2 : decide (k < l.length) = true := decide_eq_true hlk
              have k1 : (k : Int) < l.length := by omega
              obtain ⟨adl, A2, c2, eR, hiz, hez⟩ := elem (HLl.out.below HBzv.out) hlk
              subst eR
              have hmem := HSUB.out _ (getD_mem hlk)
              have hkz := HLok.out.all _ hmem
              have HP := Aside0.mk (putO_mem HLok.out hLle hmem)
              have HZL := Aside0.mk (isOk_big hkz)
              generalize l.getD k zO = z at *
              have HIZ := Aside0.mk hiz
              have z0 := hez.a
              have z1 := hez.b
              have z2 := hez.c
              clear hiz hez hmem hkz
              go_wp2_with (go_at_call 25; refine (iPut G A2 cg c2 L L z _ HP.out (by omega) HZL.out HLLn.out (HLa.out.below HBzv.out) HIZ.out).mono ?_; rintro e w5 ⟨P, cp, rfl, hp, hb5⟩; have HB5 := Aside0.mk hb5; clear hp hb5)
              go_roundw
              case rel => exact ⟨k + 1, by omega, by go_num, ⟨below_then HBv.out HBv.out.size HB5.out⟩, ⟨below_then HBzv.out HBzv.out.size HB5.out⟩⟩
              case measure => simp [intOf]; omega
            · have hke : k = l.length := by omega
              subst hke
              have g2 : decide (l.length < l.length) = false := decide_eq_false (by omega)
              go_wp2
              go_ret
              exact ⟨rfl, HBv.out⟩
        · have HSUB := Aside0.mk (HSUB4.out (by omega))
          have HEQ0 := Aside0.mk (HEQ.out (by omega))
          subst h3
          go_upto_region 29 with (go_at_call 17; refine (occsSame_any _ _ _ _ _ _ _ HLq.out.rd HLr.out.rd).mono ?_; rintro e wz ⟨rfl, hbz⟩; rw [decide_eq_true HEQ0.out]; have HBz := Aside0.mk (below_then HBq.out HBq.out.size hbz); have HLl := Aside0.mk (HLq.out.below hbz); have HLa := Aside0.mk (HLr.out.below hbz); clear hbz)
          
          go_loopw [16] (fun vi wv => ∃ (k : Nat), k ≤ l.length ∧ vi = .int .i64 k ∧ Aside0 (Below w.heap.size w wv) ∧ Aside0 (Below wz.heap.size wz wv)) (fun vi _ => l.length - (intOf vi).toNat)
          case atStart => exact ⟨0, Nat.zero_le _, rfl, HBz, ⟨Below.refl _ _⟩⟩
          case round =>
            obtain ⟨k, hk, rfl, HBv, HBzv⟩ := hrel
            obtain ⟨wv, rfl⟩ : ∃ wv : World, wv = wr := ⟨_, rfl⟩
            by_cases hlk : k < l.length
            · have g2 : decide (k < l.length) = true := decide_eq_true hlk
              have k1 : (k : Int) < l.length := by omega
              obtain ⟨adl, A2, c2, eR, hiz, hez⟩ := elem (HLl.out.below HBzv.out) hlk
              subst eR
              have hmem := HSUB.out _ (getD_mem hlk)
              have hkz := HLok.out.all _ hmem
              have HP := Aside0.mk (putO_mem HLok.out hLle hmem)
              have HZL := Aside0.mk (isOk_big hkz)
              generalize l.getD k zO = z at *
              have HIZ := Aside0.mk hiz
              have z0 := hez.a
              have z1 := hez.b
              have z2 := hez.c
              clear hiz hez hmem hkz
              go_wp2_with (go_at_call 25; refine (iPut G A2 cg c2 L L z _ HP.out (by omega) HZL.out HLLn.out (HLa.out.below HBzv.out) HIZ.out).mono ?_; rintro e w5 ⟨P, cp, rfl, hp, hb5⟩; have HB5 := Aside0.mk hb5; clear hp hb5)
              go_roundw
              case rel => exact ⟨k + 1, by omega, by go_num, ⟨below_then HBv.out HBv.out.size HB5.out⟩, ⟨below_then HBzv.out HBzv.out.size HB5.out⟩⟩
              case measure => simp [intOf]; omega
            · have hke : k = l.length := by omega
              subst hke
              have g2 : decide (l.length < l.length) = false := decide_eq_false (by omega)
              go_wp2
              go_ret
              exact ⟨rfl, HBv.out⟩
        · skip
          subst h4
          go_upto_region 29 with fail
          obtain ⟨wz, rfl⟩ : ∃ wz : World, wz = wo := ⟨_, rfl⟩
          have HLl := HLq
          have HLa := HLr
          have HBz := HBq
          have HBr := Aside0.mk (Below.refl wz.heap.size wz)
          go_loopw [16] (fun vi wv => vi = .int .i64 (0 : Nat) ∧ wv = wz) (fun vi _ => 0)
          case atStart => exact ⟨rfl, rfl⟩
          case round =>
            obtain ⟨rfl, rfl⟩ := hrel
            by_cases hlk : 0 < l.length
            · have g2 : decide (0 < l.length) = true := decide_eq_true (by omega)
              have g3 : decide (0 < L.length) = true := by rw [g2] at e9; simpa using e9
              clear e9
              go_wp2
              go_ret
              exact ⟨rfl, HBz.out⟩
            · have g2 : decide (0 < l.length) = false := decide_eq_false (by omega)
              have g3 : decide (0 < L.length) = false := by rw [g2] at e9; simpa using e9
              clear e9
              go_wp2
              go_ret
              exact ⟨rfl, HBz.out⟩
end Go.Proofs.YtccenpmaooailaaGreat.Hd

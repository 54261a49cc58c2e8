
/- FnAnd: the walk. -/
import Derived.Test.YtjeojdbfpncnkaaGreatPz
import Derived.Test.YtjeojdbfpncnkaaGreatB7
import Derived.Test.YtjeojdbfpncnkaaGreatB6
set_option linter.unusedVariables false
set_option linter.unusedSimpArgs false
namespace Go.Proofs.YtjeojdbfpncnkaaGreat.We
open Go.RowKit Go.Proofs.YtjeojdbfpncnkaaGreatW.PrintWords Go.Proofs.YtjeojdbfpncnkaaGreat.Wd Go.Proofs.YtjeojdbfpncnkaaGreat.Pu Go.Proofs.YtjeojdbfpncnkaaGreat.Pv Go.Proofs.YtjeojdbfpncnkaaGreat.Ca Go.Proofs.YtjeojdbfpncnkaaGreat.Cb Go.Proofs.YtjeojdbfpncnkaaGreat.Cc Go.Proofs.YtjeojdbfpncnkaaGreat.Cp Go.Proofs.YtjeojdbfpncnkaaGreat.Cd Go.Proofs.YtjeojdbfpncnkaaGreat.Ci Go.Proofs.YtjeojdbfpncnkaaGreat.Ce Go.Proofs.YtjeojdbfpncnkaaGreat.Cf Go.Proofs.YtjeojdbfpncnkaaGreat.Cg Go.Proofs.YtjeojdbfpncnkaaGreat.Sc Go.Proofs.YtjeojdbfpncnkaaGreat.Se Go.Proofs.YtjeojdbfpncnkaaGreat.Sh Go.Proofs.YtjeojdbfpncnkaaGreat.Si Go.Proofs.YtjeojdbfpncnkaaGreat.Sp Go.Proofs.YtjeojdbfpncnkaaGreat.Ia Go.Proofs.YtjeojdbfpncnkaaGreat.Ib Go.Proofs.YtjeojdbfpncnkaaGreat.Ic Go.Proofs.YtjeojdbfpncnkaaGreat.Id Go.Proofs.YtjeojdbfpncnkaaGreat.Ie Go.Proofs.YtjeojdbfpncnkaaGreat.If Go.Proofs.YtjeojdbfpncnkaaGreat.Ig Go.Proofs.YtjeojdbfpncnkaaGreat.Ih Go.Proofs.YtjeojdbfpncnkaaGreat.Ij Go.Proofs.YtjeojdbfpncnkaaGreat.Ik Go.Proofs.YtjeojdbfpncnkaaGreat.Ra Go.Proofs.YtjeojdbfpncnkaaGreat.Rb Go.Proofs.YtjeojdbfpncnkaaGreat.Rc Go.Proofs.YtjeojdbfpncnkaaGreat.Rd Go.Proofs.YtjeojdbfpncnkaaGreat.Re Go.Proofs.YtjeojdbfpncnkaaGreat.Sj Go.Proofs.YtjeojdbfpncnkaaGreat.Ya Go.Proofs.YtjeojdbfpncnkaaGreat.Yd Go.Proofs.YtjeojdbfpncnkaaGreat.Yf Go.Proofs.YtjeojdbfpncnkaaGreat.Yg Go.Proofs.YtjeojdbfpncnkaaGreat.Ih Go.Proofs.YtjeojdbfpncnkaaGreat.Yh Go.Proofs.YtjeojdbfpncnkaaGreat.Yi Go.Proofs.YtjeojdbfpncnkaaGreat.Sg Go.Proofs.YtjeojdbfpncnkaaGreat.Sf Go.Proofs.YtjeojdbfpncnkaaGreat.Yj Go.Proofs.YtjeojdbfpncnkaaGreat.Ig Go.Proofs.YtjeojdbfpncnkaaGreat.Yk Go.Proofs.YtjeojdbfpncnkaaGreat.Ik Go.Proofs.YtjeojdbfpncnkaaGreat.Yl Go.Proofs.YtjeojdbfpncnkaaGreat.Ij Go.Proofs.YtjeojdbfpncnkaaGreat.Ym Go.Proofs.YtjeojdbfpncnkaaGreat.Il Go.Proofs.YtjeojdbfpncnkaaGreat.Yn Go.Proofs.YtjeojdbfpncnkaaGreat.Yo Go.Proofs.YtjeojdbfpncnkaaGreat.In Go.Proofs.YtjeojdbfpncnkaaGreat.Yq Go.Proofs.YtjeojdbfpncnkaaGreat.Pw Go.Proofs.YtjeojdbfpncnkaaGreat.Px Go.Proofs.YtjeojdbfpncnkaaGreat.La Go.Proofs.YtjeojdbfpncnkaaGreat.Db Go.Proofs.YtjeojdbfpncnkaaGreat.Pz

def canA : Occ → Occ → Bool := fun _ _ => true
theorem got_and {a b L : List Occ} (ka : AreOk a) (kb : AreOk b) (h : Got canA a b a.length 0 L) : L = an 0 a b :=
  sorted_ext h.ok.sorted sorted_an (fun z => by
    rw [h.all z, mem_an0 ka kb]
    constructor
    · rintro ⟨x, hx, y, hy, _, e⟩
      exact ⟨x, hx, y, hy, e⟩
    · rintro ⟨x, hx, y, hy, e⟩
      exact ⟨x, hx, y, hy, rfl, e⟩)
theorem end_and {md : Int} {a b : List Occ} (ka : AreOk a) (kb : AreOk b) : decide (0 < (an md a b).length) = (decide (0 < a.length) && decide (0 < b.length)) := by
  rw [← Bool.decide_and, decide_eq_decide, List.length_pos_iff, List.length_pos_iff, List.length_pos_iff]
  exact an_some ka kb

set_option maxHeartbeats 60000000 in
set_option maxRecDepth 100000 in
theorem walk (A : Option Addr) (c : Nat) (bs : List Int) (w : World) (hC : (Kd.int .u8).C w A bs.length bs) (hc : bs.length ≤ c) (hb : ∀ b ∈ bs, 0 ≤ b ∧ b ≤ 255) :
    Calls Tryz.prog 5 #[.slice A bs.length c] w fun e w' => e = .returned (.bool true) ∧ Below w.heap.size w w' := by
  by_cases hbig : bs.length > 1048576
  · have d1 : decide ((bs.length : Int) > 1048576) = true := decide_eq_true (by omega)
    go_enter Tryz.func5, Tryz.ntmps5
    go_wp2
    go_ret
    exact ⟨rfl, Below.refl _ _⟩
  have d1 : decide ((bs.length : Int) > 1048576) = false := decide_eq_false (by omega)
  go_enter Tryz.func5, Tryz.ntmps5
  go_upto_region 4 with (go_at_call 28; refine (drawAndOf_any A c bs _ hC hc hb).mono ?_; rintro e w0 ⟨md, a, b, Xa, Xb, ca, cb, rfl, ha0, hb0, hln, hbel⟩; have HA0 := Aside0.mk ha0; have HB0 := Aside0.mk hb0; have HBel0 := Aside0.mk hbel; clear ha0 hb0 hbel hln)
  rcases ofA_cases md a b with hp | ⟨hm, ⟨ka, na⟩, ⟨kb, nb⟩, hl40, hp⟩
  · have HP := Aside0.mk hp
    clear hp
    go_upto_region 5 with (go_at_call 29; refine (iAnd md Xa Xb ca cb a b ([], false) _ HP.out HA0.out HB0.out).mono ?_; rintro e w1 ⟨R1, r1, rfl, hl1, hb1⟩; have HBel1 := Aside0.mk (below_then HBel0.out HBel0.out.size hb1); have HA1 := Aside0.mk (HA0.out.below hb1); have HB1 := Aside0.mk (HB0.out.below hb1); have L1_1 := Aside0.mk hl1; clear hl1 hb1)
    go_upto_region 6 with (go_at_call 30; refine (sAnd md Xa Xb ca cb a b ([], false) _ HP.out HA1.out HB1.out).mono ?_; rintro e w2 ⟨R2, r2, rfl, hl2, hb2⟩; have HBel2 := Aside0.mk (below_then HBel1.out HBel1.out.size hb2); have HA2 := Aside0.mk (HA1.out.below hb2); have HB2 := Aside0.mk (HB1.out.below hb2); have L1_2 := Aside0.mk (L1_1.out.below hb2); have L2_2 := Aside0.mk hl2; clear hl2 hb2)
    go_wp2_with (go_at_call 17; refine (occsSame_any _ _ _ _ _ _ _ L1_2.out.rd L2_2.out.rd).mono ?_; rintro e w3 ⟨rfl, hb3⟩; rw [decide_eq_true rfl]; have HBel3 := Aside0.mk (below_then HBel2.out HBel2.out.size hb3); clear hb3)
    go_ret
    exact ⟨rfl, HBel3.out⟩
  · have HP := Aside0.mk hp
    have HKA := Aside0.mk ka
    have HKB := Aside0.mk kb
    have hlok : AreOk (an md a b) ∨ True := .inr trivial
    obtain ⟨l, hl⟩ : ∃ l, l = an md a b := ⟨_, rfl⟩
    have HLOK : okOs l = true := by
      rw [hl]
      have h := an_ok hm ka kb na nb
      exact okOs_iff.2 ⟨h, hl40⟩
    have HOKL := Aside0.mk HLOK
    rw [← hl] at hp hl40
    have HLS := Aside0.mk hl
    have HPL := Aside0.mk hp
    clear hp HP hl ka kb hlok
    go_upto_region 5 with (go_at_call 29; refine (iAnd md Xa Xb ca cb a b (l, true) _ HPL.out HA0.out HB0.out).mono ?_; rintro e w1 ⟨R1, r1, rfl, hl1, hb1⟩; have HBel1 := Aside0.mk (below_then HBel0.out HBel0.out.size hb1); have HA1 := Aside0.mk (HA0.out.below hb1); have HB1 := Aside0.mk (HB0.out.below hb1); have L1_1 := Aside0.mk hl1; clear hl1 hb1)
    go_upto_region 6 with (go_at_call 30; refine (sAnd md Xa Xb ca cb a b (l, true) _ HPL.out HA1.out HB1.out).mono ?_; rintro e w2 ⟨R2, r2, rfl, hl2, hb2⟩; have HBel2 := Aside0.mk (below_then HBel1.out HBel1.out.size hb2); have HA2 := Aside0.mk (HA1.out.below hb2); have HB2 := Aside0.mk (HB1.out.below hb2); have L1_2 := Aside0.mk (L1_1.out.below hb2); have L2_2 := Aside0.mk hl2; clear hl2 hb2)
    go_wp2_with (go_at_call 17; refine (occsSame_any _ _ _ _ _ _ _ L1_2.out.rd L2_2.out.rd).mono ?_; rintro e w3 ⟨rfl, hb3⟩; rw [decide_eq_true rfl]; have HBel3 := Aside0.mk (below_then HBel2.out HBel2.out.size hb3); have HA3 := Aside0.mk (HA2.out.below hb3); have HB3 := Aside0.mk (HB2.out.below hb3); have L1_3 := Aside0.mk (L1_2.out.below hb3); clear hb3)
    go_loopw [10, 11] (fun v10 vi wr => ∃ (i : Nat) (L : List Occ) (G : Option Addr) (cg : Nat), i ≤ a.length ∧ vi = .int .i64 i ∧ v10 = .slice G L.length cg ∧ Aside0 (Got canA a b i 0 L) ∧ Aside0 (IsL wr L G cg) ∧ Aside0 (Below w.heap.size w wr) ∧ Aside0 (Below w3.heap.size w3 wr)) (fun _ vi _ => a.length - (intOf vi).toNat)
    case atStart => exact ⟨0, [], _, 0, Nat.zero_le _, rfl, rfl, ⟨Got.start _ _ _⟩, ⟨isL_nil _ _ _⟩, ⟨below_then HBel3.out HBel3.out.size (below_alloc (Below.refl _ _) _)⟩, ⟨below_alloc (Below.refl _ _) _⟩⟩
    case round =>
      obtain ⟨i, L, G, cg, hi, rfl, rfl, HG, HL, HBw, HB3w⟩ := hrel
      obtain ⟨wo, rfl⟩ : ∃ wo : World, wo = wr := ⟨_, rfl⟩
      by_cases hlt : i < a.length
      · have g1 : decide (i < a.length) = true := decide_eq_true hlt
        have i1 : (i : Int) < a.length := by omega
        obtain ⟨ada, A2, c2, eXa, hix, hex⟩ := elem (HA3.out.below HB3w.out) hlt
        subst eXa
        have hkx := HKA.out.all _ (getD_mem hlt)
        obtain ⟨x, hxe⟩ : ∃ x, x = a.getD i zO := ⟨_, rfl⟩
        rw [← hxe] at hix hex hkx
        have HX := Aside0.mk hxe
        have HIX := Aside0.mk hix
        have HEX := Aside0.mk hex
        have HKX := Aside0.mk hkx
        clear hxe hix hex hkx
        go_wp2
        go_loopw [10, 12] (fun v10 vk wq => ∃ (k : Nat) (L2 : List Occ) (G2 : Option Addr) (cg2 : Nat), k ≤ b.length ∧ vk = .int .i64 k ∧ v10 = .slice G2 L2.length cg2 ∧ Aside0 (Got canA a b i k L2) ∧ Aside0 (IsL wq L2 G2 cg2) ∧ Aside0 (Below w.heap.size w wq) ∧ Aside0 (Below w3.heap.size w3 wq) ∧ Aside0 (Below wo.heap.size wo wq)) (fun _ vk _ => b.length - (intOf vk).toNat)
        case atStart => exact ⟨0, L, G, cg, Nat.zero_le _, rfl, rfl, HG, HL, HBw, HB3w, ⟨Below.refl _ _⟩⟩
        case round =>
          obtain ⟨k, L2, G2, cg2, hk, rfl, rfl, HG2, HL2, HW2, HB32, HQ⟩ := hrel
          obtain ⟨wq, rfl⟩ : ∃ wq : World, wq = wr := ⟨_, rfl⟩
          by_cases hlk : k < b.length
          · have g2 : decide (k < b.length) = true := decide_eq_true hlk
            have k1 : (k : Int) < b.length := by omega
            obtain ⟨adb, B2, d2, eXb, hiy, hey⟩ := elem (HB3.out.below HB32.out) hlk
            subst eXb
            have hky := HKB.out.all _ (getD_mem hlk)
            obtain ⟨y, hye⟩ : ∃ y, y = b.getD k zO := ⟨_, rfl⟩
            rw [← hye] at hiy hey hky
            have hex2 := HEX.out.below HQ.out
            have F : ∀ w', Below wq.heap.size wq w' → (fun w' => (w'.cell? (ada.add (i * 3)) = some (.int .i64 x.f0) ∧ w'.cell? ⟨(ada.add (i * 3)).block, (ada.add (i * 3)).off + 1, none⟩ = some (.int .i64 x.f1) ∧ w'.cell? ⟨(ada.add (i * 3)).block, (ada.add (i * 3)).off + 2, none⟩ = some (.slice A2 x.f2.length c2)) ∧ (w'.cell? (adb.add (k * 3)) = some (.int .i64 y.f0) ∧ w'.cell? ⟨(adb.add (k * 3)).block, (adb.add (k * 3)).off + 1, none⟩ = some (.int .i64 y.f1) ∧ w'.cell? ⟨(adb.add (k * 3)).block, (adb.add (k * 3)).off + 2, none⟩ = some (.slice B2 y.f2.length d2))) w' := fun w' h => ⟨⟨pw_cell_below h hex2.a, pw_cell_below h hex2.b, pw_cell_below h hex2.c⟩, ⟨pw_cell_below h hey.a, pw_cell_below h hey.b, pw_cell_below h hey.c⟩⟩
            have HF := Aside0.mk F
            have HY := Aside0.mk hye
            have HIY := Aside0.mk hiy
            have HKY := Aside0.mk hky
            have HGok := HG2.out.ok
            have hGle := HG2.out.le
            have HJ := Aside0.mk (joinO_ok HKX.out HKY.out)
            have HJL := Aside0.mk (isOk_big (isOk_join HKX.out HKY.out))
            have HP := Aside0.mk (putO_ok HGok hGle (isOk_join HKX.out HKY.out))
            have HL2L := Aside0.mk (fun z hz => isOk_big (HGok.all z hz))
            clear F hex2 hye hiy hey hky HGok
            have HIX1 := Aside0.mk (HIX.out.below HQ.out)
            have HIY1 := HIY
            have HL21 := HL2
            have HW1 := HW2
            have HB31 := HB32
            have HQ1 := HQ
            have HF1 := HF
            have hcan : canA x y = true := rfl
            have HCAN := Aside0.mk hcan
            go_upto_region 17 with fail
            have HB0 : Below wq.heap.size wq wq.drew := below_drew (Below.refl _ _)
            refine Za.regionL (fun w' => (w'.cell? (ada.add (i * 3)) = some (.int .i64 x.f0) ∧ w'.cell? ⟨(ada.add (i * 3)).block, (ada.add (i * 3)).off + 1, none⟩ = some (.int .i64 x.f1) ∧ w'.cell? ⟨(ada.add (i * 3)).block, (ada.add (i * 3)).off + 2, none⟩ = some (.slice A2 x.f2.length c2)) ∧ (w'.cell? (adb.add (k * 3)) = some (.int .i64 y.f0) ∧ w'.cell? ⟨(adb.add (k * 3)).block, (adb.add (k * 3)).off + 1, none⟩ = some (.int .i64 y.f1) ∧ w'.cell? ⟨(adb.add (k * 3)).block, (adb.add (k * 3)).off + 2, none⟩ = some (.slice B2 y.f2.length d2))) [] (by kernel_rfl) ?_
            have HS : (fun w' => (w'.cell? (ada.add (i * 3)) = some (.int .i64 x.f0) ∧ w'.cell? ⟨(ada.add (i * 3)).block, (ada.add (i * 3)).off + 1, none⟩ = some (.int .i64 x.f1) ∧ w'.cell? ⟨(ada.add (i * 3)).block, (ada.add (i * 3)).off + 2, none⟩ = some (.slice A2 x.f2.length c2)) ∧ (w'.cell? (adb.add (k * 3)) = some (.int .i64 y.f0) ∧ w'.cell? ⟨(adb.add (k * 3)).block, (adb.add (k * 3)).off + 1, none⟩ = some (.int .i64 y.f1) ∧ w'.cell? ⟨(adb.add (k * 3)).block, (adb.add (k * 3)).off + 2, none⟩ = some (.slice B2 y.f2.length d2))) wq.drew := HF1.out _ HB0
            refine Za.takeL 0 (v := ?vp0) rfl (by kernel_rfl) (by kernel_rfl) (by kernel_rfl) (by kernel_rfl) (fun _ _ _ h => h) (Or.inl ⟨by rfl, ?hyp0⟩) HS ?restp0
            case hyp0 => (intro w hSw; (try dsimp only at hSw); go_simp; try with_reducible rfl)
            (try simp only [Act.put, List.setIfInBounds_toArray, List.set_cons_zero, List.set_cons_succ])
            refine Za.takeL 1 (v := ?vp1) rfl (by kernel_rfl) (by kernel_rfl) (by kernel_rfl) (by kernel_rfl) (fun _ _ _ h => h) (Or.inl ⟨by rfl, ?hyp1⟩) HS ?restp1
            case hyp1 => (intro w hSw; (try dsimp only at hSw); go_simp; try with_reducible rfl)
            (try simp only [Act.put, List.setIfInBounds_toArray, List.set_cons_zero, List.set_cons_succ])
            refine Za.takeL 2 (v := ?vp2) rfl (by kernel_rfl) (by kernel_rfl) (by kernel_rfl) (by kernel_rfl) (fun _ _ _ h => h) (Or.inl ⟨by rfl, ?hyp2⟩) HS ?restp2
            case hyp2 => (intro w hSw; (try dsimp only at hSw); go_simp; try with_reducible rfl)
            (try simp only [Act.put, List.setIfInBounds_toArray, List.set_cons_zero, List.set_cons_succ])
            refine Za.takeL 3 (v := ?vp3) rfl (by kernel_rfl) (by kernel_rfl) (by kernel_rfl) (by kernel_rfl) (fun _ _ _ h => h) (Or.inl ⟨by rfl, ?hyp3⟩) HS ?restp3
            case hyp3 => (intro w hSw; (try dsimp only at hSw); go_simp; try with_reducible rfl)
            (try simp only [Act.put, List.setIfInBounds_toArray, List.set_cons_zero, List.set_cons_succ])
            refine Za.takeL 4 (v := ?vp4) rfl (by kernel_rfl) (by kernel_rfl) (by kernel_rfl) (by kernel_rfl) (fun _ _ _ h => h) (Or.inl ⟨by rfl, ?hyp4⟩) HS ?restp4
            case hyp4 => (intro w hSw; (try dsimp only at hSw); go_simp; try with_reducible rfl)
            (try simp only [Act.put, List.setIfInBounds_toArray, List.set_cons_zero, List.set_cons_succ])
            refine Za.takeL 5 (v := ?vp5) rfl (by kernel_rfl) (by kernel_rfl) (by kernel_rfl) (by kernel_rfl) (fun _ _ _ h => h) (Or.inl ⟨by rfl, ?hyp5⟩) HS ?restp5
            case hyp5 => (intro w hSw; (try dsimp only at hSw); go_simp; try with_reducible rfl)
            (try simp only [Act.put, List.setIfInBounds_toArray, List.set_cons_zero, List.set_cons_succ])
            refine Za.takeL 6 (v := ?vp6) rfl (by kernel_rfl) (by kernel_rfl) (by kernel_rfl) (by kernel_rfl) (fun _ _ _ h => h) (Or.inl ⟨by rfl, ?hyp6⟩) HS ?restp6
            case hyp6 => (intro w hSw; (try dsimp only at hSw); go_simp; try with_reducible rfl)
            (try simp only [Act.put, List.setIfInBounds_toArray, List.set_cons_zero, List.set_cons_succ])
            refine Za.takeL 7 (v := ?vp7) rfl (by kernel_rfl) (by kernel_rfl) (by kernel_rfl) (by kernel_rfl) (fun _ _ _ h => h) (Or.inl ⟨by rfl, ?hyp7⟩) HS ?restp7
            case hyp7 => (intro w hSw; (try dsimp only at hSw); go_simp; try with_reducible rfl)
            (try simp only [Act.put, List.setIfInBounds_toArray, List.set_cons_zero, List.set_cons_succ])
            refine Za.takeL 8 (v := ?vp8) rfl (by kernel_rfl) (by kernel_rfl) (by kernel_rfl) (by kernel_rfl) (fun _ _ _ h => h) (Or.inl ⟨by rfl, ?hyp8⟩) HS ?restp8
            case hyp8 => (intro w hSw; (try dsimp only at hSw); go_simp; try with_reducible rfl)
            (try simp only [Act.put, List.setIfInBounds_toArray, List.set_cons_zero, List.set_cons_succ])
            clear HS
            refine Za.nextL 9 (by kernel_rfl) rfl (fun K' hK => ?_)
            go_simp
            (go_at_call 26; refine (iJoin x y (join x y) _ _ _ _ _ HJ.out (isOk_big HKX.out) (isOk_big HKY.out) (HIX1.out.below HB0) (HIY1.out.below HB0)).mono ?_; rintro e w4 ⟨J, cj, rfl, hj, hb4⟩; have HB4 : Below wq.heap.size wq w4 := keepD hb4; have HJ4 := Aside0.mk hj; clear hj hb4)
            go_wp2_with fail
            refine hK.out _ _ ⟨fun _ => HF1.out _ HB4, ?_⟩
            clear hK K'
            (try simp only [Act.put, List.setIfInBounds_toArray, List.set_cons_zero, List.set_cons_succ])
            have HS : (fun w' => (w'.cell? (ada.add (i * 3)) = some (.int .i64 x.f0) ∧ w'.cell? ⟨(ada.add (i * 3)).block, (ada.add (i * 3)).off + 1, none⟩ = some (.int .i64 x.f1) ∧ w'.cell? ⟨(ada.add (i * 3)).block, (ada.add (i * 3)).off + 2, none⟩ = some (.slice A2 x.f2.length c2)) ∧ (w'.cell? (adb.add (k * 3)) = some (.int .i64 y.f0) ∧ w'.cell? ⟨(adb.add (k * 3)).block, (adb.add (k * 3)).off + 1, none⟩ = some (.int .i64 y.f1) ∧ w'.cell? ⟨(adb.add (k * 3)).block, (adb.add (k * 3)).off + 2, none⟩ = some (.slice B2 y.f2.length d2))) w4 := HF1.out _ HB4
            clear HS
            refine Za.nextL 10 (by kernel_rfl) rfl (fun K' hK => ?_)
            go_simp
            (go_at_call 25; refine (iPut G2 J cg2 cj L2 (put L2 (join x y)) (join x y) _ HP.out (by omega) HJL.out HL2L.out (HL21.out.below HB4) HJ4.out).mono ?_; rintro e w5 ⟨P, cp, rfl, hp, hb5⟩; have HB5 : Below wq.heap.size wq w5 := below_then HB4 HB4.size hb5; have HP5 := Aside0.mk hp; clear hp hb5)
            go_wp2_with fail
            refine hK.out _ _ ⟨fun _ => HF1.out _ HB5, ?_⟩
            clear hK K'
            (try simp only [Act.put, List.setIfInBounds_toArray, List.set_cons_zero, List.set_cons_succ])
            have HS : (fun w' => (w'.cell? (ada.add (i * 3)) = some (.int .i64 x.f0) ∧ w'.cell? ⟨(ada.add (i * 3)).block, (ada.add (i * 3)).off + 1, none⟩ = some (.int .i64 x.f1) ∧ w'.cell? ⟨(ada.add (i * 3)).block, (ada.add (i * 3)).off + 2, none⟩ = some (.slice A2 x.f2.length c2)) ∧ (w'.cell? (adb.add (k * 3)) = some (.int .i64 y.f0) ∧ w'.cell? ⟨(adb.add (k * 3)).block, (adb.add (k * 3)).off + 1, none⟩ = some (.int .i64 y.f1) ∧ w'.cell? ⟨(adb.add (k * 3)).block, (adb.add (k * 3)).off + 2, none⟩ = some (.slice B2 y.f2.length d2))) w5 := HF1.out _ HB5
            refine Za.takeL 11 (v := ?vp11) rfl (by kernel_rfl) (by kernel_rfl) (by kernel_rfl) (by kernel_rfl) (fun _ _ _ h => h) (Or.inl ⟨by rfl, ?hyp11⟩) HS ?restp11
            case hyp11 => (intro w hSw; (try dsimp only at hSw); go_simp; try with_reducible rfl)
            (try simp only [Act.put, List.setIfInBounds_toArray, List.set_cons_zero, List.set_cons_succ])
            refine Za.Walk.done (by kernel_rfl) ?_
            clear HS
            by_cases hbg : (put L2 (join x y)).length > 40
            · have d40 : decide (((put L2 (join x y)).length : Int) > 40) = true := decide_eq_true (by omega)
              go_wp2
              go_ret
              exact ⟨rfl, below_then HW1.out HW1.out.size HB5⟩
            · have d40 : decide (((put L2 (join x y)).length : Int) > 40) = false := decide_eq_false (by omega)
              have HN : Aside0 (Got canA a b i (k + 1) (put L2 (join x y))) := ⟨by rw [HX.out, HY.out]; exact Got.yes hlt hlk HKA.out HKB.out HG2.out (by rw [← HX.out, ← HY.out]; exact HCAN.out) (by rw [← HX.out, ← HY.out]; omega)⟩
              generalize put L2 (join x y) = L3 at *
              go_wp2
              go_roundw
              case rel => exact ⟨k + 1, L3, P, cp, by omega, by go_num, rfl, HN, HP5, ⟨below_then HW1.out HW1.out.size HB5⟩, ⟨below_then HB31.out HB31.out.size HB5⟩, ⟨below_then HQ1.out HQ1.out.size HB5⟩⟩
              case measure => simp [intOf]; omega
          · have hke : k = b.length := by omega
            subst hke
            have g2 : decide (b.length < b.length) = false := decide_eq_false (by omega)
            have HN := Aside0.mk (Got.row hlt HG2.out)
            go_wp2
            go_roundw
            case rel => exact ⟨i + 1, L2, G2, cg2, by omega, by go_num, rfl, HN, HL2, HW2, HB32⟩
            case measure => simp [intOf]; omega
      · have hie : i = a.length := by omega
        subst hie
        have g1 : decide (a.length < a.length) = false := decide_eq_false (by omega)
        have HL0 := got_and HKA.out HKB.out HG.out
        have HLok := Aside0.mk HG.out.ok
        have hLle := HG.out.le
        have HLLn := Aside0.mk (fun z hz => isOk_big (HLok.out.all z hz))
        have HEND : Aside0 (decide (0 < l.length) = (decide (0 < a.length) && decide (0 < b.length))) := ⟨by rw [HLS.out]; exact end_and HKA.out HKB.out⟩
        have HSUB4 : Aside0 (md ≠ 4 → ∀ z ∈ l, z ∈ L) := ⟨fun h4 z hz => by rw [HL0]; rw [HLS.out] at hz; exact (mem_an0 HKA.out HKB.out).2 (an_from h4 HKA.out HKB.out hz)⟩
        have HEQ : Aside0 (md = 0 → l = L) := ⟨fun h => by rw [HL0, HLS.out, h]⟩
        have HLOK1 := Aside0.mk HLOK
        have HLl1 := Aside0.mk (L1_3.out.below HB3w.out)
        have HBW1 := HBw
        clear HL0 HG
        obtain h0 | h0 : md = 0 ∨ md ≠ 0 := by omega
        · have HSUB := Aside0.mk (HSUB4.out (by omega))
          have HEQ0 := Aside0.mk (HEQ.out h0)
          subst h0
          have HLq := HLl1
          have HLr := HL
          have HBq := HBW1
          go_wp2_with (go_at_call 17; refine (occsSame_any _ _ _ _ _ _ _ HLq.out.rd HLr.out.rd).mono ?_; rintro e wz ⟨rfl, hbz⟩; rw [decide_eq_true HEQ0.out]; have HBz := Aside0.mk (below_then HBq.out HBq.out.size hbz); have HLl := Aside0.mk (HLq.out.below hbz); have HLa := Aside0.mk (HLr.out.below hbz); clear hbz)
          go_loopw [13] (fun vi wv => ∃ (k : Nat), k ≤ l.length ∧ vi = .int .i64 k ∧ Aside0 (Below w.heap.size w wv) ∧ Aside0 (Below wz.heap.size wz wv)) (fun vi _ => l.length - (intOf vi).toNat)
          case atStart => exact ⟨0, Nat.zero_le _, rfl, HBz, ⟨Below.refl _ _⟩⟩
          case round =>
            obtain ⟨k, hk, rfl, HBv, HBzv⟩ := hrel
            obtain ⟨wv, rfl⟩ : ∃ wv : World, wv = wr := ⟨_, rfl⟩
            by_cases hlk : k < l.length
            · have g2 : decide (k < l.length) = true := decide_eq_true hlk
              have k1 : (k : Int) < l.length := by omega
              obtain ⟨adl, A2, c2, eR, hiz, hez⟩ := elem (HLl.out.below HBzv.out) hlk
              subst eR
              have hmem := HSUB.out _ (getD_mem hlk)
              have hkz := HLok.out.all _ hmem
              have HP := Aside0.mk (putO_mem HLok.out hLle hmem)
              have HZL := Aside0.mk (isOk_big hkz)
              generalize l.getD k zO = z at *
              have HIZ := Aside0.mk hiz
              have z0 := hez.a
              have z1 := hez.b
              have z2 := hez.c
              clear hiz hez hmem hkz
              go_wp2_with (go_at_call 25; refine (iPut G A2 cg c2 L L z _ HP.out (by omega) HZL.out HLLn.out (HLa.out.below HBzv.out) HIZ.out).mono ?_; rintro e w5 ⟨P, cp, rfl, hp, hb5⟩; have HB5 := Aside0.mk hb5; clear hp hb5)
              go_roundw
              case rel => exact ⟨k + 1, by omega, by go_num, ⟨below_then HBv.out HBv.out.size HB5.out⟩, ⟨below_then HBzv.out HBzv.out.size HB5.out⟩⟩
              case measure => simp [intOf]; omega
            · have hke : k = l.length := by omega
              subst hke
              have g2 : decide (l.length < l.length) = false := decide_eq_false (by omega)
              have hE := HEND.out
              by_cases ha0 : 0 < a.length
              · have q1 : decide (0 < a.length) = true := decide_eq_true ha0
                by_cases hb0 : 0 < b.length
                · have q2 : decide (0 < b.length) = true := decide_eq_true hb0
                  have q3 : decide (0 < l.length) = true := by rw [hE, q1, q2]; rfl
                  clear hE
                  go_wp2
                  go_ret
                  exact ⟨rfl, HBv.out⟩
                · have q2 : decide (0 < b.length) = false := decide_eq_false hb0
                  have q3 : decide (0 < l.length) = false := by rw [hE, q1, q2]; rfl
                  clear hE
                  go_wp2
                  go_ret
                  exact ⟨rfl, HBv.out⟩
              · have q1 : decide (0 < a.length) = false := decide_eq_false ha0
                have q3 : decide (0 < l.length) = false := by rw [hE, q1]; rfl
                clear hE
                go_wp2
                go_ret
                exact ⟨rfl, HBv.out⟩
        · have m0 : (md == 0) = false := by rw [beq_eq_false_iff_ne]; exact h0
          obtain ⟨wz, rfl⟩ : ∃ wz : World, wz = wo := ⟨_, rfl⟩
          have HLl := HLl1
          have HLa := HL
          have HBz := HBW1
          obtain h4 | h4 : md = 4 ∨ md ≠ 4 := by omega
          · subst h4
            go_wp2
            go_loopw [13] (fun vi wv => vi = .int .i64 (0 : Nat) ∧ wv = wz) (fun vi _ => 0)
            case atStart => exact ⟨rfl, rfl⟩
            case round =>
              obtain ⟨rfl, rfl⟩ := hrel
              have hE := HEND.out
              by_cases ha0 : 0 < a.length
              · have q1 : decide (0 < a.length) = true := decide_eq_true ha0
                by_cases hb0 : 0 < b.length
                · have q2 : decide (0 < b.length) = true := decide_eq_true hb0
                  have q3 : decide (0 < l.length) = true := by rw [hE, q1, q2]; rfl
                  clear hE
                  go_wp2
                  go_ret
                  exact ⟨rfl, HBz.out⟩
                · have q2 : decide (0 < b.length) = false := decide_eq_false hb0
                  have q3 : decide (0 < l.length) = false := by rw [hE, q1, q2]; rfl
                  clear hE
                  go_wp2
                  go_ret
                  exact ⟨rfl, HBz.out⟩
              · have q1 : decide (0 < a.length) = false := decide_eq_false ha0
                have q3 : decide (0 < l.length) = false := by rw [hE, q1]; rfl
                clear hE
                go_wp2
                go_ret
                exact ⟨rfl, HBz.out⟩
          · have m4 : (md != 4) = true := by rw [bne_iff_ne]; exact h4
            have HSUB := Aside0.mk (HSUB4.out h4)
            go_wp2
            go_loopw [13] (fun vi wv => ∃ (k : Nat), k ≤ l.length ∧ vi = .int .i64 k ∧ Aside0 (Below w.heap.size w wv) ∧ Aside0 (Below wz.heap.size wz wv)) (fun vi _ => l.length - (intOf vi).toNat)
            case atStart => exact ⟨0, Nat.zero_le _, rfl, HBz, ⟨Below.refl _ _⟩⟩
            case round =>
              obtain ⟨k, hk, rfl, HBv, HBzv⟩ := hrel
              obtain ⟨wv, rfl⟩ : ∃ wv : World, wv = wr := ⟨_, rfl⟩
              by_cases hlk : k < l.length
              · have g2 : decide (k < l.length) = true := decide_eq_true hlk
                have k1 : (k : Int) < l.length := by omega
                obtain ⟨adl, A2, c2, eR, hiz, hez⟩ := elem (HLl.out.below HBzv.out) hlk
                subst eR
                have hmem := HSUB.out _ (getD_mem hlk)
                have hkz := HLok.out.all _ hmem
                have HP := Aside0.mk (putO_mem HLok.out hLle hmem)
                have HZL := Aside0.mk (isOk_big hkz)
                generalize l.getD k zO = z at *
                have HIZ := Aside0.mk hiz
                have z0 := hez.a
                have z1 := hez.b
                have z2 := hez.c
                clear hiz hez hmem hkz
                go_wp2_with (go_at_call 25; refine (iPut G A2 cg c2 L L z _ HP.out (by omega) HZL.out HLLn.out (HLa.out.below HBzv.out) HIZ.out).mono ?_; rintro e w5 ⟨P, cp, rfl, hp, hb5⟩; have HB5 := Aside0.mk hb5; clear hp hb5)
                go_roundw
                case rel => exact ⟨k + 1, by omega, by go_num, ⟨below_then HBv.out HBv.out.size HB5.out⟩, ⟨below_then HBzv.out HBzv.out.size HB5.out⟩⟩
                case measure => simp [intOf]; omega
              · have hke : k = l.length := by omega
                subst hke
                have g2 : decide (l.length < l.length) = false := decide_eq_false (by omega)
                have hE := HEND.out
                by_cases ha0 : 0 < a.length
                · have q1 : decide (0 < a.length) = true := decide_eq_true ha0
                  by_cases hb0 : 0 < b.length
                  · have q2 : decide (0 < b.length) = true := decide_eq_true hb0
                    have q3 : decide (0 < l.length) = true := by rw [hE, q1, q2]; rfl
                    clear hE
                    go_wp2
                    go_ret
                    exact ⟨rfl, HBv.out⟩
                  · have q2 : decide (0 < b.length) = false := decide_eq_false hb0
                    have q3 : decide (0 < l.length) = false := by rw [hE, q1, q2]; rfl
                    clear hE
                    go_wp2
                    go_ret
                    exact ⟨rfl, HBv.out⟩
                · have q1 : decide (0 < a.length) = false := decide_eq_false ha0
                  have q3 : decide (0 < l.length) = false := by rw [hE, q1]; rfl
                  clear hE
                  go_wp2
                  go_ret
                  exact ⟨rfl, HBv.out⟩
end Go.Proofs.YtjeojdbfpncnkaaGreat.We

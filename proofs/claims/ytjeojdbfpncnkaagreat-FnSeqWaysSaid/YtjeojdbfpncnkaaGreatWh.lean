
/- FnSeqWays: the walk. -/
import Derived.Test.YtjeojdbfpncnkaaGreatB7
import Derived.Test.YtjeojdbfpncnkaaGreatB6
import Derived.Test.YtjeojdbfpncnkaaGreatPy
set_option linter.unusedVariables false
set_option linter.unusedSimpArgs false
namespace Go.Proofs.YtjeojdbfpncnkaaGreat.Wh
open Go.RowKit Go.Proofs.YtjeojdbfpncnkaaGreatW.PrintWords Go.Proofs.YtjeojdbfpncnkaaGreat.Wd Go.Proofs.YtjeojdbfpncnkaaGreat.Pu Go.Proofs.YtjeojdbfpncnkaaGreat.Pv Go.Proofs.YtjeojdbfpncnkaaGreat.Ca Go.Proofs.YtjeojdbfpncnkaaGreat.Cb Go.Proofs.YtjeojdbfpncnkaaGreat.Cc Go.Proofs.YtjeojdbfpncnkaaGreat.Cp Go.Proofs.YtjeojdbfpncnkaaGreat.Cd Go.Proofs.YtjeojdbfpncnkaaGreat.Ci Go.Proofs.YtjeojdbfpncnkaaGreat.Ce Go.Proofs.YtjeojdbfpncnkaaGreat.Cf Go.Proofs.YtjeojdbfpncnkaaGreat.Cg Go.Proofs.YtjeojdbfpncnkaaGreat.Sc Go.Proofs.YtjeojdbfpncnkaaGreat.Se Go.Proofs.YtjeojdbfpncnkaaGreat.Sh Go.Proofs.YtjeojdbfpncnkaaGreat.Si Go.Proofs.YtjeojdbfpncnkaaGreat.Sp Go.Proofs.YtjeojdbfpncnkaaGreat.Ia Go.Proofs.YtjeojdbfpncnkaaGreat.Ib Go.Proofs.YtjeojdbfpncnkaaGreat.Ic Go.Proofs.YtjeojdbfpncnkaaGreat.Id Go.Proofs.YtjeojdbfpncnkaaGreat.Ie Go.Proofs.YtjeojdbfpncnkaaGreat.If Go.Proofs.YtjeojdbfpncnkaaGreat.Ig Go.Proofs.YtjeojdbfpncnkaaGreat.Ih Go.Proofs.YtjeojdbfpncnkaaGreat.Ij Go.Proofs.YtjeojdbfpncnkaaGreat.Ik Go.Proofs.YtjeojdbfpncnkaaGreat.Ra Go.Proofs.YtjeojdbfpncnkaaGreat.Rb Go.Proofs.YtjeojdbfpncnkaaGreat.Rc Go.Proofs.YtjeojdbfpncnkaaGreat.Rd Go.Proofs.YtjeojdbfpncnkaaGreat.Re Go.Proofs.YtjeojdbfpncnkaaGreat.Sj Go.Proofs.YtjeojdbfpncnkaaGreat.Ya Go.Proofs.YtjeojdbfpncnkaaGreat.Yd Go.Proofs.YtjeojdbfpncnkaaGreat.Yf Go.Proofs.YtjeojdbfpncnkaaGreat.Yg Go.Proofs.YtjeojdbfpncnkaaGreat.Ih Go.Proofs.YtjeojdbfpncnkaaGreat.Yh Go.Proofs.YtjeojdbfpncnkaaGreat.Yi Go.Proofs.YtjeojdbfpncnkaaGreat.Sg Go.Proofs.YtjeojdbfpncnkaaGreat.Sf Go.Proofs.YtjeojdbfpncnkaaGreat.Yj Go.Proofs.YtjeojdbfpncnkaaGreat.Ig Go.Proofs.YtjeojdbfpncnkaaGreat.Yk Go.Proofs.YtjeojdbfpncnkaaGreat.Ik Go.Proofs.YtjeojdbfpncnkaaGreat.Yl Go.Proofs.YtjeojdbfpncnkaaGreat.Ij Go.Proofs.YtjeojdbfpncnkaaGreat.Ym Go.Proofs.YtjeojdbfpncnkaaGreat.Il Go.Proofs.YtjeojdbfpncnkaaGreat.Yn Go.Proofs.YtjeojdbfpncnkaaGreat.Yo Go.Proofs.YtjeojdbfpncnkaaGreat.In Go.Proofs.YtjeojdbfpncnkaaGreat.Yq Go.Proofs.YtjeojdbfpncnkaaGreat.Pw Go.Proofs.YtjeojdbfpncnkaaGreat.Px Go.Proofs.YtjeojdbfpncnkaaGreat.La Go.Proofs.YtjeojdbfpncnkaaGreat.Db Go.Proofs.YtjeojdbfpncnkaaGreat.Py Go.Proofs.YtjeojdbfpncnkaaGreat.Sh

theorem ofI_cases' (md : Int) (a b : List Occ) : ofI seq3 md a b = ([], false) ∨ ((0 ≤ md ∧ md ≤ 4) ∧ (AreOk a ∧ a.length ≤ 40) ∧ (AreOk b ∧ b.length ≤ 40) ∧ (sq md a b).length ≤ 40 ∧ ofI seq3 md a b = (sq md a b, true)) := by
  rw [ofI_seq]
  by_cases h : (inb md 0 4 && okOs a && okOs b) = true
  · rw [if_pos h]
    simp only [Bool.and_eq_true] at h
    have hm : 0 ≤ md ∧ md ≤ 4 := by have := h.1.1; unfold inb at this; simpa using this
    unfold told
    split
    · exact .inl rfl
    · exact .inr ⟨hm, okOs_iff.1 h.1.2, okOs_iff.1 h.2, by omega, rfl⟩
  · rw [if_neg h]
    exact .inl rfl
/-- a list in new memory -/
structure RL (w : World) (A : Option Addr) (c : Nat) (l : List Occ) : Prop where
  rw : ∃ b, Rw w b (.slice A l.length c) l
theorem RL.isL {w : World} {A : Option Addr} {c : Nat} {l : List Occ} (h : RL w A c l) : IsL w l A c := by
  obtain ⟨b, h⟩ := h.rw
  exact ⟨(Kd.R_reads' h).2.1, (Kd.R_reads' h).2.2⟩
theorem RL.below {w w' : World} {A : Option Addr} {c : Nat} {l : List Occ} (h : RL w A c l) (hb : Below w.heap.size w w') : RL w' A c l := by
  obtain ⟨b, h⟩ := h.rw
  exact ⟨b, Kd.R_below h hb⟩
theorem RL.mark {w : World} {A : Option Addr} {c : Nat} {l : List Occ} {n g cap : Nat} {us : List Bool} (h : RL w A c l) (hm : MarksAt w n g cap us) (i : Nat) : RL (w.setCell ⟨g, i, none⟩ (.bool true)) A c l := by
  obtain ⟨b, h⟩ := h.rw
  exact ⟨b, hm.list h i⟩
theorem mark_below {w0 w : World} {n g cap : Nat} {us : List Bool} (hb : Below n w0 w) (hm : MarksAt w n g cap us) (i : Nat) : Below n w0 (w.setCell ⟨g, i, none⟩ (.bool true)) := hb.setCell (p := ⟨g, i, none⟩) hm.ge (.bool true)
theorem two_new (w : World) (t : TypeId) : Below w.heap.size w ((w.alloc (.cells #[] t)).alloc (.cells #[] t)) ∧ ((w.alloc (.cells #[] t)).alloc (.cells #[] t)).heap[w.heap.size]? = some (.cells #[] t (0, 0)) ∧
    ((w.alloc (.cells #[] t)).alloc (.cells #[] t)).heap[w.heap.size + 1]? = some (.cells #[] t (0, 0)) := by
  refine ⟨by repeat (first | exact Below.refl _ _ | apply below_alloc), blk_alloc (blk_new _ _) _, ?_⟩
  have h := blk_new (w.alloc (.cells #[] t)) (.cells #[] t)
  simpa using h
theorem first_of_last {p q : Nat → Bool} {i : Nat} {s f : Int} (h : LastAt p i s) (hs : s < 0) (hf : FirstAt (fun j => p j && q j) i f) : f < 0 := by
  rcases hf with ⟨h1, _⟩ | ⟨j, h1, h2, h3, _⟩
  · omega
  · rcases h with ⟨_, h4⟩ | ⟨k, _, h5, _⟩
    · have h6 := h4 j h1
      simp only [h6, Bool.false_and] at h3
      cases h3
    · omega
theorem upto_fst {a X : List Occ} {s : List Occ × List Occ} (h : s = (a, X)) : s.2 = X := by rw [h]

set_option maxHeartbeats 60000000 in
set_option maxRecDepth 100000 in
theorem walk (A : Option Addr) (c : Nat) (bs : List Int) (w : World) (hC : (Kd.int .u8).C w A bs.length bs) (hc : bs.length ≤ c) (hb : ∀ b ∈ bs, 0 ≤ b ∧ b ≤ 255) :
    Calls Tryz.prog 8 #[.slice A bs.length c] w fun e w' => e = .returned (.bool true) ∧ Below w.heap.size w w' := by
  by_cases hbig : bs.length > 1048576
  · have d1 : decide ((bs.length : Int) > 1048576) = true := decide_eq_true (by omega)
    go_enter Tryz.func8, Tryz.ntmps8
    go_wp2
    go_ret
    exact ⟨rfl, Below.refl _ _⟩
  have d1 : decide ((bs.length : Int) > 1048576) = false := decide_eq_false (by omega)
  go_enter Tryz.func8, Tryz.ntmps8
  go_upto_region 4 with (go_at_call 22; refine (drawSeqOf_any A c bs _ hC hc hb).mono ?_; rintro e w0 ⟨md, a, b, Xa, Xb, ca, cb, rfl, ha0, hb0, hln, hbel⟩; have HA0 := Aside0.mk ha0; have HB0 := Aside0.mk hb0; have HBel0 := Aside0.mk hbel; clear ha0 hb0 hbel hln)
  rcases ofI_cases' 1 a b with hp | ⟨hm, ⟨ka, na⟩, ⟨kb, nb⟩, hl40, hp⟩
  · have HP := Aside0.mk hp
    clear hp
    go_upto_region 5 with (go_at_call 23; refine (iSeq 1 Xa Xb ca cb a b ([], false) _ HP.out HA0.out HB0.out).mono ?_; rintro e w1 ⟨R1, r1, rfl, hl1, hb1⟩; have HBel1 := Aside0.mk (below_then HBel0.out HBel0.out.size hb1); have HA1 := Aside0.mk (HA0.out.below hb1); have HB1 := Aside0.mk (HB0.out.below hb1); have L1_1 := Aside0.mk hl1; clear hl1 hb1)
    go_upto_region 6 with (go_at_call 24; refine (sSeq 1 Xa Xb ca cb a b ([], false) _ HP.out HA1.out HB1.out).mono ?_; rintro e w2 ⟨R2, r2, rfl, hl2, hb2⟩; have HBel2 := Aside0.mk (below_then HBel1.out HBel1.out.size hb2); have HA2 := Aside0.mk (HA1.out.below hb2); have HB2 := Aside0.mk (HB1.out.below hb2); have L1_2 := Aside0.mk (L1_1.out.below hb2); have L2_2 := Aside0.mk hl2; clear hl2 hb2)
    go_wp2_with (go_at_call 17; refine (occsSame_any _ _ _ _ _ _ _ L1_2.out.rd L2_2.out.rd).mono ?_; rintro e w3 ⟨rfl, hb3⟩; rw [decide_eq_true rfl]; have HBel3 := Aside0.mk (below_then HBel2.out HBel2.out.size hb3); clear hb3)
    go_ret
    exact ⟨rfl, HBel3.out⟩
  · have HKA := Aside0.mk ka
    have HKB := Aside0.mk kb
    have HKBn := Aside0.mk nb
    obtain ⟨l, hl⟩ : ∃ l, l = sq 1 a b := ⟨_, rfl⟩
    obtain ⟨p2, hp2⟩ : ∃ p2, ofI seq3 2 a b = p2 := ⟨_, rfl⟩
    have HP2 := Aside0.mk hp2
    have HC2 : Aside0 (p2 = ([], false) ∨ p2 = (sq 2 a b, true)) := ⟨by
      rw [← hp2]
      rcases ofI_cases' 2 a b with h | ⟨_, _, _, _, h⟩
      · exact .inl h
      · exact .inr h⟩
    rw [← hl] at hp hl40
    have HLS := Aside0.mk hl
    have HPL := Aside0.mk hp
    clear hp hl ka kb hp2 hm hl40
    go_upto_region 5 with (go_at_call 23; refine (iSeq 1 Xa Xb ca cb a b (l, true) _ HPL.out HA0.out HB0.out).mono ?_; rintro e w1 ⟨R1, r1, rfl, hl1, hb1⟩; have HBel1 := Aside0.mk (below_then HBel0.out HBel0.out.size hb1); have HA1 := Aside0.mk (HA0.out.below hb1); have HB1 := Aside0.mk (HB0.out.below hb1); have L1_1 := Aside0.mk hl1; clear hl1 hb1)
    go_upto_region 6 with (go_at_call 24; refine (sSeq 1 Xa Xb ca cb a b (l, true) _ HPL.out HA1.out HB1.out).mono ?_; rintro e w2 ⟨R2, r2, rfl, hl2, hb2⟩; have HBel2 := Aside0.mk (below_then HBel1.out HBel1.out.size hb2); have HA2 := Aside0.mk (HA1.out.below hb2); have HB2 := Aside0.mk (HB1.out.below hb2); have L1_2 := Aside0.mk (L1_1.out.below hb2); have L2_2 := Aside0.mk hl2; clear hl2 hb2)
    go_upto_region 10 with (go_at_call 17; refine (occsSame_any _ _ _ _ _ _ _ L1_2.out.rd L2_2.out.rd).mono ?_; rintro e w3 ⟨rfl, hb3⟩; rw [decide_eq_true rfl]; have HBel3 := Aside0.mk (below_then HBel2.out HBel2.out.size hb3); have HA3 := Aside0.mk (HA2.out.below hb3); have HB3 := Aside0.mk (HB2.out.below hb3); have L1_3 := Aside0.mk (L1_2.out.below hb3); clear hb3)
    go_upto_region 11 with (go_at_call 23; refine (iSeq 2 Xa Xb ca cb a b p2 _ HP2.out HA3.out HB3.out).mono ?_; rintro e w4 ⟨R4, r4, rfl, hl4, hb4⟩; have HBel4 := Aside0.mk (below_then HBel3.out HBel3.out.size hb4); have HA4 := Aside0.mk (HA3.out.below hb4); have HB4 := Aside0.mk (HB3.out.below hb4); have L1_4 := Aside0.mk (L1_3.out.below hb4); have L4_4 := Aside0.mk hl4; clear hl4 hb4)
    go_upto_region 13 with fail
    obtain ⟨hbn, hx0, hy0⟩ := two_new w4 38
    have HX0 : Aside0 (RL ((w4.alloc (.cells #[] 38)).alloc (.cells #[] 38)) (some ⟨w4.heap.size, 0, none⟩) 0 []) := ⟨⟨0, R_empty kO hx0 (Nat.zero_le _)⟩⟩
    have HY0 : Aside0 (RL ((w4.alloc (.cells #[] 38)).alloc (.cells #[] 38)) (some ⟨w4.heap.size + 1, 0, none⟩) 0 []) := ⟨⟨0, R_empty kO hy0 (Nat.zero_le _)⟩⟩
    have HBel5 := Aside0.mk (below_then HBel4.out HBel4.out.size hbn)
    have HA5 := Aside0.mk (HA4.out.below hbn)
    have HB5 := Aside0.mk (HB4.out.below hbn)
    have L1_5 := Aside0.mk (L1_4.out.below hbn)
    have L4_5 := Aside0.mk (L4_4.out.below hbn)
    generalize (w4.alloc (.cells #[] 38)).alloc (.cells #[] 38) = W at *
    have hn : (0 : Int) ≤ a.length := by omega
    have hlb : ((a.length : Int)).toNat * 1 ≤ 281474976710656 := by omega
    clear hbn hx0 hy0
    go_wp2_with ((with_reducible refine gate_dst (N := 64) rfl ?_); refine Kd.R_make Kd.bool (w0 := W) W.heap.size 4 rfl (N := 64) rfl 49 _ _ rfl (a.length : Int) rfl rfl Tryz.underlying49 (.bool false) 1 infoB rfl (by decide) (by omega) false (ok := fun _ => True) (okp := fun _ => True) rfl (fun _ hk => hk) trivial hn hlb (Below.refl _ _) (Nat.le_refl _) ?_; intro v14 w6 hr6 hb6 hg6 _; simp only [Int.toNat_natCast] at hr6; have HR6 := Aside0.mk hr6; have HB6 := Aside0.mk hb6; clear hr6 hb6 hg6)
    clear hlb hn
    go_loopw [12, 13, 15] (fun v12 v13 v15 wr => ∃ (k : Nat) (L : List Occ) (Gx : Option Addr) (cx : Nat) (F M : List Occ) (Gy : Option Addr) (cy : Nat) (us : List Bool), k ≤ b.length ∧ v15 = .int .i64 k ∧ v12 = .slice Gx L.length cx ∧ v13 = .slice Gy M.length cy ∧ Aside0 (upto 1 a b k = (a, L)) ∧ Aside0 (upto 2 a b k = (F, M)) ∧ Aside0 (Unused a us F) ∧ Aside0 (RBs wr W.heap.size v14 us) ∧ Aside0 (RL wr Gx cx L) ∧ Aside0 (RL wr Gy cy M) ∧ Aside0 (Below W.heap.size W wr) ∧ Aside0 (Below w.heap.size w wr)) (fun _ _ vi _ => b.length - (intOf vi).toNat)
    case atStart => exact ⟨0, [], _, 0, a, [], _, 0, List.replicate a.length false, Nat.zero_le _, rfl, rfl, rfl, ⟨rfl⟩, ⟨rfl⟩, ⟨Unused.start HKA.out.sorted⟩, HR6, ⟨HX0.out.below HB6.out⟩, ⟨HY0.out.below HB6.out⟩, HB6, ⟨below_then HBel5.out HBel5.out.size HB6.out⟩⟩
    case round =>
      obtain ⟨k, L, Gx, cx, F, M, Gy, cy, us, hk, rfl, rfl, rfl, HL, HM, HU, HR, HX, HY, HBn, HBw⟩ := hrel
      obtain ⟨wo, rfl⟩ : ∃ wo : World, wo = wr := ⟨_, rfl⟩
      by_cases hlt : k < b.length
      · have g1 : decide (k < b.length) = true := decide_eq_true hlt
        have k1 : (k : Int) < b.length := by omega
        obtain ⟨adb, B2, d2, eXb, hiy, hey⟩ := elem (HB5.out.below HBn.out) hlt
        subst eXb
        have hky := HKB.out.all _ (getD_mem hlt)
        have HS1 := Aside0.mk (upto_succ (mode := 1) (a := a) hlt)
        have HS2 := Aside0.mk (upto_succ (mode := 2) (a := a) hlt)
        obtain ⟨y, hye⟩ : ∃ y, y = b.getD k zO := ⟨_, rfl⟩
        rw [← hye] at hiy hey hky HS1 HS2
        have hll := upto_len1 (.inl rfl) a b k (mode := 1)
        have hlm := upto_len1 (.inr (.inl rfl)) a b k (mode := 2)
        have hol := upto_ok (by decide) HKA.out HKB.out k (mode := 1)
        have hom := upto_ok (by decide) HKA.out HKB.out k (mode := 2)
        rw [HL.out] at hll hol HS1
        rw [HM.out] at hlm hom HS2
        replace hll : L.length ≤ k := hll
        replace hlm : M.length ≤ k := hlm
        have HOL := Aside0.mk hol
        have HOM := Aside0.mk hom
        have HIY := Aside0.mk hiy
        have HEY := Aside0.mk hey
        have HKY := Aside0.mk hky
        have HYE := Aside0.mk hye
        clear hye hiy hey hky hol hom
        go_wp2
        go_loopw [16, 17, 18] (fun v16 v17 v18 wq => ∃ (s f : Int) (i : Nat), i ≤ a.length ∧ v16 = .int .i64 s ∧ v17 = .int .i64 f ∧ v18 = .int .i64 i ∧ Aside0 (LastAt (fun j => before y (a.getD j zO)) i s) ∧ Aside0 (FirstAt (fun j => before y (a.getD j zO) && !us.getD j true) i f) ∧ Aside0 (Below wo.heap.size wo wq)) (fun _ _ vi _ => a.length - (intOf vi).toNat)
        case atStart => exact ⟨-1, -1, 0, Nat.zero_le _, rfl, rfl, rfl, ⟨LastAt.start _⟩, ⟨FirstAt.start _⟩, ⟨Below.refl _ _⟩⟩
        case round =>
          obtain ⟨s, f, i, hi, rfl, rfl, rfl, HLA, HFA, HQ⟩ := hrel
          obtain ⟨wq, rfl⟩ : ∃ wq : World, wq = wr := ⟨_, rfl⟩
          by_cases hla : i < a.length
          · have g2 : decide (i < a.length) = true := decide_eq_true hla
            have i1 : (i : Int) < a.length := by omega
            obtain ⟨ada, A2, c2, eXa, hix, hex⟩ := elem (HA5.out.below (below_then HBn.out HBn.out.size HQ.out)) hla
            subst eXa
            obtain ⟨x, hxe⟩ : ∃ x, x = a.getD i zO := ⟨_, rfl⟩
            rw [← hxe] at hix hex
            have hey2 := HEY.out.below HQ.out
            have F6 : ∀ w', Below wq.heap.size wq w' → (fun w' => (w'.cell? (ada.add (i * 3)) = some (.int .i64 x.f0) ∧ w'.cell? ⟨(ada.add (i * 3)).block, (ada.add (i * 3)).off + 1, none⟩ = some (.int .i64 x.f1) ∧ w'.cell? ⟨(ada.add (i * 3)).block, (ada.add (i * 3)).off + 2, none⟩ = some (.slice A2 x.f2.length c2)) ∧ (w'.cell? (adb.add (k * 3)) = some (.int .i64 y.f0) ∧ w'.cell? ⟨(adb.add (k * 3)).block, (adb.add (k * 3)).off + 1, none⟩ = some (.int .i64 y.f1) ∧ w'.cell? ⟨(adb.add (k * 3)).block, (adb.add (k * 3)).off + 2, none⟩ = some (.slice B2 y.f2.length d2))) w' := fun w' h => ⟨⟨pw_cell_below h hex.a, pw_cell_below h hex.b, pw_cell_below h hex.c⟩, ⟨pw_cell_below h hey2.a, pw_cell_below h hey2.b, pw_cell_below h hey2.c⟩⟩
            have HF := Aside0.mk F6
            obtain ⟨g, cap, rfl, hmk⟩ := marks_at HR.out (by rw [HU.out.len]; omega)
            have HMK := Aside0.mk hmk
            have hgt := hmk.get (i := i) (by rw [HU.out.len]; omega)
            have HB0 : Below wq.heap.size wq wq.drew := below_drew (Below.refl _ _)
            have hbq := below_then HQ.out HQ.out.size HB0
            have hgt1 := pw_cell_below hbq hgt.1
            have HQ1 := Aside0.mk hbq
            have hus : us.length = a.length := HU.out.len
            rw [hus]
            clear F6 hix hex hey2 hmk hgt hbq
            cases hcan : decide (x.f1 < y.f0) with
            | false =>
              have hbf : before y (a.getD i zO) = false := by rw [← hxe]; exact hcan
              have HN1 := Aside0.mk (HLA.out.no (by exact hbf))
              have HN2 := Aside0.mk (HFA.out.no (by simp only [hbf, Bool.false_and]))
              clear hbf hxe
              go_upto_region 22 with fail
              refine Za.regionL (fun w' => (w'.cell? (ada.add (i * 3)) = some (.int .i64 x.f0) ∧ w'.cell? ⟨(ada.add (i * 3)).block, (ada.add (i * 3)).off + 1, none⟩ = some (.int .i64 x.f1) ∧ w'.cell? ⟨(ada.add (i * 3)).block, (ada.add (i * 3)).off + 2, none⟩ = some (.slice A2 x.f2.length c2)) ∧ (w'.cell? (adb.add (k * 3)) = some (.int .i64 y.f0) ∧ w'.cell? ⟨(adb.add (k * 3)).block, (adb.add (k * 3)).off + 1, none⟩ = some (.int .i64 y.f1) ∧ w'.cell? ⟨(adb.add (k * 3)).block, (adb.add (k * 3)).off + 2, none⟩ = some (.slice B2 y.f2.length d2))) [] (by kernel_rfl) ?_
              have HS : (fun w' => (w'.cell? (ada.add (i * 3)) = some (.int .i64 x.f0) ∧ w'.cell? ⟨(ada.add (i * 3)).block, (ada.add (i * 3)).off + 1, none⟩ = some (.int .i64 x.f1) ∧ w'.cell? ⟨(ada.add (i * 3)).block, (ada.add (i * 3)).off + 2, none⟩ = some (.slice A2 x.f2.length c2)) ∧ (w'.cell? (adb.add (k * 3)) = some (.int .i64 y.f0) ∧ w'.cell? ⟨(adb.add (k * 3)).block, (adb.add (k * 3)).off + 1, none⟩ = some (.int .i64 y.f1) ∧ w'.cell? ⟨(adb.add (k * 3)).block, (adb.add (k * 3)).off + 2, none⟩ = some (.slice B2 y.f2.length d2))) wq.drew := HF.out _ HB0
              refine Za.takeL 0 (v := ?vn0) rfl (by kernel_rfl) (by kernel_rfl) (by kernel_rfl) (by kernel_rfl) (fun _ _ _ h => h) (Or.inl ⟨by rfl, ?hyn0⟩) HS ?restn0
              case hyn0 => (intro w hSw; (try dsimp only at hSw); go_simp; try with_reducible rfl)
              (try simp only [Act.put, List.setIfInBounds_toArray, List.set_cons_zero, List.set_cons_succ])
              refine Za.takeL 1 (v := ?vn1) rfl (by kernel_rfl) (by kernel_rfl) (by kernel_rfl) (by kernel_rfl) (fun _ _ _ h => h) (Or.inl ⟨by rfl, ?hyn1⟩) HS ?restn1
              case hyn1 => (intro w hSw; (try dsimp only at hSw); go_simp; try with_reducible rfl)
              (try simp only [Act.put, List.setIfInBounds_toArray, List.set_cons_zero, List.set_cons_succ])
              refine Za.takeL 2 (v := ?vn2) rfl (by kernel_rfl) (by kernel_rfl) (by kernel_rfl) (by kernel_rfl) (fun _ _ _ h => h) (Or.inl ⟨by rfl, ?hyn2⟩) HS ?restn2
              case hyn2 => (intro w hSw; (try dsimp only at hSw); go_simp; try with_reducible rfl)
              (try simp only [Act.put, List.setIfInBounds_toArray, List.set_cons_zero, List.set_cons_succ])
              refine Za.takeL 3 (v := ?vn3) rfl (by kernel_rfl) (by kernel_rfl) (by kernel_rfl) (by kernel_rfl) (fun _ _ _ h => h) (Or.inl ⟨by rfl, ?hyn3⟩) HS ?restn3
              case hyn3 => (intro w hSw; (try dsimp only at hSw); go_simp; try with_reducible rfl)
              (try simp only [Act.put, List.setIfInBounds_toArray, List.set_cons_zero, List.set_cons_succ])
              refine Za.takeL 4 (v := ?vn4) rfl (by kernel_rfl) (by kernel_rfl) (by kernel_rfl) (by kernel_rfl) (fun _ _ _ h => h) (Or.inl ⟨by rfl, ?hyn4⟩) HS ?restn4
              case hyn4 => (intro w hSw; (try dsimp only at hSw); go_simp; try with_reducible rfl)
              (try simp only [Act.put, List.setIfInBounds_toArray, List.set_cons_zero, List.set_cons_succ])
              refine Za.takeL 5 (v := ?vn5) rfl (by kernel_rfl) (by kernel_rfl) (by kernel_rfl) (by kernel_rfl) (fun _ _ _ h => h) (Or.inl ⟨by rfl, ?hyn5⟩) HS ?restn5
              case hyn5 => (intro w hSw; (try dsimp only at hSw); go_simp; try with_reducible rfl)
              (try simp only [Act.put, List.setIfInBounds_toArray, List.set_cons_zero, List.set_cons_succ])
              refine Za.takeL 6 (v := ?vn6) rfl (by kernel_rfl) (by kernel_rfl) (by kernel_rfl) (by kernel_rfl) (fun _ _ _ h => h) (Or.inl ⟨by rfl, ?hyn6⟩) HS ?restn6
              case hyn6 => (intro w hSw; (try dsimp only at hSw); go_simp; try with_reducible rfl)
              (try simp only [Act.put, List.setIfInBounds_toArray, List.set_cons_zero, List.set_cons_succ])
              refine Za.takeL 7 (v := ?vn7) rfl (by kernel_rfl) (by kernel_rfl) (by kernel_rfl) (by kernel_rfl) (fun _ _ _ h => h) (Or.inl ⟨by rfl, ?hyn7⟩) HS ?restn7
              case hyn7 => (intro w hSw; (try dsimp only at hSw); go_simp; try with_reducible rfl)
              (try simp only [Act.put, List.setIfInBounds_toArray, List.set_cons_zero, List.set_cons_succ])
              refine Za.takeL 8 (v := ?vn8) rfl (by kernel_rfl) (by kernel_rfl) (by kernel_rfl) (by kernel_rfl) (fun _ _ _ h => h) (Or.inl ⟨by rfl, ?hyn8⟩) HS ?restn8
              case hyn8 => (intro w hSw; (try dsimp only at hSw); go_simp; try with_reducible rfl)
              (try simp only [Act.put, List.setIfInBounds_toArray, List.set_cons_zero, List.set_cons_succ])
              refine Za.takeL 9 (v := ?vn9) rfl (by kernel_rfl) (by kernel_rfl) (by kernel_rfl) (by kernel_rfl) (fun _ _ _ h => h) (Or.inl ⟨by rfl, ?hyn9⟩) HS ?restn9
              case hyn9 => (intro w hSw; (try dsimp only at hSw); go_simp; try with_reducible rfl)
              (try simp only [Act.put, List.setIfInBounds_toArray, List.set_cons_zero, List.set_cons_succ])
              refine Za.takeL 10 (v := ?vn10) rfl (by kernel_rfl) (by kernel_rfl) (by kernel_rfl) (by kernel_rfl) (fun _ _ _ h => h) (Or.inl ⟨by rfl, ?hyn10⟩) HS ?restn10
              case hyn10 => (intro w hSw; (try dsimp only at hSw); go_simp; try with_reducible rfl)
              (try simp only [Act.put, List.setIfInBounds_toArray, List.set_cons_zero, List.set_cons_succ])
              refine Za.Walk.done (by kernel_rfl) ?_
              clear HS
              go_wp2
              go_roundw
              case rel => exact ⟨s, f, i + 1, by omega, rfl, rfl, by go_num, HN1, HN2, HQ1⟩
              case measure => simp [intOf]; omega
            | true =>
              have hbf : before y (a.getD i zO) = true := by rw [← hxe]; exact hcan
              have HN1 := Aside0.mk (LastAt.yes (p := fun j => before y (a.getD j zO)) (i := i) hbf)
              by_cases hf : f < 0
              · have gf : decide (f < 0) = true := decide_eq_true hf
                cases hu : us.getD i true with
                | false =>
                  have HN2 := Aside0.mk (HFA.out.yes hf (by simp only [hbf, hu]; rfl))
                  rw [hu] at hgt1
                  clear hbf hxe
                  go_upto_region 22 with fail
                  refine Za.regionL (fun w' => (w'.cell? (ada.add (i * 3)) = some (.int .i64 x.f0) ∧ w'.cell? ⟨(ada.add (i * 3)).block, (ada.add (i * 3)).off + 1, none⟩ = some (.int .i64 x.f1) ∧ w'.cell? ⟨(ada.add (i * 3)).block, (ada.add (i * 3)).off + 2, none⟩ = some (.slice A2 x.f2.length c2)) ∧ (w'.cell? (adb.add (k * 3)) = some (.int .i64 y.f0) ∧ w'.cell? ⟨(adb.add (k * 3)).block, (adb.add (k * 3)).off + 1, none⟩ = some (.int .i64 y.f1) ∧ w'.cell? ⟨(adb.add (k * 3)).block, (adb.add (k * 3)).off + 2, none⟩ = some (.slice B2 y.f2.length d2))) [] (by kernel_rfl) ?_
                  have HS : (fun w' => (w'.cell? (ada.add (i * 3)) = some (.int .i64 x.f0) ∧ w'.cell? ⟨(ada.add (i * 3)).block, (ada.add (i * 3)).off + 1, none⟩ = some (.int .i64 x.f1) ∧ w'.cell? ⟨(ada.add (i * 3)).block, (ada.add (i * 3)).off + 2, none⟩ = some (.slice A2 x.f2.length c2)) ∧ (w'.cell? (adb.add (k * 3)) = some (.int .i64 y.f0) ∧ w'.cell? ⟨(adb.add (k * 3)).block, (adb.add (k * 3)).off + 1, none⟩ = some (.int .i64 y.f1) ∧ w'.cell? ⟨(adb.add (k * 3)).block, (adb.add (k * 3)).off + 2, none⟩ = some (.slice B2 y.f2.length d2))) wq.drew := HF.out _ HB0
                  refine Za.takeL 0 (v := ?vy0) rfl (by kernel_rfl) (by kernel_rfl) (by kernel_rfl) (by kernel_rfl) (fun _ _ _ h => h) (Or.inl ⟨by rfl, ?hyy0⟩) HS ?resty0
                  case hyy0 => (intro w hSw; (try dsimp only at hSw); go_simp; try with_reducible rfl)
                  (try simp only [Act.put, List.setIfInBounds_toArray, List.set_cons_zero, List.set_cons_succ])
                  refine Za.takeL 1 (v := ?vy1) rfl (by kernel_rfl) (by kernel_rfl) (by kernel_rfl) (by kernel_rfl) (fun _ _ _ h => h) (Or.inl ⟨by rfl, ?hyy1⟩) HS ?resty1
                  case hyy1 => (intro w hSw; (try dsimp only at hSw); go_simp; try with_reducible rfl)
                  (try simp only [Act.put, List.setIfInBounds_toArray, List.set_cons_zero, List.set_cons_succ])
                  refine Za.takeL 2 (v := ?vy2) rfl (by kernel_rfl) (by kernel_rfl) (by kernel_rfl) (by kernel_rfl) (fun _ _ _ h => h) (Or.inl ⟨by rfl, ?hyy2⟩) HS ?resty2
                  case hyy2 => (intro w hSw; (try dsimp only at hSw); go_simp; try with_reducible rfl)
                  (try simp only [Act.put, List.setIfInBounds_toArray, List.set_cons_zero, List.set_cons_succ])
                  refine Za.takeL 3 (v := ?vy3) rfl (by kernel_rfl) (by kernel_rfl) (by kernel_rfl) (by kernel_rfl) (fun _ _ _ h => h) (Or.inl ⟨by rfl, ?hyy3⟩) HS ?resty3
                  case hyy3 => (intro w hSw; (try dsimp only at hSw); go_simp; try with_reducible rfl)
                  (try simp only [Act.put, List.setIfInBounds_toArray, List.set_cons_zero, List.set_cons_succ])
                  refine Za.takeL 4 (v := ?vy4) rfl (by kernel_rfl) (by kernel_rfl) (by kernel_rfl) (by kernel_rfl) (fun _ _ _ h => h) (Or.inl ⟨by rfl, ?hyy4⟩) HS ?resty4
                  case hyy4 => (intro w hSw; (try dsimp only at hSw); go_simp; try with_reducible rfl)
                  (try simp only [Act.put, List.setIfInBounds_toArray, List.set_cons_zero, List.set_cons_succ])
                  refine Za.takeL 5 (v := ?vy5) rfl (by kernel_rfl) (by kernel_rfl) (by kernel_rfl) (by kernel_rfl) (fun _ _ _ h => h) (Or.inl ⟨by rfl, ?hyy5⟩) HS ?resty5
                  case hyy5 => (intro w hSw; (try dsimp only at hSw); go_simp; try with_reducible rfl)
                  (try simp only [Act.put, List.setIfInBounds_toArray, List.set_cons_zero, List.set_cons_succ])
                  refine Za.takeL 6 (v := ?vy6) rfl (by kernel_rfl) (by kernel_rfl) (by kernel_rfl) (by kernel_rfl) (fun _ _ _ h => h) (Or.inl ⟨by rfl, ?hyy6⟩) HS ?resty6
                  case hyy6 => (intro w hSw; (try dsimp only at hSw); go_simp; try with_reducible rfl)
                  (try simp only [Act.put, List.setIfInBounds_toArray, List.set_cons_zero, List.set_cons_succ])
                  refine Za.takeL 7 (v := ?vy7) rfl (by kernel_rfl) (by kernel_rfl) (by kernel_rfl) (by kernel_rfl) (fun _ _ _ h => h) (Or.inl ⟨by rfl, ?hyy7⟩) HS ?resty7
                  case hyy7 => (intro w hSw; (try dsimp only at hSw); go_simp; try with_reducible rfl)
                  (try simp only [Act.put, List.setIfInBounds_toArray, List.set_cons_zero, List.set_cons_succ])
                  refine Za.takeL 8 (v := ?vy8) rfl (by kernel_rfl) (by kernel_rfl) (by kernel_rfl) (by kernel_rfl) (fun _ _ _ h => h) (Or.inl ⟨by rfl, ?hyy8⟩) HS ?resty8
                  case hyy8 => (intro w hSw; (try dsimp only at hSw); go_simp; try with_reducible rfl)
                  (try simp only [Act.put, List.setIfInBounds_toArray, List.set_cons_zero, List.set_cons_succ])
                  refine Za.takeL 9 (v := ?vy9) rfl (by kernel_rfl) (by kernel_rfl) (by kernel_rfl) (by kernel_rfl) (fun _ _ _ h => h) (Or.inl ⟨by rfl, ?hyy9⟩) HS ?resty9
                  case hyy9 => (intro w hSw; (try dsimp only at hSw); go_simp; try with_reducible rfl)
                  (try simp only [Act.put, List.setIfInBounds_toArray, List.set_cons_zero, List.set_cons_succ])
                  refine Za.takeL 10 (v := ?vy10) rfl (by kernel_rfl) (by kernel_rfl) (by kernel_rfl) (by kernel_rfl) (fun _ _ _ h => h) (Or.inl ⟨by rfl, ?hyy10⟩) HS ?resty10
                  case hyy10 => (intro w hSw; (try dsimp only at hSw); go_simp; try with_reducible rfl)
                  (try simp only [Act.put, List.setIfInBounds_toArray, List.set_cons_zero, List.set_cons_succ])
                  refine Za.Walk.done (by kernel_rfl) ?_
                  clear HS
                  go_wp2
                  go_roundw
                  case rel => exact ⟨i, i, i + 1, by omega, rfl, rfl, by go_num, HN1, HN2, HQ1⟩
                  case measure => simp [intOf]; omega
                | true =>
                  have HN2 := Aside0.mk (HFA.out.no (by simp only [hu, Bool.not_true, Bool.and_false]))
                  rw [hu] at hgt1
                  clear hbf hxe
                  go_upto_region 22 with fail
                  refine Za.regionL (fun w' => (w'.cell? (ada.add (i * 3)) = some (.int .i64 x.f0) ∧ w'.cell? ⟨(ada.add (i * 3)).block, (ada.add (i * 3)).off + 1, none⟩ = some (.int .i64 x.f1) ∧ w'.cell? ⟨(ada.add (i * 3)).block, (ada.add (i * 3)).off + 2, none⟩ = some (.slice A2 x.f2.length c2)) ∧ (w'.cell? (adb.add (k * 3)) = some (.int .i64 y.f0) ∧ w'.cell? ⟨(adb.add (k * 3)).block, (adb.add (k * 3)).off + 1, none⟩ = some (.int .i64 y.f1) ∧ w'.cell? ⟨(adb.add (k * 3)).block, (adb.add (k * 3)).off + 2, none⟩ = some (.slice B2 y.f2.length d2))) [] (by kernel_rfl) ?_
                  have HS : (fun w' => (w'.cell? (ada.add (i * 3)) = some (.int .i64 x.f0) ∧ w'.cell? ⟨(ada.add (i * 3)).block, (ada.add (i * 3)).off + 1, none⟩ = some (.int .i64 x.f1) ∧ w'.cell? ⟨(ada.add (i * 3)).block, (ada.add (i * 3)).off + 2, none⟩ = some (.slice A2 x.f2.length c2)) ∧ (w'.cell? (adb.add (k * 3)) = some (.int .i64 y.f0) ∧ w'.cell? ⟨(adb.add (k * 3)).block, (adb.add (k * 3)).off + 1, none⟩ = some (.int .i64 y.f1) ∧ w'.cell? ⟨(adb.add (k * 3)).block, (adb.add (k * 3)).off + 2, none⟩ = some (.slice B2 y.f2.length d2))) wq.drew := HF.out _ HB0
                  refine Za.takeL 0 (v := ?vz0) rfl (by kernel_rfl) (by kernel_rfl) (by kernel_rfl) (by kernel_rfl) (fun _ _ _ h => h) (Or.inl ⟨by rfl, ?hyz0⟩) HS ?restz0
                  case hyz0 => (intro w hSw; (try dsimp only at hSw); go_simp; try with_reducible rfl)
                  (try simp only [Act.put, List.setIfInBounds_toArray, List.set_cons_zero, List.set_cons_succ])
                  refine Za.takeL 1 (v := ?vz1) rfl (by kernel_rfl) (by kernel_rfl) (by kernel_rfl) (by kernel_rfl) (fun _ _ _ h => h) (Or.inl ⟨by rfl, ?hyz1⟩) HS ?restz1
                  case hyz1 => (intro w hSw; (try dsimp only at hSw); go_simp; try with_reducible rfl)
                  (try simp only [Act.put, List.setIfInBounds_toArray, List.set_cons_zero, List.set_cons_succ])
                  refine Za.takeL 2 (v := ?vz2) rfl (by kernel_rfl) (by kernel_rfl) (by kernel_rfl) (by kernel_rfl) (fun _ _ _ h => h) (Or.inl ⟨by rfl, ?hyz2⟩) HS ?restz2
                  case hyz2 => (intro w hSw; (try dsimp only at hSw); go_simp; try with_reducible rfl)
                  (try simp only [Act.put, List.setIfInBounds_toArray, List.set_cons_zero, List.set_cons_succ])
                  refine Za.takeL 3 (v := ?vz3) rfl (by kernel_rfl) (by kernel_rfl) (by kernel_rfl) (by kernel_rfl) (fun _ _ _ h => h) (Or.inl ⟨by rfl, ?hyz3⟩) HS ?restz3
                  case hyz3 => (intro w hSw; (try dsimp only at hSw); go_simp; try with_reducible rfl)
                  (try simp only [Act.put, List.setIfInBounds_toArray, List.set_cons_zero, List.set_cons_succ])
                  refine Za.takeL 4 (v := ?vz4) rfl (by kernel_rfl) (by kernel_rfl) (by kernel_rfl) (by kernel_rfl) (fun _ _ _ h => h) (Or.inl ⟨by rfl, ?hyz4⟩) HS ?restz4
                  case hyz4 => (intro w hSw; (try dsimp only at hSw); go_simp; try with_reducible rfl)
                  (try simp only [Act.put, List.setIfInBounds_toArray, List.set_cons_zero, List.set_cons_succ])
                  refine Za.takeL 5 (v := ?vz5) rfl (by kernel_rfl) (by kernel_rfl) (by kernel_rfl) (by kernel_rfl) (fun _ _ _ h => h) (Or.inl ⟨by rfl, ?hyz5⟩) HS ?restz5
                  case hyz5 => (intro w hSw; (try dsimp only at hSw); go_simp; try with_reducible rfl)
                  (try simp only [Act.put, List.setIfInBounds_toArray, List.set_cons_zero, List.set_cons_succ])
                  refine Za.takeL 6 (v := ?vz6) rfl (by kernel_rfl) (by kernel_rfl) (by kernel_rfl) (by kernel_rfl) (fun _ _ _ h => h) (Or.inl ⟨by rfl, ?hyz6⟩) HS ?restz6
                  case hyz6 => (intro w hSw; (try dsimp only at hSw); go_simp; try with_reducible rfl)
                  (try simp only [Act.put, List.setIfInBounds_toArray, List.set_cons_zero, List.set_cons_succ])
                  refine Za.takeL 7 (v := ?vz7) rfl (by kernel_rfl) (by kernel_rfl) (by kernel_rfl) (by kernel_rfl) (fun _ _ _ h => h) (Or.inl ⟨by rfl, ?hyz7⟩) HS ?restz7
                  case hyz7 => (intro w hSw; (try dsimp only at hSw); go_simp; try with_reducible rfl)
                  (try simp only [Act.put, List.setIfInBounds_toArray, List.set_cons_zero, List.set_cons_succ])
                  refine Za.takeL 8 (v := ?vz8) rfl (by kernel_rfl) (by kernel_rfl) (by kernel_rfl) (by kernel_rfl) (fun _ _ _ h => h) (Or.inl ⟨by rfl, ?hyz8⟩) HS ?restz8
                  case hyz8 => (intro w hSw; (try dsimp only at hSw); go_simp; try with_reducible rfl)
                  (try simp only [Act.put, List.setIfInBounds_toArray, List.set_cons_zero, List.set_cons_succ])
                  refine Za.takeL 9 (v := ?vz9) rfl (by kernel_rfl) (by kernel_rfl) (by kernel_rfl) (by kernel_rfl) (fun _ _ _ h => h) (Or.inl ⟨by rfl, ?hyz9⟩) HS ?restz9
                  case hyz9 => (intro w hSw; (try dsimp only at hSw); go_simp; try with_reducible rfl)
                  (try simp only [Act.put, List.setIfInBounds_toArray, List.set_cons_zero, List.set_cons_succ])
                  refine Za.takeL 10 (v := ?vz10) rfl (by kernel_rfl) (by kernel_rfl) (by kernel_rfl) (by kernel_rfl) (fun _ _ _ h => h) (Or.inl ⟨by rfl, ?hyz10⟩) HS ?restz10
                  case hyz10 => (intro w hSw; (try dsimp only at hSw); go_simp; try with_reducible rfl)
                  (try simp only [Act.put, List.setIfInBounds_toArray, List.set_cons_zero, List.set_cons_succ])
                  refine Za.Walk.done (by kernel_rfl) ?_
                  clear HS
                  go_wp2
                  go_roundw
                  case rel => exact ⟨i, f, i + 1, by omega, rfl, rfl, by go_num, HN1, HN2, HQ1⟩
                  case measure => simp [intOf]; omega
              · have gf : decide (f < 0) = false := decide_eq_false hf
                have HN2 := Aside0.mk (HFA.out.had (by omega))
                clear hbf hxe
                go_upto_region 22 with fail
                refine Za.regionL (fun w' => (w'.cell? (ada.add (i * 3)) = some (.int .i64 x.f0) ∧ w'.cell? ⟨(ada.add (i * 3)).block, (ada.add (i * 3)).off + 1, none⟩ = some (.int .i64 x.f1) ∧ w'.cell? ⟨(ada.add (i * 3)).block, (ada.add (i * 3)).off + 2, none⟩ = some (.slice A2 x.f2.length c2)) ∧ (w'.cell? (adb.add (k * 3)) = some (.int .i64 y.f0) ∧ w'.cell? ⟨(adb.add (k * 3)).block, (adb.add (k * 3)).off + 1, none⟩ = some (.int .i64 y.f1) ∧ w'.cell? ⟨(adb.add (k * 3)).block, (adb.add (k * 3)).off + 2, none⟩ = some (.slice B2 y.f2.length d2))) [] (by kernel_rfl) ?_
                have HS : (fun w' => (w'.cell? (ada.add (i * 3)) = some (.int .i64 x.f0) ∧ w'.cell? ⟨(ada.add (i * 3)).block, (ada.add (i * 3)).off + 1, none⟩ = some (.int .i64 x.f1) ∧ w'.cell? ⟨(ada.add (i * 3)).block, (ada.add (i * 3)).off + 2, none⟩ = some (.slice A2 x.f2.length c2)) ∧ (w'.cell? (adb.add (k * 3)) = some (.int .i64 y.f0) ∧ w'.cell? ⟨(adb.add (k * 3)).block, (adb.add (k * 3)).off + 1, none⟩ = some (.int .i64 y.f1) ∧ w'.cell? ⟨(adb.add (k * 3)).block, (adb.add (k * 3)).off + 2, none⟩ = some (.slice B2 y.f2.length d2))) wq.drew := HF.out _ HB0
                refine Za.takeL 0 (v := ?vx0) rfl (by kernel_rfl) (by kernel_rfl) (by kernel_rfl) (by kernel_rfl) (fun _ _ _ h => h) (Or.inl ⟨by rfl, ?hyx0⟩) HS ?restx0
                case hyx0 => (intro w hSw; (try dsimp only at hSw); go_simp; try with_reducible rfl)
                (try simp only [Act.put, List.setIfInBounds_toArray, List.set_cons_zero, List.set_cons_succ])
                refine Za.takeL 1 (v := ?vx1) rfl (by kernel_rfl) (by kernel_rfl) (by kernel_rfl) (by kernel_rfl) (fun _ _ _ h => h) (Or.inl ⟨by rfl, ?hyx1⟩) HS ?restx1
                case hyx1 => (intro w hSw; (try dsimp only at hSw); go_simp; try with_reducible rfl)
                (try simp only [Act.put, List.setIfInBounds_toArray, List.set_cons_zero, List.set_cons_succ])
                refine Za.takeL 2 (v := ?vx2) rfl (by kernel_rfl) (by kernel_rfl) (by kernel_rfl) (by kernel_rfl) (fun _ _ _ h => h) (Or.inl ⟨by rfl, ?hyx2⟩) HS ?restx2
                case hyx2 => (intro w hSw; (try dsimp only at hSw); go_simp; try with_reducible rfl)
                (try simp only [Act.put, List.setIfInBounds_toArray, List.set_cons_zero, List.set_cons_succ])
                refine Za.takeL 3 (v := ?vx3) rfl (by kernel_rfl) (by kernel_rfl) (by kernel_rfl) (by kernel_rfl) (fun _ _ _ h => h) (Or.inl ⟨by rfl, ?hyx3⟩) HS ?restx3
                case hyx3 => (intro w hSw; (try dsimp only at hSw); go_simp; try with_reducible rfl)
                (try simp only [Act.put, List.setIfInBounds_toArray, List.set_cons_zero, List.set_cons_succ])
                refine Za.takeL 4 (v := ?vx4) rfl (by kernel_rfl) (by kernel_rfl) (by kernel_rfl) (by kernel_rfl) (fun _ _ _ h => h) (Or.inl ⟨by rfl, ?hyx4⟩) HS ?restx4
                case hyx4 => (intro w hSw; (try dsimp only at hSw); go_simp; try with_reducible rfl)
                (try simp only [Act.put, List.setIfInBounds_toArray, List.set_cons_zero, List.set_cons_succ])
                refine Za.takeL 5 (v := ?vx5) rfl (by kernel_rfl) (by kernel_rfl) (by kernel_rfl) (by kernel_rfl) (fun _ _ _ h => h) (Or.inl ⟨by rfl, ?hyx5⟩) HS ?restx5
                case hyx5 => (intro w hSw; (try dsimp only at hSw); go_simp; try with_reducible rfl)
                (try simp only [Act.put, List.setIfInBounds_toArray, List.set_cons_zero, List.set_cons_succ])
                refine Za.takeL 6 (v := ?vx6) rfl (by kernel_rfl) (by kernel_rfl) (by kernel_rfl) (by kernel_rfl) (fun _ _ _ h => h) (Or.inl ⟨by rfl, ?hyx6⟩) HS ?restx6
                case hyx6 => (intro w hSw; (try dsimp only at hSw); go_simp; try with_reducible rfl)
                (try simp only [Act.put, List.setIfInBounds_toArray, List.set_cons_zero, List.set_cons_succ])
                refine Za.takeL 7 (v := ?vx7) rfl (by kernel_rfl) (by kernel_rfl) (by kernel_rfl) (by kernel_rfl) (fun _ _ _ h => h) (Or.inl ⟨by rfl, ?hyx7⟩) HS ?restx7
                case hyx7 => (intro w hSw; (try dsimp only at hSw); go_simp; try with_reducible rfl)
                (try simp only [Act.put, List.setIfInBounds_toArray, List.set_cons_zero, List.set_cons_succ])
                refine Za.takeL 8 (v := ?vx8) rfl (by kernel_rfl) (by kernel_rfl) (by kernel_rfl) (by kernel_rfl) (fun _ _ _ h => h) (Or.inl ⟨by rfl, ?hyx8⟩) HS ?restx8
                case hyx8 => (intro w hSw; (try dsimp only at hSw); go_simp; try with_reducible rfl)
                (try simp only [Act.put, List.setIfInBounds_toArray, List.set_cons_zero, List.set_cons_succ])
                refine Za.takeL 9 (v := ?vx9) rfl (by kernel_rfl) (by kernel_rfl) (by kernel_rfl) (by kernel_rfl) (fun _ _ _ h => h) (Or.inl ⟨by rfl, ?hyx9⟩) HS ?restx9
                case hyx9 => (intro w hSw; (try dsimp only at hSw); go_simp; try with_reducible rfl)
                (try simp only [Act.put, List.setIfInBounds_toArray, List.set_cons_zero, List.set_cons_succ])
                refine Za.takeL 10 (v := ?vx10) rfl (by kernel_rfl) (by kernel_rfl) (by kernel_rfl) (by kernel_rfl) (fun _ _ _ h => h) (Or.inl ⟨by rfl, ?hyx10⟩) HS ?restx10
                case hyx10 => (intro w hSw; (try dsimp only at hSw); go_simp; try with_reducible rfl)
                (try simp only [Act.put, List.setIfInBounds_toArray, List.set_cons_zero, List.set_cons_succ])
                refine Za.Walk.done (by kernel_rfl) ?_
                clear HS
                go_wp2
                go_roundw
                case rel => exact ⟨i, f, i + 1, by omega, rfl, rfl, by go_num, HN1, HN2, HQ1⟩
                case measure => simp [intOf]; omega
          · have hie : i = a.length := by omega
            subst hie
            have g2 : decide (a.length < a.length) = false := decide_eq_false (by omega)
            have HQn := Aside0.mk (below_then HBn.out HBn.out.size HQ.out)
            have HQw := Aside0.mk (below_then HBw.out HBw.out.size HQ.out)
            have HXq := Aside0.mk (HX.out.below HQ.out)
            have HYq := Aside0.mk (HY.out.below HQ.out)
            have HRq := Aside0.mk (HR.out.below HQ.out)
            clear HX HY HR HQ HBn HBw HIY HEY
            by_cases hs : s < 0
            · have gs : decide (s ≥ 0) = false := decide_eq_false (by omega)
              have hf : f < 0 := first_of_last HLA.out hs HFA.out
              have gf : decide (f ≥ 0) = false := decide_eq_false (by omega)
              have HN1 := Aside0.mk (HS1.out.trans (step1_no (last_none HLA.out hs)))
              have HN2 := Aside0.mk (HS2.out.trans (step2_no (first_none HU.out HFA.out hf)))
              go_wp2
              go_roundw
              case rel => exact ⟨k + 1, L, Gx, cx, F, M, Gy, cy, us, by omega, by go_num, rfl, rfl, HN1, HN2, HU, HRq, HXq, HYq, HQn, HQw⟩
              case measure => simp [intOf]; omega
            · obtain ⟨hj, hcmb⟩ := last_some HKA.out.sorted HLA.out (by omega)
              obtain ⟨j, hje⟩ : ∃ j, j = s.toNat := ⟨_, rfl⟩
              have hsj : s = (j : Int) := by omega
              rw [← hje] at hj hcmb
              clear hje hs
              subst hsj
              have gs : decide ((j : Int) ≥ 0) = true := decide_eq_true (by omega)
              have j1 : (j : Int) < a.length := by omega
              have hbk := HQn.out
              obtain ⟨ada, A2, c2, eXa, hix, hex⟩ := elem (HA5.out.below hbk) hj
              subst eXa
              obtain ⟨adb', B2, d2, eXb, hiy, hey⟩ := elem (HB5.out.below hbk) hlt
              have eXb2 := Option.some.inj eXb
              subst eXb2
              clear eXb
              rw [← HYE.out] at hiy hey
              have hkx := HKA.out.all _ (getD_mem hj)
              obtain ⟨x, hxe⟩ : ∃ x, x = a.getD j zO := ⟨_, rfl⟩
              rw [← hxe] at hix hex hkx hcmb
              have HIXwq := Aside0.mk hix
              have HIYwq := Aside0.mk hiy
              have HKX := Aside0.mk hkx
              have F6 : ∀ w', Below wq.heap.size wq w' → (fun w' => (w'.cell? (ada.add (j * 3)) = some (.int .i64 x.f0) ∧ w'.cell? ⟨(ada.add (j * 3)).block, (ada.add (j * 3)).off + 1, none⟩ = some (.int .i64 x.f1) ∧ w'.cell? ⟨(ada.add (j * 3)).block, (ada.add (j * 3)).off + 2, none⟩ = some (.slice A2 x.f2.length c2)) ∧ (w'.cell? (adb.add (k * 3)) = some (.int .i64 y.f0) ∧ w'.cell? ⟨(adb.add (k * 3)).block, (adb.add (k * 3)).off + 1, none⟩ = some (.int .i64 y.f1) ∧ w'.cell? ⟨(adb.add (k * 3)).block, (adb.add (k * 3)).off + 2, none⟩ = some (.slice B2 y.f2.length d2))) w' := fun w' h => ⟨⟨pw_cell_below h hex.a, pw_cell_below h hex.b, pw_cell_below h hex.c⟩, ⟨pw_cell_below h hey.a, pw_cell_below h hey.b, pw_cell_below h hey.c⟩⟩
              have HFwq := Aside0.mk F6
              have HJ := Aside0.mk (joinO_ok HKX.out HKY.out)
              have HJL := Aside0.mk (isOk_big (isOk_join HKX.out HKY.out))
              clear F6 hix hex hiy hey hkx
              have HN1 : Aside0 (upto 1 a b (k + 1) = (a, put L (join x y))) := ⟨by rw [join_comm HKX.out HKY.out]; exact HS1.out.trans (step1_yes hcmb)⟩
              clear hcmb hbk hxe
              go_upto_region 27 with fail
              have HP := Aside0.mk (putO_ok HOL.out (by have := hll; have := HKBn.out; simp; omega) (isOk_join HKX.out HKY.out))
              have HPB := Aside0.mk (fun z hz => isOk_big (HOL.out.all z hz))
              have HB0 : Below wq.heap.size wq wq.drew := below_drew (Below.refl _ _)
              refine Za.regionL (fun w' => (w'.cell? (ada.add (j * 3)) = some (.int .i64 x.f0) ∧ w'.cell? ⟨(ada.add (j * 3)).block, (ada.add (j * 3)).off + 1, none⟩ = some (.int .i64 x.f1) ∧ w'.cell? ⟨(ada.add (j * 3)).block, (ada.add (j * 3)).off + 2, none⟩ = some (.slice A2 x.f2.length c2)) ∧ (w'.cell? (adb.add (k * 3)) = some (.int .i64 y.f0) ∧ w'.cell? ⟨(adb.add (k * 3)).block, (adb.add (k * 3)).off + 1, none⟩ = some (.int .i64 y.f1) ∧ w'.cell? ⟨(adb.add (k * 3)).block, (adb.add (k * 3)).off + 2, none⟩ = some (.slice B2 y.f2.length d2))) [] (by kernel_rfl) ?_
              have HS : (fun w' => (w'.cell? (ada.add (j * 3)) = some (.int .i64 x.f0) ∧ w'.cell? ⟨(ada.add (j * 3)).block, (ada.add (j * 3)).off + 1, none⟩ = some (.int .i64 x.f1) ∧ w'.cell? ⟨(ada.add (j * 3)).block, (ada.add (j * 3)).off + 2, none⟩ = some (.slice A2 x.f2.length c2)) ∧ (w'.cell? (adb.add (k * 3)) = some (.int .i64 y.f0) ∧ w'.cell? ⟨(adb.add (k * 3)).block, (adb.add (k * 3)).off + 1, none⟩ = some (.int .i64 y.f1) ∧ w'.cell? ⟨(adb.add (k * 3)).block, (adb.add (k * 3)).off + 2, none⟩ = some (.slice B2 y.f2.length d2))) wq.drew := HFwq.out _ HB0
              refine Za.takeL 0 (v := ?vp0) rfl (by kernel_rfl) (by kernel_rfl) (by kernel_rfl) (by kernel_rfl) (fun _ _ _ h => h) (Or.inl ⟨by rfl, ?hyp0⟩) HS ?restp0
              case hyp0 => (intro w hSw; (try dsimp only at hSw); go_simp; try with_reducible rfl)
              (try simp only [Act.put, List.setIfInBounds_toArray, List.set_cons_zero, List.set_cons_succ])
              refine Za.takeL 1 (v := ?vp1) rfl (by kernel_rfl) (by kernel_rfl) (by kernel_rfl) (by kernel_rfl) (fun _ _ _ h => h) (Or.inl ⟨by rfl, ?hyp1⟩) HS ?restp1
              case hyp1 => (intro w hSw; (try dsimp only at hSw); go_simp; try with_reducible rfl)
              (try simp only [Act.put, List.setIfInBounds_toArray, List.set_cons_zero, List.set_cons_succ])
              refine Za.takeL 2 (v := ?vp2) rfl (by kernel_rfl) (by kernel_rfl) (by kernel_rfl) (by kernel_rfl) (fun _ _ _ h => h) (Or.inl ⟨by rfl, ?hyp2⟩) HS ?restp2
              case hyp2 => (intro w hSw; (try dsimp only at hSw); go_simp; try with_reducible rfl)
              (try simp only [Act.put, List.setIfInBounds_toArray, List.set_cons_zero, List.set_cons_succ])
              refine Za.takeL 3 (v := ?vp3) rfl (by kernel_rfl) (by kernel_rfl) (by kernel_rfl) (by kernel_rfl) (fun _ _ _ h => h) (Or.inl ⟨by rfl, ?hyp3⟩) HS ?restp3
              case hyp3 => (intro w hSw; (try dsimp only at hSw); go_simp; try with_reducible rfl)
              (try simp only [Act.put, List.setIfInBounds_toArray, List.set_cons_zero, List.set_cons_succ])
              refine Za.takeL 4 (v := ?vp4) rfl (by kernel_rfl) (by kernel_rfl) (by kernel_rfl) (by kernel_rfl) (fun _ _ _ h => h) (Or.inl ⟨by rfl, ?hyp4⟩) HS ?restp4
              case hyp4 => (intro w hSw; (try dsimp only at hSw); go_simp; try with_reducible rfl)
              (try simp only [Act.put, List.setIfInBounds_toArray, List.set_cons_zero, List.set_cons_succ])
              refine Za.takeL 5 (v := ?vp5) rfl (by kernel_rfl) (by kernel_rfl) (by kernel_rfl) (by kernel_rfl) (fun _ _ _ h => h) (Or.inl ⟨by rfl, ?hyp5⟩) HS ?restp5
              case hyp5 => (intro w hSw; (try dsimp only at hSw); go_simp; try with_reducible rfl)
              (try simp only [Act.put, List.setIfInBounds_toArray, List.set_cons_zero, List.set_cons_succ])
              refine Za.takeL 6 (v := ?vp6) rfl (by kernel_rfl) (by kernel_rfl) (by kernel_rfl) (by kernel_rfl) (fun _ _ _ h => h) (Or.inl ⟨by rfl, ?hyp6⟩) HS ?restp6
              case hyp6 => (intro w hSw; (try dsimp only at hSw); go_simp; try with_reducible rfl)
              (try simp only [Act.put, List.setIfInBounds_toArray, List.set_cons_zero, List.set_cons_succ])
              refine Za.takeL 7 (v := ?vp7) rfl (by kernel_rfl) (by kernel_rfl) (by kernel_rfl) (by kernel_rfl) (fun _ _ _ h => h) (Or.inl ⟨by rfl, ?hyp7⟩) HS ?restp7
              case hyp7 => (intro w hSw; (try dsimp only at hSw); go_simp; try with_reducible rfl)
              (try simp only [Act.put, List.setIfInBounds_toArray, List.set_cons_zero, List.set_cons_succ])
              refine Za.takeL 8 (v := ?vp8) rfl (by kernel_rfl) (by kernel_rfl) (by kernel_rfl) (by kernel_rfl) (fun _ _ _ h => h) (Or.inl ⟨by rfl, ?hyp8⟩) HS ?restp8
              case hyp8 => (intro w hSw; (try dsimp only at hSw); go_simp; try with_reducible rfl)
              (try simp only [Act.put, List.setIfInBounds_toArray, List.set_cons_zero, List.set_cons_succ])
              clear HS
              refine Za.nextL 9 (by kernel_rfl) rfl (fun K' hK => ?_)
              go_simp
              (go_at_call 26; refine (iJoin x y (join x y) _ _ _ _ _ HJ.out (isOk_big HKX.out) (isOk_big HKY.out) (HIXwq.out.below HB0) (HIYwq.out.below HB0)).mono ?_; rintro e w7p ⟨J, cj, rfl, hj7, hb4⟩; have HB4 : Below wq.heap.size wq w7p := keepD hb4; have HJ4 := Aside0.mk hj7; clear hj7 hb4)
              go_wp2_with fail
              refine hK.out _ _ ⟨fun _ => HFwq.out _ HB4, ?_⟩
              clear hK K'
              (try simp only [Act.put, List.setIfInBounds_toArray, List.set_cons_zero, List.set_cons_succ])
              have HS : (fun w' => (w'.cell? (ada.add (j * 3)) = some (.int .i64 x.f0) ∧ w'.cell? ⟨(ada.add (j * 3)).block, (ada.add (j * 3)).off + 1, none⟩ = some (.int .i64 x.f1) ∧ w'.cell? ⟨(ada.add (j * 3)).block, (ada.add (j * 3)).off + 2, none⟩ = some (.slice A2 x.f2.length c2)) ∧ (w'.cell? (adb.add (k * 3)) = some (.int .i64 y.f0) ∧ w'.cell? ⟨(adb.add (k * 3)).block, (adb.add (k * 3)).off + 1, none⟩ = some (.int .i64 y.f1) ∧ w'.cell? ⟨(adb.add (k * 3)).block, (adb.add (k * 3)).off + 2, none⟩ = some (.slice B2 y.f2.length d2))) w7p := HFwq.out _ HB4
              clear HS
              refine Za.nextL 10 (by kernel_rfl) rfl (fun K' hK => ?_)
              go_simp
              (go_at_call 25; refine (iPutR Gx J cx cj L (put L (join x y)) (join x y) _ HP.out (by omega) HJL.out HPB.out (HXq.out.isL.below HB4) HJ4.out).mono ?_; rintro e w8p ⟨Pp, cpp, rfl, hp7, hb5⟩; have HB5 : Below wq.heap.size wq w8p := below_then HB4 HB4.size hb5; have HP5p := Aside0.mk (RL.mk ⟨_, hp7⟩); clear hp7 hb5)
              go_wp2_with fail
              refine hK.out _ _ ⟨fun _ => HFwq.out _ HB5, ?_⟩
              clear hK K'
              (try simp only [Act.put, List.setIfInBounds_toArray, List.set_cons_zero, List.set_cons_succ])
              have HS : (fun w' => (w'.cell? (ada.add (j * 3)) = some (.int .i64 x.f0) ∧ w'.cell? ⟨(ada.add (j * 3)).block, (ada.add (j * 3)).off + 1, none⟩ = some (.int .i64 x.f1) ∧ w'.cell? ⟨(ada.add (j * 3)).block, (ada.add (j * 3)).off + 2, none⟩ = some (.slice A2 x.f2.length c2)) ∧ (w'.cell? (adb.add (k * 3)) = some (.int .i64 y.f0) ∧ w'.cell? ⟨(adb.add (k * 3)).block, (adb.add (k * 3)).off + 1, none⟩ = some (.int .i64 y.f1) ∧ w'.cell? ⟨(adb.add (k * 3)).block, (adb.add (k * 3)).off + 2, none⟩ = some (.slice B2 y.f2.length d2))) w8p := HFwq.out _ HB5
              refine Za.takeL 11 (v := ?vp11) rfl (by kernel_rfl) (by kernel_rfl) (by kernel_rfl) (by kernel_rfl) (fun _ _ _ h => h) (Or.inl ⟨by rfl, ?hyp11⟩) HS ?restp11
              case hyp11 => (intro w hSw; (try dsimp only at hSw); go_simp; try with_reducible rfl)
              (try simp only [Act.put, List.setIfInBounds_toArray, List.set_cons_zero, List.set_cons_succ])
              refine Za.Walk.done (by kernel_rfl) ?_
              clear HS
              have HYp := Aside0.mk (HYq.out.below HB5)
              have HRp := Aside0.mk (HRq.out.below HB5)
              have HPn := Aside0.mk (below_then HQn.out HQn.out.size HB5)
              have HPw := Aside0.mk (below_then HQw.out HQw.out.size HB5)
              generalize hL3 : put L (join x y) = L3 at *
              clear hL3 HXq HYq HRq HQn HQw HJ HJL HIXwq HIYwq HFwq HP HPB gs HB0 HB4 HB5
              by_cases hf : f < 0
              · have gf : decide (f ≥ 0) = false := decide_eq_false (by omega)
                have HN2 := Aside0.mk (HS2.out.trans (step2_no (first_none HU.out HFA.out hf)))
                go_wp2
                go_roundw
                case rel => exact ⟨k + 1, L3, Pp, cpp, F, M, Gy, cy, us, by omega, by go_num, rfl, rfl, HN1, HN2, HU, HRp, HP5p, HYp, HPn, HPw⟩
                case measure => simp [intOf]; omega
              · clear hj j1 HKX
                obtain ⟨hj, hcmb⟩ := first_some HKA.out.sorted HU.out HFA.out (by omega)
                obtain ⟨j2, hje⟩ : ∃ j, j = f.toNat := ⟨_, rfl⟩
                have hsj : f = (j2 : Int) := by omega
                rw [← hje] at hj hcmb
                clear hje hf
                subst hsj
                obtain ⟨g, cap, rfl, hmk⟩ := marks_at HRp.out (by rw [HU.out.len]; omega)
                have hgt := hmk.get (i := j2) (by rw [HU.out.len]; exact hj)
                have hus : us.length = a.length := HU.out.len
                have HRs := Aside0.mk (hmk.set j2)
                have HXs := Aside0.mk (HP5p.out.mark hmk j2)
                have HYs := Aside0.mk (HYp.out.mark hmk j2)
                have HSn := Aside0.mk (mark_below HPn.out hmk j2)
                have HSw : Aside0 (Below w.heap.size w (w8p.setCell ⟨g, j2, none⟩ (.bool true))) := ⟨HPw.out.setCell (p := ⟨g, j2, none⟩) (Nat.le_trans HBel5.out.size hmk.ge) (.bool true)⟩
                have HUs := Aside0.mk (HU.out.use HKA.out.sorted hj)
                have gf : decide ((j2 : Int) ≥ 0) = true := decide_eq_true (by omega)
                have j1 : (j2 : Int) < a.length := by omega
                have j1u : (j2 : Int) < us.length := by omega
                go_upto_region 30 with fail
                generalize w8p.setCell ⟨g, j2, none⟩ (.bool true) = w9 at HRs HXs HYs HSn HSw ⊢
                clear hmk hgt HRp HP5p HYp HPn HPw hus
                obtain ⟨j, rfl⟩ : ∃ j, j = j2 := ⟨_, rfl⟩
                have hbk := HSn.out
                have hje := hcmb
                obtain ⟨ada', A2, c2, eXa, hix, hex⟩ := elem (HA5.out.below hbk) hj
                have eXa2 := Option.some.inj eXa
                subst eXa2
                clear eXa
                obtain ⟨adb', B2, d2, eXb, hiy, hey⟩ := elem (HB5.out.below hbk) hlt
                have eXb2 := Option.some.inj eXb
                subst eXb2
                clear eXb
                rw [← HYE.out] at hiy hey
                have hkx := HKA.out.all _ (getD_mem hj)
                obtain ⟨x, hxe⟩ : ∃ x, x = a.getD j zO := ⟨_, rfl⟩
                rw [← hxe] at hix hex hkx hcmb
                have HIXw9 := Aside0.mk hix
                have HIYw9 := Aside0.mk hiy
                have HKX := Aside0.mk hkx
                have F6 : ∀ w', Below w9.heap.size w9 w' → (fun w' => (w'.cell? (ada.add (j * 3)) = some (.int .i64 x.f0) ∧ w'.cell? ⟨(ada.add (j * 3)).block, (ada.add (j * 3)).off + 1, none⟩ = some (.int .i64 x.f1) ∧ w'.cell? ⟨(ada.add (j * 3)).block, (ada.add (j * 3)).off + 2, none⟩ = some (.slice A2 x.f2.length c2)) ∧ (w'.cell? (adb.add (k * 3)) = some (.int .i64 y.f0) ∧ w'.cell? ⟨(adb.add (k * 3)).block, (adb.add (k * 3)).off + 1, none⟩ = some (.int .i64 y.f1) ∧ w'.cell? ⟨(adb.add (k * 3)).block, (adb.add (k * 3)).off + 2, none⟩ = some (.slice B2 y.f2.length d2))) w' := fun w' h => ⟨⟨pw_cell_below h hex.a, pw_cell_below h hex.b, pw_cell_below h hex.c⟩, ⟨pw_cell_below h hey.a, pw_cell_below h hey.b, pw_cell_below h hey.c⟩⟩
                have HFw9 := Aside0.mk F6
                have HJ := Aside0.mk (joinO_ok HKX.out HKY.out)
                have HJL := Aside0.mk (isOk_big (isOk_join HKX.out HKY.out))
                clear F6 hix hex hiy hey hkx
                have HN2 : Aside0 (upto 2 a b (k + 1) = (without F [x], put M (join x y))) := ⟨by rw [join_comm HKX.out HKY.out]; exact HS2.out.trans (step2_yes hcmb)⟩
                have HU2 : Aside0 (Unused a (us.set j true) (without F [x])) := ⟨by rw [hxe]; exact HUs.out⟩
                have hul : (us.set j true).length = a.length := by rw [List.length_set]; exact HU.out.len
                clear hcmb hbk hxe hje HUs
                have HP := Aside0.mk (putO_ok HOM.out (by have := hlm; have := HKBn.out; simp; omega) (isOk_join HKX.out HKY.out))
                have HPB := Aside0.mk (fun z hz => isOk_big (HOM.out.all z hz))
                have HB0 : Below w9.heap.size w9 w9.drew := below_drew (Below.refl _ _)
                refine Za.regionL (fun w' => (w'.cell? (ada.add (j * 3)) = some (.int .i64 x.f0) ∧ w'.cell? ⟨(ada.add (j * 3)).block, (ada.add (j * 3)).off + 1, none⟩ = some (.int .i64 x.f1) ∧ w'.cell? ⟨(ada.add (j * 3)).block, (ada.add (j * 3)).off + 2, none⟩ = some (.slice A2 x.f2.length c2)) ∧ (w'.cell? (adb.add (k * 3)) = some (.int .i64 y.f0) ∧ w'.cell? ⟨(adb.add (k * 3)).block, (adb.add (k * 3)).off + 1, none⟩ = some (.int .i64 y.f1) ∧ w'.cell? ⟨(adb.add (k * 3)).block, (adb.add (k * 3)).off + 2, none⟩ = some (.slice B2 y.f2.length d2))) [] (by kernel_rfl) ?_
                have HS : (fun w' => (w'.cell? (ada.add (j * 3)) = some (.int .i64 x.f0) ∧ w'.cell? ⟨(ada.add (j * 3)).block, (ada.add (j * 3)).off + 1, none⟩ = some (.int .i64 x.f1) ∧ w'.cell? ⟨(ada.add (j * 3)).block, (ada.add (j * 3)).off + 2, none⟩ = some (.slice A2 x.f2.length c2)) ∧ (w'.cell? (adb.add (k * 3)) = some (.int .i64 y.f0) ∧ w'.cell? ⟨(adb.add (k * 3)).block, (adb.add (k * 3)).off + 1, none⟩ = some (.int .i64 y.f1) ∧ w'.cell? ⟨(adb.add (k * 3)).block, (adb.add (k * 3)).off + 2, none⟩ = some (.slice B2 y.f2.length d2))) w9.drew := HFw9.out _ HB0
                refine Za.takeL 0 (v := ?vq0) rfl (by kernel_rfl) (by kernel_rfl) (by kernel_rfl) (by kernel_rfl) (fun _ _ _ h => h) (Or.inl ⟨by rfl, ?hyq0⟩) HS ?restq0
                case hyq0 => (intro w hSw; (try dsimp only at hSw); go_simp; try with_reducible rfl)
                (try simp only [Act.put, List.setIfInBounds_toArray, List.set_cons_zero, List.set_cons_succ])
                refine Za.takeL 1 (v := ?vq1) rfl (by kernel_rfl) (by kernel_rfl) (by kernel_rfl) (by kernel_rfl) (fun _ _ _ h => h) (Or.inl ⟨by rfl, ?hyq1⟩) HS ?restq1
                case hyq1 => (intro w hSw; (try dsimp only at hSw); go_simp; try with_reducible rfl)
                (try simp only [Act.put, List.setIfInBounds_toArray, List.set_cons_zero, List.set_cons_succ])
                refine Za.takeL 2 (v := ?vq2) rfl (by kernel_rfl) (by kernel_rfl) (by kernel_rfl) (by kernel_rfl) (fun _ _ _ h => h) (Or.inl ⟨by rfl, ?hyq2⟩) HS ?restq2
                case hyq2 => (intro w hSw; (try dsimp only at hSw); go_simp; try with_reducible rfl)
                (try simp only [Act.put, List.setIfInBounds_toArray, List.set_cons_zero, List.set_cons_succ])
                refine Za.takeL 3 (v := ?vq3) rfl (by kernel_rfl) (by kernel_rfl) (by kernel_rfl) (by kernel_rfl) (fun _ _ _ h => h) (Or.inl ⟨by rfl, ?hyq3⟩) HS ?restq3
                case hyq3 => (intro w hSw; (try dsimp only at hSw); go_simp; try with_reducible rfl)
                (try simp only [Act.put, List.setIfInBounds_toArray, List.set_cons_zero, List.set_cons_succ])
                refine Za.takeL 4 (v := ?vq4) rfl (by kernel_rfl) (by kernel_rfl) (by kernel_rfl) (by kernel_rfl) (fun _ _ _ h => h) (Or.inl ⟨by rfl, ?hyq4⟩) HS ?restq4
                case hyq4 => (intro w hSw; (try dsimp only at hSw); go_simp; try with_reducible rfl)
                (try simp only [Act.put, List.setIfInBounds_toArray, List.set_cons_zero, List.set_cons_succ])
                refine Za.takeL 5 (v := ?vq5) rfl (by kernel_rfl) (by kernel_rfl) (by kernel_rfl) (by kernel_rfl) (fun _ _ _ h => h) (Or.inl ⟨by rfl, ?hyq5⟩) HS ?restq5
                case hyq5 => (intro w hSw; (try dsimp only at hSw); go_simp; try with_reducible rfl)
                (try simp only [Act.put, List.setIfInBounds_toArray, List.set_cons_zero, List.set_cons_succ])
                refine Za.takeL 6 (v := ?vq6) rfl (by kernel_rfl) (by kernel_rfl) (by kernel_rfl) (by kernel_rfl) (fun _ _ _ h => h) (Or.inl ⟨by rfl, ?hyq6⟩) HS ?restq6
                case hyq6 => (intro w hSw; (try dsimp only at hSw); go_simp; try with_reducible rfl)
                (try simp only [Act.put, List.setIfInBounds_toArray, List.set_cons_zero, List.set_cons_succ])
                refine Za.takeL 7 (v := ?vq7) rfl (by kernel_rfl) (by kernel_rfl) (by kernel_rfl) (by kernel_rfl) (fun _ _ _ h => h) (Or.inl ⟨by rfl, ?hyq7⟩) HS ?restq7
                case hyq7 => (intro w hSw; (try dsimp only at hSw); go_simp; try with_reducible rfl)
                (try simp only [Act.put, List.setIfInBounds_toArray, List.set_cons_zero, List.set_cons_succ])
                refine Za.takeL 8 (v := ?vq8) rfl (by kernel_rfl) (by kernel_rfl) (by kernel_rfl) (by kernel_rfl) (fun _ _ _ h => h) (Or.inl ⟨by rfl, ?hyq8⟩) HS ?restq8
                case hyq8 => (intro w hSw; (try dsimp only at hSw); go_simp; try with_reducible rfl)
                (try simp only [Act.put, List.setIfInBounds_toArray, List.set_cons_zero, List.set_cons_succ])
                clear HS
                refine Za.nextL 9 (by kernel_rfl) rfl (fun K' hK => ?_)
                go_simp
                (go_at_call 26; refine (iJoin x y (join x y) _ _ _ _ _ HJ.out (isOk_big HKX.out) (isOk_big HKY.out) (HIXw9.out.below HB0) (HIYw9.out.below HB0)).mono ?_; rintro e w7q ⟨J, cj, rfl, hj7, hb4⟩; have HB4 : Below w9.heap.size w9 w7q := keepD hb4; have HJ4 := Aside0.mk hj7; clear hj7 hb4)
                go_wp2_with fail
                refine hK.out _ _ ⟨fun _ => HFw9.out _ HB4, ?_⟩
                clear hK K'
                (try simp only [Act.put, List.setIfInBounds_toArray, List.set_cons_zero, List.set_cons_succ])
                have HS : (fun w' => (w'.cell? (ada.add (j * 3)) = some (.int .i64 x.f0) ∧ w'.cell? ⟨(ada.add (j * 3)).block, (ada.add (j * 3)).off + 1, none⟩ = some (.int .i64 x.f1) ∧ w'.cell? ⟨(ada.add (j * 3)).block, (ada.add (j * 3)).off + 2, none⟩ = some (.slice A2 x.f2.length c2)) ∧ (w'.cell? (adb.add (k * 3)) = some (.int .i64 y.f0) ∧ w'.cell? ⟨(adb.add (k * 3)).block, (adb.add (k * 3)).off + 1, none⟩ = some (.int .i64 y.f1) ∧ w'.cell? ⟨(adb.add (k * 3)).block, (adb.add (k * 3)).off + 2, none⟩ = some (.slice B2 y.f2.length d2))) w7q := HFw9.out _ HB4
                clear HS
                refine Za.nextL 10 (by kernel_rfl) rfl (fun K' hK => ?_)
                go_simp
                (go_at_call 25; refine (iPutR Gy J cy cj M (put M (join x y)) (join x y) _ HP.out (by omega) HJL.out HPB.out (HYs.out.isL.below HB4) HJ4.out).mono ?_; rintro e w8q ⟨Pq, cpq, rfl, hp7, hb5⟩; have HB5 : Below w9.heap.size w9 w8q := below_then HB4 HB4.size hb5; have HP5q := Aside0.mk (RL.mk ⟨_, hp7⟩); clear hp7 hb5)
                go_wp2_with fail
                refine hK.out _ _ ⟨fun _ => HFw9.out _ HB5, ?_⟩
                clear hK K'
                (try simp only [Act.put, List.setIfInBounds_toArray, List.set_cons_zero, List.set_cons_succ])
                have HS : (fun w' => (w'.cell? (ada.add (j * 3)) = some (.int .i64 x.f0) ∧ w'.cell? ⟨(ada.add (j * 3)).block, (ada.add (j * 3)).off + 1, none⟩ = some (.int .i64 x.f1) ∧ w'.cell? ⟨(ada.add (j * 3)).block, (ada.add (j * 3)).off + 2, none⟩ = some (.slice A2 x.f2.length c2)) ∧ (w'.cell? (adb.add (k * 3)) = some (.int .i64 y.f0) ∧ w'.cell? ⟨(adb.add (k * 3)).block, (adb.add (k * 3)).off + 1, none⟩ = some (.int .i64 y.f1) ∧ w'.cell? ⟨(adb.add (k * 3)).block, (adb.add (k * 3)).off + 2, none⟩ = some (.slice B2 y.f2.length d2))) w8q := HFw9.out _ HB5
                refine Za.takeL 11 (v := ?vq11) rfl (by kernel_rfl) (by kernel_rfl) (by kernel_rfl) (by kernel_rfl) (fun _ _ _ h => h) (Or.inl ⟨by rfl, ?hyq11⟩) HS ?restq11
                case hyq11 => (intro w hSw; (try dsimp only at hSw); go_simp; try with_reducible rfl)
                (try simp only [Act.put, List.setIfInBounds_toArray, List.set_cons_zero, List.set_cons_succ])
                refine Za.Walk.done (by kernel_rfl) ?_
                clear HS
                generalize hM3 : put M (join x y) = M3 at *
                have HUq := Aside0.mk (HRs.out.below HB5)
                have HXz := Aside0.mk (HXs.out.below HB5)
                have HZn := Aside0.mk (below_then HSn.out HSn.out.size HB5)
                have HZw := Aside0.mk (below_then HSw.out HSw.out.size HB5)
                clear hM3
                go_wp2
                go_roundw
                case rel => exact ⟨k + 1, L3, Pp, cpp, without F [x], M3, Pq, cpq, us.set j true, by omega, by go_num, rfl, rfl, HN1, HN2, HU2, HUq, HXz, HP5q, HZn, HZw⟩
                case measure => simp [intOf]; omega
      · have hke : k = b.length := by omega
        subst hke
        have g1 : decide (b.length < b.length) = false := decide_eq_false (by omega)
        have hL := upto_all (mode := 1) (a := a) (b := b)
        have hM := upto_all (mode := 2) (a := a) (b := b)
        rw [HL.out] at hL
        rw [HM.out] at hM
        have HEQ1 : Aside0 (l = L) := ⟨HLS.out.trans hL.symm⟩
        have HM2 : Aside0 (M = sq 2 a b) := ⟨hM⟩
        clear hL hM
        rcases HC2.out with hp2 | hp2
        · subst hp2
          go_wp2_with (go_at_call 17; refine (occsSame_any _ _ _ _ _ _ _ (L1_5.out.below HBn.out).rd HX.out.isL.rd).mono ?_; rintro e wz ⟨rfl, hbz⟩; rw [decide_eq_true HEQ1.out]; have HBz := Aside0.mk hbz; clear hbz)
          go_ret
          exact ⟨rfl, below_then HBw.out HBw.out.size HBz.out⟩
        · subst hp2
          have HEQ2 : Aside0 (sq 2 a b = M) := ⟨HM2.out.symm⟩
          generalize sq 2 a b = l2 at *
          go_wp2_with (first | (go_at_call 17; have HBy := HBz.out; refine (occsSame_any _ _ _ _ _ _ _ ((L4_5.out.below HBn.out).below HBz.out).rd (HY.out.isL.below HBz.out).rd).mono ?_; rintro e wy ⟨rfl, hby⟩; rw [decide_eq_true HEQ2.out]; have HBy := Aside0.mk hby; clear hby) | (go_at_call 17; refine (occsSame_any _ _ _ _ _ _ _ (L1_5.out.below HBn.out).rd HX.out.isL.rd).mono ?_; rintro e wz ⟨rfl, hbz⟩; rw [decide_eq_true HEQ1.out]; have HBz := Aside0.mk hbz; clear hbz))
          go_ret
          exact ⟨rfl, below_then HBw.out HBw.out.size (below_then HBz.out HBz.out.size HBy.out)⟩
end Go.Proofs.YtjeojdbfpncnkaaGreat.Wh

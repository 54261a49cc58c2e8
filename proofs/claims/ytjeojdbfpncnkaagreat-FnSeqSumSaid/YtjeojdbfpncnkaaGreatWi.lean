
/- FnSeqSum: the walk. -/
import Derived.Test.YtjeojdbfpncnkaaGreatB7
import Derived.Test.YtjeojdbfpncnkaaGreatB6
import Derived.Test.YtjeojdbfpncnkaaGreatPy
import Derived.Test.YtjeojdbfpncnkaaGreatPs
set_option linter.unusedVariables false
set_option linter.unusedSimpArgs false
namespace Go.Proofs.YtjeojdbfpncnkaaGreat.Wi
open Go.RowKit Go.Proofs.YtjeojdbfpncnkaaGreatW.PrintWords Go.Proofs.YtjeojdbfpncnkaaGreat.Wd Go.Proofs.YtjeojdbfpncnkaaGreat.Pu Go.Proofs.YtjeojdbfpncnkaaGreat.Pv Go.Proofs.YtjeojdbfpncnkaaGreat.Ca Go.Proofs.YtjeojdbfpncnkaaGreat.Cb Go.Proofs.YtjeojdbfpncnkaaGreat.Cc Go.Proofs.YtjeojdbfpncnkaaGreat.Cp Go.Proofs.YtjeojdbfpncnkaaGreat.Cd Go.Proofs.YtjeojdbfpncnkaaGreat.Ci Go.Proofs.YtjeojdbfpncnkaaGreat.Ce Go.Proofs.YtjeojdbfpncnkaaGreat.Cf Go.Proofs.YtjeojdbfpncnkaaGreat.Cg Go.Proofs.YtjeojdbfpncnkaaGreat.Sc Go.Proofs.YtjeojdbfpncnkaaGreat.Se Go.Proofs.YtjeojdbfpncnkaaGreat.Sh Go.Proofs.YtjeojdbfpncnkaaGreat.Si Go.Proofs.YtjeojdbfpncnkaaGreat.Sp Go.Proofs.YtjeojdbfpncnkaaGreat.Ia Go.Proofs.YtjeojdbfpncnkaaGreat.Ib Go.Proofs.YtjeojdbfpncnkaaGreat.Ic Go.Proofs.YtjeojdbfpncnkaaGreat.Id Go.Proofs.YtjeojdbfpncnkaaGreat.Ie Go.Proofs.YtjeojdbfpncnkaaGreat.If Go.Proofs.YtjeojdbfpncnkaaGreat.Ig Go.Proofs.YtjeojdbfpncnkaaGreat.Ih Go.Proofs.YtjeojdbfpncnkaaGreat.Ij Go.Proofs.YtjeojdbfpncnkaaGreat.Ik Go.Proofs.YtjeojdbfpncnkaaGreat.Ra Go.Proofs.YtjeojdbfpncnkaaGreat.Rb Go.Proofs.YtjeojdbfpncnkaaGreat.Rc Go.Proofs.YtjeojdbfpncnkaaGreat.Rd Go.Proofs.YtjeojdbfpncnkaaGreat.Re Go.Proofs.YtjeojdbfpncnkaaGreat.Sj Go.Proofs.YtjeojdbfpncnkaaGreat.Ya Go.Proofs.YtjeojdbfpncnkaaGreat.Yd Go.Proofs.YtjeojdbfpncnkaaGreat.Yf Go.Proofs.YtjeojdbfpncnkaaGreat.Yg Go.Proofs.YtjeojdbfpncnkaaGreat.Ih Go.Proofs.YtjeojdbfpncnkaaGreat.Yh Go.Proofs.YtjeojdbfpncnkaaGreat.Yi Go.Proofs.YtjeojdbfpncnkaaGreat.Sg Go.Proofs.YtjeojdbfpncnkaaGreat.Sf Go.Proofs.YtjeojdbfpncnkaaGreat.Yj Go.Proofs.YtjeojdbfpncnkaaGreat.Ig Go.Proofs.YtjeojdbfpncnkaaGreat.Yk Go.Proofs.YtjeojdbfpncnkaaGreat.Ik Go.Proofs.YtjeojdbfpncnkaaGreat.Yl Go.Proofs.YtjeojdbfpncnkaaGreat.Ij Go.Proofs.YtjeojdbfpncnkaaGreat.Ym Go.Proofs.YtjeojdbfpncnkaaGreat.Il Go.Proofs.YtjeojdbfpncnkaaGreat.Yn Go.Proofs.YtjeojdbfpncnkaaGreat.Yo Go.Proofs.YtjeojdbfpncnkaaGreat.In Go.Proofs.YtjeojdbfpncnkaaGreat.Yq Go.Proofs.YtjeojdbfpncnkaaGreat.Pw Go.Proofs.YtjeojdbfpncnkaaGreat.Px Go.Proofs.YtjeojdbfpncnkaaGreat.La Go.Proofs.YtjeojdbfpncnkaaGreat.Db Go.Proofs.YtjeojdbfpncnkaaGreat.Py Go.Proofs.YtjeojdbfpncnkaaGreat.Sh Go.Proofs.YtjeojdbfpncnkaaGreat.Ps

theorem ofI_cases' (md : Int) (a b : List Occ) : ofI seq3 md a b = ([], false) ∨ ((0 ≤ md ∧ md ≤ 4) ∧ (AreOk a ∧ a.length ≤ 40) ∧ (AreOk b ∧ b.length ≤ 40) ∧ (sq md a b).length ≤ 40 ∧ ofI seq3 md a b = (sq md a b, true)) := by
  rw [ofI_seq]
  by_cases h : (inb md 0 4 && okOs a && okOs b) = true
  · rw [if_pos h]
    simp only [Bool.and_eq_true] at h
    have hm : 0 ≤ md ∧ md ≤ 4 := by have := h.1.1; unfold inb at this; simpa using this
    unfold told
    split
    · exact .inl rfl
    · exact .inr ⟨hm, okOs_iff.1 h.1.2, okOs_iff.1 h.2, by omega, rfl⟩
  · rw [if_neg h]
    exact .inl rfl
/-- a list in new memory -/
structure RL (w : World) (A : Option Addr) (c : Nat) (l : List Occ) : Prop where
  rw : ∃ b, Rw w b (.slice A l.length c) l
theorem RL.isL {w : World} {A : Option Addr} {c : Nat} {l : List Occ} (h : RL w A c l) : IsL w l A c := by
  obtain ⟨b, h⟩ := h.rw
  exact ⟨(Kd.R_reads' h).2.1, (Kd.R_reads' h).2.2⟩
theorem RL.below {w w' : World} {A : Option Addr} {c : Nat} {l : List Occ} (h : RL w A c l) (hb : Below w.heap.size w w') : RL w' A c l := by
  obtain ⟨b, h⟩ := h.rw
  exact ⟨b, Kd.R_below h hb⟩
theorem RL.mark {w : World} {A : Option Addr} {c : Nat} {l : List Occ} {n g cap : Nat} {us : List Bool} (h : RL w A c l) (hm : MarksAt w n g cap us) (i : Nat) : RL (w.setCell ⟨g, i, none⟩ (.bool true)) A c l := by
  obtain ⟨b, h⟩ := h.rw
  exact ⟨b, hm.list h i⟩
theorem mark_below {w0 w : World} {n g cap : Nat} {us : List Bool} (hb : Below n w0 w) (hm : MarksAt w n g cap us) (i : Nat) : Below n w0 (w.setCell ⟨g, i, none⟩ (.bool true)) := hb.setCell (p := ⟨g, i, none⟩) hm.ge (.bool true)
theorem two_new (w : World) (t : TypeId) : Below w.heap.size w ((w.alloc (.cells #[] t)).alloc (.cells #[] t)) ∧ ((w.alloc (.cells #[] t)).alloc (.cells #[] t)).heap[w.heap.size]? = some (.cells #[] t (0, 0)) ∧
    ((w.alloc (.cells #[] t)).alloc (.cells #[] t)).heap[w.heap.size + 1]? = some (.cells #[] t (0, 0)) := by
  refine ⟨by repeat (first | exact Below.refl _ _ | apply below_alloc), blk_alloc (blk_new _ _) _, ?_⟩
  have h := blk_new (w.alloc (.cells #[] t)) (.cells #[] t)
  simpa using h
theorem first_of_last {p q : Nat → Bool} {i : Nat} {s f : Int} (h : LastAt p i s) (hs : s < 0) (hf : FirstAt (fun j => p j && q j) i f) : f < 0 := by
  rcases hf with ⟨h1, _⟩ | ⟨j, h1, h2, h3, _⟩
  · omega
  · rcases h with ⟨_, h4⟩ | ⟨k, _, h5, _⟩
    · have h6 := h4 j h1
      simp only [h6, Bool.false_and] at h3
      cases h3
    · omega
theorem upto_fst {a X : List Occ} {s : List Occ × List Occ} (h : s = (a, X)) : s.2 = X := by rw [h]

set_option maxHeartbeats 60000000 in
set_option maxRecDepth 100000 in
theorem walk (A : Option Addr) (c : Nat) (bs : List Int) (w : World) (hC : (Kd.int .u8).C w A bs.length bs) (hc : bs.length ≤ c) (hb : ∀ b ∈ bs, 0 ≤ b ∧ b ≤ 255) :
    Calls Tryz.prog 9 #[.slice A bs.length c] w fun e w' => e = .returned (.bool true) ∧ Below w.heap.size w w' := by
  by_cases hbig : bs.length > 1048576
  · have d1 : decide ((bs.length : Int) > 1048576) = true := decide_eq_true (by omega)
    go_enter Tryz.func9, Tryz.ntmps9
    go_wp2
    go_ret
    exact ⟨rfl, Below.refl _ _⟩
  have d1 : decide ((bs.length : Int) > 1048576) = false := decide_eq_false (by omega)
  go_enter Tryz.func9, Tryz.ntmps9
  go_upto_region 4 with (go_at_call 22; refine (drawSeqOf_any A c bs _ hC hc hb).mono ?_; rintro e w0 ⟨md, a, b, Xa, Xb, ca, cb, rfl, ha0, hb0, hln, hbel⟩; have HA0 := Aside0.mk ha0; have HB0 := Aside0.mk hb0; have HBel0 := Aside0.mk hbel; clear ha0 hb0 hbel hln)
  rcases ofI_cases' 4 a b with hp | ⟨hm, ⟨ka, na⟩, ⟨kb, nb⟩, hl40, hp⟩
  · have HP := Aside0.mk hp
    clear hp
    go_upto_region 5 with (go_at_call 23; refine (iSeq 4 Xa Xb ca cb a b ([], false) _ HP.out HA0.out HB0.out).mono ?_; rintro e w1 ⟨R1, r1, rfl, hl1, hb1⟩; have HBel1 := Aside0.mk (below_then HBel0.out HBel0.out.size hb1); have HA1 := Aside0.mk (HA0.out.below hb1); have HB1 := Aside0.mk (HB0.out.below hb1); have L1_1 := Aside0.mk hl1; clear hl1 hb1)
    go_upto_region 6 with (go_at_call 24; refine (sSeq 4 Xa Xb ca cb a b ([], false) _ HP.out HA1.out HB1.out).mono ?_; rintro e w2 ⟨R2, r2, rfl, hl2, hb2⟩; have HBel2 := Aside0.mk (below_then HBel1.out HBel1.out.size hb2); have HA2 := Aside0.mk (HA1.out.below hb2); have HB2 := Aside0.mk (HB1.out.below hb2); have L1_2 := Aside0.mk (L1_1.out.below hb2); have L2_2 := Aside0.mk hl2; clear hl2 hb2)
    go_wp2_with (go_at_call 17; refine (occsSame_any _ _ _ _ _ _ _ L1_2.out.rd L2_2.out.rd).mono ?_; rintro e w3 ⟨rfl, hb3⟩; rw [decide_eq_true rfl]; have HBel3 := Aside0.mk (below_then HBel2.out HBel2.out.size hb3); clear hb3)
    go_ret
    exact ⟨rfl, HBel3.out⟩
  · have HKA := Aside0.mk ka
    have HKB := Aside0.mk kb
    have HKBn := Aside0.mk nb
    obtain ⟨l, hl⟩ : ∃ l, l = sq 4 a b := ⟨_, rfl⟩
    obtain ⟨p2, hp2⟩ : ∃ p2, ofI seq3 3 a b = p2 := ⟨_, rfl⟩
    have HP2 := Aside0.mk hp2
    have HC2 : Aside0 (p2 = ([], false) ∨ p2 = (sq 3 a b, true)) := ⟨by
      rw [← hp2]
      rcases ofI_cases' 3 a b with h | ⟨_, _, _, _, h⟩
      · exact .inl h
      · exact .inr h⟩
    rw [← hl] at hp hl40
    have HLS := Aside0.mk hl
    have HPL := Aside0.mk hp
    clear hp hl ka kb hp2 hm hl40
    go_upto_region 5 with (go_at_call 23; refine (iSeq 4 Xa Xb ca cb a b (l, true) _ HPL.out HA0.out HB0.out).mono ?_; rintro e w1 ⟨R1, r1, rfl, hl1, hb1⟩; have HBel1 := Aside0.mk (below_then HBel0.out HBel0.out.size hb1); have HA1 := Aside0.mk (HA0.out.below hb1); have HB1 := Aside0.mk (HB0.out.below hb1); have L1_1 := Aside0.mk hl1; clear hl1 hb1)
    go_upto_region 6 with (go_at_call 24; refine (sSeq 4 Xa Xb ca cb a b (l, true) _ HPL.out HA1.out HB1.out).mono ?_; rintro e w2 ⟨R2, r2, rfl, hl2, hb2⟩; have HBel2 := Aside0.mk (below_then HBel1.out HBel1.out.size hb2); have HA2 := Aside0.mk (HA1.out.below hb2); have HB2 := Aside0.mk (HB1.out.below hb2); have L1_2 := Aside0.mk (L1_1.out.below hb2); have L2_2 := Aside0.mk hl2; clear hl2 hb2)
    go_upto_region 10 with (go_at_call 17; refine (occsSame_any _ _ _ _ _ _ _ L1_2.out.rd L2_2.out.rd).mono ?_; rintro e w3 ⟨rfl, hb3⟩; rw [decide_eq_true rfl]; have HBel3 := Aside0.mk (below_then HBel2.out HBel2.out.size hb3); have HA3 := Aside0.mk (HA2.out.below hb3); have HB3 := Aside0.mk (HB2.out.below hb3); have L1_3 := Aside0.mk (L1_2.out.below hb3); clear hb3)
    go_upto_region 11 with (go_at_call 23; refine (iSeq 3 Xa Xb ca cb a b p2 _ HP2.out HA3.out HB3.out).mono ?_; rintro e w4 ⟨R4, r4, rfl, hl4, hb4⟩; have HBel4 := Aside0.mk (below_then HBel3.out HBel3.out.size hb4); have HA4 := Aside0.mk (HA3.out.below hb4); have HB4 := Aside0.mk (HB3.out.below hb4); have L1_4 := Aside0.mk (L1_3.out.below hb4); have L4_4 := Aside0.mk hl4; clear hl4 hb4)
    go_upto_region 13 with fail
    obtain ⟨hbn, hx0, hy0⟩ := two_new w4 38
    have HX0 : Aside0 (RL ((w4.alloc (.cells #[] 38)).alloc (.cells #[] 38)) (some ⟨w4.heap.size, 0, none⟩) 0 []) := ⟨⟨0, R_empty kO hx0 (Nat.zero_le _)⟩⟩
    have HY0 : Aside0 (RL ((w4.alloc (.cells #[] 38)).alloc (.cells #[] 38)) (some ⟨w4.heap.size + 1, 0, none⟩) 0 []) := ⟨⟨0, R_empty kO hy0 (Nat.zero_le _)⟩⟩
    have HBel5 := Aside0.mk (below_then HBel4.out HBel4.out.size hbn)
    have HA5 := Aside0.mk (HA4.out.below hbn)
    have HB5 := Aside0.mk (HB4.out.below hbn)
    have L1_5 := Aside0.mk (L1_4.out.below hbn)
    have L4_5 := Aside0.mk (L4_4.out.below hbn)
    generalize (w4.alloc (.cells #[] 38)).alloc (.cells #[] 38) = W at *
    have hn : (0 : Int) ≤ a.length := by omega
    have hlb : ((a.length : Int)).toNat * 1 ≤ 281474976710656 := by omega
    clear hbn hx0 hy0
    go_wp2_with ((with_reducible refine gate_dst (N := 64) rfl ?_); refine Kd.R_make Kd.bool (w0 := W) W.heap.size 4 rfl (N := 64) rfl 49 _ _ rfl (a.length : Int) rfl rfl Tryz.underlying49 (.bool false) 1 infoB rfl (by decide) (by omega) false (ok := fun _ => True) (okp := fun _ => True) rfl (fun _ hk => hk) trivial hn hlb (Below.refl _ _) (Nat.le_refl _) ?_; intro v14 w6 hr6 hb6 hg6 _; simp only [Int.toNat_natCast] at hr6; have HR6 := Aside0.mk hr6; have HB6 := Aside0.mk hb6; clear hr6 hb6 hg6)
    clear hlb hn
    go_loopw [12, 13, 15] (fun v12 v13 v15 wr => ∃ (k : Nat) (L : List Occ) (Gx : Option Addr) (cx : Nat) (F M : List Occ) (Gy : Option Addr) (cy : Nat) (us : List Bool), k ≤ b.length ∧ v15 = .int .i64 k ∧ v12 = .slice Gx L.length cx ∧ v13 = .slice Gy M.length cy ∧ Aside0 (upto 4 a b k = (F, L)) ∧ Aside0 (upto 3 a b k = (F, M)) ∧ Aside0 (Unused a us F) ∧ Aside0 (RBs wr W.heap.size v14 us) ∧ Aside0 (RL wr Gx cx L) ∧ Aside0 (RL wr Gy cy M) ∧ Aside0 (Below W.heap.size W wr) ∧ Aside0 (Below w.heap.size w wr)) (fun _ _ vi _ => b.length - (intOf vi).toNat)
    case atStart => exact ⟨0, [], _, 0, a, [], _, 0, List.replicate a.length false, Nat.zero_le _, rfl, rfl, rfl, ⟨rfl⟩, ⟨rfl⟩, ⟨Unused.start HKA.out.sorted⟩, HR6, ⟨HX0.out.below HB6.out⟩, ⟨HY0.out.below HB6.out⟩, HB6, ⟨below_then HBel5.out HBel5.out.size HB6.out⟩⟩
    case round =>
      obtain ⟨k, L, Gx, cx, F, M, Gy, cy, us, hk, rfl, rfl, rfl, HL, HM, HU, HR, HX, HY, HBn, HBw⟩ := hrel
      obtain ⟨wo, rfl⟩ : ∃ wo : World, wo = wr := ⟨_, rfl⟩
      by_cases hlt : k < b.length
      · have g1 : decide (k < b.length) = true := decide_eq_true hlt
        have k1 : (k : Int) < b.length := by omega
        obtain ⟨adb, B2, d2, eXb, hiy, heyW⟩ := elem HB5.out hlt
        have hey := heyW.below HBn.out
        subst eXb
        have hky := HKB.out.all _ (getD_mem hlt)
        have HS1 := Aside0.mk (upto_succ (mode := 4) (a := a) hlt)
        have HS2 := Aside0.mk (upto_succ (mode := 3) (a := a) hlt)
        obtain ⟨y, hye⟩ : ∃ y, y = b.getD k zO := ⟨_, rfl⟩
        rw [← hye] at hiy hey heyW hky HS1 HS2
        have HEY := Aside0.mk heyW
        clear heyW
        have hll := upto_len1 (.inr (.inr rfl)) a b k (mode := 4)
        have hlm := upto_len2 HKA.out.sorted b k
        have hol := upto_ok (by decide) HKA.out HKB.out k (mode := 4)
        have hom := upto_ok (by decide) HKA.out HKB.out k (mode := 3)
        rw [HL.out] at hll hol HS1
        rw [HM.out] at hlm hom HS2
        replace hll : L.length ≤ k := hll
        replace hlm : M.length + F.length ≤ a.length := hlm
        have HOL := Aside0.mk hol
        have HOM := Aside0.mk hom
        have HYE := Aside0.mk hye
        have HKY := Aside0.mk hky
        have q0 := hey.a
        have q1 := hey.b
        have q2 := hey.c
        have HIY := Aside0.mk hiy
        clear hye hiy hey hky hol hom
        go_upto_region 18 with fail
        have hba := below_alloc (Below.refl wo.heap.size wo) (.cells #[.int .i64 y.f0, .int .i64 y.f1, .slice B2 y.f2.length d2] 38)
        have HVb : Aside0 (BoxAt (wo.alloc (.cells #[.int .i64 y.f0, .int .i64 y.f1, .slice B2 y.f2.length d2] 38)) wo.heap.size B2 d2 y) := ⟨blk_new _ _⟩
        have HXb : Aside0 (RX (wo.alloc (.cells #[.int .i64 y.f0, .int .i64 y.f1, .slice B2 y.f2.length d2] 38)) wo.heap.size Gx cx L) := ⟨(RX.of_old HX.out.rw (Nat.le_refl _)).below hba⟩
        have HYb : Aside0 (RX (wo.alloc (.cells #[.int .i64 y.f0, .int .i64 y.f1, .slice B2 y.f2.length d2] 38)) wo.heap.size Gy cy M) := ⟨(RX.of_old HY.out.rw (Nat.le_refl _)).below hba⟩
        have HRb := Aside0.mk (HR.out.below hba)
        have HNb := Aside0.mk (below_then HBn.out HBn.out.size hba)
        have HWb := Aside0.mk (below_then HBw.out HBw.out.size hba)
        have hvb0 : wo.heap.size < (wo.alloc (.cells #[.int .i64 y.f0, .int .i64 y.f1, .slice B2 y.f2.length d2] 38)).heap.size := by simp
        generalize wo.alloc (.cells #[.int .i64 y.f0, .int .i64 y.f1, .slice B2 y.f2.length d2] 38) = Wb at *
        have HMS := Aside0.mk (Mid.start HU.out y M)
        have HUF := Aside0.mk (unused_sub HU.out)
        have HFs := Aside0.mk HU.out.sorted
        have hWo : W.heap.size ≤ wo.heap.size := HBn.out.size
        clear hba q0 q1 q2 HX HY HR HBn HBw
        go_wp2
        go_loopw [13, 17, 18] (fun v13 v17 v18 wq => ∃ (i : Nat) (us' : List Bool) (al : Occ) (so : Bool) (Y : List Occ) (Gq : Option Addr) (cq : Nat) (Ab : Option Addr) (cb' : Nat), i ≤ a.length ∧ v17 = .bool so ∧ v18 = .int .i64 i ∧ v13 = .slice Gq Y.length cq ∧ Aside0 (Mid a F us' y i al so M Y) ∧ Aside0 (RBs wq W.heap.size v14 us') ∧ Aside0 (RX wq wo.heap.size Gx cx L) ∧ Aside0 (RX wq wo.heap.size Gq cq Y) ∧ Aside0 (BoxAt wq wo.heap.size Ab cb' al) ∧ Aside0 (IdsAt W wq Ab cb' al) ∧ Aside0 (Below W.heap.size W wq) ∧ Aside0 (Below w.heap.size w wq) ∧ wo.heap.size < wq.heap.size) (fun _ _ vi _ => a.length - (intOf vi).toNat)
        case atStart => exact ⟨0, us, y, false, M, Gy, cy, B2, d2, Nat.zero_le _, rfl, rfl, rfl, HMS, HRb, HXb, HYb, HVb, ⟨.inl HIY.out⟩, HNb, HWb, hvb0⟩
        case round =>
          clear HMS HRb HXb HYb HVb HNb HWb hvb0
          have HU0 := HU
          clear HU
          obtain ⟨i, us, al, so, Y, Gq, cq, Ab, cb', hi, rfl, rfl, rfl, HM2, HR, HX, HY, HV, HI, HBn, HBw, hvb⟩ := hrel
          obtain ⟨wq, rfl⟩ : ∃ wq : World, wq = wr := ⟨_, rfl⟩
          by_cases hla : i < a.length
          · have g2 : decide (i < a.length) = true := decide_eq_true hla
            have i1 : (i : Int) < a.length := by omega
            obtain ⟨ada, A2, c2, eXa, hix, hexW⟩ := elem HA5.out hla
            subst eXa
            have hkx := HKA.out.all _ (getD_mem hla)
            obtain ⟨x, hxe⟩ : ∃ x, x = a.getD i zO := ⟨_, rfl⟩
            rw [← hxe] at hix hexW hkx
            have HXE := Aside0.mk hxe
            have HKX := Aside0.mk hkx
            have HIX := Aside0.mk hix
            have HEX := Aside0.mk hexW
            have FA : Aside0 (∀ w', Below W.heap.size W w' → (w'.cell? (ada.add (i * 3)) = some (.int .i64 x.f0) ∧ w'.cell? ⟨(ada.add (i * 3)).block, (ada.add (i * 3)).off + 1, none⟩ = some (.int .i64 x.f1) ∧ w'.cell? ⟨(ada.add (i * 3)).block, (ada.add (i * 3)).off + 2, none⟩ = some (.slice A2 x.f2.length c2))) := ⟨fun w' h => ⟨pw_cell_below h HEX.out.a, pw_cell_below h HEX.out.b, pw_cell_below h HEX.out.c⟩⟩
            have FB : Aside0 (∀ w', Below W.heap.size W w' → (w'.cell? (adb.add (k * 3)) = some (.int .i64 y.f0) ∧ w'.cell? ⟨(adb.add (k * 3)).block, (adb.add (k * 3)).off + 1, none⟩ = some (.int .i64 y.f1) ∧ w'.cell? ⟨(adb.add (k * 3)).block, (adb.add (k * 3)).off + 2, none⟩ = some (.slice B2 y.f2.length d2))) := ⟨fun w' h => ⟨pw_cell_below h HEY.out.a, pw_cell_below h HEY.out.b, pw_cell_below h HEY.out.c⟩⟩
            have hul := HM2.out.un.len
            obtain ⟨g, cap, rfl, hmk⟩ := marks_at HR.out (by omega)
            have HMK := Aside0.mk hmk
            have i1u : (i : Int) < us.length := by omega
            have hgt := hmk.get (i := i) (by omega)
            have HB0 : Below wq.heap.size wq wq.drew := below_drew (Below.refl _ _)
            have hfree := mark_free HKA.out.sorted HM2.out.un hla
            have hM1 : wq.drew.cell? ⟨g, i, none⟩ = some (.bool (us.getD i true)) := hgt.1
            have hWd := below_then HBn.out HBn.out.size HB0
            clear hix hexW hkx hxe hmk hul
            cases hcan : decide (x.f1 < y.f0) with
            | false =>
              have HN := Aside0.mk (HM2.out.no hla (.inr (by rw [← HXE.out]; exact hcan)))
              go_upto_region 22 with fail
              refine Za.regionL (fun w' => (w'.cell? (ada.add (i * 3)) = some (.int .i64 x.f0) ∧ w'.cell? ⟨(ada.add (i * 3)).block, (ada.add (i * 3)).off + 1, none⟩ = some (.int .i64 x.f1) ∧ w'.cell? ⟨(ada.add (i * 3)).block, (ada.add (i * 3)).off + 2, none⟩ = some (.slice A2 x.f2.length c2)) ∧ (w'.cell? (adb.add (k * 3)) = some (.int .i64 y.f0) ∧ w'.cell? ⟨(adb.add (k * 3)).block, (adb.add (k * 3)).off + 1, none⟩ = some (.int .i64 y.f1) ∧ w'.cell? ⟨(adb.add (k * 3)).block, (adb.add (k * 3)).off + 2, none⟩ = some (.slice B2 y.f2.length d2)) ∧ w'.cell? ⟨g, i, none⟩ = some (.bool (us.getD i true))) [] (by kernel_rfl) ?_
              have HS : (fun w' => (w'.cell? (ada.add (i * 3)) = some (.int .i64 x.f0) ∧ w'.cell? ⟨(ada.add (i * 3)).block, (ada.add (i * 3)).off + 1, none⟩ = some (.int .i64 x.f1) ∧ w'.cell? ⟨(ada.add (i * 3)).block, (ada.add (i * 3)).off + 2, none⟩ = some (.slice A2 x.f2.length c2)) ∧ (w'.cell? (adb.add (k * 3)) = some (.int .i64 y.f0) ∧ w'.cell? ⟨(adb.add (k * 3)).block, (adb.add (k * 3)).off + 1, none⟩ = some (.int .i64 y.f1) ∧ w'.cell? ⟨(adb.add (k * 3)).block, (adb.add (k * 3)).off + 2, none⟩ = some (.slice B2 y.f2.length d2)) ∧ w'.cell? ⟨g, i, none⟩ = some (.bool (us.getD i true))) wq.drew := ⟨FA.out _ hWd, FB.out _ hWd, hM1⟩
              refine Za.takeL 0 (v := ?vn0) rfl (by kernel_rfl) (by kernel_rfl) (by kernel_rfl) (by kernel_rfl) (fun _ _ _ h => h) (Or.inl ⟨by rfl, ?hyn0⟩) HS ?restn0
              case hyn0 => (intro w hSw; (try dsimp only at hSw); go_simp; try with_reducible rfl)
              (try simp only [Act.put, List.setIfInBounds_toArray, List.set_cons_zero, List.set_cons_succ])
              refine Za.takeL 1 (v := ?vn1) rfl (by kernel_rfl) (by kernel_rfl) (by kernel_rfl) (by kernel_rfl) (fun _ _ _ h => h) (Or.inl ⟨by rfl, ?hyn1⟩) HS ?restn1
              case hyn1 => (intro w hSw; (try dsimp only at hSw); go_simp; try with_reducible rfl)
              (try simp only [Act.put, List.setIfInBounds_toArray, List.set_cons_zero, List.set_cons_succ])
              refine Za.takeL 2 (v := ?vn2) rfl (by kernel_rfl) (by kernel_rfl) (by kernel_rfl) (by kernel_rfl) (fun _ _ _ h => h) (Or.inl ⟨by rfl, ?hyn2⟩) HS ?restn2
              case hyn2 => (intro w hSw; (try dsimp only at hSw); go_simp; try with_reducible rfl)
              (try simp only [Act.put, List.setIfInBounds_toArray, List.set_cons_zero, List.set_cons_succ])
              refine Za.takeL 3 (v := ?vn3) rfl (by kernel_rfl) (by kernel_rfl) (by kernel_rfl) (by kernel_rfl) (fun _ _ _ h => h) (Or.inl ⟨by rfl, ?hyn3⟩) HS ?restn3
              case hyn3 => (intro w hSw; (try dsimp only at hSw); go_simp; try with_reducible rfl)
              (try simp only [Act.put, List.setIfInBounds_toArray, List.set_cons_zero, List.set_cons_succ])
              refine Za.takeL 4 (v := ?vn4) rfl (by kernel_rfl) (by kernel_rfl) (by kernel_rfl) (by kernel_rfl) (fun _ _ _ h => h) (Or.inl ⟨by rfl, ?hyn4⟩) HS ?restn4
              case hyn4 => (intro w hSw; (try dsimp only at hSw); go_simp; try with_reducible rfl)
              (try simp only [Act.put, List.setIfInBounds_toArray, List.set_cons_zero, List.set_cons_succ])
              refine Za.takeL 5 (v := ?vn5) rfl (by kernel_rfl) (by kernel_rfl) (by kernel_rfl) (by kernel_rfl) (fun _ _ _ h => h) (Or.inl ⟨by rfl, ?hyn5⟩) HS ?restn5
              case hyn5 => (intro w hSw; (try dsimp only at hSw); go_simp; try with_reducible rfl)
              (try simp only [Act.put, List.setIfInBounds_toArray, List.set_cons_zero, List.set_cons_succ])
              refine Za.takeL 6 (v := ?vn6) rfl (by kernel_rfl) (by kernel_rfl) (by kernel_rfl) (by kernel_rfl) (fun _ _ _ h => h) (Or.inl ⟨by rfl, ?hyn6⟩) HS ?restn6
              case hyn6 => (intro w hSw; (try dsimp only at hSw); go_simp; try with_reducible rfl)
              (try simp only [Act.put, List.setIfInBounds_toArray, List.set_cons_zero, List.set_cons_succ])
              refine Za.takeL 7 (v := ?vn7) rfl (by kernel_rfl) (by kernel_rfl) (by kernel_rfl) (by kernel_rfl) (fun _ _ _ h => h) (Or.inl ⟨by rfl, ?hyn7⟩) HS ?restn7
              case hyn7 => (intro w hSw; (try dsimp only at hSw); go_simp; try with_reducible rfl)
              (try simp only [Act.put, List.setIfInBounds_toArray, List.set_cons_zero, List.set_cons_succ])
              refine Za.takeL 8 (v := ?vn8) rfl (by kernel_rfl) (by kernel_rfl) (by kernel_rfl) (by kernel_rfl) (fun _ _ _ h => h) (Or.inl ⟨by rfl, ?hyn8⟩) HS ?restn8
              case hyn8 => (intro w hSw; (try dsimp only at hSw); go_simp; try with_reducible rfl)
              (try simp only [Act.put, List.setIfInBounds_toArray, List.set_cons_zero, List.set_cons_succ])
              refine Za.takeL 9 (v := ?vn9) rfl (by kernel_rfl) (by kernel_rfl) (by kernel_rfl) (by kernel_rfl) (fun _ _ _ h => h) (Or.inl ⟨by rfl, ?hyn9⟩) HS ?restn9
              case hyn9 => (intro w hSw; (try dsimp only at hSw); go_simp; try with_reducible rfl)
              (try simp only [Act.put, List.setIfInBounds_toArray, List.set_cons_zero, List.set_cons_succ])
              refine Za.takeL 10 (v := ?vn10) rfl (by kernel_rfl) (by kernel_rfl) (by kernel_rfl) (by kernel_rfl) (fun _ _ _ h => h) (Or.inl ⟨by rfl, ?hyn10⟩) HS ?restn10
              case hyn10 => (intro w hSw; (try dsimp only at hSw); go_simp; try with_reducible rfl)
              (try simp only [Act.put, List.setIfInBounds_toArray, List.set_cons_zero, List.set_cons_succ])
              refine Za.takeL 11 (v := ?vn11) rfl (by kernel_rfl) (by kernel_rfl) (by kernel_rfl) (by kernel_rfl) (fun _ _ _ h => h) (Or.inl ⟨by rfl, ?hyn11⟩) HS ?restn11
              case hyn11 => (intro w hSw; (try dsimp only at hSw); go_simp; try with_reducible rfl)
              (try simp only [Act.put, List.setIfInBounds_toArray, List.set_cons_zero, List.set_cons_succ])
              refine Za.takeL 12 (v := undef) rfl (by kernel_rfl) (by kernel_rfl) (by kernel_rfl) (by kernel_rfl) (fun _ _ _ h => h) (Or.inr ⟨by rfl, rfl⟩) HS ?restn12
              (try simp only [Act.put, List.setIfInBounds_toArray, List.set_cons_zero, List.set_cons_succ])
              refine Za.takeL 13 (v := undef) rfl (by kernel_rfl) (by kernel_rfl) (by kernel_rfl) (by kernel_rfl) (fun _ _ _ h => h) (Or.inr ⟨by rfl, rfl⟩) HS ?restn13
              (try simp only [Act.put, List.setIfInBounds_toArray, List.set_cons_zero, List.set_cons_succ])
              refine Za.takeL 14 (v := undef) rfl (by kernel_rfl) (by kernel_rfl) (by kernel_rfl) (by kernel_rfl) (fun _ _ _ h => h) (Or.inr ⟨by rfl, rfl⟩) HS ?restn14
              (try simp only [Act.put, List.setIfInBounds_toArray, List.set_cons_zero, List.set_cons_succ])
              refine Za.takeL 15 (v := undef) rfl (by kernel_rfl) (by kernel_rfl) (by kernel_rfl) (by kernel_rfl) (fun _ _ _ h => h) (Or.inr ⟨by rfl, rfl⟩) HS ?restn15
              (try simp only [Act.put, List.setIfInBounds_toArray, List.set_cons_zero, List.set_cons_succ])
              refine Za.takeL 16 (v := undef) rfl (by kernel_rfl) (by kernel_rfl) (by kernel_rfl) (by kernel_rfl) (fun _ _ _ h => h) (Or.inr ⟨by rfl, rfl⟩) HS ?restn16
              (try simp only [Act.put, List.setIfInBounds_toArray, List.set_cons_zero, List.set_cons_succ])
              refine Za.takeL 17 (v := ?vn17) rfl (by kernel_rfl) (by kernel_rfl) (by kernel_rfl) (by kernel_rfl) (fun _ _ _ h => h) (Or.inl ⟨by rfl, ?hyn17⟩) HS ?restn17
              case hyn17 => (intro w hSw; (try dsimp only at hSw); go_simp; try with_reducible rfl)
              (try simp only [Act.put, List.setIfInBounds_toArray, List.set_cons_zero, List.set_cons_succ])
              refine Za.Walk.done (by kernel_rfl) ?_
              (try clear HS)
              go_wp2
              go_roundw
              case rel => exact ⟨i + 1, us, al, so, Y, Gq, cq, Ab, cb', by omega, rfl, by go_num, rfl, HN, ⟨HR.out.below HB0⟩, ⟨HX.out.below HB0⟩, ⟨HY.out.below HB0⟩, ⟨HV.out.below HB0⟩, ⟨HI.out.below HB0⟩, ⟨hWd⟩, ⟨below_then HBw.out HBw.out.size HB0⟩, Nat.lt_of_lt_of_le hvb HB0.size⟩
              case measure => simp [intOf]; omega
            | true =>
              cases hu : us.getD i true with
              | true =>
                have hnF : a.getD i zO ∉ F := fun h => by rw [hfree.2 h] at hu; cases hu
                have HN := Aside0.mk (HM2.out.no hla (.inl hnF))
                rw [hu] at hM1 hgt
                clear hfree hnF
                go_upto_region 22 with fail
                refine Za.regionL (fun w' => (w'.cell? (ada.add (i * 3)) = some (.int .i64 x.f0) ∧ w'.cell? ⟨(ada.add (i * 3)).block, (ada.add (i * 3)).off + 1, none⟩ = some (.int .i64 x.f1) ∧ w'.cell? ⟨(ada.add (i * 3)).block, (ada.add (i * 3)).off + 2, none⟩ = some (.slice A2 x.f2.length c2)) ∧ (w'.cell? (adb.add (k * 3)) = some (.int .i64 y.f0) ∧ w'.cell? ⟨(adb.add (k * 3)).block, (adb.add (k * 3)).off + 1, none⟩ = some (.int .i64 y.f1) ∧ w'.cell? ⟨(adb.add (k * 3)).block, (adb.add (k * 3)).off + 2, none⟩ = some (.slice B2 y.f2.length d2)) ∧ w'.cell? ⟨g, i, none⟩ = some (.bool (true))) [] (by kernel_rfl) ?_
                have HS : (fun w' => (w'.cell? (ada.add (i * 3)) = some (.int .i64 x.f0) ∧ w'.cell? ⟨(ada.add (i * 3)).block, (ada.add (i * 3)).off + 1, none⟩ = some (.int .i64 x.f1) ∧ w'.cell? ⟨(ada.add (i * 3)).block, (ada.add (i * 3)).off + 2, none⟩ = some (.slice A2 x.f2.length c2)) ∧ (w'.cell? (adb.add (k * 3)) = some (.int .i64 y.f0) ∧ w'.cell? ⟨(adb.add (k * 3)).block, (adb.add (k * 3)).off + 1, none⟩ = some (.int .i64 y.f1) ∧ w'.cell? ⟨(adb.add (k * 3)).block, (adb.add (k * 3)).off + 2, none⟩ = some (.slice B2 y.f2.length d2)) ∧ w'.cell? ⟨g, i, none⟩ = some (.bool (true))) wq.drew := ⟨FA.out _ hWd, FB.out _ hWd, hM1⟩
                refine Za.takeL 0 (v := ?vt0) rfl (by kernel_rfl) (by kernel_rfl) (by kernel_rfl) (by kernel_rfl) (fun _ _ _ h => h) (Or.inl ⟨by rfl, ?hyt0⟩) HS ?restt0
                case hyt0 => (intro w hSw; (try dsimp only at hSw); go_simp; try with_reducible rfl)
                (try simp only [Act.put, List.setIfInBounds_toArray, List.set_cons_zero, List.set_cons_succ])
                refine Za.takeL 1 (v := ?vt1) rfl (by kernel_rfl) (by kernel_rfl) (by kernel_rfl) (by kernel_rfl) (fun _ _ _ h => h) (Or.inl ⟨by rfl, ?hyt1⟩) HS ?restt1
                case hyt1 => (intro w hSw; (try dsimp only at hSw); go_simp; try with_reducible rfl)
                (try simp only [Act.put, List.setIfInBounds_toArray, List.set_cons_zero, List.set_cons_succ])
                refine Za.takeL 2 (v := ?vt2) rfl (by kernel_rfl) (by kernel_rfl) (by kernel_rfl) (by kernel_rfl) (fun _ _ _ h => h) (Or.inl ⟨by rfl, ?hyt2⟩) HS ?restt2
                case hyt2 => (intro w hSw; (try dsimp only at hSw); go_simp; try with_reducible rfl)
                (try simp only [Act.put, List.setIfInBounds_toArray, List.set_cons_zero, List.set_cons_succ])
                refine Za.takeL 3 (v := ?vt3) rfl (by kernel_rfl) (by kernel_rfl) (by kernel_rfl) (by kernel_rfl) (fun _ _ _ h => h) (Or.inl ⟨by rfl, ?hyt3⟩) HS ?restt3
                case hyt3 => (intro w hSw; (try dsimp only at hSw); go_simp; try with_reducible rfl)
                (try simp only [Act.put, List.setIfInBounds_toArray, List.set_cons_zero, List.set_cons_succ])
                refine Za.takeL 4 (v := ?vt4) rfl (by kernel_rfl) (by kernel_rfl) (by kernel_rfl) (by kernel_rfl) (fun _ _ _ h => h) (Or.inl ⟨by rfl, ?hyt4⟩) HS ?restt4
                case hyt4 => (intro w hSw; (try dsimp only at hSw); go_simp; try with_reducible rfl)
                (try simp only [Act.put, List.setIfInBounds_toArray, List.set_cons_zero, List.set_cons_succ])
                refine Za.takeL 5 (v := ?vt5) rfl (by kernel_rfl) (by kernel_rfl) (by kernel_rfl) (by kernel_rfl) (fun _ _ _ h => h) (Or.inl ⟨by rfl, ?hyt5⟩) HS ?restt5
                case hyt5 => (intro w hSw; (try dsimp only at hSw); go_simp; try with_reducible rfl)
                (try simp only [Act.put, List.setIfInBounds_toArray, List.set_cons_zero, List.set_cons_succ])
                refine Za.takeL 6 (v := ?vt6) rfl (by kernel_rfl) (by kernel_rfl) (by kernel_rfl) (by kernel_rfl) (fun _ _ _ h => h) (Or.inl ⟨by rfl, ?hyt6⟩) HS ?restt6
                case hyt6 => (intro w hSw; (try dsimp only at hSw); go_simp; try with_reducible rfl)
                (try simp only [Act.put, List.setIfInBounds_toArray, List.set_cons_zero, List.set_cons_succ])
                refine Za.takeL 7 (v := ?vt7) rfl (by kernel_rfl) (by kernel_rfl) (by kernel_rfl) (by kernel_rfl) (fun _ _ _ h => h) (Or.inl ⟨by rfl, ?hyt7⟩) HS ?restt7
                case hyt7 => (intro w hSw; (try dsimp only at hSw); go_simp; try with_reducible rfl)
                (try simp only [Act.put, List.setIfInBounds_toArray, List.set_cons_zero, List.set_cons_succ])
                refine Za.takeL 8 (v := ?vt8) rfl (by kernel_rfl) (by kernel_rfl) (by kernel_rfl) (by kernel_rfl) (fun _ _ _ h => h) (Or.inl ⟨by rfl, ?hyt8⟩) HS ?restt8
                case hyt8 => (intro w hSw; (try dsimp only at hSw); go_simp; try with_reducible rfl)
                (try simp only [Act.put, List.setIfInBounds_toArray, List.set_cons_zero, List.set_cons_succ])
                refine Za.takeL 9 (v := ?vt9) rfl (by kernel_rfl) (by kernel_rfl) (by kernel_rfl) (by kernel_rfl) (fun _ _ _ h => h) (Or.inl ⟨by rfl, ?hyt9⟩) HS ?restt9
                case hyt9 => (intro w hSw; (try dsimp only at hSw); go_simp; try with_reducible rfl)
                (try simp only [Act.put, List.setIfInBounds_toArray, List.set_cons_zero, List.set_cons_succ])
                refine Za.takeL 10 (v := ?vt10) rfl (by kernel_rfl) (by kernel_rfl) (by kernel_rfl) (by kernel_rfl) (fun _ _ _ h => h) (Or.inl ⟨by rfl, ?hyt10⟩) HS ?restt10
                case hyt10 => (intro w hSw; (try dsimp only at hSw); go_simp; try with_reducible rfl)
                (try simp only [Act.put, List.setIfInBounds_toArray, List.set_cons_zero, List.set_cons_succ])
                refine Za.takeL 11 (v := ?vt11) rfl (by kernel_rfl) (by kernel_rfl) (by kernel_rfl) (by kernel_rfl) (fun _ _ _ h => h) (Or.inl ⟨by rfl, ?hyt11⟩) HS ?restt11
                case hyt11 => (intro w hSw; (try dsimp only at hSw); go_simp; try with_reducible rfl)
                (try simp only [Act.put, List.setIfInBounds_toArray, List.set_cons_zero, List.set_cons_succ])
                refine Za.takeL 12 (v := ?vt12) rfl (by kernel_rfl) (by kernel_rfl) (by kernel_rfl) (by kernel_rfl) (fun _ _ _ h => h) (Or.inl ⟨by rfl, ?hyt12⟩) HS ?restt12
                case hyt12 => (intro w hSw; (try dsimp only at hSw); go_simp; try with_reducible rfl)
                (try simp only [Act.put, List.setIfInBounds_toArray, List.set_cons_zero, List.set_cons_succ])
                refine Za.takeL 13 (v := ?vt13) rfl (by kernel_rfl) (by kernel_rfl) (by kernel_rfl) (by kernel_rfl) (fun _ _ _ h => h) (Or.inl ⟨by rfl, ?hyt13⟩) HS ?restt13
                case hyt13 => (intro w hSw; (try dsimp only at hSw); go_simp; try with_reducible rfl)
                (try simp only [Act.put, List.setIfInBounds_toArray, List.set_cons_zero, List.set_cons_succ])
                refine Za.takeL 14 (v := ?vt14) rfl (by kernel_rfl) (by kernel_rfl) (by kernel_rfl) (by kernel_rfl) (fun _ _ _ h => h) (Or.inl ⟨by rfl, ?hyt14⟩) HS ?restt14
                case hyt14 => (intro w hSw; (try dsimp only at hSw); go_simp; try with_reducible rfl)
                (try simp only [Act.put, List.setIfInBounds_toArray, List.set_cons_zero, List.set_cons_succ])
                refine Za.takeL 15 (v := ?vt15) rfl (by kernel_rfl) (by kernel_rfl) (by kernel_rfl) (by kernel_rfl) (fun _ _ _ h => h) (Or.inl ⟨by rfl, ?hyt15⟩) HS ?restt15
                case hyt15 => (intro w hSw; (try dsimp only at hSw); go_simp; try with_reducible rfl)
                (try simp only [Act.put, List.setIfInBounds_toArray, List.set_cons_zero, List.set_cons_succ])
                refine Za.takeL 16 (v := ?vt16) rfl (by kernel_rfl) (by kernel_rfl) (by kernel_rfl) (by kernel_rfl) (fun _ _ _ h => h) (Or.inl ⟨by rfl, ?hyt16⟩) HS ?restt16
                case hyt16 => (intro w hSw; (try dsimp only at hSw); go_simp; try with_reducible rfl)
                (try simp only [Act.put, List.setIfInBounds_toArray, List.set_cons_zero, List.set_cons_succ])
                refine Za.takeL 17 (v := ?vt17) rfl (by kernel_rfl) (by kernel_rfl) (by kernel_rfl) (by kernel_rfl) (fun _ _ _ h => h) (Or.inl ⟨by rfl, ?hyt17⟩) HS ?restt17
                case hyt17 => (intro w hSw; (try dsimp only at hSw); go_simp; try with_reducible rfl)
                (try simp only [Act.put, List.setIfInBounds_toArray, List.set_cons_zero, List.set_cons_succ])
                refine Za.Walk.done (by kernel_rfl) ?_
                (try clear HS)
                go_wp2
                go_roundw
                case rel => exact ⟨i + 1, us, al, so, Y, Gq, cq, Ab, cb', by omega, rfl, by go_num, rfl, HN, ⟨HR.out.below HB0⟩, ⟨HX.out.below HB0⟩, ⟨HY.out.below HB0⟩, ⟨HV.out.below HB0⟩, ⟨HI.out.below HB0⟩, ⟨hWd⟩, ⟨below_then HBw.out HBw.out.size HB0⟩, Nat.lt_of_lt_of_le hvb HB0.size⟩
                case measure => simp [intOf]; omega
              | false =>
                have hmF := hfree.1 hu
                have HNN := Aside0.mk (HM2.out.yes HKA.out.sorted hla hmF (by rw [← HXE.out]; exact hcan))
                have hoY := HM2.out.okY HKA.out HKY.out HOM.out
                have hlY := HM2.out.len HKA.out.sorted HFs.out
                have hoA := HM2.out.okAl HKA.out HKY.out
                rw [hu] at hM1 hgt
                clear hfree hmF
                go_upto_region 22 with fail
                refine Za.regionL (fun w' => (w'.cell? (ada.add (i * 3)) = some (.int .i64 x.f0) ∧ w'.cell? ⟨(ada.add (i * 3)).block, (ada.add (i * 3)).off + 1, none⟩ = some (.int .i64 x.f1) ∧ w'.cell? ⟨(ada.add (i * 3)).block, (ada.add (i * 3)).off + 2, none⟩ = some (.slice A2 x.f2.length c2)) ∧ (w'.cell? (adb.add (k * 3)) = some (.int .i64 y.f0) ∧ w'.cell? ⟨(adb.add (k * 3)).block, (adb.add (k * 3)).off + 1, none⟩ = some (.int .i64 y.f1) ∧ w'.cell? ⟨(adb.add (k * 3)).block, (adb.add (k * 3)).off + 2, none⟩ = some (.slice B2 y.f2.length d2)) ∧ w'.cell? ⟨g, i, none⟩ = some (.bool (false))) [] (by kernel_rfl) ?_
                have HS : (fun w' => (w'.cell? (ada.add (i * 3)) = some (.int .i64 x.f0) ∧ w'.cell? ⟨(ada.add (i * 3)).block, (ada.add (i * 3)).off + 1, none⟩ = some (.int .i64 x.f1) ∧ w'.cell? ⟨(ada.add (i * 3)).block, (ada.add (i * 3)).off + 2, none⟩ = some (.slice A2 x.f2.length c2)) ∧ (w'.cell? (adb.add (k * 3)) = some (.int .i64 y.f0) ∧ w'.cell? ⟨(adb.add (k * 3)).block, (adb.add (k * 3)).off + 1, none⟩ = some (.int .i64 y.f1) ∧ w'.cell? ⟨(adb.add (k * 3)).block, (adb.add (k * 3)).off + 2, none⟩ = some (.slice B2 y.f2.length d2)) ∧ w'.cell? ⟨g, i, none⟩ = some (.bool (false))) wq.drew := ⟨FA.out _ hWd, FB.out _ hWd, hM1⟩
                refine Za.takeL 0 (v := ?vf0) rfl (by kernel_rfl) (by kernel_rfl) (by kernel_rfl) (by kernel_rfl) (fun _ _ _ h => h) (Or.inl ⟨by rfl, ?hyf0⟩) HS ?restf0
                case hyf0 => (intro w hSw; (try dsimp only at hSw); go_simp; try with_reducible rfl)
                (try simp only [Act.put, List.setIfInBounds_toArray, List.set_cons_zero, List.set_cons_succ])
                refine Za.takeL 1 (v := ?vf1) rfl (by kernel_rfl) (by kernel_rfl) (by kernel_rfl) (by kernel_rfl) (fun _ _ _ h => h) (Or.inl ⟨by rfl, ?hyf1⟩) HS ?restf1
                case hyf1 => (intro w hSw; (try dsimp only at hSw); go_simp; try with_reducible rfl)
                (try simp only [Act.put, List.setIfInBounds_toArray, List.set_cons_zero, List.set_cons_succ])
                refine Za.takeL 2 (v := ?vf2) rfl (by kernel_rfl) (by kernel_rfl) (by kernel_rfl) (by kernel_rfl) (fun _ _ _ h => h) (Or.inl ⟨by rfl, ?hyf2⟩) HS ?restf2
                case hyf2 => (intro w hSw; (try dsimp only at hSw); go_simp; try with_reducible rfl)
                (try simp only [Act.put, List.setIfInBounds_toArray, List.set_cons_zero, List.set_cons_succ])
                refine Za.takeL 3 (v := ?vf3) rfl (by kernel_rfl) (by kernel_rfl) (by kernel_rfl) (by kernel_rfl) (fun _ _ _ h => h) (Or.inl ⟨by rfl, ?hyf3⟩) HS ?restf3
                case hyf3 => (intro w hSw; (try dsimp only at hSw); go_simp; try with_reducible rfl)
                (try simp only [Act.put, List.setIfInBounds_toArray, List.set_cons_zero, List.set_cons_succ])
                refine Za.takeL 4 (v := ?vf4) rfl (by kernel_rfl) (by kernel_rfl) (by kernel_rfl) (by kernel_rfl) (fun _ _ _ h => h) (Or.inl ⟨by rfl, ?hyf4⟩) HS ?restf4
                case hyf4 => (intro w hSw; (try dsimp only at hSw); go_simp; try with_reducible rfl)
                (try simp only [Act.put, List.setIfInBounds_toArray, List.set_cons_zero, List.set_cons_succ])
                refine Za.takeL 5 (v := ?vf5) rfl (by kernel_rfl) (by kernel_rfl) (by kernel_rfl) (by kernel_rfl) (fun _ _ _ h => h) (Or.inl ⟨by rfl, ?hyf5⟩) HS ?restf5
                case hyf5 => (intro w hSw; (try dsimp only at hSw); go_simp; try with_reducible rfl)
                (try simp only [Act.put, List.setIfInBounds_toArray, List.set_cons_zero, List.set_cons_succ])
                refine Za.takeL 6 (v := ?vf6) rfl (by kernel_rfl) (by kernel_rfl) (by kernel_rfl) (by kernel_rfl) (fun _ _ _ h => h) (Or.inl ⟨by rfl, ?hyf6⟩) HS ?restf6
                case hyf6 => (intro w hSw; (try dsimp only at hSw); go_simp; try with_reducible rfl)
                (try simp only [Act.put, List.setIfInBounds_toArray, List.set_cons_zero, List.set_cons_succ])
                refine Za.takeL 7 (v := ?vf7) rfl (by kernel_rfl) (by kernel_rfl) (by kernel_rfl) (by kernel_rfl) (fun _ _ _ h => h) (Or.inl ⟨by rfl, ?hyf7⟩) HS ?restf7
                case hyf7 => (intro w hSw; (try dsimp only at hSw); go_simp; try with_reducible rfl)
                (try simp only [Act.put, List.setIfInBounds_toArray, List.set_cons_zero, List.set_cons_succ])
                refine Za.takeL 8 (v := ?vf8) rfl (by kernel_rfl) (by kernel_rfl) (by kernel_rfl) (by kernel_rfl) (fun _ _ _ h => h) (Or.inl ⟨by rfl, ?hyf8⟩) HS ?restf8
                case hyf8 => (intro w hSw; (try dsimp only at hSw); go_simp; try with_reducible rfl)
                (try simp only [Act.put, List.setIfInBounds_toArray, List.set_cons_zero, List.set_cons_succ])
                refine Za.takeL 9 (v := ?vf9) rfl (by kernel_rfl) (by kernel_rfl) (by kernel_rfl) (by kernel_rfl) (fun _ _ _ h => h) (Or.inl ⟨by rfl, ?hyf9⟩) HS ?restf9
                case hyf9 => (intro w hSw; (try dsimp only at hSw); go_simp; try with_reducible rfl)
                (try simp only [Act.put, List.setIfInBounds_toArray, List.set_cons_zero, List.set_cons_succ])
                refine Za.takeL 10 (v := ?vf10) rfl (by kernel_rfl) (by kernel_rfl) (by kernel_rfl) (by kernel_rfl) (fun _ _ _ h => h) (Or.inl ⟨by rfl, ?hyf10⟩) HS ?restf10
                case hyf10 => (intro w hSw; (try dsimp only at hSw); go_simp; try with_reducible rfl)
                (try simp only [Act.put, List.setIfInBounds_toArray, List.set_cons_zero, List.set_cons_succ])
                refine Za.takeL 11 (v := ?vf11) rfl (by kernel_rfl) (by kernel_rfl) (by kernel_rfl) (by kernel_rfl) (fun _ _ _ h => h) (Or.inl ⟨by rfl, ?hyf11⟩) HS ?restf11
                case hyf11 => (intro w hSw; (try dsimp only at hSw); go_simp; try with_reducible rfl)
                (try simp only [Act.put, List.setIfInBounds_toArray, List.set_cons_zero, List.set_cons_succ])
                refine Za.takeL 12 (v := ?vf12) rfl (by kernel_rfl) (by kernel_rfl) (by kernel_rfl) (by kernel_rfl) (fun _ _ _ h => h) (Or.inl ⟨by rfl, ?hyf12⟩) HS ?restf12
                case hyf12 => (intro w hSw; (try dsimp only at hSw); go_simp; try with_reducible rfl)
                (try simp only [Act.put, List.setIfInBounds_toArray, List.set_cons_zero, List.set_cons_succ])
                refine Za.takeL 13 (v := ?vf13) rfl (by kernel_rfl) (by kernel_rfl) (by kernel_rfl) (by kernel_rfl) (fun _ _ _ h => h) (Or.inl ⟨by rfl, ?hyf13⟩) HS ?restf13
                case hyf13 => (intro w hSw; (try dsimp only at hSw); go_simp; try with_reducible rfl)
                (try simp only [Act.put, List.setIfInBounds_toArray, List.set_cons_zero, List.set_cons_succ])
                refine Za.takeL 14 (v := ?vf14) rfl (by kernel_rfl) (by kernel_rfl) (by kernel_rfl) (by kernel_rfl) (fun _ _ _ h => h) (Or.inl ⟨by rfl, ?hyf14⟩) HS ?restf14
                case hyf14 => (intro w hSw; (try dsimp only at hSw); go_simp; try with_reducible rfl)
                (try simp only [Act.put, List.setIfInBounds_toArray, List.set_cons_zero, List.set_cons_succ])
                refine Za.takeL 15 (v := ?vf15) rfl (by kernel_rfl) (by kernel_rfl) (by kernel_rfl) (by kernel_rfl) (fun _ _ _ h => h) (Or.inl ⟨by rfl, ?hyf15⟩) HS ?restf15
                case hyf15 => (intro w hSw; (try dsimp only at hSw); go_simp; try with_reducible rfl)
                (try simp only [Act.put, List.setIfInBounds_toArray, List.set_cons_zero, List.set_cons_succ])
                refine Za.takeL 16 (v := ?vf16) rfl (by kernel_rfl) (by kernel_rfl) (by kernel_rfl) (by kernel_rfl) (fun _ _ _ h => h) (Or.inl ⟨by rfl, ?hyf16⟩) HS ?restf16
                case hyf16 => (intro w hSw; (try dsimp only at hSw); go_simp; try with_reducible rfl)
                (try simp only [Act.put, List.setIfInBounds_toArray, List.set_cons_zero, List.set_cons_succ])
                refine Za.takeL 17 (v := ?vf17) rfl (by kernel_rfl) (by kernel_rfl) (by kernel_rfl) (by kernel_rfl) (fun _ _ _ h => h) (Or.inl ⟨by rfl, ?hyf17⟩) HS ?restf17
                case hyf17 => (intro w hSw; (try dsimp only at hSw); go_simp; try with_reducible rfl)
                (try simp only [Act.put, List.setIfInBounds_toArray, List.set_cons_zero, List.set_cons_succ])
                refine Za.Walk.done (by kernel_rfl) ?_
                (try clear HS)
                have hmd : MarksAt wq.drew W.heap.size g cap us := HMK.out.drew
                have hgt2 : wq.drew.cell? ⟨g, i, none⟩ = some (.bool false) ∧ wq.drew.frozen? ⟨g, i, none⟩ = false := hgt
                go_upto_region 25 with fail
                have hsd : ∀ n : Nat, n ≤ n := fun n => Nat.le_refl n
                have HD : Below (wq.setCell ⟨g, i, none⟩ (.bool true)).heap.size (wq.setCell ⟨g, i, none⟩ (.bool true)) (wq.setCell ⟨g, i, none⟩ (.bool true)).drew := below_drew (Below.refl _ _)
                have HRs := Aside0.mk ((HMK.out.set i).below HD)
                have HXs := Aside0.mk ((HX.out.mark HMK.out i).below HD)
                have HYs := Aside0.mk ((HY.out.mark HMK.out i).below HD)
                have HVs := Aside0.mk ((HV.out.mark HMK.out i).below HD)
                have HIs := Aside0.mk ((HI.out.mark HMK.out i).below HD)
                have hs1 := mark_below HBn.out HMK.out i
                have hs2 : Below w.heap.size w (wq.setCell ⟨g, i, none⟩ (.bool true)) := HBw.out.setCell (p := ⟨g, i, none⟩) (Nat.le_trans HBel5.out.size HMK.out.ge) (.bool true)
                have HSn := Aside0.mk (below_then hs1 hs1.size HD)
                have HSw := Aside0.mk (below_then hs2 hs2.size HD)
                have hvs : wo.heap.size < (wq.setCell ⟨g, i, none⟩ (.bool true)).drew.heap.size := by
                  have h8 := HD.size
                  have h9 : (wq.setCell ⟨g, i, none⟩ (.bool true)).heap.size = wq.heap.size := by simp
                  omega
                clear HX HY HV HI HR HMK hmd hgt2 hgt hM1 hWd HBn HBw HB0 hs1 hs2 HD hsd
                generalize (wq.setCell ⟨g, i, none⟩ (.bool true)).drew = w9 at HRs HXs HYs HVs HIs HSn HSw hvs ⊢
                have HB0 : Below w9.heap.size w9 w9.drew := below_drew (Below.refl _ _)
                have hbx := (HVs.out.below HB0).cells
                have HF25 : Aside0 (∀ w', Below w9.heap.size w9 w' → (fun w' => (w'.cell? (ada.add (i * 3)) = some (.int .i64 x.f0) ∧ w'.cell? ⟨(ada.add (i * 3)).block, (ada.add (i * 3)).off + 1, none⟩ = some (.int .i64 x.f1) ∧ w'.cell? ⟨(ada.add (i * 3)).block, (ada.add (i * 3)).off + 2, none⟩ = some (.slice A2 x.f2.length c2)) ∧ (w'.cell? ⟨wo.heap.size, 0, none⟩ = some (.int .i64 al.f0) ∧ w'.cell? ⟨wo.heap.size, 1, none⟩ = some (.int .i64 al.f1) ∧ w'.cell? ⟨wo.heap.size, 2, none⟩ = some (.slice Ab al.f2.length cb'))) w') := ⟨fun w' h => ⟨FA.out _ (below_then HSn.out HSn.out.size h), (HVs.out.below h).cells⟩⟩
                have HJ := Aside0.mk (joinO_ok hoA HKX.out)
                have HJL := Aside0.mk (isOk_big hoA)
                have HKXL := Aside0.mk (isOk_big HKX.out)
                have HZ := Aside0.mk (joinO_ok HKX.out HKY.out)
                have HZL := Aside0.mk (isOk_big (isOk_join HKX.out HKY.out))
                have HKYL := Aside0.mk (isOk_big HKY.out)
                have HP := Aside0.mk (putO_ok hoY (by omega) (isOk_join HKX.out HKY.out))
                have HPB := Aside0.mk (fun z hz => isOk_big (hoY.all z hz))
                clear hbx hoA hoY
                refine Za.regionL (fun w' => (w'.cell? (ada.add (i * 3)) = some (.int .i64 x.f0) ∧ w'.cell? ⟨(ada.add (i * 3)).block, (ada.add (i * 3)).off + 1, none⟩ = some (.int .i64 x.f1) ∧ w'.cell? ⟨(ada.add (i * 3)).block, (ada.add (i * 3)).off + 2, none⟩ = some (.slice A2 x.f2.length c2)) ∧ (w'.cell? ⟨wo.heap.size, 0, none⟩ = some (.int .i64 al.f0) ∧ w'.cell? ⟨wo.heap.size, 1, none⟩ = some (.int .i64 al.f1) ∧ w'.cell? ⟨wo.heap.size, 2, none⟩ = some (.slice Ab al.f2.length cb'))) [6] (by kernel_rfl) ?_
                have HS : (fun w' => (w'.cell? (ada.add (i * 3)) = some (.int .i64 x.f0) ∧ w'.cell? ⟨(ada.add (i * 3)).block, (ada.add (i * 3)).off + 1, none⟩ = some (.int .i64 x.f1) ∧ w'.cell? ⟨(ada.add (i * 3)).block, (ada.add (i * 3)).off + 2, none⟩ = some (.slice A2 x.f2.length c2)) ∧ (w'.cell? ⟨wo.heap.size, 0, none⟩ = some (.int .i64 al.f0) ∧ w'.cell? ⟨wo.heap.size, 1, none⟩ = some (.int .i64 al.f1) ∧ w'.cell? ⟨wo.heap.size, 2, none⟩ = some (.slice Ab al.f2.length cb'))) w9.drew := HF25.out _ HB0
                refine Za.takeL 0 (v := ?vs0) rfl (by kernel_rfl) (by kernel_rfl) (by kernel_rfl) (by kernel_rfl) (fun _ _ _ h => h) (Or.inl ⟨by rfl, ?hys0⟩) HS ?rests0
                case hys0 => (intro w hSw; (try dsimp only at hSw); go_simp; try with_reducible rfl)
                (try simp only [Act.put, List.setIfInBounds_toArray, List.set_cons_zero, List.set_cons_succ])
                refine Za.takeL 1 (v := ?vs1) rfl (by kernel_rfl) (by kernel_rfl) (by kernel_rfl) (by kernel_rfl) (fun _ _ _ h => h) (Or.inl ⟨by rfl, ?hys1⟩) HS ?rests1
                case hys1 => (intro w hSw; (try dsimp only at hSw); go_simp; try with_reducible rfl)
                (try simp only [Act.put, List.setIfInBounds_toArray, List.set_cons_zero, List.set_cons_succ])
                refine Za.takeL 2 (v := ?vs2) rfl (by kernel_rfl) (by kernel_rfl) (by kernel_rfl) (by kernel_rfl) (fun _ _ _ h => h) (Or.inl ⟨by rfl, ?hys2⟩) HS ?rests2
                case hys2 => (intro w hSw; (try dsimp only at hSw); go_simp; try with_reducible rfl)
                (try simp only [Act.put, List.setIfInBounds_toArray, List.set_cons_zero, List.set_cons_succ])
                refine Za.takeL 3 (v := ?vs3) rfl (by kernel_rfl) (by kernel_rfl) (by kernel_rfl) (by kernel_rfl) (fun _ _ _ h => h) (Or.inl ⟨by rfl, ?hys3⟩) HS ?rests3
                case hys3 => (intro w hSw; (try dsimp only at hSw); go_simp; try with_reducible rfl)
                (try simp only [Act.put, List.setIfInBounds_toArray, List.set_cons_zero, List.set_cons_succ])
                refine Za.takeL 4 (v := ?vs4) rfl (by kernel_rfl) (by kernel_rfl) (by kernel_rfl) (by kernel_rfl) (fun _ _ _ h => h) (Or.inl ⟨by rfl, ?hys4⟩) HS ?rests4
                case hys4 => (intro w hSw; (try dsimp only at hSw); go_simp; try with_reducible rfl)
                (try simp only [Act.put, List.setIfInBounds_toArray, List.set_cons_zero, List.set_cons_succ])
                clear HS
                refine Za.nextL 5 (by kernel_rfl) rfl (fun K' hK => ?_)
                go_simp
                (go_at_call 26; refine (iJoinR al x (join al x) _ _ _ _ _ HJ.out HJL.out HKXL.out (HIs.out.isO HSn.out |>.below HB0) (HIX.out.below (below_then HSn.out HSn.out.size HB0))).mono ?_; rintro e w7 ⟨J, cj, rfl, hj7, hb4⟩; have HB4 : Below w9.heap.size w9 w7 := keepD hb4; have HJ4 := Aside0.mk hj7; clear hj7 hb4)
                go_wp2_with fail
                refine hK.out _ _ ⟨fun _ => HF25.out _ HB4, ?_⟩
                clear hK K'
                (try simp only [Act.put, List.setIfInBounds_toArray, List.set_cons_zero, List.set_cons_succ])
                have HS : (fun w' => (w'.cell? (ada.add (i * 3)) = some (.int .i64 x.f0) ∧ w'.cell? ⟨(ada.add (i * 3)).block, (ada.add (i * 3)).off + 1, none⟩ = some (.int .i64 x.f1) ∧ w'.cell? ⟨(ada.add (i * 3)).block, (ada.add (i * 3)).off + 2, none⟩ = some (.slice A2 x.f2.length c2)) ∧ (w'.cell? ⟨wo.heap.size, 0, none⟩ = some (.int .i64 al.f0) ∧ w'.cell? ⟨wo.heap.size, 1, none⟩ = some (.int .i64 al.f1) ∧ w'.cell? ⟨wo.heap.size, 2, none⟩ = some (.slice Ab al.f2.length cb'))) w7 := HF25.out _ HB4
                clear HS
                have hb7 : BoxAt w7 wo.heap.size Ab cb' al := HVs.out.below HB4
                have hs0 := hb7.cells.1
                have hs1 := hb7.cells.2.1
                have hs2 := hb7.cells.2.2
                have hf0 := blk_frozen hb7 0
                have hf1 := blk_frozen hb7 1
                have hf2 := blk_frozen hb7 2
                refine Za.nextL 6 (by kernel_rfl) rfl (fun K' hK => ?_)
                go_simp
                refine hK.out _ _ ⟨fun h => absurd (by simp) h, ?_⟩
                clear hK K' hs0 hs1 hs2 hf0 hf1 hf2
                (try simp only [Act.put, List.setIfInBounds_toArray, List.set_cons_zero, List.set_cons_succ])
                refine Za.Walk.done (by kernel_rfl) ?_
                (try clear HS)
                have HRa := Aside0.mk (RBs.set (HRs.out.below HB4) hb7 (.int .i64 (join al x).f0) (.int .i64 (join al x).f1) (.slice J (join al x).f2.length cj))
                have HXa := Aside0.mk ((HXs.out.below HB4).set (.int .i64 (join al x).f0) (.int .i64 (join al x).f1) (.slice J (join al x).f2.length cj))
                have HYa := Aside0.mk ((HYs.out.below HB4).set (.int .i64 (join al x).f0) (.int .i64 (join al x).f1) (.slice J (join al x).f2.length cj))
                have HVa := Aside0.mk (box_set (A2 := J) (c2 := cj) (o2 := join al x) hb7)
                have HIa := Aside0.mk (IdsAt.set (W := W) hb7 HJ4.out (.int .i64 (join al x).f0) (.int .i64 (join al x).f1) (.slice J (join al x).f2.length cj))
                have HSna := Aside0.mk (set3_below (below_then HSn.out HSn.out.size HB4) hWo (.int .i64 (join al x).f0) (.int .i64 (join al x).f1) (.slice J (join al x).f2.length cj))
                have HSwa := Aside0.mk (set3_below (below_then HSw.out HSw.out.size HB4) (Nat.le_trans HBel5.out.size hWo) (.int .i64 (join al x).f0) (.int .i64 (join al x).f1) (.slice J (join al x).f2.length cj))
                have hva : wo.heap.size < (set3 w7 wo.heap.size (.int .i64 (join al x).f0) (.int .i64 (join al x).f1) (.slice J (join al x).f2.length cj)).heap.size := by
                  have h8 := HB4.size
                  have h9 : (set3 w7 wo.heap.size (.int .i64 (join al x).f0) (.int .i64 (join al x).f1) (.slice J (join al x).f2.length cj)).heap.size = w7.heap.size := by simp [set3]
                  omega
                clear HRs HXs HYs HVs HIs HSn HSw hvs hb7 HB0 HF25
                generalize hw10 : ((w7.setCell ⟨wo.heap.size, 0, none⟩ (.int .i64 (join al x).f0)).setCell ⟨wo.heap.size, 1, none⟩ (.int .i64 (join al x).f1)).setCell ⟨wo.heap.size, 2, none⟩ (.slice J (join al x).f2.length cj) = w10
                have e10 : set3 w7 wo.heap.size (.int .i64 (join al x).f0) (.int .i64 (join al x).f1) (.slice J (join al x).f2.length cj) = w10 := hw10
                rw [e10] at HRa HXa HYa HVa HIa HSna HSwa hva
                clear e10 hw10 HJ4 HB4
                have HRs := HRa
                have HXs := HXa
                have HYs := HYa
                have HVs := HVa
                have HIs := HIa
                have HSn := HSna
                have HSw := HSwa
                have hvs := hva
                clear HRa HXa HYa HVa HIa HSna HSwa hva
                go_upto_region 26 with fail
                have HB0 : Below w10.heap.size w10 w10.drew := below_drew (Below.refl _ _)
                have HF26 : Aside0 (∀ w', Below w10.heap.size w10 w' → (fun w' => (w'.cell? (ada.add (i * 3)) = some (.int .i64 x.f0) ∧ w'.cell? ⟨(ada.add (i * 3)).block, (ada.add (i * 3)).off + 1, none⟩ = some (.int .i64 x.f1) ∧ w'.cell? ⟨(ada.add (i * 3)).block, (ada.add (i * 3)).off + 2, none⟩ = some (.slice A2 x.f2.length c2)) ∧ (w'.cell? (adb.add (k * 3)) = some (.int .i64 y.f0) ∧ w'.cell? ⟨(adb.add (k * 3)).block, (adb.add (k * 3)).off + 1, none⟩ = some (.int .i64 y.f1) ∧ w'.cell? ⟨(adb.add (k * 3)).block, (adb.add (k * 3)).off + 2, none⟩ = some (.slice B2 y.f2.length d2))) w') := ⟨fun w' h => ⟨FA.out _ (below_then HSn.out HSn.out.size h), FB.out _ (below_then HSn.out HSn.out.size h)⟩⟩
                refine Za.regionL (fun w' => (w'.cell? (ada.add (i * 3)) = some (.int .i64 x.f0) ∧ w'.cell? ⟨(ada.add (i * 3)).block, (ada.add (i * 3)).off + 1, none⟩ = some (.int .i64 x.f1) ∧ w'.cell? ⟨(ada.add (i * 3)).block, (ada.add (i * 3)).off + 2, none⟩ = some (.slice A2 x.f2.length c2)) ∧ (w'.cell? (adb.add (k * 3)) = some (.int .i64 y.f0) ∧ w'.cell? ⟨(adb.add (k * 3)).block, (adb.add (k * 3)).off + 1, none⟩ = some (.int .i64 y.f1) ∧ w'.cell? ⟨(adb.add (k * 3)).block, (adb.add (k * 3)).off + 2, none⟩ = some (.slice B2 y.f2.length d2))) [] (by kernel_rfl) ?_
                have HS : (fun w' => (w'.cell? (ada.add (i * 3)) = some (.int .i64 x.f0) ∧ w'.cell? ⟨(ada.add (i * 3)).block, (ada.add (i * 3)).off + 1, none⟩ = some (.int .i64 x.f1) ∧ w'.cell? ⟨(ada.add (i * 3)).block, (ada.add (i * 3)).off + 2, none⟩ = some (.slice A2 x.f2.length c2)) ∧ (w'.cell? (adb.add (k * 3)) = some (.int .i64 y.f0) ∧ w'.cell? ⟨(adb.add (k * 3)).block, (adb.add (k * 3)).off + 1, none⟩ = some (.int .i64 y.f1) ∧ w'.cell? ⟨(adb.add (k * 3)).block, (adb.add (k * 3)).off + 2, none⟩ = some (.slice B2 y.f2.length d2))) w10.drew := HF26.out _ HB0
                refine Za.takeL 0 (v := ?vv0) rfl (by kernel_rfl) (by kernel_rfl) (by kernel_rfl) (by kernel_rfl) (fun _ _ _ h => h) (Or.inl ⟨by rfl, ?hyv0⟩) HS ?restv0
                case hyv0 => (intro w hSw; (try dsimp only at hSw); go_simp; try with_reducible rfl)
                (try simp only [Act.put, List.setIfInBounds_toArray, List.set_cons_zero, List.set_cons_succ])
                refine Za.takeL 1 (v := ?vv1) rfl (by kernel_rfl) (by kernel_rfl) (by kernel_rfl) (by kernel_rfl) (fun _ _ _ h => h) (Or.inl ⟨by rfl, ?hyv1⟩) HS ?restv1
                case hyv1 => (intro w hSw; (try dsimp only at hSw); go_simp; try with_reducible rfl)
                (try simp only [Act.put, List.setIfInBounds_toArray, List.set_cons_zero, List.set_cons_succ])
                refine Za.takeL 2 (v := ?vv2) rfl (by kernel_rfl) (by kernel_rfl) (by kernel_rfl) (by kernel_rfl) (fun _ _ _ h => h) (Or.inl ⟨by rfl, ?hyv2⟩) HS ?restv2
                case hyv2 => (intro w hSw; (try dsimp only at hSw); go_simp; try with_reducible rfl)
                (try simp only [Act.put, List.setIfInBounds_toArray, List.set_cons_zero, List.set_cons_succ])
                refine Za.takeL 3 (v := ?vv3) rfl (by kernel_rfl) (by kernel_rfl) (by kernel_rfl) (by kernel_rfl) (fun _ _ _ h => h) (Or.inl ⟨by rfl, ?hyv3⟩) HS ?restv3
                case hyv3 => (intro w hSw; (try dsimp only at hSw); go_simp; try with_reducible rfl)
                (try simp only [Act.put, List.setIfInBounds_toArray, List.set_cons_zero, List.set_cons_succ])
                refine Za.takeL 4 (v := ?vv4) rfl (by kernel_rfl) (by kernel_rfl) (by kernel_rfl) (by kernel_rfl) (fun _ _ _ h => h) (Or.inl ⟨by rfl, ?hyv4⟩) HS ?restv4
                case hyv4 => (intro w hSw; (try dsimp only at hSw); go_simp; try with_reducible rfl)
                (try simp only [Act.put, List.setIfInBounds_toArray, List.set_cons_zero, List.set_cons_succ])
                refine Za.takeL 5 (v := ?vv5) rfl (by kernel_rfl) (by kernel_rfl) (by kernel_rfl) (by kernel_rfl) (fun _ _ _ h => h) (Or.inl ⟨by rfl, ?hyv5⟩) HS ?restv5
                case hyv5 => (intro w hSw; (try dsimp only at hSw); go_simp; try with_reducible rfl)
                (try simp only [Act.put, List.setIfInBounds_toArray, List.set_cons_zero, List.set_cons_succ])
                refine Za.takeL 6 (v := ?vv6) rfl (by kernel_rfl) (by kernel_rfl) (by kernel_rfl) (by kernel_rfl) (fun _ _ _ h => h) (Or.inl ⟨by rfl, ?hyv6⟩) HS ?restv6
                case hyv6 => (intro w hSw; (try dsimp only at hSw); go_simp; try with_reducible rfl)
                (try simp only [Act.put, List.setIfInBounds_toArray, List.set_cons_zero, List.set_cons_succ])
                refine Za.takeL 7 (v := ?vv7) rfl (by kernel_rfl) (by kernel_rfl) (by kernel_rfl) (by kernel_rfl) (fun _ _ _ h => h) (Or.inl ⟨by rfl, ?hyv7⟩) HS ?restv7
                case hyv7 => (intro w hSw; (try dsimp only at hSw); go_simp; try with_reducible rfl)
                (try simp only [Act.put, List.setIfInBounds_toArray, List.set_cons_zero, List.set_cons_succ])
                refine Za.takeL 8 (v := ?vv8) rfl (by kernel_rfl) (by kernel_rfl) (by kernel_rfl) (by kernel_rfl) (fun _ _ _ h => h) (Or.inl ⟨by rfl, ?hyv8⟩) HS ?restv8
                case hyv8 => (intro w hSw; (try dsimp only at hSw); go_simp; try with_reducible rfl)
                (try simp only [Act.put, List.setIfInBounds_toArray, List.set_cons_zero, List.set_cons_succ])
                clear HS
                refine Za.nextL 9 (by kernel_rfl) rfl (fun K' hK => ?_)
                go_simp
                (go_at_call 26; refine (iJoin x y (join x y) _ _ _ _ _ HZ.out HKXL.out HKYL.out (HIX.out.below (below_then HSn.out HSn.out.size HB0)) (HIY.out.below (below_then HSn.out HSn.out.size HB0))).mono ?_; rintro e w11 ⟨J2, cj2, rfl, hj7, hb4⟩; have HB4 : Below w10.heap.size w10 w11 := keepD hb4; have HJ5 := Aside0.mk hj7; clear hj7 hb4)
                go_wp2_with fail
                refine hK.out _ _ ⟨fun _ => HF26.out _ HB4, ?_⟩
                clear hK K'
                (try simp only [Act.put, List.setIfInBounds_toArray, List.set_cons_zero, List.set_cons_succ])
                have HS : (fun w' => (w'.cell? (ada.add (i * 3)) = some (.int .i64 x.f0) ∧ w'.cell? ⟨(ada.add (i * 3)).block, (ada.add (i * 3)).off + 1, none⟩ = some (.int .i64 x.f1) ∧ w'.cell? ⟨(ada.add (i * 3)).block, (ada.add (i * 3)).off + 2, none⟩ = some (.slice A2 x.f2.length c2)) ∧ (w'.cell? (adb.add (k * 3)) = some (.int .i64 y.f0) ∧ w'.cell? ⟨(adb.add (k * 3)).block, (adb.add (k * 3)).off + 1, none⟩ = some (.int .i64 y.f1) ∧ w'.cell? ⟨(adb.add (k * 3)).block, (adb.add (k * 3)).off + 2, none⟩ = some (.slice B2 y.f2.length d2))) w11 := HF26.out _ HB4
                clear HS
                refine Za.nextL 10 (by kernel_rfl) rfl (fun K' hK => ?_)
                go_simp
                (go_at_call 25; refine (iPutR Gq J2 cq cj2 Y (put Y (join x y)) (join x y) _ HP.out (by omega) HZL.out HPB.out (HYs.out.isL.below HB4) HJ5.out).mono ?_; rintro e w12 ⟨Pq, cpq, rfl, hp7, hb5⟩; have HB5 : Below w10.heap.size w10 w12 := below_then HB4 HB4.size hb5; have HP5 := Aside0.mk (RX.of_new hp7 (Nat.lt_of_lt_of_le hvs HB4.size)); clear hp7 hb5)
                go_wp2_with fail
                refine hK.out _ _ ⟨fun _ => HF26.out _ HB5, ?_⟩
                clear hK K'
                (try simp only [Act.put, List.setIfInBounds_toArray, List.set_cons_zero, List.set_cons_succ])
                have HS : (fun w' => (w'.cell? (ada.add (i * 3)) = some (.int .i64 x.f0) ∧ w'.cell? ⟨(ada.add (i * 3)).block, (ada.add (i * 3)).off + 1, none⟩ = some (.int .i64 x.f1) ∧ w'.cell? ⟨(ada.add (i * 3)).block, (ada.add (i * 3)).off + 2, none⟩ = some (.slice A2 x.f2.length c2)) ∧ (w'.cell? (adb.add (k * 3)) = some (.int .i64 y.f0) ∧ w'.cell? ⟨(adb.add (k * 3)).block, (adb.add (k * 3)).off + 1, none⟩ = some (.int .i64 y.f1) ∧ w'.cell? ⟨(adb.add (k * 3)).block, (adb.add (k * 3)).off + 2, none⟩ = some (.slice B2 y.f2.length d2))) w12 := HF26.out _ HB5
                refine Za.takeL 11 (v := ?vv11) rfl (by kernel_rfl) (by kernel_rfl) (by kernel_rfl) (by kernel_rfl) (fun _ _ _ h => h) (Or.inl ⟨by rfl, ?hyv11⟩) HS ?restv11
                case hyv11 => (intro w hSw; (try dsimp only at hSw); go_simp; try with_reducible rfl)
                (try simp only [Act.put, List.setIfInBounds_toArray, List.set_cons_zero, List.set_cons_succ])
                refine Za.Walk.done (by kernel_rfl) ?_
                (try clear HS)
                have HN : Aside0 (Mid a F (us.set i true) y (i + 1) (join al x) true M (put Y (join x y))) := ⟨by rw [HXE.out]; exact HNN.out⟩
                have HR2 := Aside0.mk (HRs.out.below HB5)
                have HX2 := Aside0.mk (HXs.out.below HB5)
                have HV2 := Aside0.mk (HVs.out.below HB5)
                have HI2 := Aside0.mk (HIs.out.below HB5)
                have HB2 := Aside0.mk (below_then HSn.out HSn.out.size HB5)
                have HW2 := Aside0.mk (below_then HSw.out HSw.out.size HB5)
                have hv2 := Nat.lt_of_lt_of_le hvs HB5.size
                clear HP HNN
                generalize put Y (join x y) = Y2 at *
                generalize join al x = al2 at *
                go_wp2
                go_roundw
                case rel => exact ⟨i + 1, us.set i true, al2, true, Y2, Pq, cpq, J, cj, by omega, rfl, by go_num, rfl, HN, HR2, HX2, HP5, HV2, HI2, HB2, HW2, hv2⟩
                case measure => simp [intOf]; omega
          · have hie : i = a.length := by omega
            subst hie
            have g2 : decide (a.length < a.length) = false := decide_eq_false (by omega)
            obtain ⟨hs3, hs4, hu2⟩ := HM2.out.step HKA.out HKY.out (L := L) HU0.out HOM.out.sorted
            have HN2 := Aside0.mk (HS2.out.trans hs3)
            have HN1 := Aside0.mk (HS1.out.trans hs4)
            have HUn := Aside0.mk hu2
            have hoA := HM2.out.okAl HKA.out HKY.out
            have HP := Aside0.mk (putO_ok HOL.out (by have := HKBn.out; simp; omega) hoA)
            have HJL := Aside0.mk (isOk_big hoA)
            have HPB := Aside0.mk (fun z hz => isOk_big (HOL.out.all z hz))
            have hbx := HV.out.cells
            clear hs3 hs4 hu2 hoA
            cases so with
            | false =>
              go_wp2
              go_roundw
              case rel => exact ⟨k + 1, L, Gx, cx, without F (F.filter (before y)), Y, Gq, cq, us, by omega, by go_num, rfl, rfl, HN1, HN2, HUn, HR, ⟨⟨HX.out.out⟩⟩, ⟨⟨HY.out.out⟩⟩, HBn, HBw⟩
              case measure => simp [intOf]; omega
            | true =>
              have hs0 := hbx.1
              have hs1 := hbx.2.1
              have hs2 := hbx.2.2
              clear hbx
              go_wp2_with (go_at_call 25; refine (iPutR Gx Ab cx cb' L (put L al) al _ HP.out (by omega) HJL.out HPB.out HX.out.isL (HI.out.isO HBn.out)).mono ?_; rintro e w11 ⟨P, cp, rfl, hp7, hb5⟩; have HB5 := Aside0.mk hb5; have HP5 := Aside0.mk (RL.mk ⟨_, hp7⟩); clear hp7 hb5)
              have HR2 := Aside0.mk (HR.out.below HB5.out)
              have HY2 : Aside0 (RL w11 Gq cq Y) := ⟨⟨(HY.out.below HB5.out).out⟩⟩
              have HB2 := Aside0.mk (below_then HBn.out HBn.out.size HB5.out)
              have HW2 := Aside0.mk (below_then HBw.out HBw.out.size HB5.out)
              go_roundw
              case rel => exact ⟨k + 1, put L al, P, cp, without F (F.filter (before y)), Y, Gq, cq, us, by omega, by go_num, rfl, rfl, HN1, HN2, HUn, HR2, HP5, HY2, HB2, HW2⟩
              case measure => simp [intOf]; omega
      · have hke : k = b.length := by omega
        subst hke
        have g1 : decide (b.length < b.length) = false := decide_eq_false (by omega)
        have hL := upto_all (mode := 4) (a := a) (b := b)
        have hM := upto_all (mode := 3) (a := a) (b := b)
        rw [HL.out] at hL
        rw [HM.out] at hM
        have HEQ1 : Aside0 (l = L) := ⟨HLS.out.trans hL.symm⟩
        have HM2 : Aside0 (M = sq 3 a b) := ⟨hM⟩
        clear hL hM
        rcases HC2.out with hp2 | hp2
        · subst hp2
          go_wp2_with (go_at_call 17; refine (occsSame_any _ _ _ _ _ _ _ (L1_5.out.below HBn.out).rd HX.out.isL.rd).mono ?_; rintro e wz ⟨rfl, hbz⟩; rw [decide_eq_true HEQ1.out]; have HBz := Aside0.mk hbz; clear hbz)
          go_ret
          exact ⟨rfl, below_then HBw.out HBw.out.size HBz.out⟩
        · subst hp2
          have HEQ2 : Aside0 (sq 3 a b = M) := ⟨HM2.out.symm⟩
          generalize sq 3 a b = l2 at *
          go_wp2_with (first | (go_at_call 17; have HBy := HBz.out; refine (occsSame_any _ _ _ _ _ _ _ ((L4_5.out.below HBn.out).below HBz.out).rd (HY.out.isL.below HBz.out).rd).mono ?_; rintro e wy ⟨rfl, hby⟩; rw [decide_eq_true HEQ2.out]; have HBy := Aside0.mk hby; clear hby) | (go_at_call 17; refine (occsSame_any _ _ _ _ _ _ _ (L1_5.out.below HBn.out).rd HX.out.isL.rd).mono ?_; rintro e wz ⟨rfl, hbz⟩; rw [decide_eq_true HEQ1.out]; have HBz := Aside0.mk hbz; clear hbz))
          go_ret
          exact ⟨rfl, below_then HBw.out HBw.out.size (below_then HBz.out HBz.out.size HBy.out)⟩
end Go.Proofs.YtjeojdbfpncnkaaGreat.Wi


/- FnSeqAlgebra: the walk. -/
import Derived.Test.YtjeojdbfpncnkaaGreatPz
import Derived.Test.YtjeojdbfpncnkaaGreatB7
import Derived.Test.YtjeojdbfpncnkaaGreatB6
import Derived.Test.YtjeojdbfpncnkaaGreatB2
set_option linter.unusedVariables false
set_option linter.unusedSimpArgs false
namespace Go.Proofs.YtjeojdbfpncnkaaGreat.Wg
open Go.RowKit Go.Proofs.YtjeojdbfpncnkaaGreatW.PrintWords Go.Proofs.YtjeojdbfpncnkaaGreat.Wd Go.Proofs.YtjeojdbfpncnkaaGreat.Pu Go.Proofs.YtjeojdbfpncnkaaGreat.Pv Go.Proofs.YtjeojdbfpncnkaaGreat.Ca Go.Proofs.YtjeojdbfpncnkaaGreat.Cb Go.Proofs.YtjeojdbfpncnkaaGreat.Cc Go.Proofs.YtjeojdbfpncnkaaGreat.Cp Go.Proofs.YtjeojdbfpncnkaaGreat.Cd Go.Proofs.YtjeojdbfpncnkaaGreat.Ci Go.Proofs.YtjeojdbfpncnkaaGreat.Ce Go.Proofs.YtjeojdbfpncnkaaGreat.Cf Go.Proofs.YtjeojdbfpncnkaaGreat.Cg Go.Proofs.YtjeojdbfpncnkaaGreat.Sc Go.Proofs.YtjeojdbfpncnkaaGreat.Se Go.Proofs.YtjeojdbfpncnkaaGreat.Sh Go.Proofs.YtjeojdbfpncnkaaGreat.Si Go.Proofs.YtjeojdbfpncnkaaGreat.Sp Go.Proofs.YtjeojdbfpncnkaaGreat.Ia Go.Proofs.YtjeojdbfpncnkaaGreat.Ib Go.Proofs.YtjeojdbfpncnkaaGreat.Ic Go.Proofs.YtjeojdbfpncnkaaGreat.Id Go.Proofs.YtjeojdbfpncnkaaGreat.Ie Go.Proofs.YtjeojdbfpncnkaaGreat.If Go.Proofs.YtjeojdbfpncnkaaGreat.Ig Go.Proofs.YtjeojdbfpncnkaaGreat.Ih Go.Proofs.YtjeojdbfpncnkaaGreat.Ij Go.Proofs.YtjeojdbfpncnkaaGreat.Ik Go.Proofs.YtjeojdbfpncnkaaGreat.Ra Go.Proofs.YtjeojdbfpncnkaaGreat.Rb Go.Proofs.YtjeojdbfpncnkaaGreat.Rc Go.Proofs.YtjeojdbfpncnkaaGreat.Rd Go.Proofs.YtjeojdbfpncnkaaGreat.Re Go.Proofs.YtjeojdbfpncnkaaGreat.Sj Go.Proofs.YtjeojdbfpncnkaaGreat.Ya Go.Proofs.YtjeojdbfpncnkaaGreat.Yd Go.Proofs.YtjeojdbfpncnkaaGreat.Yf Go.Proofs.YtjeojdbfpncnkaaGreat.Yg Go.Proofs.YtjeojdbfpncnkaaGreat.Ih Go.Proofs.YtjeojdbfpncnkaaGreat.Yh Go.Proofs.YtjeojdbfpncnkaaGreat.Yi Go.Proofs.YtjeojdbfpncnkaaGreat.Sg Go.Proofs.YtjeojdbfpncnkaaGreat.Sf Go.Proofs.YtjeojdbfpncnkaaGreat.Yj Go.Proofs.YtjeojdbfpncnkaaGreat.Ig Go.Proofs.YtjeojdbfpncnkaaGreat.Yk Go.Proofs.YtjeojdbfpncnkaaGreat.Ik Go.Proofs.YtjeojdbfpncnkaaGreat.Yl Go.Proofs.YtjeojdbfpncnkaaGreat.Ij Go.Proofs.YtjeojdbfpncnkaaGreat.Ym Go.Proofs.YtjeojdbfpncnkaaGreat.Il Go.Proofs.YtjeojdbfpncnkaaGreat.Yn Go.Proofs.YtjeojdbfpncnkaaGreat.Yo Go.Proofs.YtjeojdbfpncnkaaGreat.In Go.Proofs.YtjeojdbfpncnkaaGreat.Yq Go.Proofs.YtjeojdbfpncnkaaGreat.Pw Go.Proofs.YtjeojdbfpncnkaaGreat.Px Go.Proofs.YtjeojdbfpncnkaaGreat.La Go.Proofs.YtjeojdbfpncnkaaGreat.Db Go.Proofs.YtjeojdbfpncnkaaGreat.Pz

theorem ofI_cases' (md : Int) (a b : List Occ) : ofI seq3 md a b = ([], false) ∨ ((0 ≤ md ∧ md ≤ 4) ∧ (AreOk a ∧ a.length ≤ 40) ∧ (AreOk b ∧ b.length ≤ 40) ∧ (sq md a b).length ≤ 40 ∧ ofI seq3 md a b = (sq md a b, true)) := by
  rw [ofI_seq]
  by_cases h : (inb md 0 4 && okOs a && okOs b) = true
  · rw [if_pos h]
    simp only [Bool.and_eq_true] at h
    have hm : 0 ≤ md ∧ md ≤ 4 := by have := h.1.1; unfold inb at this; simpa using this
    unfold told
    split
    · exact .inl rfl
    · exact .inr ⟨hm, okOs_iff.1 h.1.2, okOs_iff.1 h.2, by omega, rfl⟩
  · rw [if_neg h]
    exact .inl rfl

theorem join_assoc {x y z : Occ} (hx : IsOk x) (hy : IsOk y) (hz : IsOk z) : join (join x y) z = join x (join y z) := by
  unfold join
  simp only [uni_assoc hx.asc hy.asc hz.asc, Int.min_assoc, Int.max_assoc]
theorem sq_or {a b c : List Occ} (ka : AreOk a) (kb : AreOk b) : sq 0 a (putAll b c) = putAll (sq 0 a b) (sq 0 a c) :=
  sorted_ext (sorted_sq ka.sorted) (sorted_putAll (sorted_sq ka.sorted)) (fun z => by
    rw [mem_sq0, mem_putAll, mem_sq0, mem_sq0]
    constructor
    · rintro ⟨s, hs, o, ho, h, e⟩
      rcases (mem_putAll o _ _).1 ho with ho | ho
      · exact .inl ⟨s, hs, o, ho, h, e⟩
      · exact .inr ⟨s, hs, o, ho, h, e⟩
    · rintro (⟨s, hs, o, ho, h, e⟩ | ⟨s, hs, o, ho, h, e⟩)
      · exact ⟨s, hs, o, (mem_putAll o _ _).2 (.inl ho), h, e⟩
      · exact ⟨s, hs, o, (mem_putAll o _ _).2 (.inr ho), h, e⟩)
theorem sq_assoc {a b c : List Occ} (ka : AreOk a) (kb : AreOk b) (kc : AreOk c) : sq 0 a (sq 0 b c) = sq 0 (sq 0 a b) c :=
  sorted_ext (sorted_sq ka.sorted) (sorted_sq (sorted_sq ka.sorted)) (fun z => by
    rw [mem_sq0, mem_sq0]
    constructor
    · rintro ⟨x, hx, j, hj, h, e⟩
      obtain ⟨y, hy, v, hv, h2, e2⟩ := mem_sq0.1 hj
      have kx := ka.all x hx
      have ky := kb.all y hy
      have kv := kc.all v hv
      have hj0 : j.f0 = min v.f0 y.f0 := by rw [e2]; rfl
      have h3 := ky.ft
      have h4 : x.f1 < y.f0 := by rw [hj0] at h; omega
      refine ⟨join y x, mem_sq0.2 ⟨x, hx, y, hy, h4, rfl⟩, v, hv, ?_, ?_⟩
      · show max y.f1 x.f1 < v.f0
        omega
      · rw [e, e2, join_assoc kv ky kx]
    · rintro ⟨j, hj, v, hv, h, e⟩
      obtain ⟨x, hx, y, hy, h2, e2⟩ := mem_sq0.1 hj
      have kx := ka.all x hx
      have ky := kb.all y hy
      have kv := kc.all v hv
      have hj1 : j.f1 = max y.f1 x.f1 := by rw [e2]; rfl
      have h3 := ky.ft
      have h4 : y.f1 < v.f0 := by rw [hj1] at h; omega
      refine ⟨x, hx, join v y, mem_sq0.2 ⟨y, hy, v, hv, h4, rfl⟩, ?_, ?_⟩
      · show x.f1 < min v.f0 y.f0
        omega
      · rw [e, e2, join_assoc kv ky kx])
theorem an_comm {a b : List Occ} (ka : AreOk a) (kb : AreOk b) : an 0 a b = an 0 b a :=
  sorted_ext sorted_an sorted_an (fun z => by
    rw [mem_an0 ka kb, mem_an0 kb ka]
    constructor
    · rintro ⟨x, hx, y, hy, e⟩
      exact ⟨y, hy, x, hx, by rw [e]; exact join_comm (ka.all x hx) (kb.all y hy)⟩
    · rintro ⟨x, hx, y, hy, e⟩
      exact ⟨y, hy, x, hx, by rw [e]; exact join_comm (kb.all x hx) (ka.all y hy)⟩)
theorem told_true {l m : List Occ} (h : told l = (m, true)) : m = l ∧ l.length ≤ 40 := by
  unfold told at h
  split at h
  · simp at h
  · exact ⟨by simpa using h.symm, by omega⟩
theorem ofI_true {a b m : List Occ} (h : ofI seq3 0 a b = (m, true)) : m = sq 0 a b ∧ (AreOk a ∧ a.length ≤ 40) ∧ (AreOk b ∧ b.length ≤ 40) ∧ m.length ≤ 40 := by
  rcases ofI_cases' 0 a b with h1 | ⟨_, ha, hb, h2, h3⟩
  · rw [h1] at h; simp at h
  · rw [h3] at h
    obtain ⟨rfl, _⟩ : sq 0 a b = m ∧ True := ⟨by simpa using h, trivial⟩
    exact ⟨rfl, ha, hb, h2⟩
theorem orI_true {a b m : List Occ} (h : orI a b = (m, true)) : m = putAll a b ∧ (AreOk a ∧ AreOk b) := by
  unfold orI at h
  split at h
  · rename_i hk
    rw [Bool.and_eq_true] at hk
    exact ⟨(told_true h).1, (okOs_iff.1 hk.1).1, (okOs_iff.1 hk.2).1⟩
  · simp at h
/-- one behind one of two -/
theorem alg1 {a b c ab ac bc u v : List Occ} (h0 : ofI seq3 0 a b = (ab, true)) (h1 : ofI seq3 0 a c = (ac, true)) (h2 : orI b c = (bc, true)) (h3 : ofI seq3 0 a bc = (u, true)) (h4 : orI ab ac = (v, true)) : u = v := by
  obtain ⟨e0, ⟨ka, _⟩, ⟨kb, _⟩, _⟩ := ofI_true h0
  rw [(ofI_true h3).1, (orI_true h4).1, (orI_true h2).1, e0, (ofI_true h1).1]
  exact sq_or ka kb
theorem alg2 {a b c ab x y z : List Occ} (h0 : ofI seq3 0 a b = (ab, true)) (h1 : ofI seq3 0 b c = (x, true)) (h2 : ofI seq3 0 a x = (y, true)) (h3 : ofI seq3 0 ab c = (z, true)) : y = z := by
  obtain ⟨e0, ⟨ka, _⟩, ⟨kb, _⟩, _⟩ := ofI_true h0
  obtain ⟨e1, _, ⟨kc, _⟩, _⟩ := ofI_true h1
  rw [(ofI_true h2).1, (ofI_true h3).1, e0, e1]
  exact sq_assoc ka kb kc
theorem alg3 {a b ab : List Occ} (h0 : ofI seq3 0 a b = (ab, true)) : ofI and3 0 a b = ofI and3 0 b a := by
  obtain ⟨_, ⟨ka, na⟩, ⟨kb, nb⟩, _⟩ := ofI_true h0
  have oa := okOs_iff.2 ⟨ka, na⟩
  have ob := okOs_iff.2 ⟨kb, nb⟩
  rw [ofA_ok (by decide) (by rw [oa, ob]; rfl), ofA_ok (by decide) (by rw [oa, ob]; rfl), an_comm ka kb]

set_option maxHeartbeats 60000000 in
set_option maxRecDepth 100000 in
theorem walk (A : Option Addr) (c : Nat) (bs : List Int) (w : World) (hC : (Kd.int .u8).C w A bs.length bs) (hc : bs.length ≤ c) (hb : ∀ b ∈ bs, 0 ≤ b ∧ b ≤ 255)
    (A' : Option Addr) (c' : Nat) (bs' : List Int) (hC' : (Kd.int .u8).C w A' bs'.length bs') (hc' : bs'.length ≤ c') (hb' : ∀ b ∈ bs', 0 ≤ b ∧ b ≤ 255) :
    Calls Tryz.prog 7 #[.slice A bs.length c, .slice A' bs'.length c'] w fun e w' => e = .returned (.bool true) ∧ Below w.heap.size w w' := by
  by_cases hbig : bs.length > 1048576
  · have d1 : decide ((bs.length : Int) > 1048576) = true := decide_eq_true (by omega)
    go_enter Tryz.func7, Tryz.ntmps7
    go_wp2
    go_ret
    exact ⟨rfl, Below.refl _ _⟩
  have d1 : decide ((bs.length : Int) > 1048576) = false := decide_eq_false (by omega)
  by_cases hbig2 : bs'.length > 1048576
  · have d2 : decide ((bs'.length : Int) > 1048576) = true := decide_eq_true (by omega)
    go_enter Tryz.func7, Tryz.ntmps7
    go_wp2
    go_ret
    exact ⟨rfl, Below.refl _ _⟩
  have d2 : decide ((bs'.length : Int) > 1048576) = false := decide_eq_false (by omega)
  go_enter Tryz.func7, Tryz.ntmps7
  go_upto_region 4 with (go_at_call 22; refine (drawSeqOf_any A c bs _ hC hc hb).mono ?_; rintro e wd ⟨md, a, b, Xa, Xb, ca, cb, rfl, ha0, hb0, hln, hbel⟩; have HAd := Aside0.mk ha0; have HBd := Aside0.mk hb0; have HBeld := Aside0.mk hbel; clear ha0 hb0 hbel hln)
  go_upto_region 5 with (go_at_call 31; refine (Sm.drawList_any A' c' bs' _ (Kd.C_below hC' HBeld.out) hc' hb').mono ?_; rintro e w0 ⟨c0, Xc, cc, rfl, hc0, hln, hids, hbel⟩; have HA0 := Aside0.mk (HAd.out.below hbel); have HB0 := Aside0.mk (HBd.out.below hbel); have HC0 := Aside0.mk hc0; have HBel0 := Aside0.mk (below_then HBeld.out HBeld.out.size hbel); clear hc0 hbel hln hids)
  obtain ⟨⟨ab, ok⟩, hab⟩ : ∃ p, ofI seq3 0 a b = p := ⟨_, rfl⟩
  have HAB := Aside0.mk hab
  clear hab
  go_upto_region 6 with (go_at_call 23; refine (iSeq 0 Xa Xb ca cb a b (ab, ok) _ HAB.out HA0.out HB0.out).mono ?_; rintro e w1 ⟨R1, r1, rfl, hl1, hb1⟩; have HBel1 := Aside0.mk (below_then HBel0.out HBel0.out.size hb1); have HA1 := Aside0.mk (HA0.out.below hb1); have HB1 := Aside0.mk (HB0.out.below hb1); have HC1 := Aside0.mk (HC0.out.below hb1); have L1_1 := Aside0.mk hl1; clear hl1 hb1)
  go_upto_region 7 with (go_at_call 24; refine (sSeq 0 Xa Xb ca cb a b (ab, ok) _ HAB.out HA1.out HB1.out).mono ?_; rintro e w2 ⟨R2, r2, rfl, hl2, hb2⟩; have HBel2 := Aside0.mk (below_then HBel1.out HBel1.out.size hb2); have HA2 := Aside0.mk (HA1.out.below hb2); have HB2 := Aside0.mk (HB1.out.below hb2); have HC2 := Aside0.mk (HC1.out.below hb2); have L1_2 := Aside0.mk (L1_1.out.below hb2); have L2_2 := Aside0.mk hl2; clear hl2 hb2)
  cases ok with
  | false =>
    go_upto_region 8 with (go_at_call 17; refine (occsSame_any _ _ _ _ _ _ _ L1_2.out.rd L2_2.out.rd).mono ?_; rintro e w3 ⟨rfl, hb3⟩; rw [decide_eq_true rfl]; have HBel3 := Aside0.mk (below_then HBel2.out HBel2.out.size hb3); have HA3 := Aside0.mk (HA2.out.below hb3); have HB3 := Aside0.mk (HB2.out.below hb3); have HC3 := Aside0.mk (HC2.out.below hb3); have L1_3 := Aside0.mk (L1_2.out.below hb3); have L2_3 := Aside0.mk (L2_2.out.below hb3); clear hb3)
    go_wp2_with (go_at_call 17; refine (occsSame_any _ _ _ _ _ _ _ L1_3.out.rd L2_3.out.rd).mono ?_; rintro e w4 ⟨rfl, hb4⟩; rw [decide_eq_true rfl]; have HBel4 := Aside0.mk (below_then HBel3.out HBel3.out.size hb4); clear hb4)
    go_ret
    exact ⟨rfl, HBel4.out⟩
  | true =>
    have HOKC := Aside0.mk (fun w' (h : IsL w' c0 Xc cc) => sOccsOk_any Xc cc c0 w' h.rd)
    cases okc : okOs c0 with
    | false =>
      rw [okc] at HOKC
      clear okc
      go_upto_region 8 with (first | (go_at_call 21; have h3 := HBel3.out; clear h3; refine (HOKC.out _ HC3.out).mono ?_; rintro e w4 ⟨rfl, hb4⟩; have HBel4 := Aside0.mk (below_then HBel3.out HBel3.out.size hb4); have HA4 := Aside0.mk (HA3.out.below hb4); have HB4 := Aside0.mk (HB3.out.below hb4); have HC4 := Aside0.mk (HC3.out.below hb4); have L1_4 := Aside0.mk (L1_3.out.below hb4); have L2_4 := Aside0.mk (L2_3.out.below hb4); clear hb4) | (go_at_call 17; refine (occsSame_any _ _ _ _ _ _ _ L1_2.out.rd L2_2.out.rd).mono ?_; rintro e w3 ⟨rfl, hb3⟩; rw [decide_eq_true rfl]; have HBel3 := Aside0.mk (below_then HBel2.out HBel2.out.size hb3); have HA3 := Aside0.mk (HA2.out.below hb3); have HB3 := Aside0.mk (HB2.out.below hb3); have HC3 := Aside0.mk (HC2.out.below hb3); have L1_3 := Aside0.mk (L1_2.out.below hb3); have L2_3 := Aside0.mk (L2_2.out.below hb3); clear hb3))
      go_wp2_with (go_at_call 17; refine (occsSame_any _ _ _ _ _ _ _ L1_4.out.rd L2_4.out.rd).mono ?_; rintro e w5 ⟨rfl, hb5⟩; rw [decide_eq_true rfl]; have HBel5 := Aside0.mk (below_then HBel4.out HBel4.out.size hb5); clear hb5)
      go_ret
      exact ⟨rfl, HBel5.out⟩
    | true =>
      rw [okc] at HOKC
      clear okc
      go_upto_region 9 with (first | (go_at_call 21; have h3 := HBel3.out; clear h3; refine (HOKC.out _ HC3.out).mono ?_; rintro e w4 ⟨rfl, hb4⟩; have HBel4 := Aside0.mk (below_then HBel3.out HBel3.out.size hb4); have HA4 := Aside0.mk (HA3.out.below hb4); have HB4 := Aside0.mk (HB3.out.below hb4); have HC4 := Aside0.mk (HC3.out.below hb4); have L1_4 := Aside0.mk (L1_3.out.below hb4); have L2_4 := Aside0.mk (L2_3.out.below hb4); clear hb4) | (go_at_call 17; refine (occsSame_any _ _ _ _ _ _ _ L1_2.out.rd L2_2.out.rd).mono ?_; rintro e w3 ⟨rfl, hb3⟩; rw [decide_eq_true rfl]; have HBel3 := Aside0.mk (below_then HBel2.out HBel2.out.size hb3); have HA3 := Aside0.mk (HA2.out.below hb3); have HB3 := Aside0.mk (HB2.out.below hb3); have HC3 := Aside0.mk (HC2.out.below hb3); have L1_3 := Aside0.mk (L1_2.out.below hb3); have L2_3 := Aside0.mk (L2_2.out.below hb3); clear hb3))
      obtain ⟨⟨ac, p⟩, hac⟩ : ∃ q, ofI seq3 0 a c0 = q := ⟨_, rfl⟩
      obtain ⟨⟨bc, q⟩, hbc⟩ : ∃ q, orI b c0 = q := ⟨_, rfl⟩
      obtain ⟨⟨u, r⟩, hu⟩ : ∃ q, ofI seq3 0 a bc = q := ⟨_, rfl⟩
      obtain ⟨⟨v, s⟩, hv⟩ : ∃ q, orI ab ac = q := ⟨_, rfl⟩
      obtain ⟨⟨x, m⟩, hx⟩ : ∃ q, ofI seq3 0 b c0 = q := ⟨_, rfl⟩
      obtain ⟨⟨y, n⟩, hy⟩ : ∃ q, ofI seq3 0 a x = q := ⟨_, rfl⟩
      obtain ⟨⟨z, o⟩, hz⟩ : ∃ q, ofI seq3 0 ab c0 = q := ⟨_, rfl⟩
      obtain ⟨⟨f, g⟩, hf⟩ : ∃ q, ofI and3 0 a b = q := ⟨_, rfl⟩
      have hh : ofI and3 0 b a = (f, g) := by rw [← hf]; exact (alg3 HAB.out).symm
      have HAC := Aside0.mk hac
      have HBC := Aside0.mk hbc
      have HU := Aside0.mk hu
      have HV := Aside0.mk hv
      have HX := Aside0.mk hx
      have HY := Aside0.mk hy
      have HZ := Aside0.mk hz
      have HF := Aside0.mk hf
      have HH := Aside0.mk hh
      clear hac hbc hu hv hx hy hz hf hh
      go_upto_region 10 with (go_at_call 23; refine (iSeq 0 Xa Xc ca cc a c0 (ac, p) _ HAC.out HA4.out HC4.out).mono ?_; rintro e w5 ⟨R5, r5, rfl, hl5, hb5⟩; have HBel5 := Aside0.mk (below_then HBel4.out HBel4.out.size hb5); have HA5 := Aside0.mk (HA4.out.below hb5); have HB5 := Aside0.mk (HB4.out.below hb5); have HC5 := Aside0.mk (HC4.out.below hb5); have L1_5 := Aside0.mk (L1_4.out.below hb5); have LAC5 := Aside0.mk hl5; clear hl5 hb5)
      go_upto_region 11 with (go_at_call 32; refine (iOr Xb Xc cb cc b c0 (bc, q) _ HBC.out HB5.out HC5.out).mono ?_; rintro e w6 ⟨R6, r6, rfl, hl6, hb6⟩; have HBel6 := Aside0.mk (below_then HBel5.out HBel5.out.size hb6); have HA6 := Aside0.mk (HA5.out.below hb6); have HB6 := Aside0.mk (HB5.out.below hb6); have HC6 := Aside0.mk (HC5.out.below hb6); have L1_6 := Aside0.mk (L1_5.out.below hb6); have LAC6 := Aside0.mk (LAC5.out.below hb6); have LBC6 := Aside0.mk hl6; clear hl6 hb6)
      go_upto_region 12 with (go_at_call 23; refine (iSeq 0 Xa R6 ca r6 a bc (u, r) _ HU.out HA6.out LBC6.out).mono ?_; rintro e w7 ⟨R7, r7, rfl, hl7, hb7⟩; have HBel7 := Aside0.mk (below_then HBel6.out HBel6.out.size hb7); have HA7 := Aside0.mk (HA6.out.below hb7); have HB7 := Aside0.mk (HB6.out.below hb7); have HC7 := Aside0.mk (HC6.out.below hb7); have L1_7 := Aside0.mk (L1_6.out.below hb7); have LAC7 := Aside0.mk (LAC6.out.below hb7); have LU7 := Aside0.mk hl7; clear hl7 hb7)
      go_upto_region 13 with (go_at_call 32; refine (iOr R1 R5 r1 r5 ab ac (v, s) _ HV.out L1_7.out LAC7.out).mono ?_; rintro e w9 ⟨R9, r9, rfl, hl9, hb9⟩; have HBel9 := Aside0.mk (below_then HBel7.out HBel7.out.size hb9); have HA9 := Aside0.mk (HA7.out.below hb9); have HB9 := Aside0.mk (HB7.out.below hb9); have HC9 := Aside0.mk (HC7.out.below hb9); have L1_9 := Aside0.mk (L1_7.out.below hb9); have LU9 := Aside0.mk (LU7.out.below hb9); have LV9 := Aside0.mk hl9; clear hl9 hb9)
      obtain rfl | rfl := Bool.eq_false_or_eq_true p
      · obtain rfl | rfl := Bool.eq_false_or_eq_true q
        · obtain rfl | rfl := Bool.eq_false_or_eq_true r
          · obtain rfl | rfl := Bool.eq_false_or_eq_true s
            · have HUV := Aside0.mk (alg1 HAB.out HAC.out HBC.out HU.out HV.out)
              go_upto_region 15 with (go_at_call 17; refine (occsSame_any _ _ _ _ _ _ _ LU9.out.rd LV9.out.rd).mono ?_; rintro e w10 ⟨rfl, hb10⟩; rw [decide_eq_true HUV.out]; have HBel10 := Aside0.mk (below_then HBel9.out HBel9.out.size hb10); have HA10 := Aside0.mk (HA9.out.below hb10); have HB10 := Aside0.mk (HB9.out.below hb10); have HC10 := Aside0.mk (HC9.out.below hb10); have L1_10 := Aside0.mk (L1_9.out.below hb10); clear hb10)
              go_upto_region 16 with (go_at_call 23; refine (iSeq 0 Xb Xc cb cc b c0 (x, m) _ HX.out HB10.out HC10.out).mono ?_; rintro e w11 ⟨R11, r11, rfl, hl11, hb11⟩; have HBel11 := Aside0.mk (below_then HBel10.out HBel10.out.size hb11); have HA11 := Aside0.mk (HA10.out.below hb11); have HB11 := Aside0.mk (HB10.out.below hb11); have HC11 := Aside0.mk (HC10.out.below hb11); have L1_11 := Aside0.mk (L1_10.out.below hb11); have LX11 := Aside0.mk hl11; clear hl11 hb11)
              go_upto_region 17 with (go_at_call 23; refine (iSeq 0 Xa R11 ca r11 a x (y, n) _ HY.out HA11.out LX11.out).mono ?_; rintro e w12 ⟨R12, r12, rfl, hl12, hb12⟩; have HBel12 := Aside0.mk (below_then HBel11.out HBel11.out.size hb12); have HA12 := Aside0.mk (HA11.out.below hb12); have HB12 := Aside0.mk (HB11.out.below hb12); have HC12 := Aside0.mk (HC11.out.below hb12); have L1_12 := Aside0.mk (L1_11.out.below hb12); have LY12 := Aside0.mk hl12; clear hl12 hb12)
              go_upto_region 18 with (go_at_call 23; refine (iSeq 0 R1 Xc r1 cc ab c0 (z, o) _ HZ.out L1_12.out HC12.out).mono ?_; rintro e w13 ⟨R13, r13, rfl, hl13, hb13⟩; have HBel13 := Aside0.mk (below_then HBel12.out HBel12.out.size hb13); have HA13 := Aside0.mk (HA12.out.below hb13); have HB13 := Aside0.mk (HB12.out.below hb13); have HC13 := Aside0.mk (HC12.out.below hb13); have L1_13 := Aside0.mk (L1_12.out.below hb13); have LY13 := Aside0.mk (LY12.out.below hb13); have LZ13 := Aside0.mk hl13; clear hl13 hb13)
              obtain rfl | rfl := Bool.eq_false_or_eq_true m
              · obtain rfl | rfl := Bool.eq_false_or_eq_true n
                · obtain rfl | rfl := Bool.eq_false_or_eq_true o
                  · have HYZ := Aside0.mk (alg2 HAB.out HX.out HY.out HZ.out)
                    go_upto_region 20 with (go_at_call 17; refine (occsSame_any _ _ _ _ _ _ _ LY13.out.rd LZ13.out.rd).mono ?_; rintro e w14 ⟨rfl, hb14⟩; rw [decide_eq_true HYZ.out]; have HBel14 := Aside0.mk (below_then HBel13.out HBel13.out.size hb14); have HA14 := Aside0.mk (HA13.out.below hb14); have HB14 := Aside0.mk (HB13.out.below hb14); clear hb14)
                    go_upto_region 21 with (go_at_call 29; refine (iAnd 0 Xa Xb ca cb a b (f, g) _ HF.out HA14.out HB14.out).mono ?_; rintro e w15 ⟨R15, r15, rfl, hl15, hb15⟩; have HBel15 := Aside0.mk (below_then HBel14.out HBel14.out.size hb15); have HA15 := Aside0.mk (HA14.out.below hb15); have HB15 := Aside0.mk (HB14.out.below hb15); have LF15 := Aside0.mk hl15; clear hl15 hb15)
                    go_upto_region 22 with (go_at_call 29; refine (iAnd 0 Xb Xa cb ca b a (f, g) _ HH.out HB15.out HA15.out).mono ?_; rintro e w16 ⟨R16, r16, rfl, hl16, hb16⟩; have HBel16 := Aside0.mk (below_then HBel15.out HBel15.out.size hb16); have LF16 := Aside0.mk (LF15.out.below hb16); have LG16 := Aside0.mk hl16; clear hl16 hb16)
                    obtain rfl | rfl := Bool.eq_false_or_eq_true g
                    · go_wp2_with (go_at_call 17; refine (occsSame_any _ _ _ _ _ _ _ LF16.out.rd LG16.out.rd).mono ?_; rintro e w17 ⟨rfl, hb17⟩; rw [decide_eq_true rfl]; have HBel17 := Aside0.mk (below_then HBel16.out HBel16.out.size hb17); clear hb17)
                      go_ret
                      exact ⟨rfl, HBel17.out⟩
                    · go_wp2_with (go_at_call 17; refine (occsSame_any _ _ _ _ _ _ _ LF16.out.rd LG16.out.rd).mono ?_; rintro e w17 ⟨rfl, hb17⟩; rw [decide_eq_true rfl]; have HBel17 := Aside0.mk (below_then HBel16.out HBel16.out.size hb17); clear hb17)
                      go_ret
                      exact ⟨rfl, HBel17.out⟩
                  · go_upto_region 20 with fail
                    go_upto_region 21 with (go_at_call 29; refine (iAnd 0 Xa Xb ca cb a b (f, g) _ HF.out HA13.out HB13.out).mono ?_; rintro e w15 ⟨R15, r15, rfl, hl15, hb15⟩; have HBel15 := Aside0.mk (below_then HBel13.out HBel13.out.size hb15); have HA15 := Aside0.mk (HA13.out.below hb15); have HB15 := Aside0.mk (HB13.out.below hb15); have LF15 := Aside0.mk hl15; clear hl15 hb15)
                    go_upto_region 22 with (go_at_call 29; refine (iAnd 0 Xb Xa cb ca b a (f, g) _ HH.out HB15.out HA15.out).mono ?_; rintro e w16 ⟨R16, r16, rfl, hl16, hb16⟩; have HBel16 := Aside0.mk (below_then HBel15.out HBel15.out.size hb16); have LF16 := Aside0.mk (LF15.out.below hb16); have LG16 := Aside0.mk hl16; clear hl16 hb16)
                    obtain rfl | rfl := Bool.eq_false_or_eq_true g
                    · go_wp2_with (go_at_call 17; refine (occsSame_any _ _ _ _ _ _ _ LF16.out.rd LG16.out.rd).mono ?_; rintro e w17 ⟨rfl, hb17⟩; rw [decide_eq_true rfl]; have HBel17 := Aside0.mk (below_then HBel16.out HBel16.out.size hb17); clear hb17)
                      go_ret
                      exact ⟨rfl, HBel17.out⟩
                    · go_wp2_with (go_at_call 17; refine (occsSame_any _ _ _ _ _ _ _ LF16.out.rd LG16.out.rd).mono ?_; rintro e w17 ⟨rfl, hb17⟩; rw [decide_eq_true rfl]; have HBel17 := Aside0.mk (below_then HBel16.out HBel16.out.size hb17); clear hb17)
                      go_ret
                      exact ⟨rfl, HBel17.out⟩
                · go_upto_region 20 with fail
                  go_upto_region 21 with (go_at_call 29; refine (iAnd 0 Xa Xb ca cb a b (f, g) _ HF.out HA13.out HB13.out).mono ?_; rintro e w15 ⟨R15, r15, rfl, hl15, hb15⟩; have HBel15 := Aside0.mk (below_then HBel13.out HBel13.out.size hb15); have HA15 := Aside0.mk (HA13.out.below hb15); have HB15 := Aside0.mk (HB13.out.below hb15); have LF15 := Aside0.mk hl15; clear hl15 hb15)
                  go_upto_region 22 with (go_at_call 29; refine (iAnd 0 Xb Xa cb ca b a (f, g) _ HH.out HB15.out HA15.out).mono ?_; rintro e w16 ⟨R16, r16, rfl, hl16, hb16⟩; have HBel16 := Aside0.mk (below_then HBel15.out HBel15.out.size hb16); have LF16 := Aside0.mk (LF15.out.below hb16); have LG16 := Aside0.mk hl16; clear hl16 hb16)
                  obtain rfl | rfl := Bool.eq_false_or_eq_true g
                  · go_wp2_with (go_at_call 17; refine (occsSame_any _ _ _ _ _ _ _ LF16.out.rd LG16.out.rd).mono ?_; rintro e w17 ⟨rfl, hb17⟩; rw [decide_eq_true rfl]; have HBel17 := Aside0.mk (below_then HBel16.out HBel16.out.size hb17); clear hb17)
                    go_ret
                    exact ⟨rfl, HBel17.out⟩
                  · go_wp2_with (go_at_call 17; refine (occsSame_any _ _ _ _ _ _ _ LF16.out.rd LG16.out.rd).mono ?_; rintro e w17 ⟨rfl, hb17⟩; rw [decide_eq_true rfl]; have HBel17 := Aside0.mk (below_then HBel16.out HBel16.out.size hb17); clear hb17)
                    go_ret
                    exact ⟨rfl, HBel17.out⟩
              · go_upto_region 20 with fail
                go_upto_region 21 with (go_at_call 29; refine (iAnd 0 Xa Xb ca cb a b (f, g) _ HF.out HA13.out HB13.out).mono ?_; rintro e w15 ⟨R15, r15, rfl, hl15, hb15⟩; have HBel15 := Aside0.mk (below_then HBel13.out HBel13.out.size hb15); have HA15 := Aside0.mk (HA13.out.below hb15); have HB15 := Aside0.mk (HB13.out.below hb15); have LF15 := Aside0.mk hl15; clear hl15 hb15)
                go_upto_region 22 with (go_at_call 29; refine (iAnd 0 Xb Xa cb ca b a (f, g) _ HH.out HB15.out HA15.out).mono ?_; rintro e w16 ⟨R16, r16, rfl, hl16, hb16⟩; have HBel16 := Aside0.mk (below_then HBel15.out HBel15.out.size hb16); have LF16 := Aside0.mk (LF15.out.below hb16); have LG16 := Aside0.mk hl16; clear hl16 hb16)
                obtain rfl | rfl := Bool.eq_false_or_eq_true g
                · go_wp2_with (go_at_call 17; refine (occsSame_any _ _ _ _ _ _ _ LF16.out.rd LG16.out.rd).mono ?_; rintro e w17 ⟨rfl, hb17⟩; rw [decide_eq_true rfl]; have HBel17 := Aside0.mk (below_then HBel16.out HBel16.out.size hb17); clear hb17)
                  go_ret
                  exact ⟨rfl, HBel17.out⟩
                · go_wp2_with (go_at_call 17; refine (occsSame_any _ _ _ _ _ _ _ LF16.out.rd LG16.out.rd).mono ?_; rintro e w17 ⟨rfl, hb17⟩; rw [decide_eq_true rfl]; have HBel17 := Aside0.mk (below_then HBel16.out HBel16.out.size hb17); clear hb17)
                  go_ret
                  exact ⟨rfl, HBel17.out⟩
            · obtain ⟨wk, rfl⟩ : ∃ wk, wk = w9 := ⟨_, rfl⟩
              go_upto_region 15 with fail
              go_upto_region 16 with (go_at_call 23; refine (iSeq 0 Xb Xc cb cc b c0 (x, m) _ HX.out HB9.out HC9.out).mono ?_; rintro e w11 ⟨R11, r11, rfl, hl11, hb11⟩; have HBel11 := Aside0.mk (below_then HBel9.out HBel9.out.size hb11); have HA11 := Aside0.mk (HA9.out.below hb11); have HB11 := Aside0.mk (HB9.out.below hb11); have HC11 := Aside0.mk (HC9.out.below hb11); have L1_11 := Aside0.mk (L1_9.out.below hb11); have LX11 := Aside0.mk hl11; clear hl11 hb11)
              go_upto_region 17 with (go_at_call 23; refine (iSeq 0 Xa R11 ca r11 a x (y, n) _ HY.out HA11.out LX11.out).mono ?_; rintro e w12 ⟨R12, r12, rfl, hl12, hb12⟩; have HBel12 := Aside0.mk (below_then HBel11.out HBel11.out.size hb12); have HA12 := Aside0.mk (HA11.out.below hb12); have HB12 := Aside0.mk (HB11.out.below hb12); have HC12 := Aside0.mk (HC11.out.below hb12); have L1_12 := Aside0.mk (L1_11.out.below hb12); have LY12 := Aside0.mk hl12; clear hl12 hb12)
              go_upto_region 18 with (go_at_call 23; refine (iSeq 0 R1 Xc r1 cc ab c0 (z, o) _ HZ.out L1_12.out HC12.out).mono ?_; rintro e w13 ⟨R13, r13, rfl, hl13, hb13⟩; have HBel13 := Aside0.mk (below_then HBel12.out HBel12.out.size hb13); have HA13 := Aside0.mk (HA12.out.below hb13); have HB13 := Aside0.mk (HB12.out.below hb13); have HC13 := Aside0.mk (HC12.out.below hb13); have L1_13 := Aside0.mk (L1_12.out.below hb13); have LY13 := Aside0.mk (LY12.out.below hb13); have LZ13 := Aside0.mk hl13; clear hl13 hb13)
              obtain rfl | rfl := Bool.eq_false_or_eq_true m
              · obtain rfl | rfl := Bool.eq_false_or_eq_true n
                · obtain rfl | rfl := Bool.eq_false_or_eq_true o
                  · have HYZ := Aside0.mk (alg2 HAB.out HX.out HY.out HZ.out)
                    go_upto_region 20 with (go_at_call 17; refine (occsSame_any _ _ _ _ _ _ _ LY13.out.rd LZ13.out.rd).mono ?_; rintro e w14 ⟨rfl, hb14⟩; rw [decide_eq_true HYZ.out]; have HBel14 := Aside0.mk (below_then HBel13.out HBel13.out.size hb14); have HA14 := Aside0.mk (HA13.out.below hb14); have HB14 := Aside0.mk (HB13.out.below hb14); clear hb14)
                    go_upto_region 21 with (go_at_call 29; refine (iAnd 0 Xa Xb ca cb a b (f, g) _ HF.out HA14.out HB14.out).mono ?_; rintro e w15 ⟨R15, r15, rfl, hl15, hb15⟩; have HBel15 := Aside0.mk (below_then HBel14.out HBel14.out.size hb15); have HA15 := Aside0.mk (HA14.out.below hb15); have HB15 := Aside0.mk (HB14.out.below hb15); have LF15 := Aside0.mk hl15; clear hl15 hb15)
                    go_upto_region 22 with (go_at_call 29; refine (iAnd 0 Xb Xa cb ca b a (f, g) _ HH.out HB15.out HA15.out).mono ?_; rintro e w16 ⟨R16, r16, rfl, hl16, hb16⟩; have HBel16 := Aside0.mk (below_then HBel15.out HBel15.out.size hb16); have LF16 := Aside0.mk (LF15.out.below hb16); have LG16 := Aside0.mk hl16; clear hl16 hb16)
                    obtain rfl | rfl := Bool.eq_false_or_eq_true g
                    · go_wp2_with (go_at_call 17; refine (occsSame_any _ _ _ _ _ _ _ LF16.out.rd LG16.out.rd).mono ?_; rintro e w17 ⟨rfl, hb17⟩; rw [decide_eq_true rfl]; have HBel17 := Aside0.mk (below_then HBel16.out HBel16.out.size hb17); clear hb17)
                      go_ret
                      exact ⟨rfl, HBel17.out⟩
                    · go_wp2_with (go_at_call 17; refine (occsSame_any _ _ _ _ _ _ _ LF16.out.rd LG16.out.rd).mono ?_; rintro e w17 ⟨rfl, hb17⟩; rw [decide_eq_true rfl]; have HBel17 := Aside0.mk (below_then HBel16.out HBel16.out.size hb17); clear hb17)
                      go_ret
                      exact ⟨rfl, HBel17.out⟩
                  · go_upto_region 20 with fail
                    go_upto_region 21 with (go_at_call 29; refine (iAnd 0 Xa Xb ca cb a b (f, g) _ HF.out HA13.out HB13.out).mono ?_; rintro e w15 ⟨R15, r15, rfl, hl15, hb15⟩; have HBel15 := Aside0.mk (below_then HBel13.out HBel13.out.size hb15); have HA15 := Aside0.mk (HA13.out.below hb15); have HB15 := Aside0.mk (HB13.out.below hb15); have LF15 := Aside0.mk hl15; clear hl15 hb15)
                    go_upto_region 22 with (go_at_call 29; refine (iAnd 0 Xb Xa cb ca b a (f, g) _ HH.out HB15.out HA15.out).mono ?_; rintro e w16 ⟨R16, r16, rfl, hl16, hb16⟩; have HBel16 := Aside0.mk (below_then HBel15.out HBel15.out.size hb16); have LF16 := Aside0.mk (LF15.out.below hb16); have LG16 := Aside0.mk hl16; clear hl16 hb16)
                    obtain rfl | rfl := Bool.eq_false_or_eq_true g
                    · go_wp2_with (go_at_call 17; refine (occsSame_any _ _ _ _ _ _ _ LF16.out.rd LG16.out.rd).mono ?_; rintro e w17 ⟨rfl, hb17⟩; rw [decide_eq_true rfl]; have HBel17 := Aside0.mk (below_then HBel16.out HBel16.out.size hb17); clear hb17)
                      go_ret
                      exact ⟨rfl, HBel17.out⟩
                    · go_wp2_with (go_at_call 17; refine (occsSame_any _ _ _ _ _ _ _ LF16.out.rd LG16.out.rd).mono ?_; rintro e w17 ⟨rfl, hb17⟩; rw [decide_eq_true rfl]; have HBel17 := Aside0.mk (below_then HBel16.out HBel16.out.size hb17); clear hb17)
                      go_ret
                      exact ⟨rfl, HBel17.out⟩
                · go_upto_region 20 with fail
                  go_upto_region 21 with (go_at_call 29; refine (iAnd 0 Xa Xb ca cb a b (f, g) _ HF.out HA13.out HB13.out).mono ?_; rintro e w15 ⟨R15, r15, rfl, hl15, hb15⟩; have HBel15 := Aside0.mk (below_then HBel13.out HBel13.out.size hb15); have HA15 := Aside0.mk (HA13.out.below hb15); have HB15 := Aside0.mk (HB13.out.below hb15); have LF15 := Aside0.mk hl15; clear hl15 hb15)
                  go_upto_region 22 with (go_at_call 29; refine (iAnd 0 Xb Xa cb ca b a (f, g) _ HH.out HB15.out HA15.out).mono ?_; rintro e w16 ⟨R16, r16, rfl, hl16, hb16⟩; have HBel16 := Aside0.mk (below_then HBel15.out HBel15.out.size hb16); have LF16 := Aside0.mk (LF15.out.below hb16); have LG16 := Aside0.mk hl16; clear hl16 hb16)
                  obtain rfl | rfl := Bool.eq_false_or_eq_true g
                  · go_wp2_with (go_at_call 17; refine (occsSame_any _ _ _ _ _ _ _ LF16.out.rd LG16.out.rd).mono ?_; rintro e w17 ⟨rfl, hb17⟩; rw [decide_eq_true rfl]; have HBel17 := Aside0.mk (below_then HBel16.out HBel16.out.size hb17); clear hb17)
                    go_ret
                    exact ⟨rfl, HBel17.out⟩
                  · go_wp2_with (go_at_call 17; refine (occsSame_any _ _ _ _ _ _ _ LF16.out.rd LG16.out.rd).mono ?_; rintro e w17 ⟨rfl, hb17⟩; rw [decide_eq_true rfl]; have HBel17 := Aside0.mk (below_then HBel16.out HBel16.out.size hb17); clear hb17)
                    go_ret
                    exact ⟨rfl, HBel17.out⟩
              · go_upto_region 20 with fail
                go_upto_region 21 with (go_at_call 29; refine (iAnd 0 Xa Xb ca cb a b (f, g) _ HF.out HA13.out HB13.out).mono ?_; rintro e w15 ⟨R15, r15, rfl, hl15, hb15⟩; have HBel15 := Aside0.mk (below_then HBel13.out HBel13.out.size hb15); have HA15 := Aside0.mk (HA13.out.below hb15); have HB15 := Aside0.mk (HB13.out.below hb15); have LF15 := Aside0.mk hl15; clear hl15 hb15)
                go_upto_region 22 with (go_at_call 29; refine (iAnd 0 Xb Xa cb ca b a (f, g) _ HH.out HB15.out HA15.out).mono ?_; rintro e w16 ⟨R16, r16, rfl, hl16, hb16⟩; have HBel16 := Aside0.mk (below_then HBel15.out HBel15.out.size hb16); have LF16 := Aside0.mk (LF15.out.below hb16); have LG16 := Aside0.mk hl16; clear hl16 hb16)
                obtain rfl | rfl := Bool.eq_false_or_eq_true g
                · go_wp2_with (go_at_call 17; refine (occsSame_any _ _ _ _ _ _ _ LF16.out.rd LG16.out.rd).mono ?_; rintro e w17 ⟨rfl, hb17⟩; rw [decide_eq_true rfl]; have HBel17 := Aside0.mk (below_then HBel16.out HBel16.out.size hb17); clear hb17)
                  go_ret
                  exact ⟨rfl, HBel17.out⟩
                · go_wp2_with (go_at_call 17; refine (occsSame_any _ _ _ _ _ _ _ LF16.out.rd LG16.out.rd).mono ?_; rintro e w17 ⟨rfl, hb17⟩; rw [decide_eq_true rfl]; have HBel17 := Aside0.mk (below_then HBel16.out HBel16.out.size hb17); clear hb17)
                  go_ret
                  exact ⟨rfl, HBel17.out⟩
          · go_upto_region 15 with fail
            go_upto_region 16 with (go_at_call 23; refine (iSeq 0 Xb Xc cb cc b c0 (x, m) _ HX.out HB9.out HC9.out).mono ?_; rintro e w11 ⟨R11, r11, rfl, hl11, hb11⟩; have HBel11 := Aside0.mk (below_then HBel9.out HBel9.out.size hb11); have HA11 := Aside0.mk (HA9.out.below hb11); have HB11 := Aside0.mk (HB9.out.below hb11); have HC11 := Aside0.mk (HC9.out.below hb11); have L1_11 := Aside0.mk (L1_9.out.below hb11); have LX11 := Aside0.mk hl11; clear hl11 hb11)
            go_upto_region 17 with (go_at_call 23; refine (iSeq 0 Xa R11 ca r11 a x (y, n) _ HY.out HA11.out LX11.out).mono ?_; rintro e w12 ⟨R12, r12, rfl, hl12, hb12⟩; have HBel12 := Aside0.mk (below_then HBel11.out HBel11.out.size hb12); have HA12 := Aside0.mk (HA11.out.below hb12); have HB12 := Aside0.mk (HB11.out.below hb12); have HC12 := Aside0.mk (HC11.out.below hb12); have L1_12 := Aside0.mk (L1_11.out.below hb12); have LY12 := Aside0.mk hl12; clear hl12 hb12)
            go_upto_region 18 with (go_at_call 23; refine (iSeq 0 R1 Xc r1 cc ab c0 (z, o) _ HZ.out L1_12.out HC12.out).mono ?_; rintro e w13 ⟨R13, r13, rfl, hl13, hb13⟩; have HBel13 := Aside0.mk (below_then HBel12.out HBel12.out.size hb13); have HA13 := Aside0.mk (HA12.out.below hb13); have HB13 := Aside0.mk (HB12.out.below hb13); have HC13 := Aside0.mk (HC12.out.below hb13); have L1_13 := Aside0.mk (L1_12.out.below hb13); have LY13 := Aside0.mk (LY12.out.below hb13); have LZ13 := Aside0.mk hl13; clear hl13 hb13)
            obtain rfl | rfl := Bool.eq_false_or_eq_true m
            · obtain rfl | rfl := Bool.eq_false_or_eq_true n
              · obtain rfl | rfl := Bool.eq_false_or_eq_true o
                · have HYZ := Aside0.mk (alg2 HAB.out HX.out HY.out HZ.out)
                  go_upto_region 20 with (go_at_call 17; refine (occsSame_any _ _ _ _ _ _ _ LY13.out.rd LZ13.out.rd).mono ?_; rintro e w14 ⟨rfl, hb14⟩; rw [decide_eq_true HYZ.out]; have HBel14 := Aside0.mk (below_then HBel13.out HBel13.out.size hb14); have HA14 := Aside0.mk (HA13.out.below hb14); have HB14 := Aside0.mk (HB13.out.below hb14); clear hb14)
                  go_upto_region 21 with (go_at_call 29; refine (iAnd 0 Xa Xb ca cb a b (f, g) _ HF.out HA14.out HB14.out).mono ?_; rintro e w15 ⟨R15, r15, rfl, hl15, hb15⟩; have HBel15 := Aside0.mk (below_then HBel14.out HBel14.out.size hb15); have HA15 := Aside0.mk (HA14.out.below hb15); have HB15 := Aside0.mk (HB14.out.below hb15); have LF15 := Aside0.mk hl15; clear hl15 hb15)
                  go_upto_region 22 with (go_at_call 29; refine (iAnd 0 Xb Xa cb ca b a (f, g) _ HH.out HB15.out HA15.out).mono ?_; rintro e w16 ⟨R16, r16, rfl, hl16, hb16⟩; have HBel16 := Aside0.mk (below_then HBel15.out HBel15.out.size hb16); have LF16 := Aside0.mk (LF15.out.below hb16); have LG16 := Aside0.mk hl16; clear hl16 hb16)
                  obtain rfl | rfl := Bool.eq_false_or_eq_true g
                  · go_wp2_with (go_at_call 17; refine (occsSame_any _ _ _ _ _ _ _ LF16.out.rd LG16.out.rd).mono ?_; rintro e w17 ⟨rfl, hb17⟩; rw [decide_eq_true rfl]; have HBel17 := Aside0.mk (below_then HBel16.out HBel16.out.size hb17); clear hb17)
                    go_ret
                    exact ⟨rfl, HBel17.out⟩
                  · go_wp2_with (go_at_call 17; refine (occsSame_any _ _ _ _ _ _ _ LF16.out.rd LG16.out.rd).mono ?_; rintro e w17 ⟨rfl, hb17⟩; rw [decide_eq_true rfl]; have HBel17 := Aside0.mk (below_then HBel16.out HBel16.out.size hb17); clear hb17)
                    go_ret
                    exact ⟨rfl, HBel17.out⟩
                · go_upto_region 20 with fail
                  go_upto_region 21 with (go_at_call 29; refine (iAnd 0 Xa Xb ca cb a b (f, g) _ HF.out HA13.out HB13.out).mono ?_; rintro e w15 ⟨R15, r15, rfl, hl15, hb15⟩; have HBel15 := Aside0.mk (below_then HBel13.out HBel13.out.size hb15); have HA15 := Aside0.mk (HA13.out.below hb15); have HB15 := Aside0.mk (HB13.out.below hb15); have LF15 := Aside0.mk hl15; clear hl15 hb15)
                  go_upto_region 22 with (go_at_call 29; refine (iAnd 0 Xb Xa cb ca b a (f, g) _ HH.out HB15.out HA15.out).mono ?_; rintro e w16 ⟨R16, r16, rfl, hl16, hb16⟩; have HBel16 := Aside0.mk (below_then HBel15.out HBel15.out.size hb16); have LF16 := Aside0.mk (LF15.out.below hb16); have LG16 := Aside0.mk hl16; clear hl16 hb16)
                  obtain rfl | rfl := Bool.eq_false_or_eq_true g
                  · go_wp2_with (go_at_call 17; refine (occsSame_any _ _ _ _ _ _ _ LF16.out.rd LG16.out.rd).mono ?_; rintro e w17 ⟨rfl, hb17⟩; rw [decide_eq_true rfl]; have HBel17 := Aside0.mk (below_then HBel16.out HBel16.out.size hb17); clear hb17)
                    go_ret
                    exact ⟨rfl, HBel17.out⟩
                  · go_wp2_with (go_at_call 17; refine (occsSame_any _ _ _ _ _ _ _ LF16.out.rd LG16.out.rd).mono ?_; rintro e w17 ⟨rfl, hb17⟩; rw [decide_eq_true rfl]; have HBel17 := Aside0.mk (below_then HBel16.out HBel16.out.size hb17); clear hb17)
                    go_ret
                    exact ⟨rfl, HBel17.out⟩
              · go_upto_region 20 with fail
                go_upto_region 21 with (go_at_call 29; refine (iAnd 0 Xa Xb ca cb a b (f, g) _ HF.out HA13.out HB13.out).mono ?_; rintro e w15 ⟨R15, r15, rfl, hl15, hb15⟩; have HBel15 := Aside0.mk (below_then HBel13.out HBel13.out.size hb15); have HA15 := Aside0.mk (HA13.out.below hb15); have HB15 := Aside0.mk (HB13.out.below hb15); have LF15 := Aside0.mk hl15; clear hl15 hb15)
                go_upto_region 22 with (go_at_call 29; refine (iAnd 0 Xb Xa cb ca b a (f, g) _ HH.out HB15.out HA15.out).mono ?_; rintro e w16 ⟨R16, r16, rfl, hl16, hb16⟩; have HBel16 := Aside0.mk (below_then HBel15.out HBel15.out.size hb16); have LF16 := Aside0.mk (LF15.out.below hb16); have LG16 := Aside0.mk hl16; clear hl16 hb16)
                obtain rfl | rfl := Bool.eq_false_or_eq_true g
                · go_wp2_with (go_at_call 17; refine (occsSame_any _ _ _ _ _ _ _ LF16.out.rd LG16.out.rd).mono ?_; rintro e w17 ⟨rfl, hb17⟩; rw [decide_eq_true rfl]; have HBel17 := Aside0.mk (below_then HBel16.out HBel16.out.size hb17); clear hb17)
                  go_ret
                  exact ⟨rfl, HBel17.out⟩
                · go_wp2_with (go_at_call 17; refine (occsSame_any _ _ _ _ _ _ _ LF16.out.rd LG16.out.rd).mono ?_; rintro e w17 ⟨rfl, hb17⟩; rw [decide_eq_true rfl]; have HBel17 := Aside0.mk (below_then HBel16.out HBel16.out.size hb17); clear hb17)
                  go_ret
                  exact ⟨rfl, HBel17.out⟩
            · go_upto_region 20 with fail
              go_upto_region 21 with (go_at_call 29; refine (iAnd 0 Xa Xb ca cb a b (f, g) _ HF.out HA13.out HB13.out).mono ?_; rintro e w15 ⟨R15, r15, rfl, hl15, hb15⟩; have HBel15 := Aside0.mk (below_then HBel13.out HBel13.out.size hb15); have HA15 := Aside0.mk (HA13.out.below hb15); have HB15 := Aside0.mk (HB13.out.below hb15); have LF15 := Aside0.mk hl15; clear hl15 hb15)
              go_upto_region 22 with (go_at_call 29; refine (iAnd 0 Xb Xa cb ca b a (f, g) _ HH.out HB15.out HA15.out).mono ?_; rintro e w16 ⟨R16, r16, rfl, hl16, hb16⟩; have HBel16 := Aside0.mk (below_then HBel15.out HBel15.out.size hb16); have LF16 := Aside0.mk (LF15.out.below hb16); have LG16 := Aside0.mk hl16; clear hl16 hb16)
              obtain rfl | rfl := Bool.eq_false_or_eq_true g
              · go_wp2_with (go_at_call 17; refine (occsSame_any _ _ _ _ _ _ _ LF16.out.rd LG16.out.rd).mono ?_; rintro e w17 ⟨rfl, hb17⟩; rw [decide_eq_true rfl]; have HBel17 := Aside0.mk (below_then HBel16.out HBel16.out.size hb17); clear hb17)
                go_ret
                exact ⟨rfl, HBel17.out⟩
              · go_wp2_with (go_at_call 17; refine (occsSame_any _ _ _ _ _ _ _ LF16.out.rd LG16.out.rd).mono ?_; rintro e w17 ⟨rfl, hb17⟩; rw [decide_eq_true rfl]; have HBel17 := Aside0.mk (below_then HBel16.out HBel16.out.size hb17); clear hb17)
                go_ret
                exact ⟨rfl, HBel17.out⟩
        · go_upto_region 15 with fail
          go_upto_region 16 with (go_at_call 23; refine (iSeq 0 Xb Xc cb cc b c0 (x, m) _ HX.out HB9.out HC9.out).mono ?_; rintro e w11 ⟨R11, r11, rfl, hl11, hb11⟩; have HBel11 := Aside0.mk (below_then HBel9.out HBel9.out.size hb11); have HA11 := Aside0.mk (HA9.out.below hb11); have HB11 := Aside0.mk (HB9.out.below hb11); have HC11 := Aside0.mk (HC9.out.below hb11); have L1_11 := Aside0.mk (L1_9.out.below hb11); have LX11 := Aside0.mk hl11; clear hl11 hb11)
          go_upto_region 17 with (go_at_call 23; refine (iSeq 0 Xa R11 ca r11 a x (y, n) _ HY.out HA11.out LX11.out).mono ?_; rintro e w12 ⟨R12, r12, rfl, hl12, hb12⟩; have HBel12 := Aside0.mk (below_then HBel11.out HBel11.out.size hb12); have HA12 := Aside0.mk (HA11.out.below hb12); have HB12 := Aside0.mk (HB11.out.below hb12); have HC12 := Aside0.mk (HC11.out.below hb12); have L1_12 := Aside0.mk (L1_11.out.below hb12); have LY12 := Aside0.mk hl12; clear hl12 hb12)
          go_upto_region 18 with (go_at_call 23; refine (iSeq 0 R1 Xc r1 cc ab c0 (z, o) _ HZ.out L1_12.out HC12.out).mono ?_; rintro e w13 ⟨R13, r13, rfl, hl13, hb13⟩; have HBel13 := Aside0.mk (below_then HBel12.out HBel12.out.size hb13); have HA13 := Aside0.mk (HA12.out.below hb13); have HB13 := Aside0.mk (HB12.out.below hb13); have HC13 := Aside0.mk (HC12.out.below hb13); have L1_13 := Aside0.mk (L1_12.out.below hb13); have LY13 := Aside0.mk (LY12.out.below hb13); have LZ13 := Aside0.mk hl13; clear hl13 hb13)
          obtain rfl | rfl := Bool.eq_false_or_eq_true m
          · obtain rfl | rfl := Bool.eq_false_or_eq_true n
            · obtain rfl | rfl := Bool.eq_false_or_eq_true o
              · have HYZ := Aside0.mk (alg2 HAB.out HX.out HY.out HZ.out)
                go_upto_region 20 with (go_at_call 17; refine (occsSame_any _ _ _ _ _ _ _ LY13.out.rd LZ13.out.rd).mono ?_; rintro e w14 ⟨rfl, hb14⟩; rw [decide_eq_true HYZ.out]; have HBel14 := Aside0.mk (below_then HBel13.out HBel13.out.size hb14); have HA14 := Aside0.mk (HA13.out.below hb14); have HB14 := Aside0.mk (HB13.out.below hb14); clear hb14)
                go_upto_region 21 with (go_at_call 29; refine (iAnd 0 Xa Xb ca cb a b (f, g) _ HF.out HA14.out HB14.out).mono ?_; rintro e w15 ⟨R15, r15, rfl, hl15, hb15⟩; have HBel15 := Aside0.mk (below_then HBel14.out HBel14.out.size hb15); have HA15 := Aside0.mk (HA14.out.below hb15); have HB15 := Aside0.mk (HB14.out.below hb15); have LF15 := Aside0.mk hl15; clear hl15 hb15)
                go_upto_region 22 with (go_at_call 29; refine (iAnd 0 Xb Xa cb ca b a (f, g) _ HH.out HB15.out HA15.out).mono ?_; rintro e w16 ⟨R16, r16, rfl, hl16, hb16⟩; have HBel16 := Aside0.mk (below_then HBel15.out HBel15.out.size hb16); have LF16 := Aside0.mk (LF15.out.below hb16); have LG16 := Aside0.mk hl16; clear hl16 hb16)
                obtain rfl | rfl := Bool.eq_false_or_eq_true g
                · go_wp2_with (go_at_call 17; refine (occsSame_any _ _ _ _ _ _ _ LF16.out.rd LG16.out.rd).mono ?_; rintro e w17 ⟨rfl, hb17⟩; rw [decide_eq_true rfl]; have HBel17 := Aside0.mk (below_then HBel16.out HBel16.out.size hb17); clear hb17)
                  go_ret
                  exact ⟨rfl, HBel17.out⟩
                · go_wp2_with (go_at_call 17; refine (occsSame_any _ _ _ _ _ _ _ LF16.out.rd LG16.out.rd).mono ?_; rintro e w17 ⟨rfl, hb17⟩; rw [decide_eq_true rfl]; have HBel17 := Aside0.mk (below_then HBel16.out HBel16.out.size hb17); clear hb17)
                  go_ret
                  exact ⟨rfl, HBel17.out⟩
              · go_upto_region 20 with fail
                go_upto_region 21 with (go_at_call 29; refine (iAnd 0 Xa Xb ca cb a b (f, g) _ HF.out HA13.out HB13.out).mono ?_; rintro e w15 ⟨R15, r15, rfl, hl15, hb15⟩; have HBel15 := Aside0.mk (below_then HBel13.out HBel13.out.size hb15); have HA15 := Aside0.mk (HA13.out.below hb15); have HB15 := Aside0.mk (HB13.out.below hb15); have LF15 := Aside0.mk hl15; clear hl15 hb15)
                go_upto_region 22 with (go_at_call 29; refine (iAnd 0 Xb Xa cb ca b a (f, g) _ HH.out HB15.out HA15.out).mono ?_; rintro e w16 ⟨R16, r16, rfl, hl16, hb16⟩; have HBel16 := Aside0.mk (below_then HBel15.out HBel15.out.size hb16); have LF16 := Aside0.mk (LF15.out.below hb16); have LG16 := Aside0.mk hl16; clear hl16 hb16)
                obtain rfl | rfl := Bool.eq_false_or_eq_true g
                · go_wp2_with (go_at_call 17; refine (occsSame_any _ _ _ _ _ _ _ LF16.out.rd LG16.out.rd).mono ?_; rintro e w17 ⟨rfl, hb17⟩; rw [decide_eq_true rfl]; have HBel17 := Aside0.mk (below_then HBel16.out HBel16.out.size hb17); clear hb17)
                  go_ret
                  exact ⟨rfl, HBel17.out⟩
                · go_wp2_with (go_at_call 17; refine (occsSame_any _ _ _ _ _ _ _ LF16.out.rd LG16.out.rd).mono ?_; rintro e w17 ⟨rfl, hb17⟩; rw [decide_eq_true rfl]; have HBel17 := Aside0.mk (below_then HBel16.out HBel16.out.size hb17); clear hb17)
                  go_ret
                  exact ⟨rfl, HBel17.out⟩
            · go_upto_region 20 with fail
              go_upto_region 21 with (go_at_call 29; refine (iAnd 0 Xa Xb ca cb a b (f, g) _ HF.out HA13.out HB13.out).mono ?_; rintro e w15 ⟨R15, r15, rfl, hl15, hb15⟩; have HBel15 := Aside0.mk (below_then HBel13.out HBel13.out.size hb15); have HA15 := Aside0.mk (HA13.out.below hb15); have HB15 := Aside0.mk (HB13.out.below hb15); have LF15 := Aside0.mk hl15; clear hl15 hb15)
              go_upto_region 22 with (go_at_call 29; refine (iAnd 0 Xb Xa cb ca b a (f, g) _ HH.out HB15.out HA15.out).mono ?_; rintro e w16 ⟨R16, r16, rfl, hl16, hb16⟩; have HBel16 := Aside0.mk (below_then HBel15.out HBel15.out.size hb16); have LF16 := Aside0.mk (LF15.out.below hb16); have LG16 := Aside0.mk hl16; clear hl16 hb16)
              obtain rfl | rfl := Bool.eq_false_or_eq_true g
              · go_wp2_with (go_at_call 17; refine (occsSame_any _ _ _ _ _ _ _ LF16.out.rd LG16.out.rd).mono ?_; rintro e w17 ⟨rfl, hb17⟩; rw [decide_eq_true rfl]; have HBel17 := Aside0.mk (below_then HBel16.out HBel16.out.size hb17); clear hb17)
                go_ret
                exact ⟨rfl, HBel17.out⟩
              · go_wp2_with (go_at_call 17; refine (occsSame_any _ _ _ _ _ _ _ LF16.out.rd LG16.out.rd).mono ?_; rintro e w17 ⟨rfl, hb17⟩; rw [decide_eq_true rfl]; have HBel17 := Aside0.mk (below_then HBel16.out HBel16.out.size hb17); clear hb17)
                go_ret
                exact ⟨rfl, HBel17.out⟩
          · go_upto_region 20 with fail
            go_upto_region 21 with (go_at_call 29; refine (iAnd 0 Xa Xb ca cb a b (f, g) _ HF.out HA13.out HB13.out).mono ?_; rintro e w15 ⟨R15, r15, rfl, hl15, hb15⟩; have HBel15 := Aside0.mk (below_then HBel13.out HBel13.out.size hb15); have HA15 := Aside0.mk (HA13.out.below hb15); have HB15 := Aside0.mk (HB13.out.below hb15); have LF15 := Aside0.mk hl15; clear hl15 hb15)
            go_upto_region 22 with (go_at_call 29; refine (iAnd 0 Xb Xa cb ca b a (f, g) _ HH.out HB15.out HA15.out).mono ?_; rintro e w16 ⟨R16, r16, rfl, hl16, hb16⟩; have HBel16 := Aside0.mk (below_then HBel15.out HBel15.out.size hb16); have LF16 := Aside0.mk (LF15.out.below hb16); have LG16 := Aside0.mk hl16; clear hl16 hb16)
            obtain rfl | rfl := Bool.eq_false_or_eq_true g
            · go_wp2_with (go_at_call 17; refine (occsSame_any _ _ _ _ _ _ _ LF16.out.rd LG16.out.rd).mono ?_; rintro e w17 ⟨rfl, hb17⟩; rw [decide_eq_true rfl]; have HBel17 := Aside0.mk (below_then HBel16.out HBel16.out.size hb17); clear hb17)
              go_ret
              exact ⟨rfl, HBel17.out⟩
            · go_wp2_with (go_at_call 17; refine (occsSame_any _ _ _ _ _ _ _ LF16.out.rd LG16.out.rd).mono ?_; rintro e w17 ⟨rfl, hb17⟩; rw [decide_eq_true rfl]; have HBel17 := Aside0.mk (below_then HBel16.out HBel16.out.size hb17); clear hb17)
              go_ret
              exact ⟨rfl, HBel17.out⟩
      · go_upto_region 15 with fail
        go_upto_region 16 with (go_at_call 23; refine (iSeq 0 Xb Xc cb cc b c0 (x, m) _ HX.out HB9.out HC9.out).mono ?_; rintro e w11 ⟨R11, r11, rfl, hl11, hb11⟩; have HBel11 := Aside0.mk (below_then HBel9.out HBel9.out.size hb11); have HA11 := Aside0.mk (HA9.out.below hb11); have HB11 := Aside0.mk (HB9.out.below hb11); have HC11 := Aside0.mk (HC9.out.below hb11); have L1_11 := Aside0.mk (L1_9.out.below hb11); have LX11 := Aside0.mk hl11; clear hl11 hb11)
        go_upto_region 17 with (go_at_call 23; refine (iSeq 0 Xa R11 ca r11 a x (y, n) _ HY.out HA11.out LX11.out).mono ?_; rintro e w12 ⟨R12, r12, rfl, hl12, hb12⟩; have HBel12 := Aside0.mk (below_then HBel11.out HBel11.out.size hb12); have HA12 := Aside0.mk (HA11.out.below hb12); have HB12 := Aside0.mk (HB11.out.below hb12); have HC12 := Aside0.mk (HC11.out.below hb12); have L1_12 := Aside0.mk (L1_11.out.below hb12); have LY12 := Aside0.mk hl12; clear hl12 hb12)
        go_upto_region 18 with (go_at_call 23; refine (iSeq 0 R1 Xc r1 cc ab c0 (z, o) _ HZ.out L1_12.out HC12.out).mono ?_; rintro e w13 ⟨R13, r13, rfl, hl13, hb13⟩; have HBel13 := Aside0.mk (below_then HBel12.out HBel12.out.size hb13); have HA13 := Aside0.mk (HA12.out.below hb13); have HB13 := Aside0.mk (HB12.out.below hb13); have HC13 := Aside0.mk (HC12.out.below hb13); have L1_13 := Aside0.mk (L1_12.out.below hb13); have LY13 := Aside0.mk (LY12.out.below hb13); have LZ13 := Aside0.mk hl13; clear hl13 hb13)
        obtain rfl | rfl := Bool.eq_false_or_eq_true m
        · obtain rfl | rfl := Bool.eq_false_or_eq_true n
          · obtain rfl | rfl := Bool.eq_false_or_eq_true o
            · have HYZ := Aside0.mk (alg2 HAB.out HX.out HY.out HZ.out)
              go_upto_region 20 with (go_at_call 17; refine (occsSame_any _ _ _ _ _ _ _ LY13.out.rd LZ13.out.rd).mono ?_; rintro e w14 ⟨rfl, hb14⟩; rw [decide_eq_true HYZ.out]; have HBel14 := Aside0.mk (below_then HBel13.out HBel13.out.size hb14); have HA14 := Aside0.mk (HA13.out.below hb14); have HB14 := Aside0.mk (HB13.out.below hb14); clear hb14)
              go_upto_region 21 with (go_at_call 29; refine (iAnd 0 Xa Xb ca cb a b (f, g) _ HF.out HA14.out HB14.out).mono ?_; rintro e w15 ⟨R15, r15, rfl, hl15, hb15⟩; have HBel15 := Aside0.mk (below_then HBel14.out HBel14.out.size hb15); have HA15 := Aside0.mk (HA14.out.below hb15); have HB15 := Aside0.mk (HB14.out.below hb15); have LF15 := Aside0.mk hl15; clear hl15 hb15)
              go_upto_region 22 with (go_at_call 29; refine (iAnd 0 Xb Xa cb ca b a (f, g) _ HH.out HB15.out HA15.out).mono ?_; rintro e w16 ⟨R16, r16, rfl, hl16, hb16⟩; have HBel16 := Aside0.mk (below_then HBel15.out HBel15.out.size hb16); have LF16 := Aside0.mk (LF15.out.below hb16); have LG16 := Aside0.mk hl16; clear hl16 hb16)
              obtain rfl | rfl := Bool.eq_false_or_eq_true g
              · go_wp2_with (go_at_call 17; refine (occsSame_any _ _ _ _ _ _ _ LF16.out.rd LG16.out.rd).mono ?_; rintro e w17 ⟨rfl, hb17⟩; rw [decide_eq_true rfl]; have HBel17 := Aside0.mk (below_then HBel16.out HBel16.out.size hb17); clear hb17)
                go_ret
                exact ⟨rfl, HBel17.out⟩
              · go_wp2_with (go_at_call 17; refine (occsSame_any _ _ _ _ _ _ _ LF16.out.rd LG16.out.rd).mono ?_; rintro e w17 ⟨rfl, hb17⟩; rw [decide_eq_true rfl]; have HBel17 := Aside0.mk (below_then HBel16.out HBel16.out.size hb17); clear hb17)
                go_ret
                exact ⟨rfl, HBel17.out⟩
            · go_upto_region 20 with fail
              go_upto_region 21 with (go_at_call 29; refine (iAnd 0 Xa Xb ca cb a b (f, g) _ HF.out HA13.out HB13.out).mono ?_; rintro e w15 ⟨R15, r15, rfl, hl15, hb15⟩; have HBel15 := Aside0.mk (below_then HBel13.out HBel13.out.size hb15); have HA15 := Aside0.mk (HA13.out.below hb15); have HB15 := Aside0.mk (HB13.out.below hb15); have LF15 := Aside0.mk hl15; clear hl15 hb15)
              go_upto_region 22 with (go_at_call 29; refine (iAnd 0 Xb Xa cb ca b a (f, g) _ HH.out HB15.out HA15.out).mono ?_; rintro e w16 ⟨R16, r16, rfl, hl16, hb16⟩; have HBel16 := Aside0.mk (below_then HBel15.out HBel15.out.size hb16); have LF16 := Aside0.mk (LF15.out.below hb16); have LG16 := Aside0.mk hl16; clear hl16 hb16)
              obtain rfl | rfl := Bool.eq_false_or_eq_true g
              · go_wp2_with (go_at_call 17; refine (occsSame_any _ _ _ _ _ _ _ LF16.out.rd LG16.out.rd).mono ?_; rintro e w17 ⟨rfl, hb17⟩; rw [decide_eq_true rfl]; have HBel17 := Aside0.mk (below_then HBel16.out HBel16.out.size hb17); clear hb17)
                go_ret
                exact ⟨rfl, HBel17.out⟩
              · go_wp2_with (go_at_call 17; refine (occsSame_any _ _ _ _ _ _ _ LF16.out.rd LG16.out.rd).mono ?_; rintro e w17 ⟨rfl, hb17⟩; rw [decide_eq_true rfl]; have HBel17 := Aside0.mk (below_then HBel16.out HBel16.out.size hb17); clear hb17)
                go_ret
                exact ⟨rfl, HBel17.out⟩
          · go_upto_region 20 with fail
            go_upto_region 21 with (go_at_call 29; refine (iAnd 0 Xa Xb ca cb a b (f, g) _ HF.out HA13.out HB13.out).mono ?_; rintro e w15 ⟨R15, r15, rfl, hl15, hb15⟩; have HBel15 := Aside0.mk (below_then HBel13.out HBel13.out.size hb15); have HA15 := Aside0.mk (HA13.out.below hb15); have HB15 := Aside0.mk (HB13.out.below hb15); have LF15 := Aside0.mk hl15; clear hl15 hb15)
            go_upto_region 22 with (go_at_call 29; refine (iAnd 0 Xb Xa cb ca b a (f, g) _ HH.out HB15.out HA15.out).mono ?_; rintro e w16 ⟨R16, r16, rfl, hl16, hb16⟩; have HBel16 := Aside0.mk (below_then HBel15.out HBel15.out.size hb16); have LF16 := Aside0.mk (LF15.out.below hb16); have LG16 := Aside0.mk hl16; clear hl16 hb16)
            obtain rfl | rfl := Bool.eq_false_or_eq_true g
            · go_wp2_with (go_at_call 17; refine (occsSame_any _ _ _ _ _ _ _ LF16.out.rd LG16.out.rd).mono ?_; rintro e w17 ⟨rfl, hb17⟩; rw [decide_eq_true rfl]; have HBel17 := Aside0.mk (below_then HBel16.out HBel16.out.size hb17); clear hb17)
              go_ret
              exact ⟨rfl, HBel17.out⟩
            · go_wp2_with (go_at_call 17; refine (occsSame_any _ _ _ _ _ _ _ LF16.out.rd LG16.out.rd).mono ?_; rintro e w17 ⟨rfl, hb17⟩; rw [decide_eq_true rfl]; have HBel17 := Aside0.mk (below_then HBel16.out HBel16.out.size hb17); clear hb17)
              go_ret
              exact ⟨rfl, HBel17.out⟩
        · go_upto_region 20 with fail
          go_upto_region 21 with (go_at_call 29; refine (iAnd 0 Xa Xb ca cb a b (f, g) _ HF.out HA13.out HB13.out).mono ?_; rintro e w15 ⟨R15, r15, rfl, hl15, hb15⟩; have HBel15 := Aside0.mk (below_then HBel13.out HBel13.out.size hb15); have HA15 := Aside0.mk (HA13.out.below hb15); have HB15 := Aside0.mk (HB13.out.below hb15); have LF15 := Aside0.mk hl15; clear hl15 hb15)
          go_upto_region 22 with (go_at_call 29; refine (iAnd 0 Xb Xa cb ca b a (f, g) _ HH.out HB15.out HA15.out).mono ?_; rintro e w16 ⟨R16, r16, rfl, hl16, hb16⟩; have HBel16 := Aside0.mk (below_then HBel15.out HBel15.out.size hb16); have LF16 := Aside0.mk (LF15.out.below hb16); have LG16 := Aside0.mk hl16; clear hl16 hb16)
          obtain rfl | rfl := Bool.eq_false_or_eq_true g
          · go_wp2_with (go_at_call 17; refine (occsSame_any _ _ _ _ _ _ _ LF16.out.rd LG16.out.rd).mono ?_; rintro e w17 ⟨rfl, hb17⟩; rw [decide_eq_true rfl]; have HBel17 := Aside0.mk (below_then HBel16.out HBel16.out.size hb17); clear hb17)
            go_ret
            exact ⟨rfl, HBel17.out⟩
          · go_wp2_with (go_at_call 17; refine (occsSame_any _ _ _ _ _ _ _ LF16.out.rd LG16.out.rd).mono ?_; rintro e w17 ⟨rfl, hb17⟩; rw [decide_eq_true rfl]; have HBel17 := Aside0.mk (below_then HBel16.out HBel16.out.size hb17); clear hb17)
            go_ret
            exact ⟨rfl, HBel17.out⟩
end Go.Proofs.YtjeojdbfpncnkaaGreat.Wg

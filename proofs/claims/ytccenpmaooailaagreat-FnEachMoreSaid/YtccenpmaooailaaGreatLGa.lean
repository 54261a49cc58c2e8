
/- Three lists at all points in time: plain. -/
import Derived.Test.YtccenpmaooailaaGreatLB7
import Derived.Test.YtccenpmaooailaaGreatLB6
import Derived.Test.YtccenpmaooailaaGreatLTe
set_option linter.unusedVariables false
set_option linter.unusedSimpArgs false
namespace Go.Proofs.YtccenpmaooailaaGreat.Ga
open Go.RowKit Go.Proofs.YtccenpmaooailaaGreatW.PrintWords Go.Proofs.YtccenpmaooailaaGreat.Wd Go.Proofs.YtccenpmaooailaaGreat.Pu Go.Proofs.YtccenpmaooailaaGreat.Pv Go.Proofs.YtccenpmaooailaaGreat.Ca Go.Proofs.YtccenpmaooailaaGreat.Cb Go.Proofs.YtccenpmaooailaaGreat.Cc Go.Proofs.YtccenpmaooailaaGreat.Cp Go.Proofs.YtccenpmaooailaaGreat.Cd Go.Proofs.YtccenpmaooailaaGreat.Ci Go.Proofs.YtccenpmaooailaaGreat.Ce Go.Proofs.YtccenpmaooailaaGreat.Cf Go.Proofs.YtccenpmaooailaaGreat.Cg Go.Proofs.YtccenpmaooailaaGreat.Sc Go.Proofs.YtccenpmaooailaaGreat.Se Go.Proofs.YtccenpmaooailaaGreat.Sh Go.Proofs.YtccenpmaooailaaGreat.Si Go.Proofs.YtccenpmaooailaaGreat.Sp Go.Proofs.YtccenpmaooailaaGreat.Ia Go.Proofs.YtccenpmaooailaaGreat.Ib Go.Proofs.YtccenpmaooailaaGreat.Ic Go.Proofs.YtccenpmaooailaaGreat.Id Go.Proofs.YtccenpmaooailaaGreat.Ie Go.Proofs.YtccenpmaooailaaGreat.If Go.Proofs.YtccenpmaooailaaGreat.Ig Go.Proofs.YtccenpmaooailaaGreat.Ih Go.Proofs.YtccenpmaooailaaGreat.Ij Go.Proofs.YtccenpmaooailaaGreat.Ik Go.Proofs.YtccenpmaooailaaGreat.Ra Go.Proofs.YtccenpmaooailaaGreat.Rb Go.Proofs.YtccenpmaooailaaGreat.Rc Go.Proofs.YtccenpmaooailaaGreat.Rd Go.Proofs.YtccenpmaooailaaGreat.Re Go.Proofs.YtccenpmaooailaaGreat.Sj Go.Proofs.YtccenpmaooailaaGreat.Ya Go.Proofs.YtccenpmaooailaaGreat.Yd Go.Proofs.YtccenpmaooailaaGreat.Yf Go.Proofs.YtccenpmaooailaaGreat.Yg Go.Proofs.YtccenpmaooailaaGreat.Ih Go.Proofs.YtccenpmaooailaaGreat.Yh Go.Proofs.YtccenpmaooailaaGreat.Yi Go.Proofs.YtccenpmaooailaaGreat.Sg Go.Proofs.YtccenpmaooailaaGreat.Sf Go.Proofs.YtccenpmaooailaaGreat.Yj Go.Proofs.YtccenpmaooailaaGreat.Ig Go.Proofs.YtccenpmaooailaaGreat.Yk Go.Proofs.YtccenpmaooailaaGreat.Ik Go.Proofs.YtccenpmaooailaaGreat.Yl Go.Proofs.YtccenpmaooailaaGreat.Ij Go.Proofs.YtccenpmaooailaaGreat.Ym Go.Proofs.YtccenpmaooailaaGreat.Il Go.Proofs.YtccenpmaooailaaGreat.Yn Go.Proofs.YtccenpmaooailaaGreat.Yo Go.Proofs.YtccenpmaooailaaGreat.In Go.Proofs.YtccenpmaooailaaGreat.Yq Go.Proofs.YtccenpmaooailaaGreat.Pw Go.Proofs.YtccenpmaooailaaGreat.Px Go.Proofs.YtccenpmaooailaaGreat.La Go.Proofs.YtccenpmaooailaaGreat.Db Go.Proofs.YtccenpmaooailaaGreat.Ta Go.Proofs.YtccenpmaooailaaGreat.Tb Go.Proofs.YtccenpmaooailaaGreat.Td Go.Proofs.YtccenpmaooailaaGreat.Te Go.Proofs.YtccenpmaooailaaGreat.Sh Go.Proofs.YtccenpmaooailaaGreat.Id Go.Proofs.YtccenpmaooailaaGreat.Ik Go.Proofs.YtccenpmaooailaaGreat.Ij

/-! three lists at all points in time, plain -/
abbrev Stp := List Occ → List Occ → List Occ → List Occ → List Occ → P3
def all3Step (stp : Stp) (a b c : List Occ) (st : P3) (t : Int) : P3 :=
  ⟨(stp st.a st.b (atT a t) (atT b t) (atT c t)).a, (stp st.a st.b (atT a t) (atT b t) (atT c t)).b, putAll st.c (stp st.a st.b (atT a t) (atT b t) (atT c t)).c⟩
def all3 (stp : Stp) (a b c : List Occ) (ts : List Int) : P3 := ts.foldl (all3Step stp a b c) ⟨[], [], []⟩
theorem all3_take {stp : Stp} {a b c : List Occ} {ts : List Int} {k : Nat} (h : k < ts.length) : all3 stp a b c (ts.take (k + 1)) = all3Step stp a b c (all3 stp a b c (ts.take k)) (ts.getD k 0) := by
  unfold all3
  rw [List.take_add_one, List.foldl_append, List.getD_eq_getElem?_getD, List.getElem?_eq_getElem h]
  rfl
structure StepOk5 (stp : Stp) : Prop where
  ok : ∀ {l r a b c}, AreOk l → AreOk r → AreOk a → AreOk b → AreOk c → l.length + a.length ≤ 500 → r.length + b.length ≤ 500 → r.length + c.length ≤ 500 → Ok3 (stp l r a b c)
  la : ∀ {l r a b c}, AreOk l → AreOk r → AreOk a → AreOk b → AreOk c → (stp l r a b c).a.length ≤ l.length + a.length
  lb : ∀ {l r a b c}, AreOk l → AreOk r → AreOk a → AreOk b → AreOk c → (stp l r a b c).b.length ≤ r.length + (b.length + c.length)
  lc : ∀ {l r a b c}, AreOk l → AreOk r → AreOk a → AreOk b → AreOk c → l.length ≤ 40 → (stp l r a b c).c.length ≤ 40 * (b.length + c.length)
structure All3Ok (a b c : List Occ) (ts : List Int) (st : P3) : Prop where
  ka : AreOk st.a
  kb : AreOk st.b
  kc : AreOk st.c
  la : st.a.length ≤ sumAt a ts
  lb : st.b.length ≤ sumAt b ts + sumAt c ts
  lc : st.c.length ≤ 40 * (sumAt b ts + sumAt c ts)
theorem all3Ok_step {stp : Stp} (hs : StepOk5 stp) {a b c : List Occ} (ha : AreOk a) (hb : AreOk b) (hc : AreOk c) (na : a.length ≤ 40) (nb : b.length ≤ 40) (nc : c.length ≤ 40) {ts : List Int} (hts : Asc ts) {k : Nat} (hk : k < ts.length) {st : P3} (h : All3Ok a b c (ts.take k) st) :
    All3Ok a b c (ts.take (k + 1)) (all3Step stp a b c st (ts.getD k 0)) ∧ st.a.length + (atT a (ts.getD k 0)).length ≤ 40 ∧ st.b.length + (atT b (ts.getD k 0)).length + (atT c (ts.getD k 0)).length ≤ 80 := by
  have e1 := sumAt_take (l := a) hk
  have e2 := sumAt_take (l := b) hk
  have e3 := sumAt_take (l := c) hk
  have m1 := sumAt_mono (l := a) hts (k + 1)
  have m2 := sumAt_mono (l := b) hts (k + 1)
  have m3 := sumAt_mono (l := c) hts (k + 1)
  have h1 := h.la; have h2 := h.lb; have h3 := h.lc
  have hta : AreOk (atT a (ts.getD k 0)) := ha.filter _
  have htb : AreOk (atT b (ts.getD k 0)) := hb.filter _
  have htc : AreOk (atT c (ts.getD k 0)) := hc.filter _
  have b1 : st.a.length + (atT a (ts.getD k 0)).length ≤ 40 := by omega
  have b2 : st.b.length + (atT b (ts.getD k 0)).length + (atT c (ts.getD k 0)).length ≤ 80 := by omega
  have ho := hs.ok h.ka h.kb hta htb htc (by omega) (by omega) (by omega)
  have l1 := hs.la h.ka h.kb hta htb htc
  have l2 := hs.lb h.ka h.kb hta htb htc
  have l3 := hs.lc h.ka h.kb hta htb htc (by omega)
  have l4 := len_putAll1 st.c (stp st.a st.b (atT a (ts.getD k 0)) (atT b (ts.getD k 0)) (atT c (ts.getD k 0))).c
  refine ⟨⟨ho.a, ho.b, h.kc.putAll ho.c.all, ?_, ?_, ?_⟩, b1, b2⟩
  · show (stp st.a st.b _ _ _).a.length ≤ _; omega
  · show (stp st.a st.b _ _ _).b.length ≤ _; omega
  · show (putAll st.c _).length ≤ _; omega
theorem all3_ok {stp : Stp} (hs : StepOk5 stp) {a b c : List Occ} (ha : AreOk a) (hb : AreOk b) (hc : AreOk c) (na : a.length ≤ 40) (nb : b.length ≤ 40) (nc : c.length ≤ 40) {ts : List Int} (hts : Asc ts) : ∀ k, k ≤ ts.length → All3Ok a b c (ts.take k) (all3 stp a b c (ts.take k))
  | 0, _ => ⟨AreOk.nil, AreOk.nil, AreOk.nil, Nat.zero_le _, Nat.zero_le _, Nat.zero_le _⟩
  | k + 1, h => by
    rw [all3_take (by omega)]
    exact (all3Ok_step hs ha hb hc na nb nc hts (by omega) (all3_ok hs ha hb hc na nb nc hts k (by omega))).1
theorem not3_step {mode : Int} (hm : 0 ≤ mode ∧ mode ≤ 4) : StepOk5 (not3 mode) := by
  refine ⟨fun hl hr ha hb hc n1 n2 n3 => not3_ok hm hl hr ha hb hc n1 n2 (by omega) (by omega), ?_, ?_, ?_⟩
  · intro l r a b c hl hr ha hb hc
    have h3 := stepLen_fold (f := notStep mode r) (a := l.length) (fun _ _ _ h ho => notLen_step h ho) (right := c) (st := (l, [])) (c := 0) ⟨hl, AreOk.nil, Nat.le_refl _, Nat.le_refl _⟩ hc.all
    have h4 := len_putAll1 (c.foldl (notStep mode r) (l, [])).1 a
    have h5 := h3.own
    show (putAll _ a).length ≤ _
    omega
  · intro l r a b c hl hr ha hb hc
    have h4 := len_putAll1 r b
    show (putAll r b).length ≤ _
    omega
  · intro l r a b c hl hr ha hb hc n1
    have h3 := stepLen_fold (f := notStep mode r) (a := l.length) (fun _ _ _ h ho => notLen_step h ho) (right := c) (st := (l, [])) (c := 0) ⟨hl, AreOk.nil, Nat.le_refl _, Nat.le_refl _⟩ hc.all
    have h5 := h3.out
    have h6 : c.length * l.length ≤ c.length * 40 := Nat.mul_le_mul_left _ (by omega)
    show (c.foldl (notStep mode r) (l, [])).2.length ≤ _
    omega
theorem each3_step {mode : Int} (hm : 0 ≤ mode ∧ mode ≤ 4) : StepOk5 (each3 mode) := by
  refine ⟨fun hl hr ha hb hc n1 n2 n3 => each3_ok hm hl hr ha hb hc n1 n3 (by omega) (by omega), ?_, ?_, ?_⟩
  · intro l r a b c hl hr ha hb hc
    have h3 := stepLen_fold (f := eStep mode r) (a := l.length) (fun _ _ _ h ho => eLen_step h ho) (right := b) (st := (l, [])) (c := 0) ⟨hl, AreOk.nil, Nat.le_refl _, Nat.le_refl _⟩ hb.all
    have h4 := len_putAll1 (b.foldl (eStep mode r) (l, [])).1 a
    have h5 := h3.own
    show (putAll _ a).length ≤ _
    omega
  · intro l r a b c hl hr ha hb hc
    have h4 := len_putAll1 r c
    show (putAll r c).length ≤ _
    omega
  · intro l r a b c hl hr ha hb hc n1
    have h3 := stepLen_fold (f := eStep mode r) (a := l.length) (fun _ _ _ h ho => eLen_step h ho) (right := b) (st := (l, [])) (c := 0) ⟨hl, AreOk.nil, Nat.le_refl _, Nat.le_refl _⟩ hb.all
    have h5 := h3.out
    have h6 : b.length * l.length ≤ b.length * 40 := Nat.mul_le_mul_left _ (by omega)
    show (b.foldl (eStep mode r) (l, [])).2.length ≤ _
    omega
def ofN (stp : Int → Stp) (mode : Int) (a b c : List Occ) : List Occ × Bool :=
  if fits5 mode [] [] a b c then told (all3 (stp mode) a b c (tms (a ++ (b ++ c)))).c else ([], false)
theorem three_L {w : World} {g : Nat} {t : TypeId} {a b c : List Occ} {A B C : Option Addr} {ca cb cc : Nat} (h : w.heap[g]? = some (.cells #[.slice A a.length ca, .slice B b.length cb, .slice C c.length cc] t (0, 0))) (ha : IsL w a A ca) (hb : IsL w b B cb) (hc : IsL w c C cc) : kL.C w (some ⟨g, 0, none⟩) 3 [a, b, c] := by
  refine ⟨rfl, by decide, fun _ => ⟨_, rfl, fun j p hj => ?_⟩⟩
  have hs : kL.sz = 1 := rfl
  rcases j with _ | _ | _ | j
  · obtain rfl : a = p := by simpa using hj
    refine ⟨[.slice A a.length ca], rfl, ⟨A, ca, rfl, ha.cap, ha.rd⟩, fun i u hi => ?_⟩
    rw [add_plain, blk_cell h]
    rcases i with _ | i
    · simpa [hs] using hi
    · simp at hi
  · obtain rfl : b = p := by simpa using hj
    refine ⟨[.slice B b.length cb], rfl, ⟨B, cb, rfl, hb.cap, hb.rd⟩, fun i u hi => ?_⟩
    rw [add_plain, blk_cell h]
    rcases i with _ | i
    · simpa [hs] using hi
    · simp at hi
  · obtain rfl : c = p := by simpa using hj
    refine ⟨[.slice C c.length cc], rfl, ⟨C, cc, rfl, hc.cap, hc.rd⟩, fun i u hi => ?_⟩
    rw [add_plain, blk_cell h]
    rcases i with _ | i
    · simpa [hs] using hi
    · simp at hi
  · simp at hj
theorem far2 {W : World} {N M i : Nat} {cs : Array Value} {t : TypeId} {v : Value} (bN : W.heap[N]? = some (.cells cs t (0, 0))) (h : N ≠ M) (hv : cs[i]? = some v) (u0 u1 : Value) : ((W.setCell ⟨M, 0, none⟩ u0).setCell ⟨M, 1, none⟩ u1).cell? ⟨N, i, none⟩ = some v :=
  (blk_cell (blk_far (blk_far bN (p := ⟨M, 0, none⟩) h u0) (p := ⟨M, 1, none⟩) h u1) i).trans hv
end Go.Proofs.YtccenpmaooailaaGreat.Ga

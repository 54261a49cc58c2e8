/- All points in time: the program's at and few; plain laws on all points in time. -/
import Derived.Test.YtjeojdbfpncnkaaIj
set_option linter.unusedVariables false
set_option linter.unusedSimpArgs false
namespace Go.Proofs.Ytjeojdbfpncnkaa.Ik
open Go.RowKit Go.Proofs.YtjeojdbfpncnkaaW.PrintWords Go.Proofs.Ytjeojdbfpncnkaa.Wd Go.Proofs.Ytjeojdbfpncnkaa.Pu Go.Proofs.Ytjeojdbfpncnkaa.Pv Go.Proofs.Ytjeojdbfpncnkaa.Ca Go.Proofs.Ytjeojdbfpncnkaa.Cb Go.Proofs.Ytjeojdbfpncnkaa.Cc Go.Proofs.Ytjeojdbfpncnkaa.Cp Go.Proofs.Ytjeojdbfpncnkaa.Cd Go.Proofs.Ytjeojdbfpncnkaa.Ci Go.Proofs.Ytjeojdbfpncnkaa.Ce Go.Proofs.Ytjeojdbfpncnkaa.Cf Go.Proofs.Ytjeojdbfpncnkaa.Cg Go.Proofs.Ytjeojdbfpncnkaa.Ia Go.Proofs.Ytjeojdbfpncnkaa.Ib Go.Proofs.Ytjeojdbfpncnkaa.Ic Go.Proofs.Ytjeojdbfpncnkaa.Id Go.Proofs.Ytjeojdbfpncnkaa.Ie Go.Proofs.Ytjeojdbfpncnkaa.If Go.Proofs.Ytjeojdbfpncnkaa.Ig Go.Proofs.Ytjeojdbfpncnkaa.Ih Go.Proofs.Ytjeojdbfpncnkaa.Ij

theorem atT_isAt (l : List Occ) (t : Int) : l.filter (isAt t) = atT l t := rfl
def AtOut (w w' : World) (l : List Occ) (e : Ending) : Prop := ∃ A c, e = .returned (.slice A l.length c) ∧ IsL w' l A c ∧ Below w.heap.size w w'
set_option maxRecDepth 100000 in
theorem at_any (A : Option Addr) (c : Nat) (l : List Occ) (t : Int) (w : World) (hl : l.length ≤ 1048576) (hL : IsL w l A c) :
    Calls Try.prog 93 #[.slice A l.length c, .int .i64 t] w fun e w' => AtOut w w' (atT l t) e := by
  have hmf : ∀ (fn : Fn) (first cap : Array Value) (w : World), (Instr.makeFunc fn first cap).run Try.prog w = .ok (.func fn first cap) w := fun _ _ _ _ => rfl
  have hb := below_alloc (Below.refl w.heap.size w) (.cells #[.int .i64 t] 3)
  have h1 : (w.alloc (.cells #[.int .i64 t] 3)).cell? ⟨w.heap.size, 0, none⟩ = some (.int .i64 t) := by simp
  have hc := isAt_any A c w.heap.size t l _ hl (hL.below hb) h1
  rw [atT_isAt] at hc
  clear h1
  go_enter Try.func93, Try.ntmps93
  go_wp2_with (go_at_call 97; refine hc.mono ?_; rintro e w5 ⟨A5, c5, rfl, hl5, hb5⟩; have HL := Aside0.mk hl5; have HB := Aside0.mk (below_then hb hb.size hb5); clear hl5 hb5)
  go_ret
  exact ⟨A5, c5, rfl, HL.out, HB.out⟩
/-- what is told of a list, if it is not too long -/
def told (l : List Occ) : List Occ × Bool := if l.length > 40 then ([], false) else (l, true)
def ToldOut (w w' : World) (p : List Occ × Bool) (e : Ending) : Prop := ∃ v, e = .returned (.tuple #[v, .bool p.2]) ∧ SS w' w.heap.size (fun _ => True) v p.1 ∧ Below w.heap.size w w'
set_option maxRecDepth 100000 in
theorem few_any (A : Option Addr) (c : Nat) (l : List Occ) (w : World) (hi : ∀ x ∈ l, x.f2.length ≤ 1048576) (hL : IsL w l A c) :
    Calls Try.prog 59 #[.slice A l.length c] w fun e w' => ToldOut w w' (told l) e := by
  by_cases h : l.length > 40
  · have d1 : decide ((l.length : Int) > 40) = true := decide_eq_true (by omega)
    have HE := Aside0.mk (show told l = ([], false) by unfold told; rw [if_pos h])
    go_enter Try.func59, Try.ntmps59
    go_wp2
    go_ret2
    exact ⟨.slice none 0 0, by rw [HE.out]; rfl, by rw [HE.out]; exact Kd.S_nil _ _ _ _ _, Below.refl _ _⟩
  · have d1 : decide ((l.length : Int) > 40) = false := decide_eq_false (by omega)
    have HE := Aside0.mk (show told l = (l, true) by unfold told; rw [if_neg h])
    have hc := cloneOccs_any A c l w (by omega) hi hL
    go_enter Try.func59, Try.ntmps59
    go_wp2_with (go_at_call 41; refine hc.mono ?_; rintro e w5 ⟨v2, rfl, hs5, hb5⟩; have HS := Aside0.mk hs5; have HB := Aside0.mk hb5; clear hs5 hb5)
    go_ret2
    exact ⟨v2, by rw [HE.out]; rfl, by rw [HE.out]; exact HS.out, HB.out⟩

theorem merge_mem (l : List Int) (z : Int) : z ∈ l.mergeSort Lays.leb ↔ z ∈ l := List.mem_mergeSort
theorem times_tms {ls : List (List Occ)} (h : ∀ o ∈ ls.flatten, IsOk o) : Lib.compact ((tos ls).mergeSort Lays.leb) = tms ls.flatten := by
  obtain ⟨h1, h2⟩ := comp_sorted _ (sorted_merge (tos ls))
  refine tms_of h h1 (fun z => ?_)
  rw [h2, merge_mem]
  unfold tos
  rw [List.mem_map]

/-! all points in time, plain -/
def sumAt (l : List Occ) (ts : List Int) : Nat := (ts.map (fun t => (atT l t).length)).sum
theorem sumAt_le : ∀ {ts : List Int} {l : List Occ}, Asc ts → sumAt l ts ≤ l.length
  | [], l, _ => by simp [sumAt]
  | t :: ts, l, h => by
    obtain ⟨h1, h2⟩ := List.pairwise_cons.1 h
    have ih := sumAt_le (ts := ts) (l := l.filter (fun o => !decide (o.f1 = t))) h2
    have he : sumAt (l.filter (fun o => !decide (o.f1 = t))) ts = sumAt l ts := by
      unfold sumAt
      congr 1
      refine List.map_congr_left (fun u hu => ?_)
      unfold atT
      rw [List.filter_filter]
      congr 1
      refine List.filter_congr (fun o _ => ?_)
      have := h1 u hu
      by_cases e : o.f1 = u
      · simp [e]; omega
      · simp [e]
    rw [he] at ih
    have hs : (l.filter (fun o => decide (o.f1 = t))).length + (l.filter (fun o => !decide (o.f1 = t))).length = l.length := by
      clear he ih h h1 h2
      induction l with
      | nil => simp
      | cons x xs ihx => by_cases e : x.f1 = t <;> simp [e] <;> omega
    have hz : sumAt l (t :: ts) = (l.filter (fun o => decide (o.f1 = t))).length + sumAt l ts := by
      unfold sumAt atT
      rw [List.map_cons, List.sum_cons]
    omega
theorem sumAt_take {l : List Occ} {ts : List Int} {k : Nat} (h : k < ts.length) : sumAt l (ts.take (k + 1)) = sumAt l (ts.take k) + (atT l (ts.getD k 0)).length := by
  unfold sumAt
  rw [List.take_add_one, List.map_append, List.sum_append, List.getD_eq_getElem?_getD, List.getElem?_eq_getElem h]
  simp
theorem sumAt_mono {l : List Occ} {ts : List Int} (h : Asc ts) (k : Nat) : sumAt l (ts.take k) ≤ l.length := sumAt_le (h.sublist (List.take_sublist _ _))
def bothStep (stp : List Occ → List Occ → List Occ → List Occ → P3) (a b : List Occ) (st : P3) (t : Int) : P3 :=
  ⟨(stp st.a st.b (atT a t) (atT b t)).a, (stp st.a st.b (atT a t) (atT b t)).b, putAll st.c (stp st.a st.b (atT a t) (atT b t)).c⟩
def both (stp : List Occ → List Occ → List Occ → List Occ → P3) (a b : List Occ) (ts : List Int) : P3 := ts.foldl (bothStep stp a b) ⟨[], [], []⟩
theorem both_take {stp : List Occ → List Occ → List Occ → List Occ → P3} {a b : List Occ} {ts : List Int} {k : Nat} (h : k < ts.length) : both stp a b (ts.take (k + 1)) = bothStep stp a b (both stp a b (ts.take k)) (ts.getD k 0) := by
  unfold both
  rw [List.take_add_one, List.foldl_append, List.getD_eq_getElem?_getD, List.getElem?_eq_getElem h]
  rfl
/-- what a step must keep -/
structure StepOk (stp : List Occ → List Occ → List Occ → List Occ → P3) : Prop where
  ok : ∀ {l r a b}, AreOk l → AreOk r → AreOk a → AreOk b → l.length + a.length ≤ 500 → r.length + b.length ≤ 500 → Ok3 (stp l r a b)
  la : ∀ {l r a b}, AreOk l → AreOk r → AreOk a → AreOk b → (stp l r a b).a.length ≤ l.length + a.length
  lb : ∀ {l r a b}, AreOk l → AreOk r → AreOk a → AreOk b → (stp l r a b).b.length ≤ r.length + b.length
  lc : ∀ {l r a b}, AreOk l → AreOk r → AreOk a → AreOk b → l.length + a.length ≤ 40 → r.length + b.length ≤ 40 → (stp l r a b).c.length ≤ 40 * (a.length + b.length)
structure BothOk (a b : List Occ) (ts : List Int) (st : P3) : Prop where
  ka : AreOk st.a
  kb : AreOk st.b
  kc : AreOk st.c
  la : st.a.length ≤ sumAt a ts
  lb : st.b.length ≤ sumAt b ts
  lc : st.c.length ≤ 40 * (sumAt a ts + sumAt b ts)
theorem bothOk_step {stp : List Occ → List Occ → List Occ → List Occ → P3} (hs : StepOk stp) {a b : List Occ} (ha : AreOk a) (hb : AreOk b) (na : a.length ≤ 40) (nb : b.length ≤ 40) {ts : List Int} (hts : Asc ts) {k : Nat} (hk : k < ts.length) {st : P3} (h : BothOk a b (ts.take k) st) :
    BothOk a b (ts.take (k + 1)) (bothStep stp a b st (ts.getD k 0)) ∧ st.a.length + (atT a (ts.getD k 0)).length ≤ 40 ∧ st.b.length + (atT b (ts.getD k 0)).length ≤ 40 := by
  have e1 := sumAt_take (l := a) hk
  have e2 := sumAt_take (l := b) hk
  have m1 := sumAt_mono (l := a) hts (k + 1)
  have m2 := sumAt_mono (l := b) hts (k + 1)
  have h1 := h.la; have h2 := h.lb; have h3 := h.lc
  have hta : AreOk (atT a (ts.getD k 0)) := ha.filter _
  have htb : AreOk (atT b (ts.getD k 0)) := hb.filter _
  have b1 : st.a.length + (atT a (ts.getD k 0)).length ≤ 40 := by omega
  have b2 : st.b.length + (atT b (ts.getD k 0)).length ≤ 40 := by omega
  have ho := hs.ok h.ka h.kb hta htb (by omega) (by omega)
  have l1 := hs.la h.ka h.kb hta htb
  have l2 := hs.lb h.ka h.kb hta htb
  have l3 := hs.lc h.ka h.kb hta htb b1 b2
  have l4 := len_putAll1 st.c (stp st.a st.b (atT a (ts.getD k 0)) (atT b (ts.getD k 0))).c
  refine ⟨⟨ho.a, ho.b, h.kc.putAll ho.c.all, ?_, ?_, ?_⟩, b1, b2⟩
  · show (stp st.a st.b _ _).a.length ≤ _; omega
  · show (stp st.a st.b _ _).b.length ≤ _; omega
  · show (putAll st.c _).length ≤ _; omega
theorem bothOk_nil (a b : List Occ) (ts : List Int) : BothOk a b (ts.take 0) ⟨[], [], []⟩ := ⟨AreOk.nil, AreOk.nil, AreOk.nil, Nat.zero_le _, Nat.zero_le _, Nat.zero_le _⟩
theorem both_ok {stp : List Occ → List Occ → List Occ → List Occ → P3} (hs : StepOk stp) {a b : List Occ} (ha : AreOk a) (hb : AreOk b) (na : a.length ≤ 40) (nb : b.length ≤ 40) {ts : List Int} (hts : Asc ts) : ∀ k, k ≤ ts.length → BothOk a b (ts.take k) (both stp a b (ts.take k))
  | 0, _ => bothOk_nil a b ts
  | k + 1, h => by
    rw [both_take (by omega)]
    exact (bothOk_step hs ha hb na nb hts (by omega) (both_ok hs ha hb na nb hts k (by omega))).1
theorem seq3_step {mode : Int} (hm : 0 ≤ mode ∧ mode ≤ 4) : StepOk (seq3 mode) := by
  refine ⟨fun hl hr ha hb n1 n2 => seq3_ok hm hl hr ha hb n1 n2, ?_, ?_, ?_⟩
  · intro l r a b hl hr ha hb
    have h3 := seqLen_fold (mode := mode) (a := l.length) (right := b) (st := (l, [])) (c := 0) ⟨hl, AreOk.nil, Nat.le_refl _, Nat.le_refl _⟩ hb.all
    have h4 := len_putAll1 (b.foldl (seqStep mode) (l, [])).1 a
    have h5 := h3.own
    show (putAll _ a).length ≤ _
    omega
  · intro l r a b hl hr ha hb
    show r.length ≤ _
    omega
  · intro l r a b hl hr ha hb n1 n2
    have h3 := seqLen_fold (mode := mode) (a := l.length) (right := b) (st := (l, [])) (c := 0) ⟨hl, AreOk.nil, Nat.le_refl _, Nat.le_refl _⟩ hb.all
    have h5 := h3.out
    have h6 : b.length * l.length ≤ b.length * 40 := Nat.mul_le_mul_left _ (by omega)
    show (b.foldl (seqStep mode) (l, [])).2.length ≤ _
    omega
theorem and3_step {mode : Int} (hm : 0 ≤ mode ∧ mode ≤ 4) : StepOk (and3 mode) := by
  have key : ∀ {l r a b : List Occ}, AreOk l → AreOk r → AreOk a → AreOk b → (and3 mode l r a b).a.length ≤ l.length + a.length ∧ (and3 mode l r a b).b.length ≤ r.length + b.length ∧ (and3 mode l r a b).c.length ≤ a.length * r.length + b.length * (l.length + a.length) := by
    intro l r a b hl hr ha hb
    have h3 := andLen_fold (mode := mode) (right := a) (st := ⟨l, r, []⟩) (a := l.length) (b := r.length) (c := 0) ⟨⟨hl, hr, AreOk.nil⟩, Nat.le_refl _, Nat.le_refl _, Nat.le_refl _⟩ ha.all
    have h4 := andLen_fold (mode := mode) (right := b) (andLen_flip h3) hb.all
    refine ⟨h4.oth, h4.own, ?_⟩
    have := h4.out
    show (b.foldl (andStep mode) (flip (a.foldl (andStep mode) ⟨l, r, []⟩))).out.length ≤ _
    omega
  refine ⟨fun hl hr ha hb n1 n2 => and3_ok hm hl hr ha hb n1 n2, fun hl hr ha hb => (key hl hr ha hb).1, fun hl hr ha hb => (key hl hr ha hb).2.1, ?_⟩
  intro l r a b hl hr ha hb n1 n2
  have h1 := (key hl hr ha hb).2.2
  have h6 : a.length * r.length ≤ a.length * 40 := Nat.mul_le_mul_left _ (by omega)
  have h7 : b.length * (l.length + a.length) ≤ b.length * 40 := Nat.mul_le_mul_left _ (by omega)
  omega
end Go.Proofs.Ytjeojdbfpncnkaa.Ik

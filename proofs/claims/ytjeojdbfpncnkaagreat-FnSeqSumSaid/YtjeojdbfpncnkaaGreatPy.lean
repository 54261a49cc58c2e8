
/- A sequence paired as the last one, as the first one, as each, in sum: told by marks of what was used. No program. -/
import Derived.Test.YtjeojdbfpncnkaaGreatB7
set_option linter.unusedVariables false
set_option linter.unusedSimpArgs false
namespace Go.Proofs.YtjeojdbfpncnkaaGreat.Py
open Go.Proofs.YtjeojdbfpncnkaaGreat.Pu Go.Proofs.YtjeojdbfpncnkaaGreat.Pv Go.Proofs.YtjeojdbfpncnkaaGreat.Ig Go.Proofs.YtjeojdbfpncnkaaGreat.Ih Go.Proofs.YtjeojdbfpncnkaaGreat.Ik Go.Proofs.YtjeojdbfpncnkaaGreat.Il Go.Proofs.YtjeojdbfpncnkaaGreat.Pw Go.Proofs.YtjeojdbfpncnkaaGreat.Px Go.Proofs.YtjeojdbfpncnkaaGreat.La

/-- the last place before i of which p holds; -1: none -/
def LastAt (p : Nat → Bool) (i : Nat) (s : Int) : Prop := (s = -1 ∧ ∀ j, j < i → p j = false) ∨ ∃ j, j < i ∧ s = (j : Int) ∧ p j = true ∧ ∀ k, j < k → k < i → p k = false
theorem LastAt.start (p : Nat → Bool) : LastAt p 0 (-1) := .inl ⟨rfl, fun j h => absurd h (by omega)⟩
theorem LastAt.yes {p : Nat → Bool} {i : Nat} (h : p i = true) : LastAt p (i + 1) (i : Int) := .inr ⟨i, by omega, rfl, h, fun k h1 h2 => by omega⟩
theorem LastAt.no {p : Nat → Bool} {i : Nat} {s : Int} (h : LastAt p i s) (hp : p i = false) : LastAt p (i + 1) s := by
  rcases h with ⟨h1, h2⟩ | ⟨j, h1, h2, h3, h4⟩
  · exact .inl ⟨h1, fun j hj => by
      by_cases e : j = i
      · rw [e]; exact hp
      · exact h2 j (by omega)⟩
  · exact .inr ⟨j, by omega, h2, h3, fun k hk1 hk2 => by
      by_cases e : k = i
      · rw [e]; exact hp
      · exact h4 k hk1 (by omega)⟩
/-- the first place before i of which p holds; -1: none -/
def FirstAt (p : Nat → Bool) (i : Nat) (s : Int) : Prop := (s = -1 ∧ ∀ j, j < i → p j = false) ∨ ∃ j, j < i ∧ s = (j : Int) ∧ p j = true ∧ ∀ k, k < j → p k = false
theorem FirstAt.start (p : Nat → Bool) : FirstAt p 0 (-1) := .inl ⟨rfl, fun j h => absurd h (by omega)⟩
theorem FirstAt.yes {p : Nat → Bool} {i : Nat} {s : Int} (h : FirstAt p i s) (hs : s < 0) (hp : p i = true) : FirstAt p (i + 1) (i : Int) := by
  rcases h with ⟨h1, h2⟩ | ⟨j, h1, h2, h3, h4⟩
  · exact .inr ⟨i, by omega, rfl, hp, h2⟩
  · omega
theorem FirstAt.no {p : Nat → Bool} {i : Nat} {s : Int} (h : FirstAt p i s) (hp : p i = false) : FirstAt p (i + 1) s := by
  rcases h with ⟨h1, h2⟩ | ⟨j, h1, h2, h3, h4⟩
  · exact .inl ⟨h1, fun j hj => by
      by_cases e : j = i
      · rw [e]; exact hp
      · exact h2 j (by omega)⟩
  · exact .inr ⟨j, by omega, h2, h3, h4⟩
theorem FirstAt.had {p : Nat → Bool} {i : Nat} {s : Int} (h : FirstAt p i s) (hs : 0 ≤ s) : FirstAt p (i + 1) s := by
  rcases h with ⟨h1, h2⟩ | ⟨j, h1, h2, h3, h4⟩
  · omega
  · exact .inr ⟨j, by omega, h2, h3, h4⟩
/-! an ordered list's first and last -/
theorem head_min {l : List Occ} (h : Sorted l) {m : Occ} (hm : m ∈ l) (hx : ∀ x ∈ l, x = m ∨ lt m x) : l.getD 0 zO = m := by
  cases l with
  | nil => simp at hm
  | cons y ys =>
    obtain ⟨hy, _⟩ := List.pairwise_cons.1 h
    rcases hx y (by simp) with e | e
    · exact e
    · rcases List.mem_cons.1 hm with g | g
      · exact g.symm
      · exact absurd e (lt_asymm (hy m g))
theorem last_max : ∀ {l : List Occ}, Sorted l → ∀ {m : Occ}, m ∈ l → (∀ x ∈ l, x = m ∨ lt x m) → l.getD (l.length - 1) zO = m
  | [], _, _, hm, _ => by simp at hm
  | [y], _, m, hm, _ => by rw [List.mem_singleton] at hm; rw [hm]; rfl
  | y :: z :: zs, h, m, hm, hx => by
    obtain ⟨hy, hz⟩ := List.pairwise_cons.1 h
    have hm2 : m ∈ z :: zs := by
      rcases List.mem_cons.1 hm with e | e
      · have h1 := hy z (by simp)
        rcases hx z (by simp) with g | g
        · rw [g, e] at h1; exact absurd h1 (lt_irrefl _)
        · rw [e] at g; exact absurd g (lt_asymm h1)
      · exact e
    have := last_max hz hm2 (fun x hx2 => hx x (List.mem_cons_of_mem _ hx2))
    simpa using this
theorem getD_lt {a : List Occ} (h : Sorted a) {i j : Nat} (hij : i < j) (hj : j < a.length) : lt (a.getD i zO) (a.getD j zO) := by
  rw [List.getD_eq_getElem?_getD, List.getD_eq_getElem?_getD, List.getElem?_eq_getElem hj, List.getElem?_eq_getElem (by omega)]
  exact List.pairwise_iff_getElem.1 h i j (by omega) hj hij
theorem mem_getD {a : List Occ} {x : Occ} (h : x ∈ a) : ∃ i, i < a.length ∧ a.getD i zO = x := by
  obtain ⟨i, hi, e⟩ := List.getElem_of_mem h
  exact ⟨i, hi, by rw [List.getD_eq_getElem?_getD, List.getElem?_eq_getElem hi]; exact e⟩
/-! the last one -/
theorem last_none {a : List Occ} {o : Occ} {s : Int} (h : LastAt (fun j => before o (a.getD j zO)) a.length s) (hs : s < 0) : a.filter (before o) = [] := by
  rcases h with ⟨_, h2⟩ | ⟨j, _, h2, _⟩
  · rw [List.filter_eq_nil_iff]
    intro x hx
    obtain ⟨i, hi, e⟩ := mem_getD hx
    have h3 : before o (a.getD i zO) = false := h2 i hi
    rw [← e, h3]
    simp
  · omega
theorem last_some {a : List Occ} (ha : Sorted a) {o : Occ} {s : Int} (h : LastAt (fun j => before o (a.getD j zO)) a.length s) (hs : 0 ≤ s) : s.toNat < a.length ∧ (combine 1 o (a.filter (before o))).1 = [join o (a.getD s.toNat zO)] := by
  rcases h with ⟨h1, _⟩ | ⟨j, h1, h2, h3, h4⟩
  · omega
  · have e : s.toNat = j := by omega
    rw [e]
    refine ⟨h1, ?_⟩
    have hm : a.getD j zO ∈ a.filter (before o) := List.mem_filter.2 ⟨getD_mem h1, h3⟩
    have hl : ¬ (a.filter (before o)).length = 0 := by have := List.length_pos_of_mem hm; omega
    unfold combine
    rw [if_neg hl, if_pos rfl, last_max (ha.filter _) hm (fun x hx => by
      obtain ⟨hx1, hx2⟩ := List.mem_filter.1 hx
      obtain ⟨i, hi, ei⟩ := mem_getD hx1
      rw [← ei] at hx2 ⊢
      rcases Nat.lt_trichotomy i j with g | g | g
      · exact .inr (getD_lt ha g h1)
      · exact .inl (by rw [g])
      · have h5 : before o (a.getD i zO) = false := h4 i g hi
        rw [hx2] at h5
        cases h5)]
theorem last_gone (o : Occ) (s : List Occ) : (combine 1 o s).2 = [] := by
  unfold combine
  split
  · rfl
  · rw [if_pos rfl]
theorem one_put {l : List Occ} {o : Occ} : putAll l [o] = put l o := rfl
theorem step1_no {a X : List Occ} {o : Occ} (h : a.filter (before o) = []) : seqStep 1 (a, X) o = (a, X) := by
  unfold seqStep combine
  simp only [h, List.length_nil, if_true, without_nil, putAll]
theorem step1_yes {a X : List Occ} {o x : Occ} (h : (combine 1 o (a.filter (before o))).1 = [join o x]) : seqStep 1 (a, X) o = (a, put X (join o x)) := by
  unfold seqStep
  simp only [last_gone, without_nil, h, one_put]
/-! what is not used -/
structure Unused (a : List Occ) (us : List Bool) (F : List Occ) : Prop where
  len : us.length = a.length
  sorted : Sorted F
  mem : ∀ x, x ∈ F ↔ ∃ i, i < a.length ∧ a.getD i zO = x ∧ us.getD i true = false
theorem Unused.start {a : List Occ} (h : Sorted a) : Unused a (List.replicate a.length false) a := ⟨by simp, h, fun x => by
  constructor
  · intro hx
    obtain ⟨i, hi, e⟩ := mem_getD hx
    exact ⟨i, hi, e, by simp [List.getD_eq_getElem?_getD, hi]⟩
  · rintro ⟨i, hi, e, _⟩
    rw [← e]
    exact getD_mem hi⟩
theorem getD_set_bool (us : List Bool) (j i : Nat) (hj : j < us.length) : (us.set j true).getD i true = if i = j then true else us.getD i true := by
  rw [List.getD_eq_getElem?_getD, List.getD_eq_getElem?_getD, List.getElem?_set]
  by_cases h : j = i
  · subst h; simp [hj]
  · rw [if_neg h, if_neg (fun e => h e.symm)]
theorem Unused.use {a : List Occ} (ha : Sorted a) {us : List Bool} {F : List Occ} (h : Unused a us F) {j : Nat} (hj : j < a.length) : Unused a (us.set j true) (without F [a.getD j zO]) :=
  ⟨by simp [h.len], sorted_without h.sorted, fun x => by
    rw [mem_without, h.mem]
    constructor
    · rintro ⟨⟨i, hi, e, hu⟩, hn⟩
      refine ⟨i, hi, e, ?_⟩
      rw [getD_set_bool us j i (by rw [h.len]; exact hj), if_neg (fun g => hn (by rw [← e, g]; simp))]
      exact hu
    · rintro ⟨i, hi, e, hu⟩
      rw [getD_set_bool us j i (by rw [h.len]; exact hj)] at hu
      by_cases g : i = j
      · rw [if_pos g] at hu; cases hu
      · rw [if_neg g] at hu
        refine ⟨⟨i, hi, e, hu⟩, fun hx => ?_⟩
        rw [List.mem_singleton, ← e] at hx
        rcases Nat.lt_or_gt_of_ne g with g | g
        · have := getD_lt ha g hj; rw [hx] at this; exact lt_irrefl _ this
        · have := getD_lt ha g hi; rw [hx] at this; exact lt_irrefl _ this⟩
theorem first_none {a : List Occ} {us : List Bool} {F : List Occ} {o : Occ} {s : Int} (hu : Unused a us F) (h : FirstAt (fun j => before o (a.getD j zO) && !us.getD j true) a.length s) (hs : s < 0) : F.filter (before o) = [] := by
  rcases h with ⟨_, h2⟩ | ⟨j, _, h2, _⟩
  · rw [List.filter_eq_nil_iff]
    intro x hx hb
    obtain ⟨i, hi, e, hn⟩ := (hu.mem x).1 hx
    have h5 : (before o (a.getD i zO) && !us.getD i true) = false := h2 i hi
    rw [e, hb, hn] at h5
    cases h5
  · omega
theorem first_some {a : List Occ} (ha : Sorted a) {us : List Bool} {F : List Occ} {o : Occ} {s : Int} (hu : Unused a us F) (h : FirstAt (fun j => before o (a.getD j zO) && !us.getD j true) a.length s) (hs : 0 ≤ s) :
    s.toNat < a.length ∧ combine 2 o (F.filter (before o)) = ([join o (a.getD s.toNat zO)], [a.getD s.toNat zO]) := by
  rcases h with ⟨h1, _⟩ | ⟨j, h1, h2, h3, h4⟩
  · omega
  · have e : s.toNat = j := by omega
    rw [e]
    refine ⟨h1, ?_⟩
    simp only [Bool.and_eq_true, Bool.not_eq_true'] at h3
    have hm : a.getD j zO ∈ F.filter (before o) := List.mem_filter.2 ⟨(hu.mem _).2 ⟨j, h1, rfl, h3.2⟩, h3.1⟩
    have hl : ¬ (F.filter (before o)).length = 0 := by have := List.length_pos_of_mem hm; omega
    have hd : (F.filter (before o)).getD 0 zO = a.getD j zO := head_min (hu.sorted.filter _) hm (fun x hx => by
      obtain ⟨hx1, hx2⟩ := List.mem_filter.1 hx
      obtain ⟨i, hi, ei, hn⟩ := (hu.mem x).1 hx1
      rw [← ei] at hx2 ⊢
      rcases Nat.lt_trichotomy i j with g | g | g
      · have h5 : (before o (a.getD i zO) && !us.getD i true) = false := h4 i g
        rw [hx2, hn] at h5
        cases h5
      · exact .inl (by rw [g])
      · exact .inr (getD_lt ha g hi))
    unfold combine
    rw [if_neg hl, if_neg (by decide), if_pos rfl, take_one hl, hd]
theorem step2_no {F X : List Occ} {o : Occ} (h : F.filter (before o) = []) : seqStep 2 (F, X) o = (F, X) := by
  unfold seqStep combine
  simp only [h, List.length_nil, if_true, without_nil, putAll]
theorem step2_yes {F X : List Occ} {o x : Occ} (h : combine 2 o (F.filter (before o)) = ([join o x], [x])) : seqStep 2 (F, X) o = (without F [x], put X (join o x)) := by
  unfold seqStep
  simp only [h, one_put]
/-- the walk over the second list, up to a place -/
def upto (mode : Int) (a b : List Occ) (k : Nat) : List Occ × List Occ := (b.take k).foldl (seqStep mode) (a, [])
theorem upto_succ {mode : Int} {a b : List Occ} {k : Nat} (h : k < b.length) : upto mode a b (k + 1) = seqStep mode (upto mode a b k) (b.getD k zO) := foldl_take _ _ _ _ h
theorem upto_all {mode : Int} {a b : List Occ} : (upto mode a b b.length).2 = sq mode a b := by unfold upto sq; rw [List.take_length]
theorem upto_len1 {mode : Int} (h : mode = 1 ∨ mode = 2 ∨ mode = 4) (a b : List Occ) (k : Nat) : (upto mode a b k).2.length ≤ k := by
  have := fold_len1 h (b.take k) a []
  rw [List.length_take] at this
  unfold upto
  simp at this
  omega
theorem upto_ok {mode : Int} (hm : 0 ≤ mode ∧ mode ≤ 4) {a b : List Occ} (ka : AreOk a) (kb : AreOk b) (k : Nat) : AreOk (upto mode a b k).2 := (seqFold hm (right := b.take k) (st := (a, [])) ka AreOk.nil (fun x hx => kb.all x (List.mem_of_mem_take hx))).2.2

open Go.RowKit Go.Proofs.YtjeojdbfpncnkaaGreatW.PrintWords Go.Proofs.YtjeojdbfpncnkaaGreat.Wd Go.Proofs.YtjeojdbfpncnkaaGreat.Pu Go.Proofs.YtjeojdbfpncnkaaGreat.Pv Go.Proofs.YtjeojdbfpncnkaaGreat.Ca Go.Proofs.YtjeojdbfpncnkaaGreat.Cb Go.Proofs.YtjeojdbfpncnkaaGreat.Cc Go.Proofs.YtjeojdbfpncnkaaGreat.Cp Go.Proofs.YtjeojdbfpncnkaaGreat.Cd Go.Proofs.YtjeojdbfpncnkaaGreat.Ci Go.Proofs.YtjeojdbfpncnkaaGreat.Ce Go.Proofs.YtjeojdbfpncnkaaGreat.Cf Go.Proofs.YtjeojdbfpncnkaaGreat.Cg Go.Proofs.YtjeojdbfpncnkaaGreat.Sc Go.Proofs.YtjeojdbfpncnkaaGreat.Se Go.Proofs.YtjeojdbfpncnkaaGreat.Sh Go.Proofs.YtjeojdbfpncnkaaGreat.Si Go.Proofs.YtjeojdbfpncnkaaGreat.Sp Go.Proofs.YtjeojdbfpncnkaaGreat.Ia Go.Proofs.YtjeojdbfpncnkaaGreat.Ib Go.Proofs.YtjeojdbfpncnkaaGreat.Ic Go.Proofs.YtjeojdbfpncnkaaGreat.Id Go.Proofs.YtjeojdbfpncnkaaGreat.Ie Go.Proofs.YtjeojdbfpncnkaaGreat.If Go.Proofs.YtjeojdbfpncnkaaGreat.Ig Go.Proofs.YtjeojdbfpncnkaaGreat.Ih Go.Proofs.YtjeojdbfpncnkaaGreat.Ij Go.Proofs.YtjeojdbfpncnkaaGreat.Ik Go.Proofs.YtjeojdbfpncnkaaGreat.Ra Go.Proofs.YtjeojdbfpncnkaaGreat.Rb Go.Proofs.YtjeojdbfpncnkaaGreat.Rc Go.Proofs.YtjeojdbfpncnkaaGreat.Rd Go.Proofs.YtjeojdbfpncnkaaGreat.Re Go.Proofs.YtjeojdbfpncnkaaGreat.Sj Go.Proofs.YtjeojdbfpncnkaaGreat.Ya Go.Proofs.YtjeojdbfpncnkaaGreat.Yd Go.Proofs.YtjeojdbfpncnkaaGreat.Yf Go.Proofs.YtjeojdbfpncnkaaGreat.Yg Go.Proofs.YtjeojdbfpncnkaaGreat.Ih Go.Proofs.YtjeojdbfpncnkaaGreat.Yh Go.Proofs.YtjeojdbfpncnkaaGreat.Yi Go.Proofs.YtjeojdbfpncnkaaGreat.Sg Go.Proofs.YtjeojdbfpncnkaaGreat.Sf Go.Proofs.YtjeojdbfpncnkaaGreat.Yj Go.Proofs.YtjeojdbfpncnkaaGreat.Ig Go.Proofs.YtjeojdbfpncnkaaGreat.Yk Go.Proofs.YtjeojdbfpncnkaaGreat.Ik Go.Proofs.YtjeojdbfpncnkaaGreat.Yl Go.Proofs.YtjeojdbfpncnkaaGreat.Ij Go.Proofs.YtjeojdbfpncnkaaGreat.Ym Go.Proofs.YtjeojdbfpncnkaaGreat.Il Go.Proofs.YtjeojdbfpncnkaaGreat.Yn Go.Proofs.YtjeojdbfpncnkaaGreat.Yo Go.Proofs.YtjeojdbfpncnkaaGreat.In Go.Proofs.YtjeojdbfpncnkaaGreat.Yq Go.Proofs.YtjeojdbfpncnkaaGreat.Pw Go.Proofs.YtjeojdbfpncnkaaGreat.Px Go.Proofs.YtjeojdbfpncnkaaGreat.La
def PutR (w w' : World) (l : List Occ) (e : Ending) : Prop := ∃ A c, e = .returned (.slice A l.length c) ∧ Rw w' w.heap.size (.slice A l.length c) l ∧ Below w.heap.size w w'
theorem iPutR (A B : Option Addr) (c c2 : Nat) (l l2 : List Occ) (o : Occ) (w : World) (h : putO l o = l2) (ll : l.length ≤ 1048575) (lo : o.f2.length ≤ 1048576) (li : ∀ x ∈ l, x.f2.length ≤ 1048576) (hl : IsL w l A c) (ho : IsO w o B c2) :
    Calls Tryz.prog 25 #[.slice A l.length c, .agg #[.int .i64 o.f0, .int .i64 o.f1, .slice B o.f2.length c2]] w fun e w' => PutR w w' l2 e := by
  subst h
  refine (occsPut_any A B c c2 l o w hl ho ll lo li).mono ?_
  rintro e w' ⟨v, rfl, hv, hb⟩
  obtain ⟨A3, c3, rfl⟩ := Kd.S_slice hv
  exact ⟨A3, c3, rfl, Kd.S_R hv, hb⟩
abbrev RBs (w : World) (n : Nat) (v : Value) (us : List Bool) : Prop := Kd.bool.R 4 w n (fun _ => True) v us
theorem RBs.below {w w' : World} {n : Nat} {v : Value} {us : List Bool} (h : RBs w n v us) (hb : Below w.heap.size w w') : RBs w' n v us := Kd.R_below h hb
/-- marks: where they lie -/
structure MarksAt (w : World) (n g cap : Nat) (us : List Bool) : Prop where
  ge : n ≤ g
  rb : RBs w n (.slice (some ⟨g, 0, none⟩) us.length cap) us
  blk : ∃ cells, w.heap[g]? = some (.cells cells 4 (0, 0))
theorem marks_at {w : World} {n : Nat} {v : Value} {us : List Bool} (h : RBs w n v us) (hl : 0 < us.length) : ∃ g cap, v = .slice (some ⟨g, 0, none⟩) us.length cap ∧ MarksAt w n g cap us := by
  obtain ⟨g, cap, rfl, h1, _, h2⟩ := Kd.R_form h hl
  exact ⟨g, cap, rfl, h1, h, h2⟩
theorem MarksAt.get {w : World} {n g cap : Nat} {us : List Bool} (h : MarksAt w n g cap us) {i : Nat} (hi : i < us.length) : w.cell? ⟨g, i, none⟩ = some (.bool (us.getD i true)) ∧ w.frozen? ⟨g, i, none⟩ = false := by
  have h2 := Kd.R_celln true h.rb (i : Int) (by omega) (by omega)
  rw [Int.toNat_natCast] at h2
  refine ⟨h2.1.trans ?_, h2.2⟩
  simp [rdOf]
theorem MarksAt.set {w : World} {n g cap : Nat} {us : List Bool} (h : MarksAt w n g cap us) (i : Nat) : RBs (w.setCell ⟨g, i, none⟩ (.bool true)) n (.slice (some ⟨g, 0, none⟩) us.length cap) (us.set i true) := by
  have h2 := (Kd.R_putg h.rb (i : Int) true).1
  rw [Int.toNat_natCast] at h2
  exact h2
theorem MarksAt.list {w : World} {n g cap : Nat} {us : List Bool} (h : MarksAt w n g cap us) {b : Nat} {v : Value} {l : List Occ} (hl : Rw w b v l) (i : Nat) : Rw (w.setCell ⟨g, i, none⟩ (.bool true)) b v l := by
  obtain ⟨cells, hb⟩ := h.blk
  exact Kd.R_set hl hb (by decide) i _
end Go.Proofs.YtjeojdbfpncnkaaGreat.Py

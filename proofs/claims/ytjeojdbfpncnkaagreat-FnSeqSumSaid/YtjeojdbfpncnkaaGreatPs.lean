
/- What is paired in sum and as each, by marks on a list. The plain part knows no program. -/
import Derived.Test.YtjeojdbfpncnkaaGreatPy
set_option linter.unusedVariables false
set_option linter.unusedSimpArgs false
namespace Go.Proofs.YtjeojdbfpncnkaaGreat.Ps
open Go.RowKit Go.Proofs.YtjeojdbfpncnkaaGreatW.PrintWords Go.Proofs.YtjeojdbfpncnkaaGreat.Wd Go.Proofs.YtjeojdbfpncnkaaGreat.Pu Go.Proofs.YtjeojdbfpncnkaaGreat.Pv Go.Proofs.YtjeojdbfpncnkaaGreat.Ca Go.Proofs.YtjeojdbfpncnkaaGreat.Cb Go.Proofs.YtjeojdbfpncnkaaGreat.Cc Go.Proofs.YtjeojdbfpncnkaaGreat.Cp Go.Proofs.YtjeojdbfpncnkaaGreat.Cd Go.Proofs.YtjeojdbfpncnkaaGreat.Ci Go.Proofs.YtjeojdbfpncnkaaGreat.Ce Go.Proofs.YtjeojdbfpncnkaaGreat.Cf Go.Proofs.YtjeojdbfpncnkaaGreat.Cg Go.Proofs.YtjeojdbfpncnkaaGreat.Sc Go.Proofs.YtjeojdbfpncnkaaGreat.Se Go.Proofs.YtjeojdbfpncnkaaGreat.Sh Go.Proofs.YtjeojdbfpncnkaaGreat.Si Go.Proofs.YtjeojdbfpncnkaaGreat.Sp Go.Proofs.YtjeojdbfpncnkaaGreat.Ia Go.Proofs.YtjeojdbfpncnkaaGreat.Ib Go.Proofs.YtjeojdbfpncnkaaGreat.Ic Go.Proofs.YtjeojdbfpncnkaaGreat.Id Go.Proofs.YtjeojdbfpncnkaaGreat.Ie Go.Proofs.YtjeojdbfpncnkaaGreat.If Go.Proofs.YtjeojdbfpncnkaaGreat.Ig Go.Proofs.YtjeojdbfpncnkaaGreat.Ih Go.Proofs.YtjeojdbfpncnkaaGreat.Ij Go.Proofs.YtjeojdbfpncnkaaGreat.Ik Go.Proofs.YtjeojdbfpncnkaaGreat.Ra Go.Proofs.YtjeojdbfpncnkaaGreat.Rb Go.Proofs.YtjeojdbfpncnkaaGreat.Rc Go.Proofs.YtjeojdbfpncnkaaGreat.Rd Go.Proofs.YtjeojdbfpncnkaaGreat.Re Go.Proofs.YtjeojdbfpncnkaaGreat.Sj Go.Proofs.YtjeojdbfpncnkaaGreat.Ya Go.Proofs.YtjeojdbfpncnkaaGreat.Yd Go.Proofs.YtjeojdbfpncnkaaGreat.Yf Go.Proofs.YtjeojdbfpncnkaaGreat.Yg Go.Proofs.YtjeojdbfpncnkaaGreat.Ih Go.Proofs.YtjeojdbfpncnkaaGreat.Yh Go.Proofs.YtjeojdbfpncnkaaGreat.Yi Go.Proofs.YtjeojdbfpncnkaaGreat.Sg Go.Proofs.YtjeojdbfpncnkaaGreat.Sf Go.Proofs.YtjeojdbfpncnkaaGreat.Yj Go.Proofs.YtjeojdbfpncnkaaGreat.Ig Go.Proofs.YtjeojdbfpncnkaaGreat.Yk Go.Proofs.YtjeojdbfpncnkaaGreat.Ik Go.Proofs.YtjeojdbfpncnkaaGreat.Yl Go.Proofs.YtjeojdbfpncnkaaGreat.Ij Go.Proofs.YtjeojdbfpncnkaaGreat.Ym Go.Proofs.YtjeojdbfpncnkaaGreat.Il Go.Proofs.YtjeojdbfpncnkaaGreat.Yn Go.Proofs.YtjeojdbfpncnkaaGreat.Yo Go.Proofs.YtjeojdbfpncnkaaGreat.In Go.Proofs.YtjeojdbfpncnkaaGreat.Yq Go.Proofs.YtjeojdbfpncnkaaGreat.Pw Go.Proofs.YtjeojdbfpncnkaaGreat.Px Go.Proofs.YtjeojdbfpncnkaaGreat.La Go.Proofs.YtjeojdbfpncnkaaGreat.Py
/-- those of the first i of a list that lie in F and before y -/
def sel (a F : List Occ) (y : Occ) (i : Nat) : List Occ := (a.take i).filter (fun x => decide (x ∈ F) && before y x)
theorem sel_zero (a F : List Occ) (y : Occ) : sel a F y 0 = [] := rfl
theorem sel_no {a F : List Occ} {y : Occ} {i : Nat} (hi : i < a.length) (h : a.getD i zO ∉ F ∨ before y (a.getD i zO) = false) : sel a F y (i + 1) = sel a F y i := by
  unfold sel
  rw [take_succ_getD a i zO hi, List.filter_append]
  have : (decide (a.getD i zO ∈ F) && before y (a.getD i zO)) = false := by
    rcases h with h | h
    · rw [decide_eq_false h]; rfl
    · rw [h, Bool.and_false]
  generalize a.getD i zO = q at *
  simp only [List.filter_cons, this, List.filter_nil]
  simp
theorem sel_yes {a F : List Occ} {y : Occ} {i : Nat} (hi : i < a.length) (h1 : a.getD i zO ∈ F) (h2 : before y (a.getD i zO) = true) : sel a F y (i + 1) = sel a F y i ++ [a.getD i zO] := by
  unfold sel
  rw [take_succ_getD a i zO hi, List.filter_append]
  have : (decide (a.getD i zO ∈ F) && before y (a.getD i zO)) = true := by rw [h2, decide_eq_true h1]; rfl
  generalize a.getD i zO = q at *
  simp only [List.filter_cons, this, List.filter_nil]
  simp
theorem sel_all {a F : List Occ} {y : Occ} (ha : Sorted a) (hF : Sorted F) (hs : ∀ x ∈ F, x ∈ a) : sel a F y a.length = F.filter (before y) := by
  unfold sel
  rw [List.take_length]
  refine sorted_ext (ha.filter _) (hF.filter _) (fun z => ?_)
  rw [List.mem_filter, List.mem_filter]
  simp only [Bool.and_eq_true, decide_eq_true_eq]
  exact ⟨fun h => h.2, fun h => ⟨hs z h.1, h⟩⟩
theorem sel_sub {a F : List Occ} {y x : Occ} {i : Nat} (h : x ∈ sel a F y i) : x ∈ F ∧ x ∈ a.take i ∧ before y x = true := by
  unfold sel at h
  rw [List.mem_filter] at h
  simp only [Bool.and_eq_true, decide_eq_true_eq] at h
  exact ⟨h.2.1, h.1, h.2.2⟩
theorem sel_sorted {a F : List Occ} {y : Occ} {i : Nat} (ha : Sorted a) : Sorted (sel a F y i) := (ha.sublist (List.take_sublist _ _)).filter _
theorem sel_len {a F : List Occ} {y : Occ} {i : Nat} (ha : Sorted a) (hF : Sorted F) : (sel a F y i).length ≤ F.length := len_sub (sel_sorted ha) hF (fun x hx => (sel_sub hx).1)
theorem not_sel {a F : List Occ} {y : Occ} {i : Nat} (ha : Sorted a) (hi : i < a.length) : a.getD i zO ∉ sel a F y i := fun h => by
  obtain ⟨k, hk, e⟩ := mem_getD (sel_sub h).2.1
  rw [List.length_take] at hk
  have e2 : (a.take i).getD k zO = a.getD k zO := by
    rw [List.getD_eq_getElem?_getD, List.getD_eq_getElem?_getD, List.getElem?_take, if_pos (by omega)]
  rw [e2] at e
  have := getD_lt ha (show k < i by omega) hi
  rw [e] at this
  exact lt_irrefl _ this
/-- a mark tells what is left -/
theorem unused_at {a : List Occ} (ha : Sorted a) {us : List Bool} {G : List Occ} (h : Unused a us G) {i : Nat} (hi : i < a.length) : us.getD i true = false ↔ a.getD i zO ∈ G := by
  constructor
  · intro hu
    exact (h.mem _).2 ⟨i, hi, rfl, hu⟩
  · intro hm
    obtain ⟨k, hk, e, hu⟩ := (h.mem _).1 hm
    rcases Nat.lt_trichotomy k i with g | g | g
    · have := getD_lt ha g hi; rw [e] at this; exact absurd this (lt_irrefl _)
    · rw [← g]; exact hu
    · have := getD_lt ha g hk; rw [e] at this; exact absurd this (lt_irrefl _)
theorem without_without (F S : List Occ) (x : Occ) : without (without F S) [x] = without F (S ++ [x]) := by
  unfold without
  rw [List.filter_filter]
  apply List.filter_congr
  intro z _
  by_cases h : z ∈ S <;> by_cases h2 : z = x <;> simp [h, h2]
theorem mark_free {a : List Occ} (ha : Sorted a) {us : List Bool} {F : List Occ} {y : Occ} {i : Nat} (h : Unused a us (without F (sel a F y i))) (hi : i < a.length) : us.getD i true = false ↔ a.getD i zO ∈ F := by
  rw [unused_at ha h hi, mem_without]
  exact ⟨fun g => g.1, fun g => ⟨g, not_sel ha hi⟩⟩
/-- the walk of one round -/
structure Mid (a F : List Occ) (us : List Bool) (y : Occ) (i : Nat) (al : Occ) (so : Bool) (M Y : List Occ) : Prop where
  un : Unused a us (without F (sel a F y i))
  al : al = (sel a F y i).foldl join y
  so : so = decide (sel a F y i ≠ [])
  out : Y = putAll M ((sel a F y i).map (fun x => join x y))
theorem Mid.start {a F : List Occ} {us : List Bool} (h : Unused a us F) (y : Occ) (M : List Occ) : Mid a F us y 0 y false M M :=
  ⟨by rw [sel_zero, without_nil]; exact h, rfl, by simp [sel_zero], rfl⟩
theorem Mid.no {a F : List Occ} {us : List Bool} {y : Occ} {i : Nat} {al : Occ} {so : Bool} {M Y : List Occ} (h : Mid a F us y i al so M Y) (hi : i < a.length) (hn : a.getD i zO ∉ F ∨ before y (a.getD i zO) = false) : Mid a F us y (i + 1) al so M Y := by
  have e := sel_no (F := F) hi hn
  exact ⟨by rw [e]; exact h.un, by rw [e]; exact h.al, by rw [e]; exact h.so, by rw [e]; exact h.out⟩
theorem putAll_snoc (l m : List Occ) (o : Occ) : putAll l (m ++ [o]) = put (putAll l m) o := by rw [putAll_append]; rfl
theorem Mid.yes {a F : List Occ} (ha : Sorted a) {us : List Bool} {y : Occ} {i : Nat} {al : Occ} {so : Bool} {M Y : List Occ} (h : Mid a F us y i al so M Y) (hi : i < a.length) (h1 : a.getD i zO ∈ F) (h2 : before y (a.getD i zO) = true) :
    Mid a F (us.set i true) y (i + 1) (join al (a.getD i zO)) true M (put Y (join (a.getD i zO) y)) := by
  have e := sel_yes hi h1 h2
  exact ⟨by rw [e, ← without_without]; exact h.un.use ha hi, by rw [e, List.foldl_append, ← h.al]; rfl, by rw [e]; simp, by rw [e, List.map_append, h.out]; exact (putAll_snoc _ _ _).symm⟩
theorem unused_sub {a F : List Occ} {us : List Bool} (h : Unused a us F) : ∀ x ∈ F, x ∈ a := fun x hx => by
  obtain ⟨i, hi, e, _⟩ := (h.mem x).1 hx
  rw [← e]
  exact getD_mem hi
theorem map_join {S : List Occ} {y : Occ} (hs : ∀ x ∈ S, IsOk x) (hy : IsOk y) : S.map (fun x => join x y) = S.map (join y) := List.map_congr_left (fun x hx => join_comm (hs x hx) hy)
/-- what a round does -/
theorem Mid.step {a F : List Occ} (ha : AreOk a) {us0 us : List Bool} {y : Occ} (hy : IsOk y) {al : Occ} {so : Bool} {L M Y : List Occ} (hu : Unused a us0 F) (hM : Sorted M) (h : Mid a F us y a.length al so M Y) :
    seqStep 3 (F, M) y = (without F (F.filter (before y)), Y) ∧ seqStep 4 (F, L) y = (without F (F.filter (before y)), if so then put L al else L) ∧ Unused a us (without F (F.filter (before y))) := by
  have e := sel_all (y := y) ha.sorted hu.sorted (unused_sub hu)
  obtain ⟨h1, h2, h3, h4⟩ := h
  rw [e] at h1 h2 h3 h4
  have hs : ∀ x ∈ F.filter (before y), IsOk x := fun x hx => ha.all x (unused_sub hu x (List.mem_filter.1 hx).1)
  refine ⟨?_, ?_, h1⟩
  · unfold seqStep
    simp only
    rw [h4, map_join hs hy]
    generalize F.filter (before y) = S at *
    by_cases hS : S = []
    · subst hS
      rfl
    · have hl : ¬ S.length = 0 := by simpa using hS
      have ec : combine 3 y S = (putAll [] (S.map (join y)), S) := by
        unfold combine
        rw [if_neg hl, if_neg (by decide), if_neg (by decide), if_neg (by decide), if_pos rfl]
      rw [ec]
      congr 1
      refine sorted_ext (sorted_putAll hM) (sorted_putAll hM) (fun z => ?_)
      rw [mem_putAll, mem_putAll, mem_putAll]
      simp
  · unfold seqStep
    simp only
    generalize F.filter (before y) = S at *
    by_cases hS : S = []
    · subst hS
      rw [h3]
      rfl
    · have hl : ¬ S.length = 0 := by simpa using hS
      have ec : combine 4 y S = ([S.foldl join y], S) := by
        unfold combine
        rw [if_neg hl, if_neg (by decide), if_neg (by decide), if_pos rfl]
      rw [ec, h3, decide_eq_true (by exact hS), if_pos rfl, h2]
      rfl
theorem Mid.so_iff {a F : List Occ} {us : List Bool} {y : Occ} {i : Nat} {al : Occ} {so : Bool} {M Y : List Occ} (h : Mid a F us y i al so M Y) : True := trivial
theorem Mid.len {a F : List Occ} (ha : Sorted a) (hF : Sorted F) {us : List Bool} {y : Occ} {i : Nat} {al : Occ} {so : Bool} {M Y : List Occ} (h : Mid a F us y i al so M Y) : Y.length ≤ M.length + F.length := by
  rw [h.out]
  have h1 := Go.Proofs.YtjeojdbfpncnkaaGreat.Pv.len_putAll1 M ((sel a F y i).map (fun x => join x y))
  rw [List.length_map] at h1
  have h2 := sel_len (y := y) (i := i) ha hF
  omega
theorem Mid.okAl {a F : List Occ} (ha : AreOk a) {us : List Bool} {y : Occ} (hy : IsOk y) {i : Nat} {al : Occ} {so : Bool} {M Y : List Occ} (h : Mid a F us y i al so M Y) : IsOk al := by
  rw [h.al]
  exact isOk_fold hy (fun x hx => ha.all x (List.mem_of_mem_take (sel_sub hx).2.1))
theorem Mid.okY {a F : List Occ} (ha : AreOk a) {us : List Bool} {y : Occ} (hy : IsOk y) {i : Nat} {al : Occ} {so : Bool} {M Y : List Occ} (hM : AreOk M) (h : Mid a F us y i al so M Y) : AreOk Y := by
  rw [h.out]
  refine hM.putAll (fun z hz => ?_)
  obtain ⟨x, hx, e⟩ := List.mem_map.1 hz
  rw [← e]
  exact isOk_join (ha.all x (List.mem_of_mem_take (sel_sub hx).2.1)) hy
theorem upto_len2 {a : List Occ} (ha : Sorted a) (b : List Occ) (k : Nat) : (upto 3 a b k).2.length + (upto 3 a b k).1.length ≤ a.length := by
  have := fold_len2 (mode := 3) (.inr rfl) (b.take k) a [] ha
  simpa [upto] using this

/-! lists beside a box -/
/-- a list in new memory, none of it at block vb -/
structure RX (w : World) (vb : Nat) (A : Option Addr) (c : Nat) (l : List Occ) : Prop where
  rw : ∃ b, kO.R 38 w b (fun k => k ≠ vb) (.slice A l.length c) l
theorem RX.isL {w : World} {vb : Nat} {A : Option Addr} {c : Nat} {l : List Occ} (h : RX w vb A c l) : IsL w l A c := by
  obtain ⟨b, h⟩ := h.rw
  exact ⟨(Kd.R_reads' h).2.1, (Kd.R_reads' h).2.2⟩
theorem RX.below {w w' : World} {vb : Nat} {A : Option Addr} {c : Nat} {l : List Occ} (h : RX w vb A c l) (hb : Below w.heap.size w w') : RX w' vb A c l := by
  obtain ⟨b, h⟩ := h.rw
  exact ⟨b, Kd.R_below h hb⟩
theorem RX.mark {w : World} {vb : Nat} {A : Option Addr} {c : Nat} {l : List Occ} {n g cap : Nat} {us : List Bool} (h : RX w vb A c l) (hm : MarksAt w n g cap us) (i : Nat) : RX (w.setCell ⟨g, i, none⟩ (.bool true)) vb A c l := by
  obtain ⟨b, h⟩ := h.rw
  obtain ⟨cells, hb⟩ := hm.blk
  exact ⟨b, Kd.R_set h hb (by decide) i _⟩
theorem RX.far {w : World} {vb : Nat} {A : Option Addr} {c : Nat} {l : List Occ} (h : RX w vb A c l) (j : Nat) (u : Value) : RX (w.setCell ⟨vb, j, none⟩ u) vb A c l := by
  obtain ⟨b, h⟩ := h.rw
  exact ⟨b, Kd.R_far (p := ⟨vb, j, none⟩) h (fun _ hk => hk) u⟩
theorem RX.of_old {w : World} {vb : Nat} {A : Option Addr} {c : Nat} {l : List Occ} (h : ∃ b, Rw w b (.slice A l.length c) l) (hv : w.heap.size ≤ vb) : RX w vb A c l := by
  obtain ⟨b, h⟩ := h
  exact ⟨b, Kd.R_mono (Kd.R_bound h) (fun k hk => by have := hk.2.2.1; omega)⟩
theorem RX.of_new {w : World} {vb b : Nat} {A : Option Addr} {c : Nat} {l : List Occ} (h : Rw w b (.slice A l.length c) l) (hv : vb < b) : RX w vb A c l :=
  ⟨b, Kd.R_mono (Kd.R_bound h) (fun k hk => by have := hk.2.1; omega)⟩
theorem RX.out {w : World} {vb : Nat} {A : Option Addr} {c : Nat} {l : List Occ} (h : RX w vb A c l) : ∃ b, Rw w b (.slice A l.length c) l := by
  obtain ⟨b, h⟩ := h.rw
  exact ⟨b, Kd.R_mono h (fun _ _ => trivial)⟩
theorem _root_.Go.Proofs.YtjeojdbfpncnkaaGreat.Py.MarksAt.drew {w : World} {n g cap : Nat} {us : List Bool} (h : MarksAt w n g cap us) : MarksAt w.drew n g cap us := ⟨h.ge, Kd.R_drew h.rb, h.blk⟩
/-- the numbers of what lies in the box -/
def IdsAt (W w : World) (A : Option Addr) (c : Nat) (o : Occ) : Prop := IsO W o A c ∨ ∃ b, (Kd.int .i64).R 3 w b (fun _ => True) (.slice A o.f2.length c) o.f2
theorem IdsAt.isO {W w : World} {A : Option Addr} {c : Nat} {o : Occ} (h : IdsAt W w A c o) (hb : Below W.heap.size W w) : IsO w o A c := by
  rcases h with h | ⟨b, h⟩
  · exact h.below hb
  · exact ⟨(Kd.R_reads' h).2.1, (Kd.R_reads' h).2.2⟩
theorem IdsAt.below {W w w' : World} {A : Option Addr} {c : Nat} {o : Occ} (h : IdsAt W w A c o) (hb : Below w.heap.size w w') : IdsAt W w' A c o := by
  rcases h with h | ⟨b, h⟩
  · exact .inl h
  · exact .inr ⟨b, Kd.R_below h hb⟩
theorem IdsAt.mark {W w : World} {A : Option Addr} {c : Nat} {o : Occ} {n g cap : Nat} {us : List Bool} (h : IdsAt W w A c o) (hm : MarksAt w n g cap us) (i : Nat) : IdsAt W (w.setCell ⟨g, i, none⟩ (.bool true)) A c o := by
  rcases h with h | ⟨b, h⟩
  · exact .inl h
  · obtain ⟨cells, hb⟩ := hm.blk
    exact .inr ⟨b, Kd.R_set h hb (by decide) i _⟩
/-- the box -/
def BoxAt (w : World) (vb : Nat) (A : Option Addr) (c : Nat) (o : Occ) : Prop := w.heap[vb]? = some (.cells #[.int .i64 o.f0, .int .i64 o.f1, .slice A o.f2.length c] 38 (0, 0))
theorem BoxAt.below {w w' : World} {vb : Nat} {A : Option Addr} {c : Nat} {o : Occ} (h : BoxAt w vb A c o) (hb : Below w.heap.size w w') : BoxAt w' vb A c o := blk_below h hb
theorem BoxAt.cells {w : World} {vb : Nat} {A : Option Addr} {c : Nat} {o : Occ} (h : BoxAt w vb A c o) : w.cell? ⟨vb, 0, none⟩ = some (.int .i64 o.f0) ∧ w.cell? ⟨vb, 1, none⟩ = some (.int .i64 o.f1) ∧ w.cell? ⟨vb, 2, none⟩ = some (.slice A o.f2.length c) :=
  ⟨(blk_cell h 0).trans rfl, (blk_cell h 1).trans rfl, (blk_cell h 2).trans rfl⟩
theorem BoxAt.mark {w : World} {vb : Nat} {A : Option Addr} {c : Nat} {o : Occ} {n g cap : Nat} {us : List Bool} (h : BoxAt w vb A c o) (hm : MarksAt w n g cap us) (i : Nat) : BoxAt (w.setCell ⟨g, i, none⟩ (.bool true)) vb A c o := by
  obtain ⟨cells, hb⟩ := hm.blk
  have hne : vb ≠ g := fun e => by
    unfold BoxAt at h
    rw [e, hb] at h
    simp at h
  unfold BoxAt at h ⊢
  rw [Below.heap_setCell w ⟨g, i, none⟩ _ vb hne]
  exact h
theorem box_set {w : World} {vb : Nat} {A A2 : Option Addr} {c c2 : Nat} {o o2 : Occ} (h : BoxAt w vb A c o) : BoxAt (set3 w vb (.int .i64 o2.f0) (.int .i64 o2.f1) (.slice A2 o2.f2.length c2)) vb A2 c2 o2 := set3_blk _ _ _ h
theorem IdsAt.set {W w : World} {vb : Nat} {A A2 : Option Addr} {c c2 : Nat} {o o2 : Occ} (h : BoxAt w vb A c o) (hi : ∃ b, (Kd.int .i64).R 3 w b (fun _ => True) (.slice A2 o2.f2.length c2) o2.f2) (u0 u1 u2 : Value) : IdsAt W (set3 w vb u0 u1 u2) A2 c2 o2 := by
  obtain ⟨b, hi⟩ := hi
  exact .inr ⟨b, set3_R hi h (by decide) _ _ _⟩
theorem RX.set {w : World} {vb : Nat} {A : Option Addr} {c : Nat} {l : List Occ} (h : RX w vb A c l) (u0 u1 u2 : Value) : RX (set3 w vb u0 u1 u2) vb A c l := ((h.far 0 u0).far 1 u1).far 2 u2
theorem RBs.set {w : World} {n vb : Nat} {v : Value} {us : List Bool} {A : Option Addr} {c : Nat} {o : Occ} (h : RBs w n v us) (hb : BoxAt w vb A c o) (u0 u1 u2 : Value) : RBs (set3 w vb u0 u1 u2) n v us := set3_R h hb (by decide) _ _ _
def JoinR (w w' : World) (z : Occ) (e : Ending) : Prop := ∃ A c, e = .returned (.agg #[.int .i64 z.f0, .int .i64 z.f1, .slice A z.f2.length c]) ∧ (∃ b, (Kd.int .i64).R 3 w' b (fun _ => True) (.slice A z.f2.length c) z.f2) ∧ Below w.heap.size w w'
theorem iJoinR (x y z : Occ) (A B : Option Addr) (c c2 : Nat) (w : World) (hz : joinO x y = z) (lx : x.f2.length ≤ 1048576) (ly : y.f2.length ≤ 1048576) (hx : IsO w x A c) (hy : IsO w y B c2) :
    Calls Tryz.prog 26 #[.agg #[.int .i64 x.f0, .int .i64 x.f1, .slice A x.f2.length c], .agg #[.int .i64 y.f0, .int .i64 y.f1, .slice B y.f2.length c2]] w fun e w' => JoinR w w' z e := by
  subst hz
  refine (occJoin_any x y A B c c2 w hx hy lx ly).mono ?_
  rintro e w' ⟨v, rfl, hv, hb⟩
  obtain ⟨A3, c3, rfl⟩ := Kd.R_slice hv
  exact ⟨A3, c3, rfl, ⟨_, hv⟩, hb⟩
end Go.Proofs.YtjeojdbfpncnkaaGreat.Ps

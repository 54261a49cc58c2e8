/- What the program's functions that make new occurrences come to: two in one, in new memory. One walk each. -/
import Derived.Test.YtjeojdbfpncnkaaCb
import Derived.Test.YtjeojdbfpncnkaaWZeros
import Derived.Test.YtjeojdbfpncnkaaLays
set_option linter.unusedVariables false
set_option linter.unusedSimpArgs false
namespace Go.Proofs.Ytjeojdbfpncnkaa.Cc
open Go.RowKit Go.Proofs.YtjeojdbfpncnkaaW.PrintWords Go.Proofs.Ytjeojdbfpncnkaa.Wd Go.Proofs.Ytjeojdbfpncnkaa.Pu Go.Proofs.Ytjeojdbfpncnkaa.Ca

theorem infoI : (Try.prog.info? 3).map (fun i => (i.zero, i.size, i.bytes)) = some (some (.int .i64 0), 1, 8) := by kernel_rfl

theorem grow_any (n : Nat) (hn : n ≤ 4194304) (w : World) : Calls Try.prog 107 #[.slice none 0 0, .int .i64 n] w fun e w' => ∃ v, e = .returned v ∧ (Kd.int .i64).R 3 w' w.heap.size (fun _ => True) v [] ∧ Below w.heap.size w w' := by
  by_cases h0 : n = 0
  · subst h0
    go_enter Try.func107, Try.ntmps107
    go_wp2
    go_ret
    exact ⟨_, rfl, Kd.R_nil _ _ _ _ _, Below.refl _ _⟩
  · have h1 : decide ((n : Int) < 0) = false := by simp
    have h2 : decide ((n : Int) > 0) = true := by simp; omega
    have h3 : decide (0 < n) = true := by simp; omega
    have h4 : (0 : Int) ≤ n := by omega
    have hp : 0 < n := by omega
    clear h0
    go_enter Try.func107, Try.ntmps107
    go_wp2_with (first | ((with_reducible refine gate_dst (N := 22) rfl ?_); refine Kd.R_append_zeros (Kd.int .i64) (w0 := w) w.heap.size rfl _ _ 23 3 3 (.int .i64 0) 8 rfl Try.underlying23 Try.underlying3 infoI rfl (by decide) (by omega) (.slice none 0 0) [] 0 (n : Int) (fun _ => True) rfl rfl rfl (fun _ _ => trivial) (Kd.R_nil _ _ _ _ _) h4 (Below.refl _ _) (Nat.le_refl _) (by simp; omega) ?_; intro v1 w1 ho hb _ _; obtain ⟨g, cap, eo, _, _, _⟩ := Kd.R_form ho (by simp; omega); have HO := Aside0.mk ho; have HB := Aside0.mk hb; clear ho hb; simp only [List.nil_append, List.length_replicate, Int.toNat_natCast] at eo HO; cases eo))
    go_ret
    exact ⟨_, rfl, Kd.R_take (m := 0) HO.out (by simp), HB.out⟩

/-- numbers behind one another, in new memory -/
theorem concat_any (g : Nat) (A B : Option Addr) (c c2 : Nat) (a b : List Int) (w : World) (k0 : w.cell? ⟨g, 0, none⟩ = some (.slice A a.length c)) (k1 : w.cell? ⟨g, 1, none⟩ = some (.slice B b.length c2))
    (ha : (Kd.int .i64).C w A a.length a) (hb : (Kd.int .i64).C w B b.length b) (la : a.length ≤ 1048576) (lb : b.length ≤ 1048576) :
    Calls Try.prog 74 #[.slice (some ⟨g, 0, none⟩) 2 2] w fun e w' => ∃ v, e = .returned v ∧ (Kd.int .i64).R 3 w' w.heap.size (fun _ => True) v (a ++ b) ∧ Below w.heap.size w w' := by
  go_enter Try.func74, Try.ntmps74
  go_wp2
  go_loop [3, 11] (fun n i => ∃ (k m : Nat), k ≤ 2 ∧ i = .int .i64 k ∧ n = .int .i64 m ∧ m ≤ 2097152 ∧ Aside0 (m = if k = 0 then 0 else if k = 1 then a.length else a.length + b.length)) (fun _ i => 2 - (intOf i).toNat)
  case atStart => exact ⟨0, 0, by omega, rfl, rfl, by omega, ⟨rfl⟩⟩
  case round =>
    obtain ⟨k, m, hk, rfl, rfl, hm, HM⟩ := hrel
    obtain rfl | rfl | rfl : k = 0 ∨ k = 1 ∨ k = 2 := by omega
    · have h0 : (0 : Int) ≤ (m : Int) + a.length := by omega
      have h1 : decide ((m : Int) + a.length < 0) = false := by simp; omega
      have hme := HM.out
      simp at hme
      subst hme
      go_wp2
      go_round
      case rel => exact ⟨1, a.length, by omega, by go_num, by go_num, by omega, ⟨by simp⟩⟩
      case measure => simp [intOf]
    · have h0 : (0 : Int) ≤ (m : Int) + b.length := by omega
      have h1 : decide ((m : Int) + b.length < 0) = false := by simp; omega
      have hme := HM.out
      simp at hme
      subst hme
      go_wp2
      go_round
      case rel => exact ⟨2, a.length + b.length, by omega, by go_num, by go_num, by omega, ⟨by simp⟩⟩
      case measure => simp [intOf]
    · clear HM
      go_wp2_with fail
      refine (grow_any m (by omega) _).mono ?_
      rintro e w1 ⟨v, rfl, ho, hb1⟩
      have HO := Aside0.mk ho
      have HB := Aside0.mk hb1
      clear ho hb1
      go_wp2
      go_loopw [6, 27] (fun v i wr => ∃ (k : Nat), k ≤ 2 ∧ i = .int .i64 k ∧ Aside0 ((Kd.int .i64).R 3 wr w.heap.size (fun _ => True) v (if k = 0 then [] else if k = 1 then a else a ++ b)) ∧ Aside0 (Below w.heap.size w wr)) (fun _ i _ => 2 - (intOf i).toNat)
      case atStart => exact ⟨0, by omega, rfl, HO, HB⟩
      case round =>
        clear HO HB
        obtain ⟨k, hk, rfl, HO, HB⟩ := hrel
        have kk0 := (HB.out.cell (World.block_lt_of_cell? w _ k0)).trans k0
        have kk1 := (HB.out.cell (World.block_lt_of_cell? w _ k1)).trans k1
        obtain rfl | rfl | rfl : k = 0 ∨ k = 1 ∨ k = 2 := by omega
        · go_wp2_with (first | ((with_reducible refine gate_dst (N := 33) rfl ?_); refine Kd.R_append_row (Value.int .i64) 0 (h1 := fun _ => rfl) (w0 := w) w.heap.size rfl _ _ 23 3 (.int .i64 0) 8 rfl Try.underlying23 infoI rfl (by omega) _ _ a A a.length c (fun _ => True) rfl rfl (fun _ _ => trivial) HO.out (Kd.C_below ha HB.out) HB.out HB.out.size (by simp; omega) ?_; intro v1 w1 ho hb _ _; have HO1 := Aside0.mk ho; have HB1 := Aside0.mk hb; clear ho hb))
          go_roundw
          case rel => exact ⟨1, by omega, by go_num, ⟨by have h := HO1.out; simp at h; exact h⟩, HB1⟩
          case measure => simp [intOf]
        · go_wp2_with (first | ((with_reducible refine gate_dst (N := 33) rfl ?_); refine Kd.R_append_row (Value.int .i64) 0 (h1 := fun _ => rfl) (w0 := w) w.heap.size rfl _ _ 23 3 (.int .i64 0) 8 rfl Try.underlying23 infoI rfl (by omega) _ _ b B b.length c2 (fun _ => True) rfl rfl (fun _ _ => trivial) HO.out (Kd.C_below hb HB.out) HB.out HB.out.size (by simp; omega) ?_; intro v1 w1 ho hb _ _; have HO1 := Aside0.mk ho; have HB1 := Aside0.mk hb; clear ho hb))
          go_roundw
          case rel => exact ⟨2, by omega, by go_num, ⟨by have h := HO1.out; simp at h; exact h⟩, HB1⟩
          case measure => simp [intOf]
        · go_wp2
          go_ret
          exact ⟨_, rfl, by simpa using HO.out, HB.out⟩

/-! sorted, each once: of both -/
theorem comp_upto (d : Array Int) (hs : ∀ i j, i ≤ j → j < d.size → d[i]! ≤ d[j]!) : ∀ m, m ≤ d.size → Asc (Lib.compactUpTo d m) ∧ (∀ z, z ∈ Lib.compactUpTo d m ↔ ∃ j, j < m ∧ z = d[j]!)
  | 0, _ => ⟨by simp [Lib.compactUpTo], by simp [Lib.compactUpTo]⟩
  | m + 1, hm => by
    obtain ⟨h1, h2⟩ := comp_upto d hs m (by omega)
    rw [Lib.compactUpTo_succ]
    by_cases hk : Lib.keeps d m = true
    · rw [if_pos hk]
      have hk2 : m = 0 ∨ d[m]! ≠ d[m - 1]! := by simpa [Lib.keeps] using hk
      refine ⟨List.pairwise_append.2 ⟨h1, List.pairwise_singleton _ _, fun a ha b hb => ?_⟩, fun z => ?_⟩
      · obtain ⟨j, hj, rfl⟩ := (h2 a).1 ha
        obtain rfl : b = d[m]! := by simpa using hb
        rcases hk2 with e | e
        · omega
        · have := hs j (m - 1) (by omega) (by omega)
          have := hs (m - 1) m (by omega) (by omega)
          omega
      · rw [List.mem_append, h2, List.mem_singleton]
        constructor
        · rintro (⟨j, hj, e⟩ | e)
          · exact ⟨j, by omega, e⟩
          · exact ⟨m, by omega, e⟩
        · rintro ⟨j, hj, e⟩
          by_cases hjm : j < m
          · exact .inl ⟨j, hjm, e⟩
          · obtain rfl : j = m := by omega
            exact .inr e
    · rw [if_neg hk, List.append_nil]
      have hk2 : m ≠ 0 ∧ d[m]! = d[m - 1]! := by simpa [Lib.keeps] using hk
      refine ⟨h1, fun z => ?_⟩
      rw [h2]
      constructor
      · rintro ⟨j, hj, e⟩
        exact ⟨j, by omega, e⟩
      · rintro ⟨j, hj, e⟩
        by_cases hjm : j < m
        · exact ⟨j, hjm, e⟩
        · obtain rfl : j = m := by omega
          exact ⟨j - 1, by omega, by rw [e, hk2.2]⟩
theorem comp_sorted (zs : List Int) (hs : zs.Pairwise (· ≤ ·)) : Asc (Lib.compact zs) ∧ ∀ z, z ∈ Lib.compact zs ↔ z ∈ zs := by
  have key := comp_upto zs.toArray (fun i j hij hj => by
    have hj' : j < zs.length := by simpa using hj
    have hi' : i < zs.toArray.size := by simp; omega
    rw [getElem!_pos zs.toArray i hi', getElem!_pos zs.toArray j hj]
    simp only [List.getElem_toArray]
    rcases Nat.lt_or_eq_of_le hij with h | h
    · exact (List.pairwise_iff_getElem.1 hs) i j (by omega) hj' h
    · subst h; exact Int.le_refl _) zs.length (by simp)
  refine ⟨key.1, fun z => ?_⟩
  show z ∈ Lib.compactUpTo zs.toArray zs.length ↔ _
  rw [key.2, List.mem_iff_getElem]
  constructor
  · rintro ⟨j, hj, e⟩
    refine ⟨j, hj, ?_⟩
    rw [e, getElem!_pos zs.toArray j (by simpa using hj)]
    simp
  · rintro ⟨j, hj, e⟩
    refine ⟨j, hj, ?_⟩
    rw [← e, getElem!_pos zs.toArray j (by simpa using hj)]
    simp
theorem sorted_merge (l : List Int) : (l.mergeSort Lays.leb).Pairwise (· ≤ ·) := by
  have h := List.pairwise_mergeSort (le := Lays.leb) (fun a b c hab hbc => by simp [Lays.leb] at *; omega) (fun a b => by simp [Lays.leb]; omega) l
  exact h.imp (fun h => by simpa [Lays.leb] using h)
theorem comp_uni {a b : List Int} (ha : Asc a) (hb : Asc b) : Lib.compact ((a ++ b).mergeSort Lays.leb) = uni a b := by
  obtain ⟨h1, h2⟩ := comp_sorted _ (sorted_merge (a ++ b))
  refine asc_ext h1 (asc_uni ha hb) (fun z => ?_)
  rw [h2, mem_uni, List.mem_mergeSort, List.mem_append]
theorem uni_len (a b : List Int) : (uni a b).length ≤ a.length + b.length := by
  fun_induction uni a b <;> simp_all <;> omega

theorem far3 {W : World} {g b o : Nat} {u0 u1 u2 : Value} (h : g ≠ b) : (((W.setCell ⟨b, 0, none⟩ u0).setCell ⟨b, 1, none⟩ u1).setCell ⟨b, 2, none⟩ u2).cell? ⟨g, o, none⟩ = W.cell? ⟨g, o, none⟩ :=
  (cell_far (p := ⟨b, 2, none⟩) (a := ⟨g, o, none⟩) h _).trans ((cell_far (p := ⟨b, 1, none⟩) (a := ⟨g, o, none⟩) h _).trans (cell_far (p := ⟨b, 0, none⟩) (a := ⟨g, o, none⟩) h _))

theorem info_ids : (Try.prog.info? 23).map (fun i => (i.zero, i.size, i.bytes)) = some (some (.slice none 0 0), 1, 24) := by kernel_rfl

set_option maxRecDepth 100000 in
set_option maxHeartbeats 2000000 in
theorem join_any (x y : Occ) (A B : Option Addr) (c c2 : Nat) (w : World) (hx : IsO w x A c) (hy : IsO w y B c2) (ax : Asc x.f2) (ay : Asc y.f2) (lx : x.f2.length ≤ 1048576) (ly : y.f2.length ≤ 1048576) :
    Calls Try.prog 40 #[.agg #[.int .i64 x.f0, .int .i64 x.f1, .slice A x.f2.length c], .agg #[.int .i64 y.f0, .int .i64 y.f1, .slice B y.f2.length c2]] w fun e w' =>
      ∃ v, e = .returned (.agg #[.int .i64 (join x y).f0, .int .i64 (join x y).f1, v]) ∧ (Kd.int .i64).R 3 w' w.heap.size (fun _ => True) v (join x y).f2 ∧ Below w.heap.size w w' := by
  go_enter Try.func40, Try.ntmps40
  go_wp2_with fail
  have h0 := Below.refl w.heap.size w
  have hb0 : Below w.heap.size w ((((w.alloc (.cells #[.int .i64 x.f0, .int .i64 x.f1, .slice A x.f2.length c] 25)).alloc (.cells #[.int .i64 y.f0, .int .i64 y.f1, .slice B y.f2.length c2] 25)).alloc (.cells #[.int .i64 0, .int .i64 0, .slice none 0 0] 25)).alloc (.cells #[.slice A x.f2.length c, .slice B y.f2.length c2] 23)) := below_alloc (below_alloc (below_alloc (below_alloc h0 _) _) _) _
  have bx := blk_alloc (blk_alloc (blk_alloc (blk_new w (.cells #[.int .i64 x.f0, .int .i64 x.f1, .slice A x.f2.length c] 25)) (.cells #[.int .i64 y.f0, .int .i64 y.f1, .slice B y.f2.length c2] 25)) (.cells #[.int .i64 0, .int .i64 0, .slice none 0 0] 25)) (.cells #[.slice A x.f2.length c, .slice B y.f2.length c2] 23)
  have byy := blk_alloc (blk_alloc (blk_new (w.alloc (.cells #[.int .i64 x.f0, .int .i64 x.f1, .slice A x.f2.length c] 25)) (.cells #[.int .i64 y.f0, .int .i64 y.f1, .slice B y.f2.length c2] 25)) (.cells #[.int .i64 0, .int .i64 0, .slice none 0 0] 25)) (.cells #[.slice A x.f2.length c, .slice B y.f2.length c2] 23)
  have br := blk_alloc (blk_new ((w.alloc (.cells #[.int .i64 x.f0, .int .i64 x.f1, .slice A x.f2.length c] 25)).alloc (.cells #[.int .i64 y.f0, .int .i64 y.f1, .slice B y.f2.length c2] 25)) (.cells #[.int .i64 0, .int .i64 0, .slice none 0 0] 25)) (.cells #[.slice A x.f2.length c, .slice B y.f2.length c2] 23)
  have bp := blk_new (((w.alloc (.cells #[.int .i64 x.f0, .int .i64 x.f1, .slice A x.f2.length c] 25)).alloc (.cells #[.int .i64 y.f0, .int .i64 y.f1, .slice B y.f2.length c2] 25)).alloc (.cells #[.int .i64 0, .int .i64 0, .slice none 0 0] 25)) (.cells #[.slice A x.f2.length c, .slice B y.f2.length c2] 23)
  have hz : ((((w.alloc (.cells #[.int .i64 x.f0, .int .i64 x.f1, .slice A x.f2.length c] 25)).alloc (.cells #[.int .i64 y.f0, .int .i64 y.f1, .slice B y.f2.length c2] 25)).alloc (.cells #[.int .i64 0, .int .i64 0, .slice none 0 0] 25)).alloc (.cells #[.slice A x.f2.length c, .slice B y.f2.length c2] 23)).heap.size = w.heap.size + 1 + 1 + 1 + 1 := by simp
  simp only [World.size_alloc] at byy br bp
  generalize (((w.alloc (.cells #[.int .i64 x.f0, .int .i64 x.f1, .slice A x.f2.length c] 25)).alloc (.cells #[.int .i64 y.f0, .int .i64 y.f1, .slice B y.f2.length c2] 25)).alloc (.cells #[.int .i64 0, .int .i64 0, .slice none 0 0] 25)).alloc (.cells #[.slice A x.f2.length c, .slice B y.f2.length c2] 23) = W at hb0 bx byy br bp hz ⊢
  refine (concat_any _ A B c c2 x.f2 y.f2 W ((blk_cell bp 0).trans rfl) ((blk_cell bp 1).trans rfl) (Kd.C_below hx.2 hb0) (Kd.C_below hy.2 hb0) lx ly).mono ?_
  rintro e w1 ⟨v1, rfl, ho1, hb1⟩
  have bx1 := blk_below bx hb1
  have by1 := blk_below byy hb1
  have br1 := blk_below br hb1
  have hb2 := below_then hb0 hb0.size hb1
  clear bx byy br bp hb1
  go_wp2_with fail
  refine (Lays.sort_any v1 _ _ _ _ ho1 (by rw [List.length_append]; omega)).mono ?_
  rintro e w2 ⟨rfl, ho2, hg2⟩
  have hnb : ∀ k, v1.ownBlock = some k → w.heap.size + 1 + 1 < k := fun k hk => by have := Kd.R_base ho1 k hk; omega
  have bx2 := blk_grown bx1 hg2 (fun e => by have := hnb _ e.symm; omega)
  have by2 := blk_grown by1 hg2 (fun e => by have := hnb _ e.symm; omega)
  have br2 := blk_grown br1 hg2 (fun e => by have := hnb _ e.symm; omega)
  have hb3 := pw_below_grown hb2 v1.ownBlock hb2.size hg2 (fun k hk => by have := hnb k hk; omega)
  clear bx1 by1 br1 ho1 hg2 hb2 hb0
  have HO := Aside0.mk ho2
  have HN := Aside0.mk hnb
  have HB := Aside0.mk hb3
  have cx0 : w2.cell? ⟨w.heap.size, 0, none⟩ = some (.int .i64 x.f0) := (blk_cell bx2 0).trans rfl
  have cx1 : w2.cell? ⟨w.heap.size, 1, none⟩ = some (.int .i64 x.f1) := (blk_cell bx2 1).trans rfl
  have cy0 : w2.cell? ⟨w.heap.size + 1, 0, none⟩ = some (.int .i64 y.f0) := (blk_cell by2 0).trans rfl
  have cy1 : w2.cell? ⟨w.heap.size + 1, 1, none⟩ = some (.int .i64 y.f1) := (blk_cell by2 1).trans rfl
  have BR := Aside0.mk br2
  have KC : ∀ (w' : World) (row : Option Nat), w2.grownBy w' row → (∀ k, row = some k → w.heap.size + 1 + 1 < k) → w'.cell? ⟨w.heap.size, 0, none⟩ = some (.int .i64 x.f0) ∧ w'.cell? ⟨w.heap.size, 1, none⟩ = some (.int .i64 x.f1) ∧ w'.cell? ⟨w.heap.size + 1, 0, none⟩ = some (.int .i64 y.f0) ∧ w'.cell? ⟨w.heap.size + 1, 1, none⟩ = some (.int .i64 y.f1) ∧ w'.heap[w.heap.size + 1 + 1]? = some (.cells #[.int .i64 0, .int .i64 0, .slice none 0 0] 25 (0, 0)) := by
    intro w' row hg hr
    have b1 := blk_grown bx2 hg (fun e => by have := hr _ e.symm; omega)
    have b2 := blk_grown by2 hg (fun e => by have := hr _ e.symm; omega)
    exact ⟨(blk_cell b1 0).trans rfl, (blk_cell b1 1).trans rfl, (blk_cell b2 0).trans rfl, (blk_cell b2 1).trans rfl, blk_grown br2 hg (fun e => by have := hr _ e.symm; omega)⟩
  have KC2 := Aside0.mk KC
  clear KC
  clear ho2 hnb hb3 bx2 by2 br2
  have kx0 : w2.drew.cell? ⟨w.heap.size, 0, none⟩ = some (.int .i64 x.f0) := cx0
  have kx1 : w2.drew.cell? ⟨w.heap.size, 1, none⟩ = some (.int .i64 x.f1) := cx1
  have ky0 : w2.drew.cell? ⟨w.heap.size + 1, 0, none⟩ = some (.int .i64 y.f0) := cy0
  have ky1 : w2.drew.cell? ⟨w.heap.size + 1, 1, none⟩ = some (.int .i64 y.f1) := cy1
  have hn1 : w.heap.size ≠ w.heap.size + 1 + 1 := by omega
  have hn2 : w.heap.size + 1 ≠ w.heap.size + 1 + 1 := by omega
  go_wp2
  go_region_held3 (fun w' => w'.cell? ⟨w.heap.size, 0, none⟩ = some (.int .i64 x.f0) ∧ w'.cell? ⟨w.heap.size, 1, none⟩ = some (.int .i64 x.f1) ∧ w'.cell? ⟨w.heap.size + 1, 0, none⟩ = some (.int .i64 y.f0) ∧ w'.cell? ⟨w.heap.size + 1, 1, none⟩ = some (.int .i64 y.f1)) (first | (with_reducible exact ⟨kx0, kx1, ky0, ky1⟩) | (with_reducible exact ⟨dx0, dx1, dy0, dy1⟩) | (with_reducible exact ⟨ex0, ex1, ey0, ey1⟩) | (with_reducible exact ⟨(far3 hn1).trans ex0, (far3 hn1).trans ex1, (far3 hn2).trans ey0, (far3 hn2).trans ey1⟩))
    (first | (go_at_call 76; refine (Lays.compact_any v1 _ _ _ _ (Kd.R_drew HO.out) (by rw [List.length_mergeSort, List.length_append]; omega)).mono ?_; rintro e w3 ⟨v3, rfl, ho3, hv3, hg3⟩; obtain ⟨dx0, dx1, dy0, dy1, br3⟩ := KC2.out w3 _ ⟨hg3.os, hg3.tape, hg3.output, hg3.size, hg3.block⟩ HN.out; obtain ⟨A3, c3, rfl, hl3, hC3⟩ := Kd.R_reads ho3; have hb4 := pw_below_grown (below_drew HB.out) v1.ownBlock HB.out.size hg3 (fun k hk => by have := HN.out k hk; omega)) | (refine Kd.R_append_rows_step (Kd.int .i64) (w0 := w) w.heap.size (by rfl) _ _ 23 3 (.int .i64 0) 8 rfl Try.underlying23 infoI rfl (by decide) (by omega) (.slice none 0 0) [] _ _ _ _ (fun _ => True) (fun _ => False) rfl rfl (Kd.R_nil _ _ _ _ _) hC3 (fun _ _ h => h) (fun _ h => h.elim) (fun _ _ => trivial) hb4 hb4.size ?_ ?_; (have := Lib.compact_length_le ((x.f2 ++ y.f2).mergeSort Lays.leb); rw [List.length_mergeSort, List.length_append] at this; simp; omega); intro v4 w4 ho4 hb5 hg4 _; have hb34 : Below w3.heap.size w3 w4 := ⟨hg4.os, hg4.tape, hg4.output, hg4.size, fun k hk => hg4.block k hk (by simp [Value.ownBlock])⟩; have ex0 := pw_cell_below hb34 dx0; have ex1 := pw_cell_below hb34 dx1; have ey0 := pw_cell_below hb34 dy0; have ey1 := pw_cell_below hb34 dy1; have br4 := blk_below br3 hb34; obtain ⟨A4, c4, rfl⟩ := Kd.R_slice ho4; have hs0 : w4.cell? ⟨w.heap.size + 1 + 1, 0, none⟩ = some (.int .i64 0) := (blk_cell br4 0).trans rfl; have hs1 : w4.cell? ⟨w.heap.size + 1 + 1, 1, none⟩ = some (.int .i64 0) := (blk_cell br4 1).trans rfl; have hs2 : w4.cell? ⟨w.heap.size + 1 + 1, 2, none⟩ = some (.slice none 0 0) := (blk_cell br4 2).trans rfl; have hf0 := blk_frozen br4 0; have hf1 := blk_frozen br4 1; have hf2 := blk_frozen br4 2))
  all_goals
    go_wp2
    refine bodyPost_ret (results_cell_row rfl _ _ (w.heap.size + 1 + 1) 25 #[.int .i64 (min x.f0 y.f0), .int .i64 (max x.f1 y.f1), .slice A4 _ c4] (0, 0) _ rfl (blk_put (cs := #[.int .i64 (min x.f0 y.f0), .int .i64 (max x.f1 y.f1), .slice none 0 0]) (blk_put (cs := #[.int .i64 (min x.f0 y.f0), .int .i64 0, .slice none 0 0]) (blk_put br4 0 _ rfl) 1 _ rfl) 2 _ rfl) Try.underlying25 rfl (by kernel_rfl)) rfl ?_
    have r1 := Kd.R_set ho4 br4 (by decide) 0 (.int .i64 (min x.f0 y.f0))
    have b1 := blk_set br4 0 (.int .i64 (min x.f0 y.f0))
    have r2 := Kd.R_set r1 b1 (by decide) 1 (.int .i64 (max x.f1 y.f1))
    have b2 := blk_set b1 1 (.int .i64 (max x.f1 y.f1))
    have r3 := Kd.R_set r2 b2 (by decide) 2 (.slice A4 (Lib.compact ((x.f2 ++ y.f2).mergeSort Lays.leb)).length c4)
    refine ⟨_, rfl, ?_, ((hb5.setCell (p := ⟨w.heap.size + 1 + 1, 0, none⟩) (by simp; omega) _).setCell (p := ⟨w.heap.size + 1 + 1, 1, none⟩) (by simp; omega) _).setCell (p := ⟨w.heap.size + 1 + 1, 2, none⟩) (by simp; omega) _⟩
    simp only [List.nil_append, comp_uni ax ay] at r3
    simp only [comp_uni ax ay]
    exact r3
end Go.Proofs.Ytjeojdbfpncnkaa.Cc

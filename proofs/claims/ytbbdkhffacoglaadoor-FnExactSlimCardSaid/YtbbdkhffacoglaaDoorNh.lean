
/- A row of one's own of expressions that came in; slices.SortFunc on it. -/
import Derived.Test.YtbbdkhffacoglaaDoorNg
import Derived.Lib.OwnBridge
set_option linter.unusedVariables false
set_option linter.unusedSimpArgs false
namespace Go.Proofs.YtbbdkhffacoglaaDoor.Nh
open Go.RowKit Go.Proofs.YtbbdkhffacoglaaDoorW.PrintWords Go.Proofs.YtbbdkhffacoglaaDoor.Ja Go.Proofs.YtbbdkhffacoglaaDoor.Jb Go.Proofs.YtbbdkhffacoglaaDoor.Jc Go.Proofs.YtbbdkhffacoglaaDoor.Jd Go.Proofs.YtbbdkhffacoglaaDoor.Jg Go.Proofs.YtbbdkhffacoglaaDoor.Na Go.Proofs.YtbbdkhffacoglaaDoor.Nb Go.Proofs.YtbbdkhffacoglaaDoor.Nd Go.Proofs.YtbbdkhffacoglaaDoor.Ne Go.Proofs.YtbbdkhffacoglaaDoor.Nf Go.Proofs.YtbbdkhffacoglaaDoor.Ng

/-- a world, and something said of every expression that is read there (it goes down to the kids) -/
structure Wq extends World where
  Q : Ex → List Value → Prop
  qn : ∀ a b c, Q (.mk a b c []) [.int .i64 a, .int .i64 b, .int .i64 c, .slice none 0 0]
  her : ∀ (x : Ex) (ad : Addr) (n c k : Nat) (A2 : Option Addr) (c2 : Nat), Q x [.int .i64 x.f0, .int .i64 x.f1, .int .i64 x.f2, .slice (some ad) n c] → k < x.f3.length →
    toWorld.cell? ⟨(ad.add (k * 4)).block, (ad.add (k * 4)).off + 3, none⟩ = some (.slice A2 (x.f3.getD k zE).f3.length c2) → Q (x.f3.getD k zE) [.int .i64 (x.f3.getD k zE).f0, .int .i64 (x.f3.getD k zE).f1, .int .i64 (x.f3.getD k zE).f2, .slice A2 (x.f3.getD k zE).f3.length c2]
instance : CoeOut Wq World := ⟨Wq.toWorld⟩
/-- nothing said -/
def wqT (w : World) : Wq := ⟨w, fun _ _ => True, fun _ _ _ => trivial, fun _ _ _ _ _ _ _ _ _ _ => trivial⟩
/-- an expression as it stood at a world -/
def kC (Wz : Wq) : Kd Ex where
  sz := 4
  E := []
  K := fun _ x cs => (kE 29).K Wz x cs ∧ Wz.Q x cs
  M := fun _ _ _ x cs => (kE 29).K Wz x cs ∧ Wz.Q x cs
  K_len := fun h => (kE 29).K_len h.1
  K_one := fun h => (kE 29).K_one h.1
  K_below := fun _ h => h
  K_of_M := fun h => h
  M_mono := fun _ h => h
  M_bound := fun h => h
  M_move := fun _ h => h
  M_lower := fun _ h => h
abbrev RowC (Wz : Wq) (w : World) (base : Nat) (v : Value) (l : List Ex) : Prop := (kC Wz).R 29 w base (fun _ => True) v l
theorem kC_sz (Wz : Wq) : 0 < (kC Wz).sz := (by decide : 0 < 4)
theorem C_read {Wz : Wq} {w : World} {A : Option Addr} {c : Nat} {l : List Ex} (hb : Below Wz.heap.size Wz w) (hl : l.length ≤ c) (h : (kC Wz).C w A l.length l) : IsEL 29 w l A c :=
  ⟨hl, C_kind (d := kC Wz) (d' := kE 29) rfl (fun p cs hp => (kE 29).K_below hb hp.1) h⟩

/-! the element type of the shelf's contract -/
abbrev El (Wz : Wq) : Type := {p : Ex × List Value // formB p.1 = true ∧ cntL p.1.f3 ≤ 1048576 ∧ (kC Wz).K Wz p.1 p.2}
instance (Wz : Wq) : Inhabited (El Wz) := ⟨⟨(.mk 1 0 0 [], [.int .i64 1, .int .i64 0, .int .i64 0, .slice none 0 0]), by
  refine ⟨by decide +kernel, by decide +kernel, ?_⟩
  exact ⟨kE_mk (x := .mk 1 0 0 []) (A := none) (c := 0) (Nat.le_refl _) ⟨rfl, by decide, fun h => absurd h (by decide)⟩, Wz.qn 1 0 0⟩⟩⟩
def encE {Wz : Wq} (a : El Wz) : List Value := a.1.2
def cfE {Wz : Wq} (a b : El Wz) : Int := cmpX a.1.1 b.1.1
theorem encE_len {Wz : Wq} (a : El Wz) : (encE a).length = 4 := (kC Wz).K_len a.2.2.2
theorem ltE_of {Wz : Wq} (a b : El Wz) : ltOf cfE a b = ltE a.1.1 b.1.1 := cmpX_lt _ _
theorem swoE (Wz : Wq) : Sort.SWO (ltOf (cfE (Wz := Wz))) where
  irrefl x := by rw [ltE_of]; exact lt_irr _
  trans x y z h1 h2 := by rw [ltE_of] at *; exact lt_tr _ _ _ h1 h2
  ntrans x y z h1 h2 := by
    rw [ltE_of] at *
    have a : leE y.1.1 x.1.1 = true := by unfold leE; rw [h1]; rfl
    have b : leE z.1.1 y.1.1 = true := by unfold leE; rw [h2]; rfl
    have := le_tr b a
    unfold leE at this; simpa using this
theorem below_grow {B : Nat} {w0 w : World} (h : Below B w0 w) (hB : B ≤ w.heap.size) (os : Array Obj) : Below B w0 (Sort.grow w os) :=
  ⟨h.os, h.tape, h.output, Nat.le_trans h.size (by simp [Sort.grow]), fun k hk => by
    rw [← h.block k hk]; exact Sort.heap_grow_old w os (by omega)⟩
theorem below_sort {B : Nat} {w0 w : World} {Wz : Wq} (h : Below B w0 w) (hB : B ≤ w.heap.size) (g : Nat) (hg : B ≤ g) (m : Nat) (dk : Array (El Wz)) (os : Array Obj) : Below B w0 (sortWorldK encE 4 w g 0 m dk os) :=
  below_grow (Lib.below_putRow (enc := id) h hg) (by simpa [Sort.putRow, Sort.mapBlock, Sort.ahead] using hB) os
set_option maxHeartbeats 1000000 in
theorem cmpLays (Wz : Wq) (hWd : Words Wz) (g size : Nat) (w : World) (hz : Below Wz.heap.size Wz w) (hg : Wz.heap.size ≤ g) : CmpLays Tryd.prog 64 #[] (encE (Wz := Wz)) 4 cfE g 0 size w := fun m os dk hdk x y => by
  have hb := below_sort hz hz.size g hg m dk os
  obtain ⟨⟨x, cx⟩, hx1, hx2, hx3⟩ := x
  obtain ⟨⟨y, cy⟩, hy1, hy2, hy3⟩ := y
  obtain ⟨A, c, e1, l1, k1⟩ := kE_open hx3.1
  obtain ⟨B, d, e2, l2, k2⟩ := kE_open hy3.1
  simp only at e1 e2
  subst e1 e2
  refine (cmpX_any x y hx1 hy1 hx2 hy2 A B c d _ (hWd.below hb) (IsEL.below ⟨l1, k1⟩ hb) (IsEL.below ⟨l2, k2⟩ hb)).mono ?_
  rintro e w' ⟨he, hG⟩
  obtain ⟨q, os', hq⟩ := hG.grows
  exact ⟨he, q, os', hq⟩
section
variable {Wz : Wq} {w : World} {base : Nat} {v : Value} {l : List Ex}
theorem els_of (h : RowC Wz w base v l) (hf : AllF l) (hc : ∀ x ∈ l, cntL x.f3 ≤ 1048576) : ∃ (inner : List Value) (L : List (El Wz)), w.ownsRow base 29 4 v l.length inner ∧ L.map (fun a => a.1.1) = l ∧ ∀ j (a : El Wz), L[j]? = some a → (inner.drop (j * 4)).take 4 = encE a := by
  obtain ⟨_, inner, ho, hr⟩ := h
  obtain ⟨L, hL, hQ⟩ := list_of (Q := fun i (a : El Wz) => l[i]? = some a.1.1 ∧ (inner.drop (i * 4)).take 4 = encE a) l.length (fun i hi => by
    have h1 : l[i]? = some l[i] := List.getElem?_eq_getElem hi
    exact ⟨⟨(l[i], (inner.drop (i * 4)).take 4), hf _ (List.getElem_mem hi), hc _ (List.getElem_mem hi), hr.2 i _ h1⟩, h1, rfl⟩)
  refine ⟨inner, L, ho, ?_, fun j a ha => (hQ j a ha).2⟩
  apply List.ext_getElem?
  intro i
  rw [List.getElem?_map]
  rcases Nat.lt_or_ge i l.length with hi | hi
  · rw [List.getElem?_eq_getElem (by omega), Option.map_some]
    exact (hQ i _ (List.getElem?_eq_getElem (by omega))).1.symm
  · rw [List.getElem?_eq_none (by omega), List.getElem?_eq_none (by omega)]; rfl
theorem flat_get {n : Nat} {inner : List Value} {L : List (El Wz)} (hn : inner.length = n * 4) (hL : L.length = n) (hQ : ∀ j (a : El Wz), L[j]? = some a → (inner.drop (j * 4)).take 4 = encE a) (t : Nat) (ht : t < n * 4) : (Sort.flatK encE 4 L.toArray)[t]! = inner[t]'(by omega) := by
  rw [Sort.get_flatK _ _ _ _ (by simpa [hL] using ht)]
  have hq : t / 4 < n := by omega
  have h1 : L[t / 4]? = some (L.toArray[t / 4]!) := by
    rw [List.getElem?_eq_getElem (by omega)]
    simp [getElem!_pos, hL, hq]
  have h2 := hQ _ _ h1
  have h3 : (encE (L.toArray[t / 4]!)).length = 4 := encE_len _
  rw [getElem!_pos _ (t % 4) (by omega)]
  have h4 : (encE (L.toArray[t / 4]!))[t % 4]? = inner[t]? := by
    rw [← h2, List.getElem?_take, if_pos (by omega), List.getElem?_drop]
    congr 1; omega
  rw [List.getElem?_eq_getElem (by omega), List.getElem?_eq_getElem (by omega)] at h4
  exact Option.some.inj h4
end
/-- a row of one's own, its cells written anew -/
theorem own_put {w : World} {base e sz g n cap q : Nat} {xs : List Value} (F : Array Value) (hF : F.size = n * sz) (h : w.ownsRow base e sz (.slice (some ⟨g, 0, none⟩) n cap) n xs) :
    (Sort.putRow id (Sort.ahead w q) g 0 F).ownsRow base e sz (.slice (some ⟨g, 0, none⟩) n cap) n F.toList := by
  rcases h.2 with ⟨e0, _⟩ | ⟨g', cap', cur, e0, hb, hg, hn, hm, hs, ht⟩
  · cases e0
  · injection e0 with e1 _ e3
    injection e1 with e1
    injection e1 with e1
    subst e1; subst e3
    have hnc : n * sz ≤ cap * sz := Nat.mul_le_mul_right _ hn
    refine ⟨by simpa using hF, .inr ⟨g, cap, Sort.putCells id 0 F cur, rfl, hb, ?_, hn, hm, by simpa [Sort.putCells] using hs, ?_⟩⟩
    · simp [Sort.putRow, Sort.mapBlock, Sort.ahead, Array.getElem?_modify, hg, Sort.onCells]
    · apply List.ext_getElem?
      intro j
      rw [List.getElem?_take, Array.getElem?_toList, Array.getElem?_toList]
      by_cases hj : j < n * sz
      · have hjc : j < cur.size := by omega
        simp only [if_pos hj, Sort.putCells, Array.getElem?_mapIdx, Array.getElem?_eq_getElem hjc, Option.map_some]
        rw [if_pos (by omega), Array.getElem?_eq_getElem (by omega)]
        simp [getElem!_pos, show j < F.size by omega]
      · rw [if_neg hj, Array.getElem?_eq_none (by omega)]
theorem own_grow {w : World} {base : Nat} {e : TypeId} {size n : Nat} {v : Value} {xs : List Value} (h : w.ownsRow base e size v n xs) (os : Array Obj) : (Sort.grow w os).ownsRow base e size v n xs :=
  own_move h (fun k hk => by
    have := own_lt h k hk
    simp [Sort.grow, Array.getElem?_append, this])
set_option maxHeartbeats 2000000 in
theorem sort_any (Wz : Wq) (hWd : Words Wz) (v : Value) (base : Nat) (l : List Ex) (w : World) (hz : Below Wz.heap.size Wz w) (hb : Wz.heap.size ≤ base) (hf : AllF l) (hc : ∀ x ∈ l, cntL x.f3 ≤ 1048576) (hn : l.length < 4611686018427387904) (h1 : 1 ≤ l.length) (hR : RowC Wz w base v l) :
    Calls Tryd.prog 63 #[v, .func (.func 64) #[] #[]] w fun e w' => e = .returned (.tuple #[]) ∧ ∃ l', SortW l' ∧ l'.Perm l ∧ RowC Wz w' base v l' ∧ w.grownBy w' v.ownBlock := by
  obtain ⟨inner, L, ho, hL, hQ⟩ := els_of hR hf hc
  have hLl : L.length = l.length := by rw [← hL]; simp
  obtain ⟨g, cap, cur, rfl, hgb, hgg, hnc, hcm, hcs, hct⟩ : ∃ g cap cur, v = .slice (some ⟨g, 0, none⟩) l.length cap ∧ base ≤ g ∧ w.heap[g]? = some (.cells cur 29 (0, 0)) ∧ l.length ≤ cap ∧ cap ≤ maxLen ∧ cur.size = cap * 4 ∧ cur.toList.take (l.length * 4) = inner := by
    rcases ho.2 with ⟨_, h0⟩ | h
    · omega
    · exact h
  have hglt : g < w.heap.size := blk_lt hgg
  have hH : Sort.HoldsK encE 4 w g 0 L.toArray := fun j hj => by
    have hj2 : j < l.length * 4 := by simpa [hLl] using hj
    have hnc4 : l.length * 4 ≤ cap * 4 := Nat.mul_le_mul_right _ hnc
    refine ⟨?_, by simp [World.frozen?, hgg]⟩
    rw [flat_get ho.1 hLl hQ j hj2]
    have e1 : (cur.toList.take (l.length * 4))[j]? = inner[j]? := by rw [hct]
    rw [List.getElem?_take, if_pos hj2, Array.getElem?_toList, List.getElem?_eq_getElem (by rw [ho.1]; exact hj2)] at e1
    simp only [World.cell?, hgg, Nat.zero_add, Option.isSome_none, Bool.false_eq_true, if_false]
    exact e1
  have eg : ∀ args w, (callFunc 64 args).run Tryd.prog w = .ok (.enter 64 args) w := enters_of Tryd.func64 (by kernel_rfl) rfl
  have hcon := AnyQ.slices_SortFunc Ls.sortEx 4 (by intro w; kernel_rfl) (by intro w; kernel_rfl) (encE (Wz := Wz)) encE_len (fun x u hu => (kE 29).K_one x.2.2.2.1 u hu) cfE (swoE Wz) 64 #[] g 0 cap L.toArray w eg (cmpLays Wz hWd g _ w hz (Nat.le_trans hb hgb)) hH hglt (by simpa [hLl] using hn)
  have hsz : L.toArray.size = l.length := by simpa using hLl
  rw [hsz] at hcon
  refine hcon.mono ?_
  rintro e w' ⟨he, d', q, os, hP, hS, rfl⟩
  obtain ⟨hd1, _, hd3⟩ := hP
  have hd1' : d'.size = l.length := hd1.trans hsz
  have hperm : d'.toList.Perm L := by
    have e1 : d'.extract 0 l.length = d' := by rw [← hd1']; exact Array.extract_size
    have e2 : L.toArray.extract 0 l.length = L.toArray := by rw [← hsz]; exact Array.extract_size
    rw [e1, e2] at hd3
    simpa using hd3
  refine ⟨he, d'.toList.map (fun a => a.1.1), ?_, ?_, ?_, ?_⟩
  · refine List.pairwise_map.2 (List.pairwise_iff_getElem.2 ?_)
    intro i j hi hj hij
    have hi' : i < d'.size := by simpa using hi
    have hj' : j < d'.size := by simpa using hj
    have := hS i j (Nat.zero_le _) hij (by omega)
    rw [ltE_of, getElem!_pos d' i hi', getElem!_pos d' j hj'] at this
    unfold leE
    simp only [Array.getElem_toList]
    rw [this]; rfl
  · have := hperm.map (fun a : El Wz => a.1.1)
    rw [hL] at this
    exact this
  · have hlen : (d'.toList.map (fun a : El Wz => a.1.1)).length = l.length := by simpa using hd1'
    refine ⟨fun _ _ => trivial, (Sort.flatK encE 4 d').toList, ?_, ?_⟩
    · rw [hlen]
      exact own_grow (own_put _ (by rw [Sort.size_flatK, hd1']) ho) os
    · refine ⟨by rw [hlen, Array.length_toList, Sort.size_flatK, hd1']; rfl, fun j p hp => ?_⟩
      rw [List.getElem?_map] at hp
      obtain ⟨a, ha, rfl⟩ := Option.map_eq_some_iff.1 hp
      have hj : j < d'.size := by simpa using (List.getElem?_eq_some_iff.1 ha).1
      have ha2 : d'[j]! = a := by
        rw [getElem!_pos d' j hj]
        have := (List.getElem?_eq_some_iff.1 ha).2
        simpa using this
      have hseg : ((Sort.flatK encE 4 d').toList.drop (j * 4)).take 4 = encE a := by
        apply List.ext_getElem?
        intro i
        rw [List.getElem?_take]
        by_cases hi : i < 4
        · rw [if_pos hi, List.getElem?_drop, Array.getElem?_toList]
          have hb2 : j * 4 + i < (Sort.flatK encE 4 d').size := by rw [Sort.size_flatK]; omega
          rw [Array.getElem?_eq_getElem hb2, ← getElem!_pos (Sort.flatK encE 4 d') (j * 4 + i) hb2, Sort.get_flatK _ _ _ _ (by rw [Sort.size_flatK] at hb2; exact hb2)]
          have q1 : (j * 4 + i) / 4 = j := by omega
          have q2 : (j * 4 + i) % 4 = i := by omega
          rw [q1, q2, ha2, getElem!_pos _ i (by rw [encE_len]; exact hi), List.getElem?_eq_getElem (by rw [encE_len]; exact hi)]
        · rw [if_neg hi, List.getElem?_eq_none (by rw [encE_len]; omega)]
      show (kC Wz).K Wz a.1.1 (((Sort.flatK encE 4 d').toList.drop (j * 4)).take 4)
      rw [hseg]
      exact a.2.2.2
  · refine ⟨rfl, rfl, rfl, by simp [sortWorldK, Sort.putRowK, Sort.grow, Sort.putRow, Sort.mapBlock, Sort.ahead], fun k hk hne => ?_⟩
    have hkg : g ≠ k := fun e => hne (by rw [e]; rfl)
    unfold sortWorldK Sort.putRowK
    rw [Sort.heap_grow_old _ os (by simpa [Sort.putRow, Sort.mapBlock, Sort.ahead] using hk)]
    simp only [Sort.putRow, Sort.mapBlock, Sort.ahead, Array.getElem?_modify]
    rw [if_neg hkg]
end Go.Proofs.YtbbdkhffacoglaaDoor.Nh

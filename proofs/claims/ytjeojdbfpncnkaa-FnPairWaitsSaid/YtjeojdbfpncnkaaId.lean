/- A conjunction at one point in time: the program's. -/
import Derived.Test.YtjeojdbfpncnkaaIc
set_option linter.unusedVariables false
set_option linter.unusedSimpArgs false
namespace Go.Proofs.Ytjeojdbfpncnkaa.Id
open Go.RowKit Go.Proofs.YtjeojdbfpncnkaaW.PrintWords Go.Proofs.Ytjeojdbfpncnkaa.Wd Go.Proofs.Ytjeojdbfpncnkaa.Pu Go.Proofs.Ytjeojdbfpncnkaa.Pv Go.Proofs.Ytjeojdbfpncnkaa.Ca Go.Proofs.Ytjeojdbfpncnkaa.Cc Go.Proofs.Ytjeojdbfpncnkaa.Cp Go.Proofs.Ytjeojdbfpncnkaa.Cd Go.Proofs.Ytjeojdbfpncnkaa.Ci Go.Proofs.Ytjeojdbfpncnkaa.Ce Go.Proofs.Ytjeojdbfpncnkaa.Cf Go.Proofs.Ytjeojdbfpncnkaa.Cg Go.Proofs.Ytjeojdbfpncnkaa.Ia Go.Proofs.Ytjeojdbfpncnkaa.Ib Go.Proofs.Ytjeojdbfpncnkaa.Ic

/-! what is read keeps where a block without numbers is written -/
def NI (w : World) (g : Nat) : Prop := ∀ o k z, w.cell? ⟨g, o, none⟩ ≠ some (.int k z)
theorem ni_ne {w : World} {g : Nat} (h : NI w g) {p : Addr} {k : IntKind} {z : Int} (hp : w.cell? p = some (.int k z)) : p.block ≠ g := by
  intro e
  obtain ⟨b, o, s⟩ := p
  simp only at e
  subst e
  cases s with
  | none => exact h o k z hp
  | some s =>
    unfold World.cell? at hp
    simp at hp
    split at hp <;> simp at hp
theorem ni_two {w : World} {g : Nat} {A B : Option Addr} {n m c d : Nat} {t : TypeId} {fr : Nat × Nat} (h : w.heap[g]? = some (.cells #[.slice A n c, .slice B m d] t fr)) : NI w g := by
  intro o k z he
  unfold World.cell? at he
  simp only [h] at he
  rcases o with _ | _ | o <;> simp at he
theorem add_block (ad : Addr) (n : Nat) : (ad.add n).block = ad.block := by unfold Addr.add; split <;> rfl
section
variable {w w' : World} {g : Nat}
theorem ints_far (hni : NI w g) (hk : ∀ b, b ≠ g → b < w.heap.size → w'.heap[b]? = w.heap[b]?) {A : Option Addr} {n : Nat} {xs : List Int} (h : (Kd.int .i64).C w A n xs) : (Kd.int .i64).C w' A n xs :=
  ⟨h.1, h.2.1, fun h0 => by
    obtain ⟨ad, e, hc⟩ := h.2.2 h0
    refine ⟨ad, e, fun j p hj => ?_⟩
    obtain ⟨c, h1, h2, h3⟩ := hc j p hj
    refine ⟨c, h1, h2, fun i u hi => ?_⟩
    have h4 := h3 i u hi
    have h2' : c = [.int .i64 p] := h2
    have hu : u = .int .i64 p := by
      rw [h2'] at hi
      rcases i with _ | i
      · simpa using hi.symm
      · simp at hi
    have hne := ni_ne hni (by rw [hu] at h4; exact h4)
    exact (World.cell?_of_block (hk _ hne (World.block_lt_of_cell? w _ h4))).trans h4⟩
theorem IsO.away {x : Occ} {A : Option Addr} {c : Nat} (hni : NI w g) (hk : ∀ b, b ≠ g → b < w.heap.size → w'.heap[b]? = w.heap[b]?) (h : IsO w x A c) : IsO w' x A c := ⟨h.1, ints_far hni hk h.2⟩
theorem IsL.away {l : List Occ} {A : Option Addr} {c : Nat} (hni : NI w g) (hk : ∀ b, b ≠ g → b < w.heap.size → w'.heap[b]? = w.heap[b]?) (h : IsL w l A c) : IsL w' l A c :=
  ⟨h.cap, ⟨h.rd.1, h.rd.2.1, fun h0 => by
    obtain ⟨ad, e, hc⟩ := h.rd.2.2 h0
    refine ⟨ad, e, fun j p hj => ?_⟩
    obtain ⟨cs, h1, h2, h3⟩ := hc j p hj
    obtain ⟨A2, c2, rfl, l2, g2⟩ := kO_open h2
    refine ⟨_, h1, kO_mk w' p l2 (ints_far hni hk g2), fun i u hi => ?_⟩
    have h4 := h3 0 _ rfl
    have hne := ni_ne hni h4
    rw [add_block] at hne
    have h5 := h3 i u hi
    exact (World.cell?_of_block (hk _ (by rw [add_block]; exact hne) (World.block_lt_of_cell? w _ h5))).trans h5⟩⟩
theorem keep_set (w : World) (g j : Nat) (u : Value) : ∀ b, b ≠ g → b < w.heap.size → (w.setCell ⟨g, j, none⟩ u).heap[b]? = w.heap[b]? := fun b hb _ => Below.heap_setCell w ⟨g, j, none⟩ u b hb
end
def set2 (w : World) (G : Nat) (u0 u1 : Value) : World := (w.setCell ⟨G, 0, none⟩ u0).setCell ⟨G, 1, none⟩ u1
theorem set2_blk {w : World} {G : Nat} {t : TypeId} {z0 z1 : Value} (u0 u1 : Value) (b : w.heap[G]? = some (.cells #[z0, z1] t (0, 0))) : (set2 w G u0 u1).heap[G]? = some (.cells #[u0, u1] t (0, 0)) :=
  blk_put (cs := #[u0, z1]) (blk_put b 0 _ rfl) 1 _ rfl
theorem set2_below {w0 w : World} {B G : Nat} (h : Below B w0 w) (hG : B ≤ G) (u0 u1 : Value) : Below B w0 (set2 w G u0 u1) := (h.setCell (p := ⟨G, 0, none⟩) hG _).setCell (p := ⟨G, 1, none⟩) hG _
/-- what is read keeps where another block is written -/
theorem IsO.far {w0 w w' : World} {x : Occ} {A : Option Addr} {c : Nat} (h : IsO w0 x A c) (hb : Below w0.heap.size w0 w') : IsO w' x A c := h.below hb
def StoreOut (w w' : World) (mode : Int) (l : List Occ) (o : Occ) (a : Bool) (e : Ending) : Prop :=
  ∃ A1 c1, e = .returned (.slice A1 (stow mode l o a).length c1) ∧ IsL w' (stow mode l o a) A1 c1 ∧ Below w.heap.size w w'
theorem storeOut {w w' : World} {mode : Int} {o : Occ} {l r : List Occ} {a : Bool} {A : Option Addr} {n c : Nat} (h : stow mode l o a = r) (h1 : n = r.length) (h3 : IsL w' r A c) (hb : Below w.heap.size w w') : StoreOut w w' mode l o a (.returned (.slice A n c)) := by
  subst h1 h
  exact ⟨A, c, rfl, h3, hb⟩

set_option maxHeartbeats 1000000 in
set_option maxRecDepth 100000 in
theorem store_any (mode : Int) (o : Occ) (B : Option Addr) (cb : Nat) (A : Option Addr) (c : Nat) (l : List Occ) (a : Bool) (w : World) (ho : IsO w o B cb) (hs : Sorted l) (hl : l.length ≤ 1048576) (hL : IsL w l A c) :
    Calls Try.prog 87 #[.int .i64 mode, .slice A l.length c, .agg #[.int .i64 o.f0, .int .i64 o.f1, .slice B o.f2.length cb], .bool a] w fun e w' => StoreOut w w' mode l o a e := by
  have hbx := box3 w (.int .i64 o.f0) (.int .i64 o.f1) (.slice B o.f2.length cb) 25
  have HW := Aside0.mk hbx.1
  have HO := Aside0.mk (ho.below hbx.1)
  have HL := Aside0.mk (hL.below hbx.1)
  by_cases m1 : mode = 1
  · subst m1
    have HP := Aside0.mk (show StoreOut w _ 1 l o a (.returned (.slice (some ⟨w.heap.size + 1, 0, none⟩) 1 1)) from storeOut (w' := (w.alloc (.cells #[.int .i64 o.f0, .int .i64 o.f1, .slice B o.f2.length cb] 25)).alloc (.cells #[.int .i64 o.f0, .int .i64 o.f1, .slice B o.f2.length cb] 25)) (r := [o]) (by simp [stow]) rfl (one_L (by have := blk_new (w.alloc (.cells #[.int .i64 o.f0, .int .i64 o.f1, .slice B o.f2.length cb] 25)) (.cells #[.int .i64 o.f0, .int .i64 o.f1, .slice B o.f2.length cb] 25); simpa using this) (HO.out.below (below_alloc (Below.refl _ _) _))) (below_alloc HW.out _))
    clear ho hL hbx hs
    go_enter Try.func87, Try.ntmps87
    go_wp2
    go_ret
    exact HP.out
  have d1 : (mode == 1) = false := by rw [beq_eq_false_iff_ne]; omega
  cases hp : (decide (mode = 0) || a) with
  | true =>
    have HS := Aside0.mk (show stow mode l o a = put l o by unfold stow; rw [if_neg m1, if_pos (by simpa using hp)])
    have hs2 := hs
    by_cases m0 : mode = 0
    · subst m0
      clear hp ho hL
      go_enter Try.func87, Try.ntmps87
      go_wp2_with (go_at_call 42; refine (put_any A B c cb l o _ hs2 hl HL.out.cap HL.out.rd HO.out).mono ?_; rintro e w3 ⟨A4, c4, rfl, h1, h2, h3⟩; have HP := Aside0.mk (show StoreOut w w3 0 l o a (.returned (.slice A4 (put l o).length c4)) from storeOut HS.out rfl ⟨h1, h2⟩ (below_then HW.out HW.out.size h3)); clear h1 h2 h3)
      all_goals
        go_ret
        exact HP.out
    · have d0 : (mode == 0) = false := by rw [beq_eq_false_iff_ne]; omega
      obtain rfl : a = true := by simpa [m0] using hp
      clear hp ho hL
      go_enter Try.func87, Try.ntmps87
      go_wp2_with (go_at_call 42; refine (put_any A B c cb l o _ hs2 hl HL.out.cap HL.out.rd HO.out).mono ?_; rintro e w3 ⟨A4, c4, rfl, h1, h2, h3⟩; have HP := Aside0.mk (show StoreOut w w3 mode l o true (.returned (.slice A4 (put l o).length c4)) from storeOut HS.out rfl ⟨h1, h2⟩ (below_then HW.out HW.out.size h3)); clear h1 h2 h3)
      go_ret
      exact HP.out
  | false =>
    simp only [Bool.or_eq_false_iff, decide_eq_false_iff_not] at hp
    obtain ⟨m0, rfl⟩ := hp
    have d0 : (mode == 0) = false := by rw [beq_eq_false_iff_ne]; omega
    have HP := Aside0.mk (show StoreOut w _ mode l o false (.returned (.slice A l.length c)) from storeOut (w' := w.alloc (.cells #[.int .i64 o.f0, .int .i64 o.f1, .slice B o.f2.length cb] 25)) (r := l) (by unfold stow; rw [if_neg m1, if_neg (by simpa using m0)]) rfl HL.out HW.out)
    clear ho hL hbx
    go_enter Try.func87, Try.ntmps87
    go_wp2
    go_ret
    exact HP.out

/-- the state of a conjunction's round in memory: box P has both sides, box R the result to be -/
structure AndMem (w wr : World) (st : Sides) (vo : Value) (Al Ar : Option Addr) (nl nr cl cr : Nat) : Prop where
  bP : wr.heap[w.heap.size]? = some (.cells #[.slice Al nl cl, .slice Ar nr cr] 35 (0, 0))
  bR : wr.heap[w.heap.size + 1]? = some (.cells #[.slice none 0 0, .slice none 0 0] 35 (0, 0))
  nl : nl = st.own.length
  nr : nr = st.oth.length
  own : IsL wr st.own Al cl
  oth : IsL wr st.oth Ar cr
  out : ∃ Ao co, vo = .slice Ao st.out.length co ∧ IsL wr st.out Ao co
  bel : Below w.heap.size w wr
structure AndLen (st : Sides) (a b c : Nat) : Prop where
  ok : SidesOk st
  own : st.own.length ≤ a
  oth : st.oth.length ≤ b
  out : st.out.length ≤ c
theorem andLen_step {mode : Int} {st : Sides} {a b c : Nat} (h : AndLen st a b c) {o : Occ} (ho : IsOk o) : AndLen (andStep mode st o) (a + 1) b (c + b) := by
  refine ⟨andStep_ok h.ok ho, ?_, ?_, ?_⟩
  · have := len_store mode st.own o (decide ((combine mode o st.oth).1.length = 0)); have := h.own; simp only [andStep]; omega
  · have := len_without st.oth (combine mode o st.oth).2; have := h.oth; simp only [andStep]; omega
  · have h1 := len_putAll1 st.out (combine mode o st.oth).1
    have h2 := len_combine mode o st.oth
    have := h.oth; have := h.out; simp only [andStep]; omega
end Go.Proofs.Ytjeojdbfpncnkaa.Id

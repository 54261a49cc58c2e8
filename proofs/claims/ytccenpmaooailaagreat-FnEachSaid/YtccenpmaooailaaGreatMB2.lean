
import Derived.Test.YtccenpmaooailaaGreatMB1
import Derived.Laws.BitsAllLaws
/- The reference's kit: what draws from bytes comes to. One walk each. -/
set_option linter.unusedVariables false
set_option linter.unusedSimpArgs false
namespace Go.Proofs.YtccenpmaooailaaGreat.Sa
open Go.RowKit Go.Proofs.YtccenpmaooailaaGreatW.PrintWords Go.Proofs.YtccenpmaooailaaGreat.Wd Go.Proofs.YtccenpmaooailaaGreat.Pu Go.Proofs.YtccenpmaooailaaGreat.Ca Go.Proofs.YtccenpmaooailaaGreat.Cg

/-- what draws: its bytes (those of the memory w0) and how many were drawn -/
structure Rd (w0 w : World) (g : Nat) (bs : List Int) (p : Nat) : Prop where
  mem : ∃ A c, w.heap[g]? = some (.cells #[.slice A bs.length c, .int .i64 p] 86 (0, 0)) ∧ (Kd.int .u8).C w0 A bs.length bs
  base : w0.heap.size ≤ g
  below : Below w0.heap.size w0 w
  byt : ∀ b ∈ bs, 0 ≤ b ∧ b ≤ 255
  len : bs.length ≤ 2000
theorem Rd.grown {w0 w w' : World} {g : Nat} {bs : List Int} {p : Nat} (h : Rd w0 w g bs p) (hb : Below w.heap.size w w') : Rd w0 w' g bs p := by
  obtain ⟨A, c, hg, hC⟩ := h.mem
  exact ⟨⟨A, c, blk_below hg hb, hC⟩, h.base, below_then h.below h.below.size hb, h.byt, h.len⟩
theorem Rd.step {w0 w : World} {g : Nat} {bs : List Int} {p : Nat} (h : Rd w0 w g bs p) (q : Nat) : Rd w0 (w.setCell ⟨g, 1, none⟩ (.int .i64 q)) g bs q ∧ w.grownBy (w.setCell ⟨g, 1, none⟩ (.int .i64 q)) (some g) := by
  obtain ⟨A, c, hg, hC⟩ := h.mem
  refine ⟨⟨⟨A, c, blk_put hg 1 _ rfl, hC⟩, h.base, h.below.setCell (p := ⟨g, 1, none⟩) h.base _, h.byt, h.len⟩, rfl, rfl, rfl, by simp [World.setCell], fun k hk hne => Below.heap_setCell w ⟨g, 1, none⟩ _ k (fun e => hne (by rw [e]))⟩

theorem at8 {w : World} {A : Option Addr} {n : Nat} {xs : List Int} (h : (Kd.int .u8).C w A n xs) (k : Nat) (hk : k < n) : ∃ ad, A = some ad ∧ w.cell? (ad.add k) = some (.int .u8 (xs.getD k 0)) := by
  obtain ⟨ad, e, hc⟩ := h.2.2 (by omega)
  have hl := h.1
  obtain ⟨c, h1, h2, h3⟩ := hc k (xs.getD k 0) (by rw [List.getD_eq_getElem?_getD, List.getElem?_eq_getElem (by omega)]; rfl)
  refine ⟨ad, e, ?_⟩
  have h2' : c = [.int .u8 (xs.getD k 0)] := h2
  have := h3 0 (.int .u8 (xs.getD k 0)) (by rw [h2']; rfl)
  simpa [show (Kd.int .u8).sz = 1 from rfl] using this

def mix (bs : List Int) (p : Nat) : Int :=
  bs.getD (p % bs.length) 0 * 131 + bs.getD ((p * 7 + 3) % bs.length) 0 * 1117 + p * 29 + ((p / bs.length : Nat) : Int) * 53

theorem xor_ge (a b : Int) (h1 : 0 ≤ a) (h2 : a < 4611686018427387904) (h3 : 0 ≤ b) (h4 : b < 4611686018427387904) : 0 ≤ bits .xor .i64 a b := by
  obtain ⟨x, rfl⟩ := Int.eq_ofNat_of_zero_le h1
  obtain ⟨y, rfl⟩ := Int.eq_ofNat_of_zero_le h3
  have hx : x ^^^ y < 2 ^ 62 := Nat.xor_lt_two_pow (by omega) (by omega)
  show 0 ≤ IntKind.i64.wrap ((BitVec.ofInt 64 (x : Int) ^^^ BitVec.ofInt 64 (y : Int)).toNat : Int)
  rw [BitVec.toNat_xor, ofInt_u64 x (by omega), ofInt_u64 y (by omega), IntKind.wrap_i64]
  omega
def PickOk (n x : Int) : Prop := 0 ≤ x ∧ (1 ≤ n → x < n) ∧ (n < 1 → x = 0)
theorem pickOk_zero {n : Int} : PickOk n 0 := ⟨by omega, by omega, fun _ => rfl⟩
theorem pickOk_mod {n y : Int} (hn : 0 < n) : PickOk n (y % n) := ⟨Int.emod_nonneg _ (by omega), fun _ => Int.emod_lt_of_pos _ (by omega), fun h => by omega⟩
set_option maxRecDepth 100000 in
theorem pick_any (w0 : World) (g : Nat) (bs : List Int) (p : Nat) (n : Int) (w : World) (h : Rd w0 w g bs p) (hp : p < 100000) (hn : n ≤ 1000000) :
    Calls Tryz.prog 41 #[.pointer (some ⟨g, 0, none⟩), .int .i64 n] w fun e w' =>
      ∃ x : Int, e = .returned (.int .i64 x) ∧ PickOk n x ∧ Rd w0 w' g bs (p + 1) ∧ w.grownBy w' (some g) := by
  obtain ⟨A, c, hg, hC⟩ := h.mem
  have c0 : w.cell? ⟨g, 0, none⟩ = some (.slice A bs.length c) := blk_cell hg 0
  have c1 : w.cell? ⟨g, 1, none⟩ = some (.int .i64 p) := blk_cell hg 1
  have f1 := blk_frozen hg 1
  have hwr : IntKind.i64.wrap ((p : Int) + 1) = (p : Int) + 1 := by rw [IntKind.wrap_i64]; omega
  have HR := Aside0.mk (h.step (p + 1))
  rw [show ((p + 1 : Nat) : Int) = (p : Int) + 1 from rfl] at HR
  by_cases h1 : n < 1
  · have d1 : decide (n < 1) = true := decide_eq_true h1
    go_enter Tryz.func41, Tryz.ntmps41
    go_wp2
    go_ret
    exact ⟨0, rfl, pickOk_zero, HR.out.1, HR.out.2⟩
  · have d1 : decide (n < 1) = false := decide_eq_false h1
    by_cases h0 : bs.length = 0
    · have d2 : ((bs.length : Int) == 0) = true := by simp [h0]
      have d3 : decide (bs.length = 0) = true := decide_eq_true h0
      go_enter Tryz.func41, Tryz.ntmps41
      go_wp2
      go_ret
      exact ⟨0, rfl, pickOk_zero, HR.out.1, HR.out.2⟩
    · have d2 : ((bs.length : Int) == 0) = false := by rw [beq_eq_false_iff_ne]; omega
      have d3 : decide (bs.length = 0) = false := decide_eq_false h0
      have hnz : ¬ (n = 0) := by omega
      have hn0 : 0 < n := by omega
      have hp0 : (0 : Int) ≤ p := by omega
      by_cases hk : p < bs.length
      · have hC1 := Kd.C_below hC HR.out.1.below
        obtain ⟨ad, rfl, hb⟩ := at8 hC1 p hk
        obtain ⟨y, hy⟩ : ∃ y, y = bs.getD p 0 := ⟨_, rfl⟩
        have hyb : 0 ≤ y ∧ y ≤ 255 := by rw [hy]; exact h.byt _ (by rw [List.getD_eq_getElem?_getD, List.getElem?_eq_getElem hk]; exact List.getElem_mem _)
        rw [← hy] at hb
        clear hy
        go_enter Tryz.func41, Tryz.ntmps41
        go_wp2
        go_ret
        exact ⟨_, rfl, pickOk_mod hn0, HR.out.1, HR.out.2⟩
      · obtain ⟨L, hL⟩ : ∃ L, L = bs.length := ⟨_, rfl⟩
        have hL0 : 0 < L := by omega
        have hC1 := Kd.C_below hC HR.out.1.below
        have hm1 : p % L < L := Nat.mod_lt _ hL0
        have hm2 : (p * 7 + 3) % L < L := Nat.mod_lt _ hL0
        obtain ⟨ad, rfl, ha⟩ := at8 hC1 (p % bs.length) (by rw [← hL]; exact hm1)
        obtain ⟨ad', e, hb⟩ := at8 hC1 ((p * 7 + 3) % bs.length) (by rw [← hL]; exact hm2)
        cases e
        have hLl := h.len
        have ya : 0 ≤ bs.getD (p % bs.length) 0 ∧ bs.getD (p % bs.length) 0 ≤ 255 := h.byt _ (by rw [List.getD_eq_getElem?_getD, List.getElem?_eq_getElem (by rw [← hL]; exact hm1)]; exact List.getElem_mem _)
        have yb : 0 ≤ bs.getD ((p * 7 + 3) % bs.length) 0 ∧ bs.getD ((p * 7 + 3) % bs.length) 0 ≤ 255 := h.byt _ (by rw [List.getD_eq_getElem?_getD, List.getElem?_eq_getElem (by rw [← hL]; exact hm2)]; exact List.getElem_mem _)
        generalize bs.getD (p % bs.length) 0 = y at ha ya
        generalize bs.getD ((p * 7 + 3) % bs.length) 0 = z at hb yb
        rw [← hL] at c0 ha hb hLl hk d2 d3
        have HN := Aside0.mk h1
        have c0' : (w.setCell ⟨g, 1, none⟩ (.int .i64 ((p : Int) + 1))).cell? ⟨g, 0, none⟩ = some (.slice (some ad) L c) := by
          obtain ⟨A2, c2, h2, _⟩ := HR.out.1.mem
          have h3 := (blk_cell (blk_put hg 1 (.int .i64 ((p : Int) + 1)) rfl) 0).trans rfl
          rw [h3, hL]
          rfl
        clear hL hg hC hC1 h0 h1
        have i1 : ((p : Int) % (L : Int)) = ((p % L : Nat) : Int) := rfl
        have i2 : ((p : Int) * 7 + 3) % (L : Int) = (((p * 7 + 3) % L : Nat) : Int) := rfl
        have i3 : ((p : Int) / (L : Int)) = ((p / L : Nat) : Int) := rfl
        obtain ⟨q, hq⟩ : ∃ q, q = p / L := ⟨_, rfl⟩
        have hq1 : q ≤ 100000 := by rw [hq]; exact Nat.le_trans (Nat.div_le_self _ _) (by omega)
        rw [← hq] at i3
        obtain ⟨r1, hr1⟩ : ∃ r, r = p % L := ⟨_, rfl⟩
        obtain ⟨r2, hr2⟩ : ∃ r, r = (p * 7 + 3) % L := ⟨_, rfl⟩
        rw [← hr1] at i1 hm1 ha
        rw [← hr2] at i2 hm2 hb
        clear hq hr1 hr2
        have e0 := cellE c0'
        have ea := cellE ha
        have eb := cellE hb
        go_enter Tryz.func41, Tryz.ntmps41
        go_wp2
        refine region_ext (W := w.setCell ⟨g, 1, none⟩ (.int .i64 ((p : Int) + 1))) (Below.refl _ _) (by kernel_rfl) (by kernel_rfl) ?_
        repeat (first | go_big_quiet_step (fail) | quiet_step (fail))
        refine wpQuiet_nil ?_
        rintro _ ⟨s, rfl⟩
        have HR3 := Aside0.mk (And.intro (HR.out.1.grown s.2) (World.grownBy.trans HR.out.2 (grown_of_below s.2 _)))
        generalize s.1 = W3 at HR3
        obtain ⟨X, hX⟩ : ∃ X, X = y * 131 + z * 1117 + (p : Int) * 29 + (q : Int) * 53 := ⟨_, rfl⟩
        have hX0 : 0 ≤ X := by omega
        have hX1 : X ≤ 100000000 := by omega
        rw [← hX]
        clear hX
        have HX := Aside0.mk (xor_ge X (X / 64) hX0 (by omega) (by omega) (by omega))
        go_wp2
        go_ret
        refine ⟨_, rfl, ?_, HR3.out.1, HR3.out.2⟩
        rw [Int.tmod_eq_emod_of_nonneg HX.out]
        exact pickOk_mod hn0
end Go.Proofs.YtccenpmaooailaaGreat.Sa

/- The reference's kit: l14Open, num, l3Any. -/
set_option linter.unusedVariables false
set_option linter.unusedSimpArgs false
namespace Go.Proofs.YtccenpmaooailaaGreat.Sb
open Go.RowKit Go.Proofs.YtccenpmaooailaaGreatW.PrintWords Go.Proofs.YtccenpmaooailaaGreat.Wd Go.Proofs.YtccenpmaooailaaGreat.Pu Go.Proofs.YtccenpmaooailaaGreat.Ca Go.Proofs.YtccenpmaooailaaGreat.Cg Go.Proofs.YtccenpmaooailaaGreat.Sa

theorem num_any (w0 : World) (g : Nat) (bs : List Int) (p : Nat) (A : Option Addr) (c : Nat) (xs : List Int) (w : World) (h : Rd w0 w g bs p) (hp : p < 100000) (hx : 0 < xs.length) (hx2 : xs.length ≤ 1000)
    (hC : ∀ w', w.grownBy w' (some g) → (Kd.int .i64).C w' A xs.length xs) :
    Calls Tryz.prog 77 #[.pointer (some ⟨g, 0, none⟩), .slice A xs.length c] w fun e w' =>
      ∃ x : Int, e = .returned (.int .i64 x) ∧ x ∈ xs ∧ Rd w0 w' g bs (p + 1) ∧ w.grownBy w' (some g) := by
  go_enter Tryz.func77, Tryz.ntmps77
  go_wp2_with ((go_at_call 41; refine (pick_any w0 g bs p xs.length w h hp (by omega)).mono ?_; rintro e w2 ⟨x, rfl, hx0, hr, hg⟩; obtain ⟨k, rfl⟩ := Int.eq_ofNat_of_zero_le hx0.1; have hk : k < xs.length := by { have := hx0.2.1 (by omega); omega }; obtain ⟨ad, rfl, hcell⟩ := at1 (hC w2 hg) k hk; have HR := Aside0.mk hr; have HG := Aside0.mk hg; have hm : xs.getD k 0 ∈ xs := by { rw [List.getD_eq_getElem?_getD, List.getElem?_eq_getElem hk]; exact List.getElem_mem _ }; generalize xs.getD k 0 = y at hcell hm; have HM := Aside0.mk hm; clear hx0 hr hg hm hC))
  go_ret
  exact ⟨_, rfl, HM.out, HR.out, HG.out⟩

def Opened (w w' : World) (g : Nat) : Prop := ∃ bs, Rd w w' g bs 0
theorem open_any (wf : World) (A : Option Addr) (c : Nat) (bs : List Int) (w : World) (hwf : Below wf.heap.size wf w) (hC : (Kd.int .u8).C wf A bs.length bs) (hc : bs.length ≤ c) (hb : ∀ b ∈ bs, 0 ≤ b ∧ b ≤ 255) :
    Calls Tryz.prog 38 #[.slice A bs.length c] w fun e w' => ∃ g, e = .returned (.pointer (some ⟨g, 0, none⟩)) ∧ Opened wf w' g ∧ Below w.heap.size w w' := by
  by_cases hl : bs.length > 2000
  · have d1 : decide ((bs.length : Int) > 2000) = true := by rw [decide_eq_true_eq]; omega
    have d2 : (2000 : Int) < bs.length := by omega
    have d3 : (2000 : Int) ≤ c := by omega
    have hC2 : (Kd.int .u8).C wf A 2000 (bs.take 2000) := by
      refine ⟨by rw [List.length_take]; omega, by decide, fun _ => ?_⟩
      obtain ⟨ad, e, h2⟩ := hC.2.2 (by omega)
      refine ⟨ad, e, fun j q hj => h2 j q ?_⟩
      rw [List.getElem?_take] at hj
      split at hj
      · exact hj
      · cases hj
    have HL := Aside0.mk (show 2000 = (bs.take 2000).length by rw [List.length_take]; omega)
    go_enter Tryz.func38, Tryz.ntmps38
    go_wp2
    go_ret
    refine ⟨w.heap.size, rfl, ⟨bs.take 2000, ⟨⟨A, c, ?_, ?_⟩, hwf.size, hwf.alloc hwf.size _, fun b hb2 => hb b (List.mem_of_mem_take hb2), by rw [← HL.out]; decide⟩⟩, below_alloc (Below.refl _ _) _⟩
    · rw [← HL.out]; exact blk_new _ _
    · rw [← HL.out]; exact hC2
  · have d1 : decide ((bs.length : Int) > 2000) = false := by rw [decide_eq_false_iff_not]; omega
    have d2 : ¬ (2000 : Int) < bs.length := by omega
    have HL := Aside0.mk hl
    clear hl
    go_enter Tryz.func38, Tryz.ntmps38
    go_wp2
    go_ret
    exact ⟨w.heap.size, rfl, ⟨bs, ⟨⟨A, c, blk_new _ _, hC⟩, hwf.size, hwf.alloc hwf.size _, hb, by have := HL.out; omega⟩⟩, below_alloc (Below.refl _ _) _⟩
end Go.Proofs.YtccenpmaooailaaGreat.Sb

/- The reference's draws of occurrences. -/
set_option linter.unusedVariables false
set_option linter.unusedSimpArgs false
namespace Go.Proofs.YtccenpmaooailaaGreat.Sc
open Go.RowKit Go.Proofs.YtccenpmaooailaaGreatW.PrintWords Go.Proofs.YtccenpmaooailaaGreat.Wd Go.Proofs.YtccenpmaooailaaGreat.Pu Go.Proofs.YtccenpmaooailaaGreat.Ca Go.Proofs.YtccenpmaooailaaGreat.Cg Go.Proofs.YtccenpmaooailaaGreat.Sa Go.Proofs.YtccenpmaooailaaGreat.Sb

theorem rd_keep {w0 w w' : World} {g : Nat} {bs : List Int} {p : Nat} (h : Rd w0 w g bs p) {row : Option Nat} (hg : w.grownBy w' row) (hrow : ∀ k, row = some k → w0.heap.size ≤ k ∧ k ≠ g) : Rd w0 w' g bs p := by
  obtain ⟨A, c, hm, hC⟩ := h.mem
  exact ⟨⟨A, c, blk_grown hm hg (fun e => (hrow g e.symm).2 rfl), hC⟩, h.base, h.below.grown hg h.below.size (fun k hk => (hrow k hk).1), h.byt, h.len⟩
theorem rd_far {w0 w : World} {g : Nat} {bs : List Int} {p : Nat} (h : Rd w0 w g bs p) {H : Nat} (hH : w0.heap.size ≤ H) (hne : H ≠ g) (j : Nat) (u : Value) : Rd w0 (w.setCell ⟨H, j, none⟩ u) g bs p := by
  obtain ⟨A, c, hm, hC⟩ := h.mem
  exact ⟨⟨A, c, blk_far hm (p := ⟨H, j, none⟩) (fun e => hne e.symm) u, hC⟩, h.base, h.below.setCell (p := ⟨H, j, none⟩) hH u, h.byt, h.len⟩
theorem rd_lt {w0 w : World} {g : Nat} {bs : List Int} {p : Nat} (h : Rd w0 w g bs p) : g < w.heap.size := by
  obtain ⟨A, c, hm, hC⟩ := h.mem
  exact blk_lt hm
/-- numbers that lie in a block -/
theorem blk_C {w : World} {B : Nat} {t : TypeId} {xs : List Int} (hB : w.heap[B]? = some (.cells (xs.map (Value.int .i64)).toArray t (0, 0))) (hl : xs.length ≤ 9223372036854775807) : (Kd.int .i64).C w (some ⟨B, 0, none⟩) xs.length xs := by
  refine ⟨rfl, hl, fun _ => ⟨_, rfl, fun j q hj => ⟨[.int .i64 q], rfl, rfl, fun i u hi => ?_⟩⟩⟩
  obtain ⟨rfl, rfl⟩ : i = 0 ∧ u = .int .i64 q := by
    rcases i with _ | i
    · exact ⟨rfl, by simpa using hi.symm⟩
    · simp at hi
  rw [add_plain, blk_cell hB]
  show (xs.map (Value.int .i64)).toArray[j * 1 + 0]? = _
  simp [hj]
theorem grown_alloc {w : World} (o : Obj) (row : Option Nat) : w.grownBy (w.alloc o) row := grown_of_below (below_alloc (Below.refl _ _) o) row
theorem grown_set {w : World} {H j : Nat} {u : Value} {n : Nat} {w1 : World} {row : Option Nat} (hg : w1.grownBy w row) (hH : w1.heap.size ≤ H) : w1.grownBy (w.setCell ⟨H, j, none⟩ u) row :=
  ⟨hg.os, hg.tape, hg.output, by simpa [World.setCell] using hg.size, fun k hk hne => (Below.heap_setCell w ⟨H, j, none⟩ u k (by simp; omega)).trans (hg.block k hk hne)⟩
/-- what an earlier memory held, but for one block, still stands though something newer than it was written -/
theorem grown_new {w w1 w2 : World} {r1 row : Option Nat} (h1 : w.grownBy w1 r1) (h2 : w1.grownBy w2 row) (hrow : ∀ k, row = some k → w.heap.size ≤ k ∨ some k = r1) : w.grownBy w2 r1 :=
  ⟨h2.os.trans h1.os, h2.tape.trans h1.tape, h2.output.trans h1.output, Nat.le_trans h1.size h2.size, fun k hk hne => (h2.block k (Nat.lt_of_lt_of_le hk h1.size) (fun e => by rcases hrow k e.symm with h | h; omega; exact hne h)).trans (h1.block k hk hne)⟩

/-- while numbers are drawn for an occurrence: the last is under id -/
structure Asc1 (ids : List Int) (id : Int) : Prop where
  asc : Asc ids
  lt : ∀ z ∈ ids, 0 ≤ z ∧ z < id
  id0 : 0 ≤ id
  most : id ≤ 2 + 3 * ids.length
theorem Asc1.snoc {ids : List Int} {id x : Int} (h : Asc1 ids id) (h0 : 0 ≤ x) (h3 : x < 3) : Asc1 (ids ++ [id]) (id + 1 + x) := by
  refine ⟨?_, ?_, by have := h.id0; omega, ?_⟩
  · refine List.pairwise_append.2 ⟨h.asc, by simp, fun a ha b hb => ?_⟩
    rw [List.mem_singleton] at hb
    rw [hb]
    exact (h.lt a ha).2
  · intro z hz
    rcases List.mem_append.1 hz with hz | hz
    · have := h.lt z hz; omega
    · rw [List.mem_singleton] at hz
      rw [hz]
      have := h.id0; omega
  · have := h.most
    rw [List.length_append, List.length_singleton]
    omega

theorem own_step {α : Type} {d : Kd α} {e : Nat} {w1 w2 : World} {base g : Nat} {v : Value} {xs : List α} (h : d.R e w1 base (fun _ => True) v xs) (hg : w1.grownBy w2 (some g)) (hb : g < base) : d.R e w2 base (fun _ => True) v xs :=
  Kd.R_mono (Kd.R_grown (Kd.R_mono (Kd.R_bound h) (ok' := fun k => base ≤ k) (fun k hk => hk.2.1)) hg (fun k hk => by simp; omega)) (fun _ _ => trivial)
structure LoopMem (w0 w wr : World) (g H : Nat) (bs : List Int) (q : Nat) (a b : Int) (v : Value) (ids : List Int) : Prop where
  bG : wr.heap[w.heap.size]? = some (.cells #[.int .i64 0, .int .i64 0, .slice none 0 0] 43 (0, 0))
  bH : wr.heap[H]? = some (.cells #[.int .i64 a, .int .i64 b, v] 43 (0, 0))
  own : (Kd.int .i64).R 3 wr w.heap.size (fun _ => True) v ids
  rd : Rd w0 wr g bs q
  gr : w.grownBy wr (some g)
/-- an occurrence that is ok, in new memory; more was drawn -/
def AnyOut (w0 w w' : World) (g : Nat) (bs : List Int) (p : Nat) (e : Ending) : Prop :=
  ∃ (o : Occ) (v : Value), e = .returned (.agg #[.int .i64 o.f0, .int .i64 o.f1, v]) ∧ IsOk o ∧ (Kd.int .i64).R 3 w' w.heap.size (fun _ => True) v o.f2 ∧ (∃ p', p' ≤ p + 10 ∧ Rd w0 w' g bs p') ∧ w.grownBy w' (some g)
set_option maxHeartbeats 1000000 in
set_option maxRecDepth 100000 in
theorem any_any (w0 : World) (g : Nat) (bs : List Int) (p : Nat) (w : World) (h : Rd w0 w g bs p) (hp : p < 99000) :
    Calls Tryz.prog 79 #[.pointer (some ⟨g, 0, none⟩)] w fun e w' => AnyOut w0 w w' g bs p e := by
  have hgw := rd_lt h
  have bG := blk_new w (.cells #[.int .i64 0, .int .i64 0, .slice none 0 0] 43)
  have hGg : some w.heap.size ≠ some g := by simp; omega
  have hlit : ∀ W : World, g < W.heap.size → ∀ w', (W.alloc (.cells #[.int .i64 0, .int .i64 0, .int .i64 1, .int .i64 2, .int .i64 5] 3)).grownBy w' (some g) → (Kd.int .i64).C w' (some ⟨W.heap.size, 0, none⟩) 5 [0, 0, 1, 2, 5] :=
    fun W hW w' hg' => blk_C (xs := [0, 0, 1, 2, 5]) (blk_grown (blk_new W _) hg' (by simp; omega)) (by decide)
  go_enter Tryz.func79, Tryz.ntmps79
  go_wp2_with (first
    | (go_at_call 41; refine (pick_any w0 g bs (p + 3) 3 _ HRC.out (by omega) (by omega)).mono ?_; rintro e w4 ⟨x4, rfl, hx, hr, hg⟩; have hu0 := hx.1; have hu3 := hx.2.1 (by omega); have bG4 := blk_grown bG3 hg hGg; have bH4 := blk_grown bH3 hg (by have := rd_lt HRB.out; simp; omega); have HRD := Aside0.mk hr; have HGD := Aside0.mk (grown_new HGC.out hg (fun k hk => .inr hk.symm)); clear hx hr hg)
    | (go_at_call 41; refine (pick_any w0 g bs (p + 2) 3 _ (HRB.out.grown (below_alloc (Below.refl _ _) _)) (by omega) (by omega)).mono ?_; rintro e w3 ⟨x3, rfl, hx, hr, hg⟩; have ht0 := hx.1; have ht3 := hx.2.1 (by omega); have bG3 := blk_grown (blk_alloc bG2 _) hg hGg; have bH3 := blk_grown (blk_new _ _) hg (by have := rd_lt HRB.out; simp; omega); have HRC := Aside0.mk hr; have HGC := Aside0.mk (grown_new HGB.out (World.grownBy.trans (grown_alloc _ _) hg) (fun k hk => .inr hk.symm)); clear hx hr hg)
    | (go_at_call 77; refine (num_any w0 g bs (p + 1) _ 5 [0, 0, 1, 2, 5] _ (HRA.out.grown (below_alloc (Below.refl _ _) _)) (by omega) (by decide) (by decide) (hlit _ (rd_lt HRA.out))).mono ?_; rintro e w2 ⟨y, rfl, hy, hr, hg⟩; have hy5 : 0 ≤ y ∧ y ≤ 5 := by { simp at hy; omega }; have bG2 := blk_grown (blk_alloc bG1 _) hg hGg; have HRB := Aside0.mk hr; have HGB := Aside0.mk (grown_new HGA.out (World.grownBy.trans (grown_alloc _ _) hg) (fun k hk => .inr hk.symm)); clear hy hr hg)
    | (go_at_call 41; refine (pick_any w0 g bs p 9 _ (h.grown (below_alloc (Below.refl _ _) _)) (by omega) (by omega)).mono ?_; rintro e w1 ⟨x, rfl, hx, hr, hg⟩; have hx0 := hx.1; have hx9 := hx.2.1 (by omega); have bG1 := blk_grown bG hg hGg; have HRA := Aside0.mk hr; have HGA := Aside0.mk (World.grownBy.trans (grown_alloc _ _) hg); clear hx hr hg))
  obtain ⟨H, hH⟩ : ∃ H, H = w2.heap.size := ⟨_, rfl⟩
  have hHG : w.heap.size < H := by rw [hH]; exact blk_lt bG2
  have hHg : H ≠ g := by omega
  obtain ⟨a, ha⟩ : ∃ a, a = 1 + x := ⟨_, rfl⟩
  obtain ⟨b, hb⟩ : ∃ b, b = 1 + x + y := ⟨_, rfl⟩
  have hab : 1 ≤ a ∧ a ≤ b ∧ b ≤ 20 := by omega
  obtain ⟨n, hn⟩ : ∃ n : Nat, (n : Int) = 1 + x4 := ⟨(1 + x4).toNat, by omega⟩
  have hn3 : 1 ≤ n ∧ n ≤ 3 := by omega
  have HL : Aside0 (LoopMem w0 w w4 g H bs (p + 4) a b (.slice none 0 0) []) := ⟨⟨bG4, by rw [hH, ha, hb]; exact bH4, Kd.R_nil (Kd.int .i64) 3 w4 w.heap.size (fun _ => True), HRD.out, HGD.out⟩⟩
  have HA0 : Aside0 (Asc1 [] x3) := ⟨⟨List.Pairwise.nil, by simp, ht0, by simp; omega⟩⟩
  rw [← hH, ← hn]
  clear bG1 bG2 bG3 bG4 bH3 bH4 HRA HGA HRB HGB HRC HGC HRD HGD hH hn ha hb hx0 hx9 hy5 ht0 ht3 hu0 hu3 hlit bG
  go_loopw [5, 6] (fun v5 v6 wr => ∃ (id : Int) (m : Nat) (ids : List Int) (v : Value), v5 = .int .i64 id ∧ v6 = .int .i64 m ∧ m + ids.length = n ∧ Aside0 (Asc1 ids id) ∧ Aside0 (LoopMem w0 w wr g H bs (p + 4 + ids.length) a b v ids)) (fun _ v6 _ => (intOf v6).toNat)
  case atStart => exact ⟨x3, n, [], _, rfl, rfl, rfl, HA0, HL⟩
  case round =>
    obtain ⟨id, m, ids, v, rfl, rfl, hm, HA, HM⟩ := hrel
    have hid : 0 ≤ id ∧ id ≤ 11 := ⟨HA.out.id0, by have := HA.out.most; omega⟩
    obtain ⟨A, c, rfl⟩ := Kd.R_slice HM.out.own
    by_cases h0 : m = 0
    · subst h0
      have e0 := (blk_cell HM.out.bH 0).trans rfl
      have e1 := (blk_cell HM.out.bH 1).trans rfl
      have e2 := (blk_cell HM.out.bH 2).trans rfl
      have q0 := (blk_cell HM.out.bG 0).trans rfl
      have q1 := (blk_cell HM.out.bG 1).trans rfl
      have q2 := (blk_cell HM.out.bG 2).trans rfl
      have f0 := blk_frozen HM.out.bG 0
      have f1 := blk_frozen HM.out.bG 1
      have f2 := blk_frozen HM.out.bG 2
      have hwb : w0.heap.size ≤ w.heap.size := by have := HM.out.rd.base; omega
      have hwg : w.heap.size ≠ g := by omega
      go_wp2
      refine bodyPost_ret (results_cell_row rfl _ _ w.heap.size 43 #[.int .i64 a, .int .i64 b, .slice A ids.length c] (0, 0) _ rfl (set3_blk _ _ _ HM.out.bG) Tryz.underlying43 rfl (by kernel_rfl)) rfl ?_
      refine ⟨⟨a, b, ids⟩, _, rfl, ⟨HA.out.asc, fun z hz => ?_, hab.1, hab.2.1, ?_, ?_⟩, set3_R HM.out.own HM.out.bG (by decide) _ _ _, ⟨p + 4 + ids.length, ?_, rd_far (rd_far (rd_far HM.out.rd hwb hwg _ _) hwb hwg _ _) hwb hwg _ _⟩, grown_set (n := 0) (grown_set (n := 0) (grown_set (n := 0) HM.out.gr (Nat.le_refl _)) (Nat.le_refl _)) (Nat.le_refl _)⟩
      · have := HA.out.lt z hz; omega
      · show b ≤ 2000; omega
      · show 1 ≤ ids.length; omega
      · omega
    · have hm0b : decide (0 < m) = true := by rw [decide_eq_true_eq]; omega
      have hm0 : decide ((m : Int) > 0) = true := by rw [decide_eq_true_eq]; omega
      have hm1 : (0 : Int) < m := by omega
      have e2 := (blk_cell HM.out.bH 2).trans rfl
      have f2 := blk_frozen HM.out.bH 2
      have hlen : ids.length ≤ 3 := by omega
      have hwb : w0.heap.size ≤ w.heap.size := by have := HM.out.rd.base; omega
      have hwg : w.heap.size ≠ g := by omega
      go_wp2_with (first
        | (go_at_call 41; refine (pick_any w0 g bs (p + 4 + ids.length) 3 _ (rd_far HR5.out (by omega) hHg _ _) (by omega) (by omega)).mono ?_; rintro e w6 ⟨x6, rfl, hx, hr6, hg6⟩; have hx0 := hx.1; have hx3 := hx.2.1 (by omega); have HM6 : Aside0 (LoopMem w0 w w6 g H bs (p + 4 + (ids ++ [id]).length) a b (.slice A5 (ids.length + 1) c5) (ids ++ [id])) := ⟨⟨blk_grown (blk_far bG5 (p := ⟨H, 2, none⟩) (by simp; omega) _) hg6 hGg, blk_grown (blk_put bH5 2 _ rfl) hg6 (by simp; omega), own_step (Kd.R_set HO5.out bH5 (by decide) 2 _) hg6 hgw, by (rw [List.length_append, List.length_singleton, ← Nat.add_assoc]; exact hr6), grown_new (grown_set (n := 0) HG5.out (by omega)) hg6 (fun k hk => .inr hk.symm)⟩⟩; have HA6 := Aside0.mk (HA.out.snoc hx0 hx3); clear hx hr6 hg6)
        | ((with_reducible refine gate_dst (N := 30) rfl ?_); refine Kd.R_append (Kd.int .i64) (w0 := wr) w.heap.size rfl _ _ 41 3 (.int .i64 0) 8 rfl Tryz.underlying41 Cc.infoI rfl (by decide) (by decide) (.slice A ids.length c) ids id [.int .i64 id] (fun _ => True) (fun _ => False) rfl rfl rfl (fun _ h => h.elim) (fun _ _ => trivial) HM.out.own (Below.refl _ _) HM.out.gr.size (by omega) ?_; intro v5 w5 hr5 _ hg5 _; obtain ⟨A5, c5, rfl⟩ := Kd.R_slice hr5; rw [List.length_append, List.length_singleton] at hr5; have bG5 := blk_grown HM.out.bG hg5 (Kd.R_ne HM.out.own HM.out.bG (by decide)); have bH5 := blk_grown HM.out.bH hg5 (Kd.R_ne HM.out.own HM.out.bH (by decide)); have e5 := (blk_cell bH5 2).trans rfl; have f5 := blk_frozen bH5 2; have HR5 := Aside0.mk (rd_keep HM.out.rd hg5 (fun k hk => by have := Kd.R_base HM.out.own k hk; omega)); have HG5 := Aside0.mk (grown_new HM.out.gr hg5 (fun k hk => .inl (Kd.R_base HM.out.own k hk))); have HO5 := Aside0.mk hr5; clear hr5 hg5))
      go_roundw
      case rel => exact ⟨_, m - 1, ids ++ [id], _, by go_num, by go_num, by simp; omega, HA6, HM6⟩
      case measure => simp [intOf]; omega
end Go.Proofs.YtccenpmaooailaaGreat.Sc

/- The reference's order of occurrences, and what is right. -/
set_option linter.unusedVariables false
set_option linter.unusedSimpArgs false
namespace Go.Proofs.YtccenpmaooailaaGreat.Sd
open Go.RowKit Go.Proofs.YtccenpmaooailaaGreatW.PrintWords Go.Proofs.YtccenpmaooailaaGreat.Wd Go.Proofs.YtccenpmaooailaaGreat.Pu Go.Proofs.YtccenpmaooailaaGreat.Ca Go.Proofs.YtccenpmaooailaaGreat.Cg Go.Proofs.YtccenpmaooailaaGreat.Cf

theorem cmpIds_cons {a b : List Int} {k : Nat} (h : k < a.length) (h2 : k < b.length) : cmpIds (a.drop k) (b.drop k) = if a.getD k 0 < b.getD k 0 then -1 else if b.getD k 0 < a.getD k 0 then 1 else cmpIds (a.drop (k + 1)) (b.drop (k + 1)) := by
  rw [drop_at a 0 k h, drop_at b 0 k h2, cmpIds]

set_option maxRecDepth 100000 in
theorem ids_any (A B : Option Addr) (c c2 : Nat) (a b : List Int) (w : World) (ha : (Kd.int .i64).C w A a.length a) (hb : (Kd.int .i64).C w B b.length b) :
    Calls Tryz.prog 97 #[.slice A a.length c, .slice B b.length c2] w fun e w' => e = .returned (.int .i64 (cmpIds a b)) ∧ Below w.heap.size w w' := by
  have hn := (C_len ha).2
  have hn2 := (C_len hb).2
  go_enter Tryz.func97, Tryz.ntmps97
  go_wp2
  go_loopw [5] (fun vi wr => ∃ k : Nat, k ≤ a.length ∧ k ≤ b.length ∧ vi = .int .i64 k ∧ Aside0 (cmpIds a b = cmpIds (a.drop k) (b.drop k)) ∧ Aside0 (Below w.heap.size w wr)) (fun vi _ => a.length - (intOf vi).toNat)
  case atStart => exact ⟨0, Nat.zero_le _, Nat.zero_le _, rfl, ⟨rfl⟩, ⟨Below.refl _ _⟩⟩
  case round =>
    obtain ⟨k, hk, hk2, rfl, HH, HB⟩ := hrel
    by_cases hlt : k < a.length
    · by_cases hlt2 : k < b.length
      · have g1 : decide (k < a.length) = true := decide_eq_true hlt
        have g2 : decide (k < b.length) = true := decide_eq_true hlt2
        have i1 : (k : Int) < a.length := by omega
        have i2 : (k : Int) < b.length := by omega
        obtain ⟨ad, rfl, hc⟩ := at1 (Kd.C_below ha HB.out) k hlt
        obtain ⟨ad2, rfl, hc2⟩ := at1 (Kd.C_below hb HB.out) k hlt2
        have HS := Aside0.mk (HH.out.trans (cmpIds_cons hlt hlt2))
        generalize a.getD k 0 = x at hc HS
        generalize b.getD k 0 = y at hc2 HS
        replace hc := cellE hc
        replace hc2 := cellE hc2
        by_cases hxy : x < y
        · have t1 : decide (x < y) = true := decide_eq_true hxy
          have HE := Aside0.mk (show cmpIds a b = -1 by rw [HS.out, if_pos hxy])
          go_wp2
          refine region_ext (W := wr) (Below.refl _ _) (by kernel_rfl) (by kernel_rfl) ?_
          repeat (first | go_big_quiet_step (fail) | quiet_step (fail))
          refine wpQuiet_nil ?_
          rintro _ ⟨s, rfl⟩
          have HB3 := Aside0.mk (below_then HB.out HB.out.size s.2)
          generalize s.1 = W2 at HB3
          go_wp2
          go_ret
          exact ⟨by rw [HE.out]; rfl, HB3.out⟩
        · have t1 : decide (x < y) = false := decide_eq_false hxy
          by_cases hyx : y < x
          · have t2 : decide (x > y) = true := decide_eq_true hyx
            have HE := Aside0.mk (show cmpIds a b = 1 by rw [HS.out, if_neg hxy, if_pos hyx])
            go_wp2
            refine region_ext (W := wr) (Below.refl _ _) (by kernel_rfl) (by kernel_rfl) ?_
            repeat (first | go_big_quiet_step (fail) | quiet_step (fail))
            refine wpQuiet_nil ?_
            rintro _ ⟨s, rfl⟩
            have HB3 := Aside0.mk (below_then HB.out HB.out.size s.2)
            have hc3 := fun s2 : Ext s.1 => hc ⟨s2.1, below_then s.2 s.2.size s2.2⟩
            have hc4 := fun s2 : Ext s.1 => hc2 ⟨s2.1, below_then s.2 s.2.size s2.2⟩
            simp only [] at hc3 hc4
            generalize s.1 = W2 at HB3 hc3 hc4 ⊢
            go_wp2
            refine region_ext (W := W2) (Below.refl _ _) (by kernel_rfl) (by kernel_rfl) ?_
            repeat (first | go_big_quiet_step (fail) | quiet_step (fail))
            refine wpQuiet_nil ?_
            rintro _ ⟨s3, rfl⟩
            have HB4 := Aside0.mk (below_then HB3.out HB3.out.size s3.2)
            generalize s3.1 = W3 at HB4
            go_wp2
            go_ret
            exact ⟨by rw [HE.out]; rfl, HB4.out⟩
          · have t2 : decide (x > y) = false := decide_eq_false hyx
            have HE := Aside0.mk (show cmpIds a b = cmpIds (a.drop (k + 1)) (b.drop (k + 1)) by rw [HS.out, if_neg hxy, if_neg hyx])
            go_wp2
            refine region_ext (W := wr) (Below.refl _ _) (by kernel_rfl) (by kernel_rfl) ?_
            repeat (first | go_big_quiet_step (fail) | quiet_step (fail))
            refine wpQuiet_nil ?_
            rintro _ ⟨s, rfl⟩
            have HB3 := Aside0.mk (below_then HB.out HB.out.size s.2)
            have hc3 := fun s2 : Ext s.1 => hc ⟨s2.1, below_then s.2 s.2.size s2.2⟩
            have hc4 := fun s2 : Ext s.1 => hc2 ⟨s2.1, below_then s.2 s.2.size s2.2⟩
            simp only [] at hc3 hc4
            generalize s.1 = W2 at HB3 hc3 hc4 ⊢
            go_wp2
            refine region_ext (W := W2) (Below.refl _ _) (by kernel_rfl) (by kernel_rfl) ?_
            repeat (first | go_big_quiet_step (fail) | quiet_step (fail))
            refine wpQuiet_nil ?_
            rintro _ ⟨s3, rfl⟩
            have HB4 := Aside0.mk (below_then HB3.out HB3.out.size s3.2)
            generalize s3.1 = W3 at HB4
            go_wp2
            go_roundw
            case rel => exact ⟨k + 1, by omega, by omega, by go_num, HE, HB4⟩
            case measure => simp [intOf]; omega
      · have g1 : decide (k < a.length) = true := decide_eq_true hlt
        have g2 : decide (k < b.length) = false := decide_eq_false hlt2
        have l1 : decide (a.length < b.length) = false := decide_eq_false (by omega)
        have l2 : decide (a.length > b.length) = true := decide_eq_true (by omega)
        have l3 : decide (b.length < a.length) = true := decide_eq_true (by omega)
        have i1 : (k : Int) < a.length := by omega
        have i2 : ¬ (k : Int) < b.length := by omega
        have HE := Aside0.mk (show cmpIds a b = 1 by rw [HH.out, List.drop_of_length_le (l := b) (by omega), drop_at a 0 k hlt, cmpIds])
        go_wp2
        go_ret
        exact ⟨by rw [HE.out]; rfl, HB.out⟩
    · have hke : k = a.length := by omega
      have g1 : decide (k < a.length) = false := decide_eq_false hlt
      have l2 : decide (a.length > b.length) = false := decide_eq_false (by omega)
      have l3 : decide (b.length < a.length) = false := decide_eq_false (by omega)
      have i1 : ¬ (k : Int) < a.length := by omega
      by_cases hl : a.length < b.length
      · have hl2 : decide (a.length < b.length) = true := decide_eq_true hl
        have HE := Aside0.mk (show cmpIds a b = -1 by rw [HH.out, List.drop_of_length_le (l := a) (by omega), drop_at b 0 k (by omega), cmpIds])
        clear hke
        go_wp2
        go_ret
        exact ⟨by rw [HE.out]; rfl, HB.out⟩
      · have hl2 : decide (a.length < b.length) = false := decide_eq_false hl
        have HE := Aside0.mk (show cmpIds a b = 0 by rw [HH.out, List.drop_of_length_le (l := a) (by omega), List.drop_of_length_le (l := b) (by omega), cmpIds])
        clear hke
        go_wp2
        go_ret
        exact ⟨by rw [HE.out]; rfl, HB.out⟩
end Go.Proofs.YtccenpmaooailaaGreat.Sd

/- The reference's order of occurrences: OccLess, l3Same, l3Copy. -/
set_option linter.unusedVariables false
set_option linter.unusedSimpArgs false
namespace Go.Proofs.YtccenpmaooailaaGreat.Se
open Go.RowKit Go.Proofs.YtccenpmaooailaaGreatW.PrintWords Go.Proofs.YtccenpmaooailaaGreat.Wd Go.Proofs.YtccenpmaooailaaGreat.Pu Go.Proofs.YtccenpmaooailaaGreat.Ca Go.Proofs.YtccenpmaooailaaGreat.Cg Go.Proofs.YtccenpmaooailaaGreat.Cf Go.Proofs.YtccenpmaooailaaGreat.Sd

theorem sLess_any (x y : Occ) (A B : Option Addr) (c c2 : Nat) (w : World) (hx : IsO w x A c) (hy : IsO w y B c2) :
    Calls Tryz.prog 59 #[.agg #[.int .i64 x.f0, .int .i64 x.f1, .slice A x.f2.length c], .agg #[.int .i64 y.f0, .int .i64 y.f1, .slice B y.f2.length c2]] w fun e w' => e = .returned (.bool (decide (cmpO x y < 0))) ∧ Below w.heap.size w w' := by
  by_cases h : x.f1 = y.f1
  · by_cases g : x.f0 = y.f0
    · have HC := Aside0.mk (show cmpO x y = cmpIds x.f2 y.f2 by unfold cmpO; rw [if_pos h, if_pos g])
      have h1 : (x.f1 != y.f1) = false := by simpa using h
      have g1 : (x.f0 != y.f0) = false := by simpa using g
      have hb : Below w.heap.size w ((w.alloc (.cells #[.int .i64 x.f0, .int .i64 x.f1, .slice A x.f2.length c] 43)).alloc (.cells #[.int .i64 y.f0, .int .i64 y.f1, .slice B y.f2.length c2] 43)) := by repeat (first | exact Below.refl _ _ | apply below_alloc)
      have hcl := ids_any A B c c2 x.f2 y.f2 _ (Kd.C_below hx.2 hb) (Kd.C_below hy.2 hb)
      clear h g
      have HB := Aside0.mk hb
      clear hb
      go_enter Tryz.func59, Tryz.ntmps59
      go_wp2_with (go_at_call 97; refine hcl.mono ?_; rintro e w' ⟨rfl, hw⟩; have HB2 := Aside0.mk (below_then HB.out HB.out.size hw); clear hw)
      go_ret
      exact ⟨by rw [HC.out]; rfl, HB2.out⟩
    · have h1 : (x.f1 != y.f1) = false := by simpa using h
      have g1 : (x.f0 != y.f0) = true := by simpa using g
      have HC := Aside0.mk (show decide (cmpO x y < 0) = decide (x.f0 < y.f0) by unfold cmpO; rw [if_pos h, if_neg g]; split <;> simp [*])
      clear h g
      go_enter Tryz.func59, Tryz.ntmps59
      go_wp2
      go_ret
      exact ⟨by rw [HC.out]; rfl, by repeat (first | exact Below.refl _ _ | apply below_alloc)⟩
  · have h1 : (x.f1 != y.f1) = true := by simpa using h
    have HC := Aside0.mk (show decide (cmpO x y < 0) = decide (x.f1 < y.f1) by unfold cmpO; rw [if_neg h]; split <;> simp [*])
    clear h
    go_enter Tryz.func59, Tryz.ntmps59
    go_wp2
    go_ret
    exact ⟨by rw [HC.out]; rfl, by repeat (first | exact Below.refl _ _ | apply below_alloc)⟩

theorem sSame_any (x y : Occ) (A B : Option Addr) (c c2 : Nat) (w : World) (hx : IsO w x A c) (hy : IsO w y B c2) :
    Calls Tryz.prog 95 #[.agg #[.int .i64 x.f0, .int .i64 x.f1, .slice A x.f2.length c], .agg #[.int .i64 y.f0, .int .i64 y.f1, .slice B y.f2.length c2]] w fun e w' => e = .returned (.bool (decide (cmpO x y = 0))) ∧ Below w.heap.size w w' := by
  by_cases g : x.f0 = y.f0
  · have g1 : (x.f0 == y.f0) = true := by simpa using g
    by_cases h : x.f1 = y.f1
    · have h1 : (x.f1 == y.f1) = true := by simpa using h
      have HC := Aside0.mk (show cmpO x y = cmpIds x.f2 y.f2 by unfold cmpO; rw [if_pos h, if_pos g])
      by_cases hl : x.f2.length = y.f2.length
      · have l1 : ((x.f2.length : Int) == y.f2.length) = true := by rw [beq_iff_eq]; omega
        have l2 : decide (x.f2.length = y.f2.length) = true := decide_eq_true hl
        have hb : Below w.heap.size w ((w.alloc (.cells #[.int .i64 x.f0, .int .i64 x.f1, .slice A x.f2.length c] 43)).alloc (.cells #[.int .i64 y.f0, .int .i64 y.f1, .slice B y.f2.length c2] 43)) := by repeat (first | exact Below.refl _ _ | apply below_alloc)
        have hcl := ids_any A B c c2 x.f2 y.f2 _ (Kd.C_below hx.2 hb) (Kd.C_below hy.2 hb)
        clear h g hl
        have HB := Aside0.mk hb
        clear hb
        go_enter Tryz.func95, Tryz.ntmps95
        go_wp2_with (go_at_call 97; refine hcl.mono ?_; rintro e w' ⟨rfl, hw⟩; have HB2 := Aside0.mk (below_then HB.out HB.out.size hw); clear hw)
        go_ret
        exact ⟨by rw [HC.out]; exact ret_bool (by rw [Bool.eq_iff_iff]; simp), HB2.out⟩
      · have l1 : ((x.f2.length : Int) == y.f2.length) = false := by rw [beq_eq_false_iff_ne]; omega
        have l2 : decide (x.f2.length = y.f2.length) = false := decide_eq_false hl
        have HF := Aside0.mk (show decide (cmpO x y = 0) = false from decide_eq_false (fun e => hl (by rw [(cmpO_eq x y).1 e])))
        clear h g hl
        go_enter Tryz.func95, Tryz.ntmps95
        go_wp2
        go_ret
        exact ⟨by rw [HF.out]; rfl, by repeat (first | exact Below.refl _ _ | apply below_alloc)⟩
    · have h1 : (x.f1 == y.f1) = false := by simpa using h
      have HF := Aside0.mk (show decide (cmpO x y = 0) = false from decide_eq_false (fun e => h (by rw [(cmpO_eq x y).1 e])))
      clear h g
      go_enter Tryz.func95, Tryz.ntmps95
      go_wp2
      go_ret
      exact ⟨by rw [HF.out]; rfl, by repeat (first | exact Below.refl _ _ | apply below_alloc)⟩
  · have g1 : (x.f0 == y.f0) = false := by simpa using g
    have HF := Aside0.mk (show decide (cmpO x y = 0) = false from decide_eq_false (fun e => g (by rw [(cmpO_eq x y).1 e])))
    clear g
    go_enter Tryz.func95, Tryz.ntmps95
    go_wp2
    go_ret
    exact ⟨by rw [HF.out]; rfl, by repeat (first | exact Below.refl _ _ | apply below_alloc)⟩
end Go.Proofs.YtccenpmaooailaaGreat.Se

/- What is right, by the reference: OccOk. -/
set_option linter.unusedVariables false
set_option linter.unusedSimpArgs false
namespace Go.Proofs.YtccenpmaooailaaGreat.Sf
open Go.RowKit Go.Proofs.YtccenpmaooailaaGreatW.PrintWords Go.Proofs.YtccenpmaooailaaGreat.Wd Go.Proofs.YtccenpmaooailaaGreat.Pu Go.Proofs.YtccenpmaooailaaGreat.Ca Go.Proofs.YtccenpmaooailaaGreat.Cg Go.Proofs.YtccenpmaooailaaGreat.Cf Go.Proofs.YtccenpmaooailaaGreat.Sd

theorem okIds_len : ∀ {l : List Int} {last : Int}, last ≤ 23 → okIds last l = true → (l.length : Int) ≤ 23 - last
  | [], _, h, _ => by simp; omega
  | z :: l, last, h, hk => by
    simp only [okIds, inb, Bool.and_eq_true, decide_eq_true_eq] at hk
    have := okIds_len hk.1.2 hk.2
    simp only [List.length_cons]
    omega
/-- the number ahead of place k -/
def pre (ids : List Int) (k : Nat) : Int := if k = 0 then -1 else ids.getD (k - 1) 0

set_option maxHeartbeats 1000000 in
set_option maxRecDepth 100000 in
theorem sOccOk_any (x : Occ) (A : Option Addr) (c : Nat) (w : World) (hx : IsO w x A c) :
    Calls Tryz.prog 58 #[.agg #[.int .i64 x.f0, .int .i64 x.f1, .slice A x.f2.length c]] w fun e w' => e = .returned (.bool (okO x)) ∧ Below w.heap.size w w' := by
  obtain ⟨hb, k0, k1, k2⟩ := box3 w (.int .i64 x.f0) (.int .i64 x.f1) (.slice A x.f2.length c) 43
  obtain ⟨n, hn⟩ : ∃ n, n = x.f2.length := ⟨_, rfl⟩
  have hnb := (C_len hx.2).2
  rw [← hn] at k0 k1 k2 hb hnb ⊢
  have HX := Aside0.mk hx
  have HN := Aside0.mk hn
  clear hx
  by_cases h1 : x.f0 < 1
  · have d1 : decide (x.f0 < 1) = true := decide_eq_true h1
    have HF := Aside0.mk (show okO x = false by unfold okO; rw [decide_eq_false (show ¬ 1 ≤ x.f0 by omega)]; simp)
    clear hn
    go_enter Tryz.func58, Tryz.ntmps58
    go_wp2
    go_ret
    exact ⟨by rw [HF.out]; rfl, hb⟩
  have d1 : decide (x.f0 < 1) = false := decide_eq_false h1
  by_cases h2 : x.f1 < x.f0
  · have d2 : decide (x.f1 < x.f0) = true := decide_eq_true h2
    have HF := Aside0.mk (show okO x = false by unfold okO inb; rw [decide_eq_false (show ¬ x.f0 ≤ x.f1 by omega)]; simp)
    clear hn
    go_enter Tryz.func58, Tryz.ntmps58
    go_wp2
    go_ret
    exact ⟨by rw [HF.out]; rfl, hb⟩
  have d2 : decide (x.f1 < x.f0) = false := decide_eq_false h2
  by_cases h3 : x.f1 > 2000
  · have d3 : decide (x.f1 > 2000) = true := decide_eq_true h3
    have HF := Aside0.mk (show okO x = false by unfold okO inb; rw [decide_eq_false (show ¬ x.f1 ≤ 2000 by omega)]; simp)
    clear hn
    go_enter Tryz.func58, Tryz.ntmps58
    go_wp2
    go_ret
    exact ⟨by rw [HF.out]; rfl, hb⟩
  have d3 : decide (x.f1 > 2000) = false := decide_eq_false h3
  by_cases h4 : n = 0
  · have HF := Aside0.mk (show okO x = false by unfold okO; rw [decide_eq_false (show ¬ 1 ≤ x.f2.length by omega)]; simp)
    subst h4
    clear hn
    go_enter Tryz.func58, Tryz.ntmps58
    go_wp2
    go_ret
    exact ⟨by rw [HF.out]; rfl, hb⟩
  have d4 : decide ((n : Int) < 1) = false := decide_eq_false (by omega)
  by_cases h5 : n > 24
  · have d5 : decide ((n : Int) > 24) = true := decide_eq_true (by omega)
    have HF := Aside0.mk (show okO x = false by
      cases hk : okO x with
      | false => rfl
      | true =>
        unfold okO at hk
        simp only [Bool.and_eq_true] at hk
        have := okIds_len (by omega) hk.1
        omega)
    clear hn
    go_enter Tryz.func58, Tryz.ntmps58
    go_wp2
    go_ret
    exact ⟨by rw [HF.out]; rfl, hb⟩
  have d5 : decide ((n : Int) > 24) = false := decide_eq_false (by omega)
  have HO := Aside0.mk (show okO x = okIds (-1) x.f2 by
    unfold okO inb
    rw [decide_eq_true (show 1 ≤ x.f0 by omega), decide_eq_true (show x.f0 ≤ x.f1 by omega), decide_eq_true (show x.f1 ≤ 2000 by omega), decide_eq_true (show 1 ≤ x.f2.length by omega)]
    simp)
  have hC := Kd.C_below HX.out.2 hb
  have HB0 := Aside0.mk hb
  clear hn hb h1 h2 h3
  go_enter Tryz.func58, Tryz.ntmps58
  go_wp2
  generalize w.alloc (.cells #[.int .i64 x.f0, .int .i64 x.f1, .slice A n c] 43) = W at k0 k1 k2 hC HB0 ⊢
  go_loopw [3] (fun vi wr => ∃ k : Nat, k ≤ n ∧ vi = .int .i64 k ∧ Aside0 (okO x = okIds (pre x.f2 k) (x.f2.drop k) ∧ -1 ≤ pre x.f2 k) ∧ Aside0 (Below W.heap.size W wr)) (fun vi _ => n - (intOf vi).toNat)
  case atStart => exact ⟨0, Nat.zero_le _, rfl, ⟨by rw [HO.out]; rfl, by simp [pre]⟩, ⟨Below.refl _ _⟩⟩
  case round =>
    obtain ⟨k, hk, rfl, HI, HB⟩ := hrel
    by_cases hlt : k < n
    · have g1 : decide (k < n) = true := decide_eq_true hlt
      have i1 : (k : Int) < n := by omega
      have hkl : k < x.f2.length := by have := HN.out; omega
      obtain ⟨ad, rfl, hc⟩ := at1 (Kd.C_below hC HB.out) k hkl
      have HD := Aside0.mk (show okO x = (inb (x.f2.getD k 0) (pre x.f2 k + 1) 23 && okIds (x.f2.getD k 0) (x.f2.drop (k + 1))) by rw [HI.out.1, drop_at x.f2 0 k hkl, okIds])
      have HP := Aside0.mk (show pre x.f2 (k + 1) = x.f2.getD k 0 by simp [pre])
      obtain ⟨z, hz⟩ : ∃ z, z = x.f2.getD k 0 := ⟨_, rfl⟩
      rw [← hz] at hc HD HP
      have HZ := Aside0.mk hz
      clear hz
      have q2 := pw_cell_below HB.out k2
      have e2 := cellE q2
      replace hc := cellE hc
      by_cases z0 : z < 0
      · have t1 : decide (z < 0) = true := decide_eq_true z0
        have HF := Aside0.mk (show okO x = false by rw [HD.out]; unfold inb; rw [decide_eq_false (show ¬ pre x.f2 k + 1 ≤ z by have := HI.out.2; omega)]; rfl)
        go_wp2
        refine region_ext (W := wr) (Below.refl _ _) (by kernel_rfl) (by kernel_rfl) ?_
        repeat (first | go_big_quiet_step (fail) | quiet_step (fail))
        refine wpQuiet_nil ?_
        rintro _ ⟨s, rfl⟩
        have HB3 := Aside0.mk (below_then HB0.out HB0.out.size (below_then HB.out HB.out.size s.2))
        generalize s.1 = W2 at HB3
        go_wp2
        go_ret
        exact ⟨by rw [HF.out]; rfl, HB3.out⟩
      have t1 : decide (z < 0) = false := decide_eq_false z0
      by_cases z24 : z ≥ 24
      · have t2 : decide (z ≥ 24) = true := decide_eq_true z24
        have HF := Aside0.mk (show okO x = false by rw [HD.out]; unfold inb; rw [decide_eq_false (show ¬ z ≤ 23 by omega)]; simp)
        go_wp2
        refine region_ext (W := wr) (Below.refl _ _) (by kernel_rfl) (by kernel_rfl) ?_
        repeat (first | go_big_quiet_step (fail) | quiet_step (fail))
        refine wpQuiet_nil ?_
        rintro _ ⟨s, rfl⟩
        have HB3 := Aside0.mk (below_then HB0.out HB0.out.size (below_then HB.out HB.out.size s.2))
        generalize s.1 = W2 at HB3
        go_wp2
        go_ret
        exact ⟨by rw [HF.out]; rfl, HB3.out⟩
      have t2 : decide (z ≥ 24) = false := decide_eq_false z24
      by_cases k0' : k = 0
      · have HS : Aside0 (okO x = okIds (pre x.f2 (k + 1)) (x.f2.drop (k + 1)) ∧ -1 ≤ pre x.f2 (k + 1)) := ⟨by
          rw [HP.out, HD.out]
          refine ⟨?_, by omega⟩
          unfold inb
          rw [decide_eq_true (show pre x.f2 k + 1 ≤ z by rw [k0']; simp [pre]; omega), decide_eq_true (show z ≤ 23 by omega)]
          rfl⟩
        have j1 : decide ((k : Int) > 0) = false := decide_eq_false (by omega)
        have j2 : decide (0 < k) = false := decide_eq_false (by omega)
        clear z0 z24 k0'
        go_wp2
        refine region_ext (W := wr) (Below.refl _ _) (by kernel_rfl) (by kernel_rfl) ?_
        repeat (first | go_big_quiet_step (fail) | quiet_step (fail))
        refine wpQuiet_nil ?_
        rintro _ ⟨s, rfl⟩
        have HB3 := Aside0.mk (below_then HB.out HB.out.size s.2)
        generalize s.1 = W2 at HB3
        go_wp2
        go_roundw
        case rel => exact ⟨k + 1, by omega, by go_num, HS, HB3⟩
        case measure => simp [intOf]; omega
      · have j1 : decide ((k : Int) > 0) = true := decide_eq_true (by omega)
        have j2 : decide (0 < k) = true := decide_eq_true (by omega)
        have hk0 : 0 < k := by omega
        obtain ⟨ad2, e, hcp⟩ := at1 (Kd.C_below hC HB.out) (k - 1) (by omega)
        cases e
        have HPR := Aside0.mk (show pre x.f2 k = x.f2.getD (k - 1) 0 by unfold pre; rw [if_neg (by omega)])
        obtain ⟨q, hq⟩ : ∃ q, q = x.f2.getD (k - 1) 0 := ⟨_, rfl⟩
        rw [← hq] at hcp HPR
        clear hq
        replace hcp := cellE hcp
        by_cases hzq : z ≤ q
        · have t3 : decide (z ≤ q) = true := decide_eq_true hzq
          have HF := Aside0.mk (show okO x = false by rw [HD.out, HPR.out]; unfold inb; rw [decide_eq_false (show ¬ q + 1 ≤ z by omega)]; rfl)
          clear z0 z24 hzq
          go_wp2
          refine region_ext (W := wr) (Below.refl _ _) (by kernel_rfl) (by kernel_rfl) ?_
          repeat (first | go_big_quiet_step (fail) | quiet_step (fail))
          refine wpQuiet_nil ?_
          rintro _ ⟨s, rfl⟩
          have HB3 := Aside0.mk (below_then HB0.out HB0.out.size (below_then HB.out HB.out.size s.2))
          generalize s.1 = W2 at HB3
          go_wp2
          go_ret
          exact ⟨by rw [HF.out]; rfl, HB3.out⟩
        · have t3 : decide (z ≤ q) = false := decide_eq_false hzq
          have HS : Aside0 (okO x = okIds (pre x.f2 (k + 1)) (x.f2.drop (k + 1)) ∧ -1 ≤ pre x.f2 (k + 1)) := ⟨by
            rw [HP.out, HD.out, HPR.out]
            refine ⟨?_, by omega⟩
            unfold inb
            rw [decide_eq_true (show q + 1 ≤ z by omega), decide_eq_true (show z ≤ 23 by omega)]
            rfl⟩
          clear z0 z24 hzq
          go_wp2
          refine region_ext (W := wr) (Below.refl _ _) (by kernel_rfl) (by kernel_rfl) ?_
          repeat (first | go_big_quiet_step (fail) | quiet_step (fail))
          refine wpQuiet_nil ?_
          rintro _ ⟨s, rfl⟩
          have HB3 := Aside0.mk (below_then HB.out HB.out.size s.2)
          generalize s.1 = W2 at HB3
          go_wp2
          go_roundw
          case rel => exact ⟨k + 1, by omega, by go_num, HS, HB3⟩
          case measure => simp [intOf]; omega
    · have hke : k = n := by omega
      have g1 : decide (k < n) = false := decide_eq_false hlt
      have i1 : ¬ (k : Int) < n := by omega
      have HE := Aside0.mk (show okO x = true by rw [HI.out.1, List.drop_of_length_le (by have := HN.out; omega)]; rfl)
      have e2 := pw_cell_below HB.out k2
      clear hke
      go_wp2
      go_ret
      exact ⟨by rw [HE.out]; rfl, below_then HB0.out HB0.out.size HB.out⟩
end Go.Proofs.YtccenpmaooailaaGreat.Sf

/- What is right, by the reference: OccsOk. -/
set_option linter.unusedVariables false
set_option linter.unusedSimpArgs false
namespace Go.Proofs.YtccenpmaooailaaGreat.Sg
open Go.RowKit Go.Proofs.YtccenpmaooailaaGreatW.PrintWords Go.Proofs.YtccenpmaooailaaGreat.Wd Go.Proofs.YtccenpmaooailaaGreat.Pu Go.Proofs.YtccenpmaooailaaGreat.Ca Go.Proofs.YtccenpmaooailaaGreat.Cb Go.Proofs.YtccenpmaooailaaGreat.Cg Go.Proofs.YtccenpmaooailaaGreat.Cf Go.Proofs.YtccenpmaooailaaGreat.Sd Go.Proofs.YtccenpmaooailaaGreat.Se Go.Proofs.YtccenpmaooailaaGreat.Sf

set_option maxHeartbeats 1000000 in
set_option maxRecDepth 100000 in
theorem sOccsOk_any (A : Option Addr) (c : Nat) (l : List Occ) (w : World) (hr : kO.C w A l.length l) :
    Calls Tryz.prog 21 #[.slice A l.length c] w fun e w' => e = .returned (.bool (okOs l)) ∧ Below w.heap.size w w' := by
  have hn := (C_len hr).2
  by_cases h40 : l.length > 40
  · have d1 : decide ((l.length : Int) > 40) = true := decide_eq_true (by omega)
    have HF := Aside0.mk (show okOs l = false by unfold okOs; rw [decide_eq_false (show ¬ l.length ≤ 40 by omega)]; simp)
    go_enter Tryz.func21, Tryz.ntmps21
    go_wp2
    go_ret
    exact ⟨by rw [HF.out]; rfl, Below.refl _ _⟩
  have d1 : decide ((l.length : Int) > 40) = false := decide_eq_false (by omega)
  have HO := Aside0.mk (show okOs l = chain none l by unfold okOs; rw [decide_eq_true (show l.length ≤ 40 by omega)]; simp)
  go_enter Tryz.func21, Tryz.ntmps21
  go_wp2
  go_loopw [3] (fun i wr => ∃ k : Nat, k ≤ l.length ∧ i = .int .i64 k ∧ Aside0 (chain none l = chain (prev l k) (l.drop k)) ∧ Aside0 (Below w.heap.size w wr)) (fun i _ => l.length - (intOf i).toNat)
  case atStart => exact ⟨0, Nat.zero_le _, rfl, ⟨rfl⟩, ⟨Below.refl _ _⟩⟩
  case round =>
    obtain ⟨k, hk, rfl, HH, HB⟩ := hrel
    by_cases hlt : k < l.length
    · have g1 : decide (k < l.length) = true := decide_eq_true hlt
      have hrr := Kd.C_below hr HB.out
      obtain ⟨ad, A2, c2, rfl, ha, hb, hc, hl2, hC2⟩ := atO hrr k hlt
      have HD := Aside0.mk (drop_at l zO k hlt)
      have HP := Aside0.mk (prev_succ l k)
      have hIs : IsO wr (l.getD k zO) A2 c2 := ⟨hl2, hC2⟩
      have i1 : (k : Int) < l.length := by omega
      clear hl2 hC2
      by_cases hk0 : k = 0
      · have HZ := Aside0.mk (show prev l k = none by simp [prev, hk0])
        have hg : decide ((k : Int) > 0) = false := by simp; omega
        have hg2 : decide (0 < k) = false := by simp; omega
        clear hk0
        generalize l.getD k zO = o at ha hb hc hIs HD HP
        replace ha := cellE ha
        replace hb := cellE hb
        replace hc := cellE hc
        have hcl := fun s : Ext wr => sOccOk_any o A2 c2 s.1 (hIs.ext s)
        cases hq : okO o with
        | true =>
          have HS := Aside0.mk (show chain none l = chain (prev l (k + 1)) (l.drop (k + 1)) by rw [HH.out, HD.out, HP.out, HZ.out, chain, hq]; rfl)
          rw [hq] at hcl
          clear hq
          go_wp2
          refine region_ext (W := wr) (Below.refl _ _) (by kernel_rfl) (by kernel_rfl) ?_
          repeat (first | go_big_quiet_step ((first | (go_at_call 58; exact calls_ext (hcl _)))) | quiet_step ((first | (go_at_call 58; exact calls_ext (hcl _)))))
          refine wpQuiet_nil ?_
          rintro _ ⟨s, rfl⟩
          have HB3 := Aside0.mk (below_then HB.out HB.out.size s.2)
          generalize s.1 = W2 at HB3
          go_wp2
          go_roundw
          case rel => exact ⟨k + 1, by omega, by go_num, HS, HB3⟩
          case measure => simp [intOf]; omega
        | false =>
          have HS := Aside0.mk (show okOs l = false by rw [HO.out, HH.out, HD.out]; simp [chain, hq])
          rw [hq] at hcl
          clear hq
          go_wp2
          refine region_ext (W := wr) (Below.refl _ _) (by kernel_rfl) (by kernel_rfl) ?_
          repeat (first | go_big_quiet_step ((first | (go_at_call 58; exact calls_ext (hcl _)))) | quiet_step ((first | (go_at_call 58; exact calls_ext (hcl _)))))
          refine wpQuiet_nil ?_
          rintro _ ⟨s, rfl⟩
          have HB3 := Aside0.mk (below_then HB.out HB.out.size s.2)
          generalize s.1 = W2 at HB3
          go_wp2
          go_ret
          exact ⟨by rw [HS.out]; rfl, HB3.out⟩
      · have hg : decide ((k : Int) > 0) = true := by simp; omega
        have hg2 : decide (0 < k) = true := by simp; omega
        have HZ := Aside0.mk (show prev l k = some (l.getD (k - 1) zO) by simp [prev, hk0])
        have hk1 : 0 < k := by omega
        have hk2 : 0 ≤ (k : Int) - 1 := by omega
        have hk3 : ((k : Int) - 1).toNat = k - 1 := by omega
        have hk4 : (k : Int) - 1 < l.length := by omega
        clear hk0
        obtain ⟨_, A3, c3, e, pa, pb, pc, pl2, pC2⟩ := atO hrr (k - 1) (by omega)
        cases e
        have hIp : IsO wr (l.getD (k - 1) zO) A3 c3 := ⟨pl2, pC2⟩
        clear pl2 pC2
        generalize l.getD (k - 1) zO = p at pa pb pc hIp HZ
        generalize l.getD k zO = o at ha hb hc hIs HD HP
        replace ha := cellE ha
        replace hb := cellE hb
        replace hc := cellE hc
        replace pa := cellE pa
        replace pb := cellE pb
        replace pc := cellE pc
        have hcl := fun s : Ext wr => sOccOk_any o A2 c2 s.1 (hIs.ext s)
        have hcl2 := fun s : Ext wr => sLess_any p o A3 A2 c3 c2 s.1 (hIp.ext s) (hIs.ext s)
        cases hq : okO o with
        | true =>
          rw [hq] at hcl
          cases hd : decide (cmpO p o < 0) with
          | true =>
            have HS := Aside0.mk (show chain none l = chain (prev l (k + 1)) (l.drop (k + 1)) by rw [HH.out, HD.out, HP.out, HZ.out, chain, hq]; simp only [hd]; rfl)
            rw [hd] at hcl2
            clear hd hq
            go_wp2
            refine region_ext (W := wr) (Below.refl _ _) (by kernel_rfl) (by kernel_rfl) ?_
            repeat (first | go_big_quiet_step ((first | (go_at_call 58; exact calls_ext (hcl _)) | (go_at_call 59; exact calls_ext (hcl2 _)))) | quiet_step ((first | (go_at_call 58; exact calls_ext (hcl _)) | (go_at_call 59; exact calls_ext (hcl2 _)))))
            refine wpQuiet_nil ?_
            rintro _ ⟨s, rfl⟩
            have HB3 := Aside0.mk (below_then HB.out HB.out.size s.2)
            generalize s.1 = W2 at HB3
            go_wp2
            go_roundw
            case rel => exact ⟨k + 1, by omega, by go_num, HS, HB3⟩
            case measure => simp [intOf]; omega
          | false =>
            have HS := Aside0.mk (show okOs l = false by rw [HO.out, HH.out, HD.out, HZ.out, chain, hq]; simp only [hd]; rfl)
            rw [hd] at hcl2
            clear hd hq
            go_wp2
            refine region_ext (W := wr) (Below.refl _ _) (by kernel_rfl) (by kernel_rfl) ?_
            repeat (first | go_big_quiet_step ((first | (go_at_call 58; exact calls_ext (hcl _)) | (go_at_call 59; exact calls_ext (hcl2 _)))) | quiet_step ((first | (go_at_call 58; exact calls_ext (hcl _)) | (go_at_call 59; exact calls_ext (hcl2 _)))))
            refine wpQuiet_nil ?_
            rintro _ ⟨s, rfl⟩
            have HB3 := Aside0.mk (below_then HB.out HB.out.size s.2)
            generalize s.1 = W2 at HB3
            go_wp2
            go_ret
            exact ⟨by rw [HS.out]; rfl, HB3.out⟩
        | false =>
          have HS := Aside0.mk (show okOs l = false by rw [HO.out, HH.out, HD.out]; simp [chain, hq])
          rw [hq] at hcl
          clear hq
          go_wp2
          refine region_ext (W := wr) (Below.refl _ _) (by kernel_rfl) (by kernel_rfl) ?_
          repeat (first | go_big_quiet_step ((first | (go_at_call 58; exact calls_ext (hcl _)))) | quiet_step ((first | (go_at_call 58; exact calls_ext (hcl _)))))
          refine wpQuiet_nil ?_
          rintro _ ⟨s, rfl⟩
          have HB3 := Aside0.mk (below_then HB.out HB.out.size s.2)
          generalize s.1 = W2 at HB3
          go_wp2
          go_ret
          exact ⟨by rw [HS.out]; rfl, HB3.out⟩
    · have g1 : decide (k < l.length) = false := decide_eq_false hlt
      have i1 : ¬ (k : Int) < l.length := by omega
      have HS := Aside0.mk (show okOs l = true by rw [HO.out, HH.out, List.drop_of_length_le (by omega)]; rfl)
      go_wp2
      go_ret
      exact ⟨by rw [HS.out]; rfl, HB.out⟩
end Go.Proofs.YtccenpmaooailaaGreat.Sg

/- The reference's copies of occurrences. -/
set_option linter.unusedVariables false
set_option linter.unusedSimpArgs false
namespace Go.Proofs.YtccenpmaooailaaGreat.Sh
open Go.RowKit Go.Proofs.YtccenpmaooailaaGreatW.PrintWords Go.Proofs.YtccenpmaooailaaGreat.Wd Go.Proofs.YtccenpmaooailaaGreat.Pu Go.Proofs.YtccenpmaooailaaGreat.Ca Go.Proofs.YtccenpmaooailaaGreat.Cb Go.Proofs.YtccenpmaooailaaGreat.Cg Go.Proofs.YtccenpmaooailaaGreat.Cf Go.Proofs.YtccenpmaooailaaGreat.Sd Go.Proofs.YtccenpmaooailaaGreat.Se Go.Proofs.YtccenpmaooailaaGreat.Sf

/-- an empty row, as it is laid -/
theorem R_empty {α : Type} (d : Kd α) {e : Nat} {w : World} {base : Nat} {g : Nat} (hg : w.heap[g]? = some (.cells #[] e (0, 0))) (hb : base ≤ g) : d.R e w base (fun _ => True) (.slice (some ⟨g, 0, none⟩) 0 0) [] :=
  ⟨fun _ _ => trivial, [], ⟨by simp, .inr ⟨g, 0, #[], rfl, hb, hg, Nat.le_refl _, by decide, by simp, by simp⟩⟩, Reps.none _ _⟩

theorem boxes2 (w : World) (cs0 cs1 : Array Value) (t0 t1 : TypeId) :
    Below w.heap.size w ((w.alloc (.cells cs0 t0)).alloc (.cells cs1 t1)) ∧ ((w.alloc (.cells cs0 t0)).alloc (.cells cs1 t1)).heap[w.heap.size]? = some (.cells cs0 t0 (0, 0)) ∧
    ((w.alloc (.cells cs0 t0)).alloc (.cells cs1 t1)).heap[w.heap.size + 1]? = some (.cells cs1 t1 (0, 0)) := by
  refine ⟨by repeat (first | exact Below.refl _ _ | apply below_alloc), blk_alloc (blk_new _ _) _, ?_⟩
  have := blk_new (w.alloc (.cells cs0 t0)) (.cells cs1 t1)
  simpa using this

set_option maxHeartbeats 2000000 in
set_option maxRecDepth 100000 in
theorem sCopy_any (A : Option Addr) (c : Nat) (o : Occ) (w : World) (ho : IsO w o A c) (hl : o.f2.length ≤ 1048576) :
    Calls Tryz.prog 92 #[.agg #[.int .i64 o.f0, .int .i64 o.f1, .slice A o.f2.length c]] w fun e w' =>
      ∃ v, e = .returned (.agg #[.int .i64 o.f0, .int .i64 o.f1, v]) ∧ (Kd.int .i64).R 3 w' w.heap.size (fun _ => True) v o.f2 ∧ Below w.heap.size w w' := by
  obtain ⟨hb1, b1, b2⟩ := boxes2 w #[.int .i64 o.f0, .int .i64 o.f1, .slice A o.f2.length c] #[.int .i64 0, .int .i64 0, .slice none 0 0] 43 43
  have hr := Kd.C_below ho.2 hb1
  have hsz : ((w.alloc (.cells #[.int .i64 o.f0, .int .i64 o.f1, .slice A o.f2.length c] 43)).alloc (.cells #[.int .i64 0, .int .i64 0, .slice none 0 0] 43)).heap.size = w.heap.size + 1 + 1 := by simp
  go_enter Tryz.func92, Tryz.ntmps92
  go_wp2
  generalize (w.alloc (.cells #[.int .i64 o.f0, .int .i64 o.f1, .slice A o.f2.length c] 43)).alloc (.cells #[.int .i64 0, .int .i64 0, .slice none 0 0] 43) = W at hb1 b1 b2 hr hsz ⊢
  have F : ∀ w', Below W.heap.size W w' → w'.cell? ⟨w.heap.size, 0, none⟩ = some (.int .i64 o.f0) ∧ w'.cell? ⟨w.heap.size, 1, none⟩ = some (.int .i64 o.f1) ∧ w'.cell? ⟨w.heap.size, 2, none⟩ = some (.slice A o.f2.length c) :=
    fun w' h => ⟨pw_cell_below h ((blk_cell b1 0).trans rfl), pw_cell_below h ((blk_cell b1 1).trans rfl), pw_cell_below h ((blk_cell b1 2).trans rfl)⟩
  have hne : w.heap.size ≠ w.heap.size + 1 := by omega
  clear hsz
  go_region_held3 (fun w' => w'.cell? ⟨w.heap.size, 0, none⟩ = some (.int .i64 o.f0) ∧ w'.cell? ⟨w.heap.size, 1, none⟩ = some (.int .i64 o.f1) ∧ w'.cell? ⟨w.heap.size, 2, none⟩ = some (.slice A o.f2.length c))
    (first | (with_reducible exact F _ (Below.refl _ _)) | (with_reducible exact F _ (below_drew (Below.refl _ _))) | (with_reducible exact F _ (below_alloc (below_drew (Below.refl _ _)) _)) | (with_reducible exact F _ (below_alloc (Below.refl _ _) _)) | (with_reducible exact F _ (below_drew (below_alloc (Below.refl _ _) _))) | (with_reducible exact F _ HB2.out) | (with_reducible exact ⟨(Cc.far3 hne).trans e0, (Cc.far3 hne).trans e1, (Cc.far3 hne).trans e2⟩))
    (first | (refine Kd.R_append_rows_step (Kd.int .i64) (w0 := W) W.heap.size (by rfl) _ _ 41 3 (.int .i64 0) 8 rfl Tryz.underlying41 Cc.infoI rfl (by decide) (by decide) (.slice (some ⟨W.heap.size, 0, none⟩) 0 0) [] _ _ _ _ (fun _ => True) (fun _ => False) rfl rfl (R_empty (Kd.int .i64) (by first | exact blk_new _ _ | exact blk_drew (blk_new _ _)) (Nat.le_refl _)) (Kd.C_below hr (by first | exact below_alloc (below_drew (Below.refl _ _)) _ | exact below_alloc (Below.refl _ _) _ | exact below_drew (below_alloc (Below.refl _ _) _))) (fun _ _ h => h) (fun _ h => h.elim) (fun _ _ => trivial) (by first | exact below_alloc (below_drew (Below.refl _ _)) _ | exact below_alloc (Below.refl _ _) _ | exact below_drew (below_alloc (Below.refl _ _) _)) (by simp) (by simp; omega) ?_; intro v2 w2 ho2 hb2 _ _; obtain ⟨A2, c2, rfl⟩ := Kd.R_slice ho2; have HB2 := Aside0.mk hb2; have HO2 := Aside0.mk ho2; obtain ⟨e0, e1, e2⟩ := F w2 hb2; have d2 := blk_below b2 hb2; have q0 := (blk_cell d2 0).trans rfl; have q1 := (blk_cell d2 1).trans rfl; have q2 := (blk_cell d2 2).trans rfl; have g0 := blk_frozen d2 0; have g1 := blk_frozen d2 1; have g2 := blk_frozen d2 2; clear ho2 hb2))
  all_goals
    go_wp2
    have r2 := HO2.out
    simp only [List.nil_append] at r2
    refine bodyPost_ret (results_cell_row rfl _ _ (w.heap.size + 1) 43 #[.int .i64 o.f0, .int .i64 o.f1, .slice A2 o.f2.length c2] (0, 0) _ rfl (set3_blk _ _ _ d2) Tryz.underlying43 rfl (by kernel_rfl)) rfl ?_
    exact ⟨_, rfl, set3_R (Kd.R_lower r2 hb1.size) d2 (by decide) _ _ _, set3_below (below_then hb1 hb1.size HB2.out) (by omega) _ _ _⟩
end Go.Proofs.YtccenpmaooailaaGreat.Sh

/- Lists of the reference's own: what lies in them came in or was made. -/
set_option linter.unusedVariables false
set_option linter.unusedSimpArgs false
namespace Go.Proofs.YtccenpmaooailaaGreat.Si
open Go.RowKit Go.Proofs.YtccenpmaooailaaGreatW.PrintWords Go.Proofs.YtccenpmaooailaaGreat.Wd Go.Proofs.YtccenpmaooailaaGreat.Pu Go.Proofs.YtccenpmaooailaaGreat.Ca Go.Proofs.YtccenpmaooailaaGreat.Cb Go.Proofs.YtccenpmaooailaaGreat.Cd Go.Proofs.YtccenpmaooailaaGreat.Ci Go.Proofs.YtccenpmaooailaaGreat.Cp Go.Proofs.YtccenpmaooailaaGreat.Ce Go.Proofs.YtccenpmaooailaaGreat.Cg Go.Proofs.YtccenpmaooailaaGreat.Cf Go.Proofs.YtccenpmaooailaaGreat.Sd Go.Proofs.YtccenpmaooailaaGreat.Se Go.Proofs.YtccenpmaooailaaGreat.Sf Go.Proofs.YtccenpmaooailaaGreat.Sh Go.Proofs.YtccenpmaooailaaGreat.Sc

def kX (w0 : World) : Kd Occ := Kd.iso (Kd.pair (Kd.int .i64) (Kd.pair (Kd.int .i64) (Kd.mix 3 (Kd.int .i64) (Kd.int .i64) w0))) (fun x => (x.f0, x.f1, x.f2))
theorem kX_openM {w0 w : World} {base : Nat} {ok : Nat → Prop} {x : Occ} {cs : List Value} (h : (kX w0).M w base ok x cs) : ∃ v, cs = [.int .i64 x.f0, .int .i64 x.f1, v] ∧ (Kd.mix 3 (Kd.int .i64) (Kd.int .i64) w0).M w base ok x.f2 [v] := by
  obtain ⟨_, _, rfl, rfl, ⟨_, _, rfl, rfl, g⟩⟩ := h
  obtain ⟨v, rfl, g⟩ := Kd.mix_one g
  exact ⟨v, rfl, g⟩
theorem kX_made {w0 w : World} {base : Nat} {ok : Nat → Prop} (x : Occ) {v : Value} (g : (Kd.int .i64).R 3 w base ok v x.f2) : (kX w0).M w base ok x [.int .i64 x.f0, .int .i64 x.f1, v] :=
  ⟨[.int .i64 x.f0], [.int .i64 x.f1, v], rfl, rfl, ⟨[.int .i64 x.f1], [v], rfl, rfl, Kd.mix_made g⟩⟩
theorem kX_read {w0 w : World} (hb : Below w0.heap.size w0 w) {x : Occ} {cs : List Value} (h : (kX w0).K w x cs) : kO.K w x cs := by
  obtain ⟨_, _, rfl, rfl, ⟨_, _, rfl, rfl, g⟩⟩ := h
  obtain ⟨A, c, rfl, l, g⟩ := Kd.mix_read rfl (fun _ _ h => h) hb g
  exact kO_mk w x l g
theorem X_O {w0 w : World} (hb : Below w0.heap.size w0 w) {A : Option Addr} {n : Nat} {l : List Occ} (h : (kX w0).C w A n l) : kO.C w A n l :=
  ⟨h.1, h.2.1, fun h0 => by obtain ⟨ad, e, hc⟩ := h.2.2 h0; exact ⟨ad, e, fun j p hj => by obtain ⟨c, h1, h2, h3⟩ := hc j p hj; exact ⟨c, h1, kX_read hb h2, h3⟩⟩⟩
theorem szX (w0 : World) : 0 < (kX w0).sz := (by decide : 0 < 3)

section
variable {α : Type} {d : Kd α} {e : Nat} {w w1 : World} {base : Nat} {ok ok' : Nat → Prop} {v : Value} {xs : List α}
/-- A row's 'ok' by its own block and by its elements' blocks apart. -/
theorem R_split (h : d.R e w base ok v xs) (h1 : ∀ k, v.ownBlock = some k → ok' k) (h2 : ∀ k q cells, ok k → base ≤ k → k < w.heap.size → q ∈ d.E → w.heap[k]? = some (.cells cells q (0, 0)) → ok' k) : d.R e w base ok' v xs := by
  obtain ⟨hok, inner, hown, hr⟩ := h
  refine ⟨h1, inner, hown, hr.imp_ (fun p c hp => d.M_mono (fun k hk => ?_) (d.M_bound hp))⟩
  obtain ⟨⟨ho, hne⟩, hb, hlt, q, hq, cells, hc⟩ := hk
  exact ⟨h2 k q cells ho hb hlt hq hc, hne⟩
theorem rr_drop {R : α → List Value → Prop} {sz : Nat} {ad : Addr} {n : Nat} (h : ReadsRow R sz w (some ad) n xs) (m : Nat) (hm : m ≤ n) : ReadsRow R sz w (some (ad.add (m * sz))) (n - m) (xs.drop m) := by
  refine ⟨by rw [List.length_drop, h.1], by have := h.2.1; omega, fun h0 => ⟨_, rfl, fun j q hj => ?_⟩⟩
  obtain ⟨ad', e, hc⟩ := h.2.2 (by omega)
  cases e
  rw [List.getElem?_drop] at hj
  obtain ⟨c, h1, h2, h3⟩ := hc _ _ hj
  exact ⟨c, h1, h2, fun i u hi => by rw [add_add, show m * sz + (j * sz + i) = (m + j) * sz + i by rw [Nat.add_mul]; omega]; exact h3 i u hi⟩
/-- A row as a source of an append: its elements as they were made. -/
theorem R_src {A : Option Addr} {n c : Nat} (h : d.R e w base ok (.slice A n c) xs) : ReadsRow (d.M w base (fun k => ok k ∧ some k ≠ (Value.slice A n c).ownBlock)) d.sz w A n xs := by
  obtain ⟨hok, inner, hown, hr⟩ := h
  obtain ⟨A', c', e, h2⟩ := own_reads_row hown hr rfl
  cases e
  exact h2
theorem R_src_drop {A A' : Option Addr} {n c k : Nat} (h : d.R e w base ok (.slice A n c) xs) (hk : k ≤ n) (hA : k < c → A' = A.map (·.add (k * d.sz))) : ReadsRow (d.M w base (fun k => ok k ∧ some k ≠ (Value.slice A n c).ownBlock)) d.sz w A' (n - k) (xs.drop k) := by
  have hs := R_src h
  have hnc : n ≤ c := (Kd.R_reads' h).2.1
  by_cases hkn : k = n
  · exact ⟨by rw [List.length_drop, hs.1], by have := hs.2.1; omega, fun h0 => by omega⟩
  · obtain ⟨ad, rfl, _⟩ := hs.2.2 (by omega)
    rw [hA (by omega)]
    exact rr_drop hs k hk
theorem R_head' {A : Option Addr} {n c : Nat} (h : d.R e w base ok (.slice A n c) xs) : A = none ∨ ∃ g, A = some ⟨g, 0, none⟩ := by
  rcases A with _ | ad
  · exact .inl rfl
  · obtain ⟨g, rfl⟩ := Kd.R_head h
    exact .inr ⟨g, rfl⟩
end
theorem R_empty2 {α : Type} (d : Kd α) {e : Nat} {w : World} {base : Nat} {ok : Nat → Prop} {g : Nat} (hg : w.heap[g]? = some (.cells #[] e (0, 0))) (hb : base ≤ g) (hok : ok g) : d.R e w base ok (.slice (some ⟨g, 0, none⟩) 0 0) [] :=
  ⟨fun k hk => by simp [Value.ownBlock] at hk; rw [← hk]; exact hok, [], ⟨by simp, .inr ⟨g, 0, #[], rfl, hb, hg, Nat.le_refl _, by decide, by simp, by simp⟩⟩, Reps.none _ _⟩
theorem takeX (A : Option Addr) (hA : A = none ∨ ∃ g, A = some ⟨g, 0, none⟩) (n c m : Nat) (hm : m ≤ c) (W : World) : (Instr.slice 23 (.slice A n c) none (some (.int .i64 (m : Int))) none).run Tryz.prog W = .ok (.slice A m c) W := by
  rcases hA with rfl | ⟨g, rfl⟩
  · have hel : Tryz.prog.elem 23 = 43 := by simp [Program.elem, Tryz.underlying23]
    have hu : Tryz.prog.underlying 23 = some (.slice (Tryz.prog.elem 23)) := by rw [hel]; exact Tryz.underlying23
    obtain ⟨i, hi, hi2⟩ := Option.map_eq_some_iff.1 sizeO
    rw [run_slice_h W _ none n c hu .i64 (m : Int) (Int.natCast_nonneg _) (by omega), hel]
    simp [sizeOf, typeInfo, hi, hi2, sliced, Result.andThen]
  · exact takeO g n c m hm W
theorem infoX (w0 : World) : (Tryz.prog.info? 43).map (fun i => (i.zero, i.size, i.bytes)) = some (some (.agg #[.int .i64 0, .int .i64 0, .slice none 0 0]), (kX w0).sz, 40) := infoO
end Go.Proofs.YtccenpmaooailaaGreat.Si

/- l3Put: what is put into a list of one's own, in place. -/
set_option linter.unusedVariables false
set_option linter.unusedSimpArgs false
namespace Go.Proofs.YtccenpmaooailaaGreat.Sp
open Go.RowKit Go.Proofs.YtccenpmaooailaaGreatW.PrintWords Go.Proofs.YtccenpmaooailaaGreat.Wd Go.Proofs.YtccenpmaooailaaGreat.Pu Go.Proofs.YtccenpmaooailaaGreat.Ca Go.Proofs.YtccenpmaooailaaGreat.Cb Go.Proofs.YtccenpmaooailaaGreat.Cd Go.Proofs.YtccenpmaooailaaGreat.Ci Go.Proofs.YtccenpmaooailaaGreat.Cp Go.Proofs.YtccenpmaooailaaGreat.Ce Go.Proofs.YtccenpmaooailaaGreat.Cg Go.Proofs.YtccenpmaooailaaGreat.Cf Go.Proofs.YtccenpmaooailaaGreat.Sd Go.Proofs.YtccenpmaooailaaGreat.Se Go.Proofs.YtccenpmaooailaaGreat.Sf Go.Proofs.YtccenpmaooailaaGreat.Sh Go.Proofs.YtccenpmaooailaaGreat.Sc Go.Proofs.YtccenpmaooailaaGreat.Si

def PutOut (w0 w w' : World) (base : Nat) (ok : Nat → Prop) (v : Value) (l' : List Occ) (e : Ending) : Prop :=
  ∃ v', e = .returned v' ∧ kO.R 43 w' base ok v' l' ∧ w.grownBy w' v.ownBlock ∧ (v'.ownBlock = v.ownBlock ∨ ∃ b, v'.ownBlock = some b ∧ w.heap.size ≤ b)

theorem at_step' {l : List Occ} {o : Occ} (hs : Sorted l) {k : Nat} (hk : k ≤ l.length) (hlo : ∀ j, j < k → lt (l.getD j zO) o) (hst : k < l.length → ¬ lt (l.getD k zO) o) : At l o k :=
  ⟨hk, hlo, fun j hj hjl => by
    by_cases e : j = k
    · rw [e]; exact hst (by omega)
    · intro h
      exact hst (by omega) (lt_trans (sorted_getD hs (by omega) hjl) h)⟩

set_option maxHeartbeats 2000000 in
set_option maxRecDepth 100000 in
theorem oPut_any (w0 : World) (base : Nat) (ok : Nat → Prop) (v : Value) (l : List Occ) (B : Option Addr) (c2 : Nat) (o : Occ) (w : World) (hw : Below w0.heap.size w0 w) (hs : Sorted l) (hl : l.length ≤ 1048576) (hR : kO.R 43 w base ok v l)
    (ho : IsO w o B c2) (lo : o.f2.length ≤ 1048576) (hbase : base ≤ w.heap.size) (hfresh : ∀ k, w.heap.size ≤ k → ok k) :
    Calls Tryz.prog 81 #[v, .agg #[.int .i64 o.f0, .int .i64 o.f1, .slice B o.f2.length c2]] w fun e w' => PutOut w0 w w' base ok v (put l o) e := by
  obtain ⟨A, c, rfl, hlc, hC⟩ := Kd.R_reads hR
  obtain ⟨hb, k0, k1, k2⟩ := box3 w (.int .i64 o.f0) (.int .i64 o.f1) (.slice B o.f2.length c2) 43
  have bx := box1 w (.int .i64 o.f0) (.int .i64 o.f1) (.slice B o.f2.length c2) 43
  have hC0 := Kd.C_below (hC) hb
  have hI0 := ho.below hb
  have hR0 := Kd.R_below hR hb
  have HB0 := Aside0.mk hb
  have HF := Aside0.mk hfresh
  go_enter Tryz.func81, Tryz.ntmps81
  go_wp2
  generalize w.alloc (.cells #[.int .i64 o.f0, .int .i64 o.f1, .slice B o.f2.length c2] 43) = W at k0 k1 k2 bx hC0 hI0 hR0 HB0 ⊢
  clear hb hC
  go_loopw [5] (fun vi wr => ∃ k : Nat, k ≤ l.length ∧ vi = .int .i64 k ∧ Aside0 (∀ j, j < k → lt (l.getD j zO) o) ∧ Aside0 (Below W.heap.size W wr)) (fun vi _ => l.length - (intOf vi).toNat)
  case atStart => exact ⟨0, Nat.zero_le _, rfl, ⟨fun j hj => absurd hj (Nat.not_lt_zero _)⟩, ⟨Below.refl _ _⟩⟩
  case round =>
    obtain ⟨k, hk, rfl, HL, HB⟩ := hrel
    have e0 := cellE (pw_cell_below HB.out k0)
    have e1 := cellE (pw_cell_below HB.out k1)
    have e2 := cellE (pw_cell_below HB.out k2)
    by_cases hlt : k < l.length
    · have g1 : decide (k < l.length) = true := decide_eq_true hlt
      have i1 : (k : Int) < l.length := by omega
      obtain ⟨ad, A2, c3, rfl, ha, hb, hc, hl2, hC2⟩ := atO (Kd.C_below hC0 HB.out) k hlt
      have hIs : IsO wr (l.getD k zO) A2 c3 := ⟨hl2, hC2⟩
      have HG : Aside0 (l.getD k zO = l.getD k zO) := ⟨rfl⟩
      clear hl2 hC2
      generalize hy : l.getD k zO = y at ha hb hc hIs
      have HY := Aside0.mk hy
      clear hy HG
      replace ha := cellE ha
      replace hb := cellE hb
      replace hc := cellE hc
      have hIo := hI0.below HB.out
      have hcl := fun s : Ext wr => sLess_any y o A2 B c3 c2 s.1 (hIs.ext s) (hIo.ext s)
      by_cases hcm : cmpO y o < 0
      · have hd : decide (cmpO y o < 0) = true := decide_eq_true hcm
        have HS := Aside0.mk (show ∀ j, j < k + 1 → lt (l.getD j zO) o from fun j hj => by
          by_cases e : j = k
          · rw [e, HY.out]; exact hcm
          · exact HL.out j (by omega))
        rw [hd] at hcl
        clear hcm hd
        go_wp2
        refine region_ext (W := wr) (Below.refl _ _) (by kernel_rfl) (by kernel_rfl) ?_
        repeat (first | go_big_quiet_step ((first | (go_at_call 59; exact calls_ext (hcl _)))) | quiet_step ((first | (go_at_call 59; exact calls_ext (hcl _)))))
        refine wpQuiet_nil ?_
        rintro _ ⟨s, rfl⟩
        have HB3 := Aside0.mk (below_then HB.out HB.out.size s.2)
        generalize s.1 = W2 at HB3
        go_wp2
        go_roundw
        case rel => exact ⟨k + 1, by omega, by go_num, HS, HB3⟩
        case measure => simp [intOf]; omega
      · have hd : decide (cmpO y o < 0) = false := decide_eq_false hcm
        have HA := Aside0.mk (at_step' hs hk HL.out (fun _ h => hcm (by rw [← HY.out]; exact h)))
        rw [hd] at hcl
        clear hcm hd
        go_wp2
        refine region_ext (W := wr) (Below.refl _ _) (by kernel_rfl) (by kernel_rfl) ?_
        repeat (first | go_big_quiet_step ((first | (go_at_call 59; exact calls_ext (hcl _)))) | quiet_step ((first | (go_at_call 59; exact calls_ext (hcl _)))))
        refine wpQuiet_nil ?_
        rintro _ ⟨s, rfl⟩
        have HB3 := Aside0.mk (below_then HB.out HB.out.size s.2)
        have a1 := fun s2 : Ext s.1 => ha ⟨s2.1, below_then s.2 s.2.size s2.2⟩
        have a2 := fun s2 : Ext s.1 => hb ⟨s2.1, below_then s.2 s.2.size s2.2⟩
        have a3 := fun s2 : Ext s.1 => hc ⟨s2.1, below_then s.2 s.2.size s2.2⟩
        have b1 := fun s2 : Ext s.1 => e0 ⟨s2.1, below_then s.2 s.2.size s2.2⟩
        have b2 := fun s2 : Ext s.1 => e1 ⟨s2.1, below_then s.2 s.2.size s2.2⟩
        have b3 := fun s2 : Ext s.1 => e2 ⟨s2.1, below_then s.2 s.2.size s2.2⟩
        have hIs2 := hIs.below s.2
        simp only [] at a1 a2 a3 b1 b2 b3
        generalize s.1 = W2 at HB3 a1 a2 a3 b1 b2 b3 hIs2 ⊢
        have hIo2 := hI0.below HB3.out
        have hcl3 := fun s : Ext W2 => sSame_any y o A2 B c3 c2 s.1 (hIs2.ext s) (hIo2.ext s)
        clear hcl ha hb hc e0 e1 e2
        by_cases hsm : cmpO y o = 0
        · have hd : decide (cmpO y o = 0) = true := decide_eq_true hsm
          have HE := Aside0.mk (at_hit hs HA.out (show hit l o k = true by unfold hit; rw [decide_eq_true hlt, HY.out, hd]; rfl))
          rw [hd] at hcl3
          clear hsm hd
          go_wp2
          refine region_ext (W := W2) (Below.refl _ _) (by kernel_rfl) (by kernel_rfl) ?_
          repeat (first | go_big_quiet_step ((first | (go_at_call 95; exact calls_ext (hcl3 _)))) | quiet_step ((first | (go_at_call 95; exact calls_ext (hcl3 _)))))
          refine wpQuiet_nil ?_
          rintro _ ⟨s, rfl⟩
          have HB4 := Aside0.mk (below_then HB0.out HB0.out.size (below_then HB3.out HB3.out.size s.2))
          generalize s.1 = W3 at HB4
          go_wp2
          go_ret
          exact ⟨_, rfl, by rw [HE.out]; exact Kd.R_below hR HB4.out, grown_of_below HB4.out _, .inl rfl⟩
        · have hd : decide (cmpO y o = 0) = false := decide_eq_false hsm
          have HE := Aside0.mk (at_ins hs HA.out (show hit l o k = false by unfold hit; rw [HY.out, hd]; simp))
          rw [hd] at hcl3
          clear hsm hd
          go_wp2
          refine region_ext (W := W2) (Below.refl _ _) (by kernel_rfl) (by kernel_rfl) ?_
          repeat (first | go_big_quiet_step ((first | (go_at_call 95; exact calls_ext (hcl3 _)))) | quiet_step ((first | (go_at_call 95; exact calls_ext (hcl3 _)))))
          refine wpQuiet_nil ?_
          rintro _ ⟨s, rfl⟩
          have HB4 := Aside0.mk (below_then HB3.out HB3.out.size s.2)
          generalize s.1 = W3 at HB4
          have hR3 := Kd.R_below hR0 HB4.out
          have hR3b := Kd.R_mono (Kd.R_bound hR3) (ok' := fun j => ok j ∧ j < W3.heap.size) (fun j hj => ⟨hj.1, hj.2.2.1⟩)
          have hown : ∀ j, (Value.slice (some ad) l.length c).ownBlock = some j → j < w.heap.size := Kd.R_lt hR
          have hsz : w.heap.size < W3.heap.size := Nat.lt_of_lt_of_le (World.block_lt_of_cell? W _ k0) HB4.out.size
          have hbs : base ≤ W3.heap.size := Nat.le_trans hbase (Nat.le_of_lt hsz)
          have p0 := pw_cell_below HB4.out k0
          have p1 := pw_cell_below HB4.out k1
          have p2 := pw_cell_below HB4.out k2
          obtain ⟨A', hcut, hA'⟩ := cutO (some ad) l.length c k hk
          have htk := fun W => takeX (some ad) (R_head' hR3) l.length c k (by omega) W
          have hld : (l.drop k).length = l.length - k := List.length_drop
          clear hR0
          go_wp2_with ((with_reducible refine gate_dst (N := 38) rfl ?_); refine Kd.R_append_rows kO (w0 := W3.alloc (.cells #[] 43)) base rfl _ _ 23 43 (.agg #[.int .i64 0, .int .i64 0, .slice none 0 0]) 40 rfl Tryz.underlying23 (infoO) rfl (by decide) (by decide) (.slice (some ⟨W3.heap.size, 0, none⟩) 0 0) [] (l.drop k) A' (l.length - k) (c - k) (fun j => ok j ∧ some j ≠ (Value.slice (some ad) l.length c).ownBlock) (fun j => (ok j ∧ j < W3.heap.size) ∧ some j ≠ (Value.slice (some ad) l.length c).ownBlock) rfl rfl (R_empty2 kO (blk_new _ _) hbs ⟨HF.out _ (Nat.le_of_lt hsz), fun h => by have := hown _ h.symm; omega⟩) (R_src_drop (Kd.R_alloc hR3b _) hk hA') (fun _ _ h => h) (fun j hj => ⟨⟨hj.1.1, hj.2⟩, fun h => by simp [Value.ownBlock] at h; have := hj.1.2; omega⟩) (fun j hj => ⟨HF.out _ (by simp at hj; omega), fun h => by simp at hj; have := hown _ h.symm; omega⟩) (Below.refl _ _) (by simp; omega) (by simp; omega) ?_; intro v6 w6 hr6 _ hg6 _; obtain ⟨A6, c6, rfl⟩ := Kd.R_slice hr6; simp only [List.nil_append] at hr6; rw [hld] at hr6; have HB6 : Aside0 (Below W3.heap.size W3 w6) := ⟨Below.grown (below_alloc (Below.refl _ _) _) hg6 (by simp) (fun j hj => by simp [Value.ownBlock] at hj; omega)⟩; have HR6 := Aside0.mk hr6; clear hr6 hg6)
          have bx6 := blk_below bx (below_then HB4.out HB4.out.size HB6.out)
          have HBW := Aside0.mk (below_then HB0.out HB0.out.size (below_then HB4.out HB4.out.size HB6.out))
          have hI6 := ho.below HBW.out
          have hR6 := Kd.R_below hR HBW.out
          have hws : w.heap.size < w6.heap.size := Nat.lt_of_lt_of_le hsz HB6.out.size
          have hkl : (l.take k).length = k := by rw [List.length_take]; omega
          clear hcut hA' hR3 hR3b p0 p1 p2 hIs hIs2 hIo hIo2 hcl3 a1 a2 a3 b1 b2 b3 hI0 hC0
          have F : ∀ w', Below w6.heap.size w6 w' → w'.cell? ⟨w.heap.size, 0, none⟩ = some (.int .i64 o.f0) ∧ w'.cell? ⟨w.heap.size, 1, none⟩ = some (.int .i64 o.f1) ∧ w'.cell? ⟨w.heap.size, 2, none⟩ = some (.slice B o.f2.length c2) :=
            fun w' h => ⟨pw_cell_below h ((blk_cell bx6 0).trans rfl), pw_cell_below h ((blk_cell bx6 1).trans rfl), pw_cell_below h ((blk_cell bx6 2).trans rfl)⟩
          go_region_held3 (fun w' => w'.cell? ⟨w.heap.size, 0, none⟩ = some (.int .i64 o.f0) ∧ w'.cell? ⟨w.heap.size, 1, none⟩ = some (.int .i64 o.f1) ∧ w'.cell? ⟨w.heap.size, 2, none⟩ = some (.slice B o.f2.length c2))
            (first | (with_reducible exact F _ (Below.refl _ _)) | (with_reducible exact F _ (below_drew (Below.refl _ _))) | (with_reducible exact ⟨m0, m1, m2⟩) | (with_reducible exact ⟨n0, n1, n2⟩) | (with_reducible exact F _ hk7) | (with_reducible exact F _ (below_alloc hk7 _)) | (with_reducible exact F _ (below_drew (below_alloc hk7 _))) | (with_reducible exact F _ (below_drew hk7)))
            (first
              | (go_at_call 92; refine (sCopy_any B c2 o _ (by first | exact hI6 | exact hI6.below (below_drew (Below.refl _ _))) lo).mono ?_; rintro e w7 ⟨v7, rfl, ho7, h7⟩; obtain ⟨A7, c7, rfl⟩ := Kd.R_slice ho7; have hk7 : Below w6.heap.size w6 w7 := ⟨h7.os, h7.tape, h7.output, h7.size, h7.block⟩; have HO7 : Aside0 ((Kd.int .i64).R 3 w7 w6.heap.size (fun _ => True) (.slice A7 o.f2.length c7) o.f2) := ⟨ho7⟩)
              | (refine Kd.R_append_step kO (w0 := w7) base (by rfl) _ _ 23 43 (.agg #[.int .i64 0, .int .i64 0, .slice none 0 0]) 40 rfl Tryz.underlying23 (infoO) rfl (by decide) (by decide) (.slice (some ad) k c) (l.take k) o [.int .i64 o.f0, .int .i64 o.f1, .slice A7 o.f2.length c7] ok (fun j => w6.heap.size ≤ j) rfl rfl (kO_mkM _ _ _ o (Kd.R_lower (Kd.R_mono (Kd.R_bound HO7.out) (fun j hj => hj.2.1)) (by omega))) (fun j hj => ⟨HF.out _ (by omega), fun h => by have := hown _ h.symm; omega⟩) (fun j hj => HF.out _ (by have := hk7.size; omega)) (Kd.R_take (Kd.R_below hR6 hk7) hk) (Below.refl _ _) (by have := hk7.size; omega) (by rw [hkl]; omega) ?_; intro v8 w8 hr8 _ hg8 hat8; obtain ⟨A8, c8, rfl⟩ := Kd.R_slice hr8; have hne8 : some w.heap.size ≠ (Value.slice (some ad) k c).ownBlock := fun h => by { have := hown _ h.symm; omega }; have bx8 := blk_grown (blk_below bx6 hk7) hg8 hne8; have m0 : w8.cell? ⟨w.heap.size, 0, none⟩ = some (.int .i64 o.f0) := (blk_cell bx8 0).trans rfl; have m1 : w8.cell? ⟨w.heap.size, 1, none⟩ = some (.int .i64 o.f1) := (blk_cell bx8 1).trans rfl; have m2 : w8.cell? ⟨w.heap.size, 2, none⟩ = some (.slice B o.f2.length c2) := (blk_cell bx8 2).trans rfl; have HR8 := Aside0.mk hr8; have HG8 := Aside0.mk hg8; have HAT8 := Aside0.mk hat8; clear hr8 hg8 hat8)
              | (refine Kd.R_append_rows_step kO (w0 := w8) base (by rfl) _ _ 23 43 (.agg #[.int .i64 0, .int .i64 0, .slice none 0 0]) 40 rfl Tryz.underlying23 (infoO) rfl (by decide) (by decide) (.slice A8 (l.take k ++ [o]).length c8) (l.take k ++ [o]) (l.drop k) A6 (l.length - k) c6 ok (fun j => ((ok j ∧ some j ≠ (Value.slice (some ad) l.length c).ownBlock) ∧ j < w7.heap.size) ∧ some j ≠ (Value.slice A6 (l.length - k) c6).ownBlock) rfl rfl HR8.out (R_src (Kd.R_grown (Kd.R_mono (Kd.R_bound (Kd.R_below HR6.out hk7)) (ok' := fun j => (ok j ∧ some j ≠ (Value.slice (some ad) l.length c).ownBlock) ∧ j < w7.heap.size) (fun j hj => ⟨hj.1, hj.2.2.1⟩)) HG8.out (fun j hj => hj.1.2))) (fun _ _ h => h) (fun j hj => ⟨hj.1.1.1, fun h => by rcases HAT8.out with h2 | ⟨b, h2, h3⟩ <;> rw [h2] at h; exact hj.1.1.2 h; injection h with h; have := hj.1.2; omega⟩) (fun j hj => HF.out _ (by have := HG8.out.size; have := hk7.size; omega)) (Below.refl _ _) (by have := HG8.out.size; have := hk7.size; omega) (by rw [List.length_append, hkl]; simp; omega) ?_; intro v9 w9 hr9 _ hg9 hat9; obtain ⟨A9, c9, rfl⟩ := Kd.R_slice hr9; have bx9 := blk_grown bx8 hg9 (fun h => by rcases HAT8.out with h2 | ⟨b, h2, h3⟩ <;> rw [h2] at h; exact hne8 h; injection h with h; have := hk7.size; omega); have n0 : w9.cell? ⟨w.heap.size, 0, none⟩ = some (.int .i64 o.f0) := (blk_cell bx9 0).trans rfl; have n1 : w9.cell? ⟨w.heap.size, 1, none⟩ = some (.int .i64 o.f1) := (blk_cell bx9 1).trans rfl; have n2 : w9.cell? ⟨w.heap.size, 2, none⟩ = some (.slice B o.f2.length c2) := (blk_cell bx9 2).trans rfl; have HR9 := Aside0.mk hr9; have HG9 := Aside0.mk hg9; have HAT9 := Aside0.mk hat9; clear hr9 hg9 hat9))
          all_goals
            have hln : (l.take k ++ [o] ++ l.drop k).length = k + (l.length - k + 1) := by simp; omega
            have hE9 : l.take k ++ [o] ++ l.drop k = put l o := by rw [← HE.out]; simp [insO]
            have r9 := HR9.out
            have t9 := HAT9.out
            rw [hln] at r9 t9
            rw [hE9] at r9
            have HB7 := below_then HBW.out HBW.out.size hk7
            have G9 : w.grownBy w9 (Value.slice (some ad) l.length c).ownBlock := grown_new (grown_new (grown_of_below HB7 _) HG8.out (fun j hj => .inr hj.symm)) HG9.out (fun j hj => by
              rcases HAT8.out with h2 | ⟨b, h2, h3⟩
              · rw [h2] at hj; exact .inr hj.symm
              · rw [h2] at hj; injection hj with hj; have := HB7.size; exact .inl (by omega))
            have T9 : (Value.slice A9 (k + (l.length - k + 1)) c9).ownBlock = (Value.slice (some ad) l.length c).ownBlock ∨ ∃ b, (Value.slice A9 (k + (l.length - k + 1)) c9).ownBlock = some b ∧ w.heap.size ≤ b := by
              rcases t9 with h1 | ⟨b, h1, h2⟩
              · rcases HAT8.out with h3 | ⟨b, h3, h4⟩
                · exact .inl (h1.trans h3)
                · exact .inr ⟨b, h1.trans h3, by have := HB7.size; omega⟩
              · exact .inr ⟨b, h1, by have := HB7.size; have := HG8.out.size; omega⟩
            have HP := Aside0.mk (show PutOut w0 w w9 base ok (Value.slice (some ad) l.length c) (put l o) (.returned (Value.slice A9 (k + (l.length - k + 1)) c9)) from ⟨_, rfl, r9, G9, T9⟩)
            clear r9 t9 hE9 hln G9 T9
            go_wp2
            go_ret
            exact HP.out
    · have hke : k = l.length := by omega
      have g1 : decide (k < l.length) = false := decide_eq_false hlt
      have i1 : ¬ (k : Int) < l.length := by omega
      have HA := Aside0.mk (at_step' hs hk HL.out (fun h => absurd h hlt))
      have HE := Aside0.mk (at_ins hs HA.out (show hit l o k = false by unfold hit; rw [decide_eq_false hlt]; rfl))
      clear hke
      go_wp2
      refine region_ext (W := wr) (Below.refl _ _) (by kernel_rfl) (by kernel_rfl) ?_
      repeat (first | go_big_quiet_step (fail) | quiet_step (fail))
      refine wpQuiet_nil ?_
      rintro _ ⟨s, rfl⟩
      have HB3 := Aside0.mk (below_then HB.out HB.out.size s.2)
      have b1 := fun s2 : Ext s.1 => e0 ⟨s2.1, below_then s.2 s.2.size s2.2⟩
      have b2 := fun s2 : Ext s.1 => e1 ⟨s2.1, below_then s.2 s.2.size s2.2⟩
      have b3 := fun s2 : Ext s.1 => e2 ⟨s2.1, below_then s.2 s.2.size s2.2⟩
      simp only [] at b1 b2 b3
      generalize s.1 = W2 at HB3 b1 b2 b3 ⊢
      clear e0 e1 e2
      go_wp2
      refine region_ext (W := W2) (Below.refl _ _) (by kernel_rfl) (by kernel_rfl) ?_
      repeat (first | go_big_quiet_step (fail) | quiet_step (fail))
      refine wpQuiet_nil ?_
      rintro _ ⟨s, rfl⟩
      have HB4 := Aside0.mk (below_then HB3.out HB3.out.size s.2)
      generalize s.1 = W3 at HB4
      have hR3 := Kd.R_below hR0 HB4.out
      have hR3b := Kd.R_mono (Kd.R_bound hR3) (ok' := fun j => ok j ∧ j < W3.heap.size) (fun j hj => ⟨hj.1, hj.2.2.1⟩)
      have hown : ∀ j, (Value.slice A l.length c).ownBlock = some j → j < w.heap.size := Kd.R_lt hR
      have hsz : w.heap.size < W3.heap.size := Nat.lt_of_lt_of_le (World.block_lt_of_cell? W _ k0) HB4.out.size
      have hbs : base ≤ W3.heap.size := Nat.le_trans hbase (Nat.le_of_lt hsz)
      have p0 := pw_cell_below HB4.out k0
      have p1 := pw_cell_below HB4.out k1
      have p2 := pw_cell_below HB4.out k2
      obtain ⟨A', hcut, hA'⟩ := cutO A l.length c k hk
      have htk := fun W => takeX A (R_head' hR3) l.length c k (by omega) W
      have hld : (l.drop k).length = l.length - k := List.length_drop
      clear hR0
      go_wp2_with ((with_reducible refine gate_dst (N := 38) rfl ?_); refine Kd.R_append_rows kO (w0 := W3.alloc (.cells #[] 43)) base rfl _ _ 23 43 (.agg #[.int .i64 0, .int .i64 0, .slice none 0 0]) 40 rfl Tryz.underlying23 (infoO) rfl (by decide) (by decide) (.slice (some ⟨W3.heap.size, 0, none⟩) 0 0) [] (l.drop k) A' (l.length - k) (c - k) (fun j => ok j ∧ some j ≠ (Value.slice A l.length c).ownBlock) (fun j => (ok j ∧ j < W3.heap.size) ∧ some j ≠ (Value.slice A l.length c).ownBlock) rfl rfl (R_empty2 kO (blk_new _ _) hbs ⟨HF.out _ (Nat.le_of_lt hsz), fun h => by have := hown _ h.symm; omega⟩) (R_src_drop (Kd.R_alloc hR3b _) hk hA') (fun _ _ h => h) (fun j hj => ⟨⟨hj.1.1, hj.2⟩, fun h => by simp [Value.ownBlock] at h; have := hj.1.2; omega⟩) (fun j hj => ⟨HF.out _ (by simp at hj; omega), fun h => by simp at hj; have := hown _ h.symm; omega⟩) (Below.refl _ _) (by simp; omega) (by simp; omega) ?_; intro v6 w6 hr6 _ hg6 _; obtain ⟨A6, c6, rfl⟩ := Kd.R_slice hr6; simp only [List.nil_append] at hr6; rw [hld] at hr6; have HB6 : Aside0 (Below W3.heap.size W3 w6) := ⟨Below.grown (below_alloc (Below.refl _ _) _) hg6 (by simp) (fun j hj => by simp [Value.ownBlock] at hj; omega)⟩; have HR6 := Aside0.mk hr6; clear hr6 hg6)
      have hOwn : (Value.slice A k c).ownBlock = (Value.slice A l.length c).ownBlock := by cases A <;> rfl
      have bx6 := blk_below bx (below_then HB4.out HB4.out.size HB6.out)
      have HBW := Aside0.mk (below_then HB0.out HB0.out.size (below_then HB4.out HB4.out.size HB6.out))
      have hI6 := ho.below HBW.out
      have hR6 := Kd.R_below hR HBW.out
      have hws : w.heap.size < w6.heap.size := Nat.lt_of_lt_of_le hsz HB6.out.size
      have hkl : (l.take k).length = k := by rw [List.length_take]; omega
      clear hcut hA' hR3 hR3b p0 p1 p2 hI0 hC0 b1 b2 b3
      have F : ∀ w', Below w6.heap.size w6 w' → w'.cell? ⟨w.heap.size, 0, none⟩ = some (.int .i64 o.f0) ∧ w'.cell? ⟨w.heap.size, 1, none⟩ = some (.int .i64 o.f1) ∧ w'.cell? ⟨w.heap.size, 2, none⟩ = some (.slice B o.f2.length c2) :=
        fun w' h => ⟨pw_cell_below h ((blk_cell bx6 0).trans rfl), pw_cell_below h ((blk_cell bx6 1).trans rfl), pw_cell_below h ((blk_cell bx6 2).trans rfl)⟩
      go_region_held3 (fun w' => w'.cell? ⟨w.heap.size, 0, none⟩ = some (.int .i64 o.f0) ∧ w'.cell? ⟨w.heap.size, 1, none⟩ = some (.int .i64 o.f1) ∧ w'.cell? ⟨w.heap.size, 2, none⟩ = some (.slice B o.f2.length c2))
        (first | (with_reducible exact F _ (Below.refl _ _)) | (with_reducible exact F _ (below_drew (Below.refl _ _))) | (with_reducible exact ⟨m0, m1, m2⟩) | (with_reducible exact ⟨n0, n1, n2⟩) | (with_reducible exact F _ hk7) | (with_reducible exact F _ (below_alloc hk7 _)) | (with_reducible exact F _ (below_drew (below_alloc hk7 _))) | (with_reducible exact F _ (below_drew hk7)))
        (first
          | (go_at_call 92; refine (sCopy_any B c2 o _ (by first | exact hI6 | exact hI6.below (below_drew (Below.refl _ _))) lo).mono ?_; rintro e w7 ⟨v7, rfl, ho7, h7⟩; obtain ⟨A7, c7, rfl⟩ := Kd.R_slice ho7; have hk7 : Below w6.heap.size w6 w7 := ⟨h7.os, h7.tape, h7.output, h7.size, h7.block⟩; have HO7 : Aside0 ((Kd.int .i64).R 3 w7 w6.heap.size (fun _ => True) (.slice A7 o.f2.length c7) o.f2) := ⟨ho7⟩)
          | (refine Kd.R_append_step kO (w0 := w7) base (by rfl) _ _ 23 43 (.agg #[.int .i64 0, .int .i64 0, .slice none 0 0]) 40 rfl Tryz.underlying23 (infoO) rfl (by decide) (by decide) (.slice A k c) (l.take k) o [.int .i64 o.f0, .int .i64 o.f1, .slice A7 o.f2.length c7] ok (fun j => w6.heap.size ≤ j) rfl rfl (kO_mkM _ _ _ o (Kd.R_lower (Kd.R_mono (Kd.R_bound HO7.out) (fun j hj => hj.2.1)) (by omega))) (fun j hj => ⟨HF.out _ (by omega), fun h => by have := hown _ (hOwn.symm.trans h.symm); omega⟩) (fun j hj => HF.out _ (by have := hk7.size; omega)) (Kd.R_take (Kd.R_below hR6 hk7) hk) (Below.refl _ _) (by have := hk7.size; omega) (by rw [hkl]; omega) ?_; intro v8 w8 hr8 _ hg8 hat8; rw [hOwn] at hg8 hat8; obtain ⟨A8, c8, rfl⟩ := Kd.R_slice hr8; have hne8 : some w.heap.size ≠ (Value.slice A l.length c).ownBlock := fun h => by { have := hown _ h.symm; omega }; have bx8 := blk_grown (blk_below bx6 hk7) hg8 hne8; have m0 : w8.cell? ⟨w.heap.size, 0, none⟩ = some (.int .i64 o.f0) := (blk_cell bx8 0).trans rfl; have m1 : w8.cell? ⟨w.heap.size, 1, none⟩ = some (.int .i64 o.f1) := (blk_cell bx8 1).trans rfl; have m2 : w8.cell? ⟨w.heap.size, 2, none⟩ = some (.slice B o.f2.length c2) := (blk_cell bx8 2).trans rfl; have HR8 := Aside0.mk hr8; have HG8 := Aside0.mk hg8; have HAT8 := Aside0.mk hat8; clear hr8 hg8 hat8)
          | (refine Kd.R_append_rows_step kO (w0 := w8) base (by rfl) _ _ 23 43 (.agg #[.int .i64 0, .int .i64 0, .slice none 0 0]) 40 rfl Tryz.underlying23 (infoO) rfl (by decide) (by decide) (.slice A8 (l.take k ++ [o]).length c8) (l.take k ++ [o]) (l.drop k) A6 (l.length - k) c6 ok (fun j => ((ok j ∧ some j ≠ (Value.slice A l.length c).ownBlock) ∧ j < w7.heap.size) ∧ some j ≠ (Value.slice A6 (l.length - k) c6).ownBlock) rfl rfl HR8.out (R_src (Kd.R_grown (Kd.R_mono (Kd.R_bound (Kd.R_below HR6.out hk7)) (ok' := fun j => (ok j ∧ some j ≠ (Value.slice A l.length c).ownBlock) ∧ j < w7.heap.size) (fun j hj => ⟨hj.1, hj.2.2.1⟩)) HG8.out (fun j hj => hj.1.2))) (fun _ _ h => h) (fun j hj => ⟨hj.1.1.1, fun h => by rcases HAT8.out with h2 | ⟨b, h2, h3⟩ <;> rw [h2] at h; exact hj.1.1.2 h; injection h with h; have := hj.1.2; omega⟩) (fun j hj => HF.out _ (by have := HG8.out.size; have := hk7.size; omega)) (Below.refl _ _) (by have := HG8.out.size; have := hk7.size; omega) (by rw [List.length_append, hkl]; simp; omega) ?_; intro v9 w9 hr9 _ hg9 hat9; obtain ⟨A9, c9, rfl⟩ := Kd.R_slice hr9; have bx9 := blk_grown bx8 hg9 (fun h => by rcases HAT8.out with h2 | ⟨b, h2, h3⟩ <;> rw [h2] at h; exact hne8 h; injection h with h; have := hk7.size; omega); have n0 : w9.cell? ⟨w.heap.size, 0, none⟩ = some (.int .i64 o.f0) := (blk_cell bx9 0).trans rfl; have n1 : w9.cell? ⟨w.heap.size, 1, none⟩ = some (.int .i64 o.f1) := (blk_cell bx9 1).trans rfl; have n2 : w9.cell? ⟨w.heap.size, 2, none⟩ = some (.slice B o.f2.length c2) := (blk_cell bx9 2).trans rfl; have HR9 := Aside0.mk hr9; have HG9 := Aside0.mk hg9; have HAT9 := Aside0.mk hat9; clear hr9 hg9 hat9))
      all_goals
        have hln : (l.take k ++ [o] ++ l.drop k).length = k + (l.length - k + 1) := by simp; omega
        have hE9 : l.take k ++ [o] ++ l.drop k = put l o := by rw [← HE.out]; simp [insO]
        have r9 := HR9.out
        have t9 := HAT9.out
        rw [hln] at r9 t9
        rw [hE9] at r9
        have HB7 := below_then HBW.out HBW.out.size hk7
        have G9 : w.grownBy w9 (Value.slice A l.length c).ownBlock := grown_new (grown_new (grown_of_below HB7 _) HG8.out (fun j hj => .inr hj.symm)) HG9.out (fun j hj => by
          rcases HAT8.out with h2 | ⟨b, h2, h3⟩
          · rw [h2] at hj; exact .inr hj.symm
          · rw [h2] at hj; injection hj with hj; have := HB7.size; exact .inl (by omega))
        have T9 : (Value.slice A9 (k + (l.length - k + 1)) c9).ownBlock = (Value.slice A l.length c).ownBlock ∨ ∃ b, (Value.slice A9 (k + (l.length - k + 1)) c9).ownBlock = some b ∧ w.heap.size ≤ b := by
          rcases t9 with h1 | ⟨b, h1, h2⟩
          · rcases HAT8.out with h3 | ⟨b, h3, h4⟩
            · exact .inl (h1.trans h3)
            · exact .inr ⟨b, h1.trans h3, by have := HB7.size; omega⟩
          · exact .inr ⟨b, h1, by have := HB7.size; have := HG8.out.size; omega⟩
        have HP := Aside0.mk (show PutOut w0 w w9 base ok (Value.slice A l.length c) (put l o) (.returned (Value.slice A9 (k + (l.length - k + 1)) c9)) from ⟨_, rfl, r9, G9, T9⟩)
        clear r9 t9 hE9 hln G9 T9
        go_wp2
        go_ret
        exact HP.out
end Go.Proofs.YtccenpmaooailaaGreat.Sp

/- l3Put: what is put into a list of one's own, in place. -/
set_option linter.unusedVariables false
set_option linter.unusedSimpArgs false
namespace Go.Proofs.YtccenpmaooailaaGreat.Sj
open Go.RowKit Go.Proofs.YtccenpmaooailaaGreatW.PrintWords Go.Proofs.YtccenpmaooailaaGreat.Wd Go.Proofs.YtccenpmaooailaaGreat.Pu Go.Proofs.YtccenpmaooailaaGreat.Ca Go.Proofs.YtccenpmaooailaaGreat.Cb Go.Proofs.YtccenpmaooailaaGreat.Cd Go.Proofs.YtccenpmaooailaaGreat.Ci Go.Proofs.YtccenpmaooailaaGreat.Cp Go.Proofs.YtccenpmaooailaaGreat.Ce Go.Proofs.YtccenpmaooailaaGreat.Cg Go.Proofs.YtccenpmaooailaaGreat.Cf Go.Proofs.YtccenpmaooailaaGreat.Sd Go.Proofs.YtccenpmaooailaaGreat.Se Go.Proofs.YtccenpmaooailaaGreat.Sf Go.Proofs.YtccenpmaooailaaGreat.Sh Go.Proofs.YtccenpmaooailaaGreat.Sc Go.Proofs.YtccenpmaooailaaGreat.Si

def PutOut (w0 w w' : World) (base : Nat) (ok : Nat → Prop) (v : Value) (l' : List Occ) (e : Ending) : Prop :=
  ∃ v', e = .returned v' ∧ (kX w0).R 43 w' base ok v' l' ∧ w.grownBy w' v.ownBlock ∧ (v'.ownBlock = v.ownBlock ∨ ∃ b, v'.ownBlock = some b ∧ w.heap.size ≤ b)

theorem at_step {l : List Occ} {o : Occ} (hs : Sorted l) {k : Nat} (hk : k ≤ l.length) (hlo : ∀ j, j < k → lt (l.getD j zO) o) (hst : k < l.length → ¬ lt (l.getD k zO) o) : At l o k :=
  ⟨hk, hlo, fun j hj hjl => by
    by_cases e : j = k
    · rw [e]; exact hst (by omega)
    · intro h
      exact hst (by omega) (lt_trans (sorted_getD hs (by omega) hjl) h)⟩

set_option maxHeartbeats 2000000 in
set_option maxRecDepth 100000 in
theorem sPut_any (w0 : World) (base : Nat) (ok : Nat → Prop) (v : Value) (l : List Occ) (B : Option Addr) (c2 : Nat) (o : Occ) (w : World) (hw : Below w0.heap.size w0 w) (hs : Sorted l) (hl : l.length ≤ 1048576) (hR : (kX w0).R 43 w base ok v l)
    (ho : IsO w o B c2) (lo : o.f2.length ≤ 1048576) (hbase : base ≤ w.heap.size) (hfresh : ∀ k, w.heap.size ≤ k → ok k) :
    Calls Tryz.prog 81 #[v, .agg #[.int .i64 o.f0, .int .i64 o.f1, .slice B o.f2.length c2]] w fun e w' => PutOut w0 w w' base ok v (put l o) e := by
  obtain ⟨A, c, rfl, hlc, hC⟩ := Kd.R_reads hR
  obtain ⟨hb, k0, k1, k2⟩ := box3 w (.int .i64 o.f0) (.int .i64 o.f1) (.slice B o.f2.length c2) 43
  have bx := box1 w (.int .i64 o.f0) (.int .i64 o.f1) (.slice B o.f2.length c2) 43
  have hC0 := Kd.C_below (X_O hw hC) hb
  have hI0 := ho.below hb
  have hR0 := Kd.R_below hR hb
  have HB0 := Aside0.mk hb
  have HF := Aside0.mk hfresh
  go_enter Tryz.func81, Tryz.ntmps81
  go_wp2
  generalize w.alloc (.cells #[.int .i64 o.f0, .int .i64 o.f1, .slice B o.f2.length c2] 43) = W at k0 k1 k2 bx hC0 hI0 hR0 HB0 ⊢
  clear hb hC
  go_loopw [5] (fun vi wr => ∃ k : Nat, k ≤ l.length ∧ vi = .int .i64 k ∧ Aside0 (∀ j, j < k → lt (l.getD j zO) o) ∧ Aside0 (Below W.heap.size W wr)) (fun vi _ => l.length - (intOf vi).toNat)
  case atStart => exact ⟨0, Nat.zero_le _, rfl, ⟨fun j hj => absurd hj (Nat.not_lt_zero _)⟩, ⟨Below.refl _ _⟩⟩
  case round =>
    obtain ⟨k, hk, rfl, HL, HB⟩ := hrel
    have e0 := cellE (pw_cell_below HB.out k0)
    have e1 := cellE (pw_cell_below HB.out k1)
    have e2 := cellE (pw_cell_below HB.out k2)
    by_cases hlt : k < l.length
    · have g1 : decide (k < l.length) = true := decide_eq_true hlt
      have i1 : (k : Int) < l.length := by omega
      obtain ⟨ad, A2, c3, rfl, ha, hb, hc, hl2, hC2⟩ := atO (Kd.C_below hC0 HB.out) k hlt
      have hIs : IsO wr (l.getD k zO) A2 c3 := ⟨hl2, hC2⟩
      have HG : Aside0 (l.getD k zO = l.getD k zO) := ⟨rfl⟩
      clear hl2 hC2
      generalize hy : l.getD k zO = y at ha hb hc hIs
      have HY := Aside0.mk hy
      clear hy HG
      replace ha := cellE ha
      replace hb := cellE hb
      replace hc := cellE hc
      have hIo := hI0.below HB.out
      have hcl := fun s : Ext wr => sLess_any y o A2 B c3 c2 s.1 (hIs.ext s) (hIo.ext s)
      by_cases hcm : cmpO y o < 0
      · have hd : decide (cmpO y o < 0) = true := decide_eq_true hcm
        have HS := Aside0.mk (show ∀ j, j < k + 1 → lt (l.getD j zO) o from fun j hj => by
          by_cases e : j = k
          · rw [e, HY.out]; exact hcm
          · exact HL.out j (by omega))
        rw [hd] at hcl
        clear hcm hd
        go_wp2
        refine region_ext (W := wr) (Below.refl _ _) (by kernel_rfl) (by kernel_rfl) ?_
        repeat (first | go_big_quiet_step ((first | (go_at_call 59; exact calls_ext (hcl _)))) | quiet_step ((first | (go_at_call 59; exact calls_ext (hcl _)))))
        refine wpQuiet_nil ?_
        rintro _ ⟨s, rfl⟩
        have HB3 := Aside0.mk (below_then HB.out HB.out.size s.2)
        generalize s.1 = W2 at HB3
        go_wp2
        go_roundw
        case rel => exact ⟨k + 1, by omega, by go_num, HS, HB3⟩
        case measure => simp [intOf]; omega
      · have hd : decide (cmpO y o < 0) = false := decide_eq_false hcm
        have HA := Aside0.mk (at_step hs hk HL.out (fun _ h => hcm (by rw [← HY.out]; exact h)))
        rw [hd] at hcl
        clear hcm hd
        go_wp2
        refine region_ext (W := wr) (Below.refl _ _) (by kernel_rfl) (by kernel_rfl) ?_
        repeat (first | go_big_quiet_step ((first | (go_at_call 59; exact calls_ext (hcl _)))) | quiet_step ((first | (go_at_call 59; exact calls_ext (hcl _)))))
        refine wpQuiet_nil ?_
        rintro _ ⟨s, rfl⟩
        have HB3 := Aside0.mk (below_then HB.out HB.out.size s.2)
        have a1 := fun s2 : Ext s.1 => ha ⟨s2.1, below_then s.2 s.2.size s2.2⟩
        have a2 := fun s2 : Ext s.1 => hb ⟨s2.1, below_then s.2 s.2.size s2.2⟩
        have a3 := fun s2 : Ext s.1 => hc ⟨s2.1, below_then s.2 s.2.size s2.2⟩
        have b1 := fun s2 : Ext s.1 => e0 ⟨s2.1, below_then s.2 s.2.size s2.2⟩
        have b2 := fun s2 : Ext s.1 => e1 ⟨s2.1, below_then s.2 s.2.size s2.2⟩
        have b3 := fun s2 : Ext s.1 => e2 ⟨s2.1, below_then s.2 s.2.size s2.2⟩
        have hIs2 := hIs.below s.2
        simp only [] at a1 a2 a3 b1 b2 b3
        generalize s.1 = W2 at HB3 a1 a2 a3 b1 b2 b3 hIs2 ⊢
        have hIo2 := hI0.below HB3.out
        have hcl3 := fun s : Ext W2 => sSame_any y o A2 B c3 c2 s.1 (hIs2.ext s) (hIo2.ext s)
        clear hcl ha hb hc e0 e1 e2
        by_cases hsm : cmpO y o = 0
        · have hd : decide (cmpO y o = 0) = true := decide_eq_true hsm
          have HE := Aside0.mk (at_hit hs HA.out (show hit l o k = true by unfold hit; rw [decide_eq_true hlt, HY.out, hd]; rfl))
          rw [hd] at hcl3
          clear hsm hd
          go_wp2
          refine region_ext (W := W2) (Below.refl _ _) (by kernel_rfl) (by kernel_rfl) ?_
          repeat (first | go_big_quiet_step ((first | (go_at_call 95; exact calls_ext (hcl3 _)))) | quiet_step ((first | (go_at_call 95; exact calls_ext (hcl3 _)))))
          refine wpQuiet_nil ?_
          rintro _ ⟨s, rfl⟩
          have HB4 := Aside0.mk (below_then HB0.out HB0.out.size (below_then HB3.out HB3.out.size s.2))
          generalize s.1 = W3 at HB4
          go_wp2
          go_ret
          exact ⟨_, rfl, by rw [HE.out]; exact Kd.R_below hR HB4.out, grown_of_below HB4.out _, .inl rfl⟩
        · have hd : decide (cmpO y o = 0) = false := decide_eq_false hsm
          have HE := Aside0.mk (at_ins hs HA.out (show hit l o k = false by unfold hit; rw [HY.out, hd]; simp))
          rw [hd] at hcl3
          clear hsm hd
          go_wp2
          refine region_ext (W := W2) (Below.refl _ _) (by kernel_rfl) (by kernel_rfl) ?_
          repeat (first | go_big_quiet_step ((first | (go_at_call 95; exact calls_ext (hcl3 _)))) | quiet_step ((first | (go_at_call 95; exact calls_ext (hcl3 _)))))
          refine wpQuiet_nil ?_
          rintro _ ⟨s, rfl⟩
          have HB4 := Aside0.mk (below_then HB3.out HB3.out.size s.2)
          generalize s.1 = W3 at HB4
          have hR3 := Kd.R_below hR0 HB4.out
          have hR3b := Kd.R_mono (Kd.R_bound hR3) (ok' := fun j => ok j ∧ j < W3.heap.size) (fun j hj => ⟨hj.1, hj.2.2.1⟩)
          have hown : ∀ j, (Value.slice (some ad) l.length c).ownBlock = some j → j < w.heap.size := Kd.R_lt hR
          have hsz : w.heap.size < W3.heap.size := Nat.lt_of_lt_of_le (World.block_lt_of_cell? W _ k0) HB4.out.size
          have hbs : base ≤ W3.heap.size := Nat.le_trans hbase (Nat.le_of_lt hsz)
          have p0 := pw_cell_below HB4.out k0
          have p1 := pw_cell_below HB4.out k1
          have p2 := pw_cell_below HB4.out k2
          obtain ⟨A', hcut, hA'⟩ := cutO (some ad) l.length c k hk
          have htk := fun W => takeX (some ad) (R_head' hR3) l.length c k (by omega) W
          have hld : (l.drop k).length = l.length - k := List.length_drop
          clear hR0
          go_wp2_with ((with_reducible refine gate_dst (N := 38) rfl ?_); refine Kd.R_append_rows (kX w0) (w0 := W3.alloc (.cells #[] 43)) base rfl _ _ 23 43 (.agg #[.int .i64 0, .int .i64 0, .slice none 0 0]) 40 rfl Tryz.underlying23 (infoX w0) rfl (szX w0) (by decide) (.slice (some ⟨W3.heap.size, 0, none⟩) 0 0) [] (l.drop k) A' (l.length - k) (c - k) (fun j => ok j ∧ some j ≠ (Value.slice (some ad) l.length c).ownBlock) (fun j => (ok j ∧ j < W3.heap.size) ∧ some j ≠ (Value.slice (some ad) l.length c).ownBlock) rfl rfl (R_empty2 (kX w0) (blk_new _ _) hbs ⟨HF.out _ (Nat.le_of_lt hsz), fun h => by have := hown _ h.symm; omega⟩) (R_src_drop (Kd.R_alloc hR3b _) hk hA') (fun _ _ h => h) (fun j hj => ⟨⟨hj.1.1, hj.2⟩, fun h => by simp [Value.ownBlock] at h; have := hj.1.2; omega⟩) (fun j hj => ⟨HF.out _ (by simp at hj; omega), fun h => by simp at hj; have := hown _ h.symm; omega⟩) (Below.refl _ _) (by simp; omega) (by simp; omega) ?_; intro v6 w6 hr6 _ hg6 _; obtain ⟨A6, c6, rfl⟩ := Kd.R_slice hr6; simp only [List.nil_append] at hr6; rw [hld] at hr6; have HB6 : Aside0 (Below W3.heap.size W3 w6) := ⟨Below.grown (below_alloc (Below.refl _ _) _) hg6 (by simp) (fun j hj => by simp [Value.ownBlock] at hj; omega)⟩; have HR6 := Aside0.mk hr6; clear hr6 hg6)
          have bx6 := blk_below bx (below_then HB4.out HB4.out.size HB6.out)
          have HBW := Aside0.mk (below_then HB0.out HB0.out.size (below_then HB4.out HB4.out.size HB6.out))
          have hI6 := ho.below HBW.out
          have hR6 := Kd.R_below hR HBW.out
          have hws : w.heap.size < w6.heap.size := Nat.lt_of_lt_of_le hsz HB6.out.size
          have hkl : (l.take k).length = k := by rw [List.length_take]; omega
          clear hcut hA' hR3 hR3b p0 p1 p2 hIs hIs2 hIo hIo2 hcl3 a1 a2 a3 b1 b2 b3 hI0 hC0
          have F : ∀ w', Below w6.heap.size w6 w' → w'.cell? ⟨w.heap.size, 0, none⟩ = some (.int .i64 o.f0) ∧ w'.cell? ⟨w.heap.size, 1, none⟩ = some (.int .i64 o.f1) ∧ w'.cell? ⟨w.heap.size, 2, none⟩ = some (.slice B o.f2.length c2) :=
            fun w' h => ⟨pw_cell_below h ((blk_cell bx6 0).trans rfl), pw_cell_below h ((blk_cell bx6 1).trans rfl), pw_cell_below h ((blk_cell bx6 2).trans rfl)⟩
          go_region_held3 (fun w' => w'.cell? ⟨w.heap.size, 0, none⟩ = some (.int .i64 o.f0) ∧ w'.cell? ⟨w.heap.size, 1, none⟩ = some (.int .i64 o.f1) ∧ w'.cell? ⟨w.heap.size, 2, none⟩ = some (.slice B o.f2.length c2))
            (first | (with_reducible exact F _ (Below.refl _ _)) | (with_reducible exact F _ (below_drew (Below.refl _ _))) | (with_reducible exact ⟨m0, m1, m2⟩) | (with_reducible exact ⟨n0, n1, n2⟩) | (with_reducible exact F _ hk7) | (with_reducible exact F _ (below_alloc hk7 _)) | (with_reducible exact F _ (below_drew (below_alloc hk7 _))) | (with_reducible exact F _ (below_drew hk7)))
            (first
              | (go_at_call 92; refine (sCopy_any B c2 o _ (by first | exact hI6 | exact hI6.below (below_drew (Below.refl _ _))) lo).mono ?_; rintro e w7 ⟨v7, rfl, ho7, h7⟩; obtain ⟨A7, c7, rfl⟩ := Kd.R_slice ho7; have hk7 : Below w6.heap.size w6 w7 := ⟨h7.os, h7.tape, h7.output, h7.size, h7.block⟩; have HO7 : Aside0 ((Kd.int .i64).R 3 w7 w6.heap.size (fun _ => True) (.slice A7 o.f2.length c7) o.f2) := ⟨ho7⟩)
              | (refine Kd.R_append_step (kX w0) (w0 := w7) base (by rfl) _ _ 23 43 (.agg #[.int .i64 0, .int .i64 0, .slice none 0 0]) 40 rfl Tryz.underlying23 (infoX w0) rfl (szX w0) (by decide) (.slice (some ad) k c) (l.take k) o [.int .i64 o.f0, .int .i64 o.f1, .slice A7 o.f2.length c7] ok (fun j => w6.heap.size ≤ j) rfl rfl (kX_made o (Kd.R_lower (Kd.R_mono (Kd.R_bound HO7.out) (fun j hj => hj.2.1)) (by omega))) (fun j hj => ⟨HF.out _ (by omega), fun h => by have := hown _ h.symm; omega⟩) (fun j hj => HF.out _ (by have := hk7.size; omega)) (Kd.R_take (Kd.R_below hR6 hk7) hk) (Below.refl _ _) (by have := hk7.size; omega) (by rw [hkl]; omega) ?_; intro v8 w8 hr8 _ hg8 hat8; obtain ⟨A8, c8, rfl⟩ := Kd.R_slice hr8; have hne8 : some w.heap.size ≠ (Value.slice (some ad) k c).ownBlock := fun h => by { have := hown _ h.symm; omega }; have bx8 := blk_grown (blk_below bx6 hk7) hg8 hne8; have m0 : w8.cell? ⟨w.heap.size, 0, none⟩ = some (.int .i64 o.f0) := (blk_cell bx8 0).trans rfl; have m1 : w8.cell? ⟨w.heap.size, 1, none⟩ = some (.int .i64 o.f1) := (blk_cell bx8 1).trans rfl; have m2 : w8.cell? ⟨w.heap.size, 2, none⟩ = some (.slice B o.f2.length c2) := (blk_cell bx8 2).trans rfl; have HR8 := Aside0.mk hr8; have HG8 := Aside0.mk hg8; have HAT8 := Aside0.mk hat8; clear hr8 hg8 hat8)
              | (refine Kd.R_append_rows_step (kX w0) (w0 := w8) base (by rfl) _ _ 23 43 (.agg #[.int .i64 0, .int .i64 0, .slice none 0 0]) 40 rfl Tryz.underlying23 (infoX w0) rfl (szX w0) (by decide) (.slice A8 (l.take k ++ [o]).length c8) (l.take k ++ [o]) (l.drop k) A6 (l.length - k) c6 ok (fun j => ((ok j ∧ some j ≠ (Value.slice (some ad) l.length c).ownBlock) ∧ j < w7.heap.size) ∧ some j ≠ (Value.slice A6 (l.length - k) c6).ownBlock) rfl rfl HR8.out (R_src (Kd.R_grown (Kd.R_mono (Kd.R_bound (Kd.R_below HR6.out hk7)) (ok' := fun j => (ok j ∧ some j ≠ (Value.slice (some ad) l.length c).ownBlock) ∧ j < w7.heap.size) (fun j hj => ⟨hj.1, hj.2.2.1⟩)) HG8.out (fun j hj => hj.1.2))) (fun _ _ h => h) (fun j hj => ⟨hj.1.1.1, fun h => by rcases HAT8.out with h2 | ⟨b, h2, h3⟩ <;> rw [h2] at h; exact hj.1.1.2 h; injection h with h; have := hj.1.2; omega⟩) (fun j hj => HF.out _ (by have := HG8.out.size; have := hk7.size; omega)) (Below.refl _ _) (by have := HG8.out.size; have := hk7.size; omega) (by rw [List.length_append, hkl]; simp; omega) ?_; intro v9 w9 hr9 _ hg9 hat9; obtain ⟨A9, c9, rfl⟩ := Kd.R_slice hr9; have bx9 := blk_grown bx8 hg9 (fun h => by rcases HAT8.out with h2 | ⟨b, h2, h3⟩ <;> rw [h2] at h; exact hne8 h; injection h with h; have := hk7.size; omega); have n0 : w9.cell? ⟨w.heap.size, 0, none⟩ = some (.int .i64 o.f0) := (blk_cell bx9 0).trans rfl; have n1 : w9.cell? ⟨w.heap.size, 1, none⟩ = some (.int .i64 o.f1) := (blk_cell bx9 1).trans rfl; have n2 : w9.cell? ⟨w.heap.size, 2, none⟩ = some (.slice B o.f2.length c2) := (blk_cell bx9 2).trans rfl; have HR9 := Aside0.mk hr9; have HG9 := Aside0.mk hg9; have HAT9 := Aside0.mk hat9; clear hr9 hg9 hat9))
          all_goals
            have hln : (l.take k ++ [o] ++ l.drop k).length = k + (l.length - k + 1) := by simp; omega
            have hE9 : l.take k ++ [o] ++ l.drop k = put l o := by rw [← HE.out]; simp [insO]
            have r9 := HR9.out
            have t9 := HAT9.out
            rw [hln] at r9 t9
            rw [hE9] at r9
            have HB7 := below_then HBW.out HBW.out.size hk7
            have G9 : w.grownBy w9 (Value.slice (some ad) l.length c).ownBlock := grown_new (grown_new (grown_of_below HB7 _) HG8.out (fun j hj => .inr hj.symm)) HG9.out (fun j hj => by
              rcases HAT8.out with h2 | ⟨b, h2, h3⟩
              · rw [h2] at hj; exact .inr hj.symm
              · rw [h2] at hj; injection hj with hj; have := HB7.size; exact .inl (by omega))
            have T9 : (Value.slice A9 (k + (l.length - k + 1)) c9).ownBlock = (Value.slice (some ad) l.length c).ownBlock ∨ ∃ b, (Value.slice A9 (k + (l.length - k + 1)) c9).ownBlock = some b ∧ w.heap.size ≤ b := by
              rcases t9 with h1 | ⟨b, h1, h2⟩
              · rcases HAT8.out with h3 | ⟨b, h3, h4⟩
                · exact .inl (h1.trans h3)
                · exact .inr ⟨b, h1.trans h3, by have := HB7.size; omega⟩
              · exact .inr ⟨b, h1, by have := HB7.size; have := HG8.out.size; omega⟩
            have HP := Aside0.mk (show PutOut w0 w w9 base ok (Value.slice (some ad) l.length c) (put l o) (.returned (Value.slice A9 (k + (l.length - k + 1)) c9)) from ⟨_, rfl, r9, G9, T9⟩)
            clear r9 t9 hE9 hln G9 T9
            go_wp2
            go_ret
            exact HP.out
    · have hke : k = l.length := by omega
      have g1 : decide (k < l.length) = false := decide_eq_false hlt
      have i1 : ¬ (k : Int) < l.length := by omega
      have HA := Aside0.mk (at_step hs hk HL.out (fun h => absurd h hlt))
      have HE := Aside0.mk (at_ins hs HA.out (show hit l o k = false by unfold hit; rw [decide_eq_false hlt]; rfl))
      clear hke
      go_wp2
      refine region_ext (W := wr) (Below.refl _ _) (by kernel_rfl) (by kernel_rfl) ?_
      repeat (first | go_big_quiet_step (fail) | quiet_step (fail))
      refine wpQuiet_nil ?_
      rintro _ ⟨s, rfl⟩
      have HB3 := Aside0.mk (below_then HB.out HB.out.size s.2)
      have b1 := fun s2 : Ext s.1 => e0 ⟨s2.1, below_then s.2 s.2.size s2.2⟩
      have b2 := fun s2 : Ext s.1 => e1 ⟨s2.1, below_then s.2 s.2.size s2.2⟩
      have b3 := fun s2 : Ext s.1 => e2 ⟨s2.1, below_then s.2 s.2.size s2.2⟩
      simp only [] at b1 b2 b3
      generalize s.1 = W2 at HB3 b1 b2 b3 ⊢
      clear e0 e1 e2
      go_wp2
      refine region_ext (W := W2) (Below.refl _ _) (by kernel_rfl) (by kernel_rfl) ?_
      repeat (first | go_big_quiet_step (fail) | quiet_step (fail))
      refine wpQuiet_nil ?_
      rintro _ ⟨s, rfl⟩
      have HB4 := Aside0.mk (below_then HB3.out HB3.out.size s.2)
      generalize s.1 = W3 at HB4
      have hR3 := Kd.R_below hR0 HB4.out
      have hR3b := Kd.R_mono (Kd.R_bound hR3) (ok' := fun j => ok j ∧ j < W3.heap.size) (fun j hj => ⟨hj.1, hj.2.2.1⟩)
      have hown : ∀ j, (Value.slice A l.length c).ownBlock = some j → j < w.heap.size := Kd.R_lt hR
      have hsz : w.heap.size < W3.heap.size := Nat.lt_of_lt_of_le (World.block_lt_of_cell? W _ k0) HB4.out.size
      have hbs : base ≤ W3.heap.size := Nat.le_trans hbase (Nat.le_of_lt hsz)
      have p0 := pw_cell_below HB4.out k0
      have p1 := pw_cell_below HB4.out k1
      have p2 := pw_cell_below HB4.out k2
      obtain ⟨A', hcut, hA'⟩ := cutO A l.length c k hk
      have htk := fun W => takeX A (R_head' hR3) l.length c k (by omega) W
      have hld : (l.drop k).length = l.length - k := List.length_drop
      clear hR0
      go_wp2_with ((with_reducible refine gate_dst (N := 38) rfl ?_); refine Kd.R_append_rows (kX w0) (w0 := W3.alloc (.cells #[] 43)) base rfl _ _ 23 43 (.agg #[.int .i64 0, .int .i64 0, .slice none 0 0]) 40 rfl Tryz.underlying23 (infoX w0) rfl (szX w0) (by decide) (.slice (some ⟨W3.heap.size, 0, none⟩) 0 0) [] (l.drop k) A' (l.length - k) (c - k) (fun j => ok j ∧ some j ≠ (Value.slice A l.length c).ownBlock) (fun j => (ok j ∧ j < W3.heap.size) ∧ some j ≠ (Value.slice A l.length c).ownBlock) rfl rfl (R_empty2 (kX w0) (blk_new _ _) hbs ⟨HF.out _ (Nat.le_of_lt hsz), fun h => by have := hown _ h.symm; omega⟩) (R_src_drop (Kd.R_alloc hR3b _) hk hA') (fun _ _ h => h) (fun j hj => ⟨⟨hj.1.1, hj.2⟩, fun h => by simp [Value.ownBlock] at h; have := hj.1.2; omega⟩) (fun j hj => ⟨HF.out _ (by simp at hj; omega), fun h => by simp at hj; have := hown _ h.symm; omega⟩) (Below.refl _ _) (by simp; omega) (by simp; omega) ?_; intro v6 w6 hr6 _ hg6 _; obtain ⟨A6, c6, rfl⟩ := Kd.R_slice hr6; simp only [List.nil_append] at hr6; rw [hld] at hr6; have HB6 : Aside0 (Below W3.heap.size W3 w6) := ⟨Below.grown (below_alloc (Below.refl _ _) _) hg6 (by simp) (fun j hj => by simp [Value.ownBlock] at hj; omega)⟩; have HR6 := Aside0.mk hr6; clear hr6 hg6)
      have hOwn : (Value.slice A k c).ownBlock = (Value.slice A l.length c).ownBlock := by cases A <;> rfl
      have bx6 := blk_below bx (below_then HB4.out HB4.out.size HB6.out)
      have HBW := Aside0.mk (below_then HB0.out HB0.out.size (below_then HB4.out HB4.out.size HB6.out))
      have hI6 := ho.below HBW.out
      have hR6 := Kd.R_below hR HBW.out
      have hws : w.heap.size < w6.heap.size := Nat.lt_of_lt_of_le hsz HB6.out.size
      have hkl : (l.take k).length = k := by rw [List.length_take]; omega
      clear hcut hA' hR3 hR3b p0 p1 p2 hI0 hC0 b1 b2 b3
      have F : ∀ w', Below w6.heap.size w6 w' → w'.cell? ⟨w.heap.size, 0, none⟩ = some (.int .i64 o.f0) ∧ w'.cell? ⟨w.heap.size, 1, none⟩ = some (.int .i64 o.f1) ∧ w'.cell? ⟨w.heap.size, 2, none⟩ = some (.slice B o.f2.length c2) :=
        fun w' h => ⟨pw_cell_below h ((blk_cell bx6 0).trans rfl), pw_cell_below h ((blk_cell bx6 1).trans rfl), pw_cell_below h ((blk_cell bx6 2).trans rfl)⟩
      go_region_held3 (fun w' => w'.cell? ⟨w.heap.size, 0, none⟩ = some (.int .i64 o.f0) ∧ w'.cell? ⟨w.heap.size, 1, none⟩ = some (.int .i64 o.f1) ∧ w'.cell? ⟨w.heap.size, 2, none⟩ = some (.slice B o.f2.length c2))
        (first | (with_reducible exact F _ (Below.refl _ _)) | (with_reducible exact F _ (below_drew (Below.refl _ _))) | (with_reducible exact ⟨m0, m1, m2⟩) | (with_reducible exact ⟨n0, n1, n2⟩) | (with_reducible exact F _ hk7) | (with_reducible exact F _ (below_alloc hk7 _)) | (with_reducible exact F _ (below_drew (below_alloc hk7 _))) | (with_reducible exact F _ (below_drew hk7)))
        (first
          | (go_at_call 92; refine (sCopy_any B c2 o _ (by first | exact hI6 | exact hI6.below (below_drew (Below.refl _ _))) lo).mono ?_; rintro e w7 ⟨v7, rfl, ho7, h7⟩; obtain ⟨A7, c7, rfl⟩ := Kd.R_slice ho7; have hk7 : Below w6.heap.size w6 w7 := ⟨h7.os, h7.tape, h7.output, h7.size, h7.block⟩; have HO7 : Aside0 ((Kd.int .i64).R 3 w7 w6.heap.size (fun _ => True) (.slice A7 o.f2.length c7) o.f2) := ⟨ho7⟩)
          | (refine Kd.R_append_step (kX w0) (w0 := w7) base (by rfl) _ _ 23 43 (.agg #[.int .i64 0, .int .i64 0, .slice none 0 0]) 40 rfl Tryz.underlying23 (infoX w0) rfl (szX w0) (by decide) (.slice A k c) (l.take k) o [.int .i64 o.f0, .int .i64 o.f1, .slice A7 o.f2.length c7] ok (fun j => w6.heap.size ≤ j) rfl rfl (kX_made o (Kd.R_lower (Kd.R_mono (Kd.R_bound HO7.out) (fun j hj => hj.2.1)) (by omega))) (fun j hj => ⟨HF.out _ (by omega), fun h => by have := hown _ (hOwn.symm.trans h.symm); omega⟩) (fun j hj => HF.out _ (by have := hk7.size; omega)) (Kd.R_take (Kd.R_below hR6 hk7) hk) (Below.refl _ _) (by have := hk7.size; omega) (by rw [hkl]; omega) ?_; intro v8 w8 hr8 _ hg8 hat8; rw [hOwn] at hg8 hat8; obtain ⟨A8, c8, rfl⟩ := Kd.R_slice hr8; have hne8 : some w.heap.size ≠ (Value.slice A l.length c).ownBlock := fun h => by { have := hown _ h.symm; omega }; have bx8 := blk_grown (blk_below bx6 hk7) hg8 hne8; have m0 : w8.cell? ⟨w.heap.size, 0, none⟩ = some (.int .i64 o.f0) := (blk_cell bx8 0).trans rfl; have m1 : w8.cell? ⟨w.heap.size, 1, none⟩ = some (.int .i64 o.f1) := (blk_cell bx8 1).trans rfl; have m2 : w8.cell? ⟨w.heap.size, 2, none⟩ = some (.slice B o.f2.length c2) := (blk_cell bx8 2).trans rfl; have HR8 := Aside0.mk hr8; have HG8 := Aside0.mk hg8; have HAT8 := Aside0.mk hat8; clear hr8 hg8 hat8)
          | (refine Kd.R_append_rows_step (kX w0) (w0 := w8) base (by rfl) _ _ 23 43 (.agg #[.int .i64 0, .int .i64 0, .slice none 0 0]) 40 rfl Tryz.underlying23 (infoX w0) rfl (szX w0) (by decide) (.slice A8 (l.take k ++ [o]).length c8) (l.take k ++ [o]) (l.drop k) A6 (l.length - k) c6 ok (fun j => ((ok j ∧ some j ≠ (Value.slice A l.length c).ownBlock) ∧ j < w7.heap.size) ∧ some j ≠ (Value.slice A6 (l.length - k) c6).ownBlock) rfl rfl HR8.out (R_src (Kd.R_grown (Kd.R_mono (Kd.R_bound (Kd.R_below HR6.out hk7)) (ok' := fun j => (ok j ∧ some j ≠ (Value.slice A l.length c).ownBlock) ∧ j < w7.heap.size) (fun j hj => ⟨hj.1, hj.2.2.1⟩)) HG8.out (fun j hj => hj.1.2))) (fun _ _ h => h) (fun j hj => ⟨hj.1.1.1, fun h => by rcases HAT8.out with h2 | ⟨b, h2, h3⟩ <;> rw [h2] at h; exact hj.1.1.2 h; injection h with h; have := hj.1.2; omega⟩) (fun j hj => HF.out _ (by have := HG8.out.size; have := hk7.size; omega)) (Below.refl _ _) (by have := HG8.out.size; have := hk7.size; omega) (by rw [List.length_append, hkl]; simp; omega) ?_; intro v9 w9 hr9 _ hg9 hat9; obtain ⟨A9, c9, rfl⟩ := Kd.R_slice hr9; have bx9 := blk_grown bx8 hg9 (fun h => by rcases HAT8.out with h2 | ⟨b, h2, h3⟩ <;> rw [h2] at h; exact hne8 h; injection h with h; have := hk7.size; omega); have n0 : w9.cell? ⟨w.heap.size, 0, none⟩ = some (.int .i64 o.f0) := (blk_cell bx9 0).trans rfl; have n1 : w9.cell? ⟨w.heap.size, 1, none⟩ = some (.int .i64 o.f1) := (blk_cell bx9 1).trans rfl; have n2 : w9.cell? ⟨w.heap.size, 2, none⟩ = some (.slice B o.f2.length c2) := (blk_cell bx9 2).trans rfl; have HR9 := Aside0.mk hr9; have HG9 := Aside0.mk hg9; have HAT9 := Aside0.mk hat9; clear hr9 hg9 hat9))
      all_goals
        have hln : (l.take k ++ [o] ++ l.drop k).length = k + (l.length - k + 1) := by simp; omega
        have hE9 : l.take k ++ [o] ++ l.drop k = put l o := by rw [← HE.out]; simp [insO]
        have r9 := HR9.out
        have t9 := HAT9.out
        rw [hln] at r9 t9
        rw [hE9] at r9
        have HB7 := below_then HBW.out HBW.out.size hk7
        have G9 : w.grownBy w9 (Value.slice A l.length c).ownBlock := grown_new (grown_new (grown_of_below HB7 _) HG8.out (fun j hj => .inr hj.symm)) HG9.out (fun j hj => by
          rcases HAT8.out with h2 | ⟨b, h2, h3⟩
          · rw [h2] at hj; exact .inr hj.symm
          · rw [h2] at hj; injection hj with hj; have := HB7.size; exact .inl (by omega))
        have T9 : (Value.slice A9 (k + (l.length - k + 1)) c9).ownBlock = (Value.slice A l.length c).ownBlock ∨ ∃ b, (Value.slice A9 (k + (l.length - k + 1)) c9).ownBlock = some b ∧ w.heap.size ≤ b := by
          rcases t9 with h1 | ⟨b, h1, h2⟩
          · rcases HAT8.out with h3 | ⟨b, h3, h4⟩
            · exact .inl (h1.trans h3)
            · exact .inr ⟨b, h1.trans h3, by have := HB7.size; omega⟩
          · exact .inr ⟨b, h1, by have := HB7.size; have := HG8.out.size; omega⟩
        have HP := Aside0.mk (show PutOut w0 w w9 base ok (Value.slice A l.length c) (put l o) (.returned (Value.slice A9 (k + (l.length - k + 1)) c9)) from ⟨_, rfl, r9, G9, T9⟩)
        clear r9 t9 hE9 hln G9 T9
        go_wp2
        go_ret
        exact HP.out
end Go.Proofs.YtccenpmaooailaaGreat.Sj

/- The reference's draws of lists of occurrences. -/
set_option linter.unusedVariables false
set_option linter.unusedSimpArgs false
namespace Go.Proofs.YtccenpmaooailaaGreat.Sk
open Go.RowKit Go.Proofs.YtccenpmaooailaaGreatW.PrintWords Go.Proofs.YtccenpmaooailaaGreat.Wd Go.Proofs.YtccenpmaooailaaGreat.Pu Go.Proofs.YtccenpmaooailaaGreat.Ca Go.Proofs.YtccenpmaooailaaGreat.Cg Go.Proofs.YtccenpmaooailaaGreat.Cf Go.Proofs.YtccenpmaooailaaGreat.Ce Go.Proofs.YtccenpmaooailaaGreat.Sa Go.Proofs.YtccenpmaooailaaGreat.Sb Go.Proofs.YtccenpmaooailaaGreat.Sc Go.Proofs.YtccenpmaooailaaGreat.Sh Go.Proofs.YtccenpmaooailaaGreat.Si Go.Proofs.YtccenpmaooailaaGreat.Sj

structure SomeMem (w0 w wr : World) (g : Nat) (bs : List Int) (q : Nat) (v : Value) (l : List Occ) : Prop where
  own : (kX w0).R 43 wr w.heap.size (fun _ => True) v l
  rd : ∃ p, p ≤ q ∧ Rd w0 wr g bs p
  gr : w.grownBy wr (some g)
  ok : AreOk l
def SomeOut (w0 w w' : World) (g : Nat) (bs : List Int) (q n : Nat) (e : Ending) : Prop := ∃ (v : Value) (l : List Occ), e = .returned v ∧ l.length ≤ n ∧ SomeMem w0 w w' g bs q v l
theorem isOk_len {o : Occ} (h : IsOk o) : o.f2.length ≤ 1048576 := by
  have h2 := okO_iff.2 h
  unfold okO at h2
  simp only [Bool.and_eq_true] at h2
  have := Sf.okIds_len (by omega) h2.1
  omega

set_option maxHeartbeats 1000000 in
set_option maxRecDepth 100000 in
theorem some_any (w0 : World) (g : Nat) (bs : List Int) (p most : Nat) (w : World) (h : Rd w0 w g bs p) (hp : p < 50000) (hm : most ≤ 100) :
    Calls Tryz.prog 78 #[.pointer (some ⟨g, 0, none⟩), .int .i64 most] w fun e w' => SomeOut w0 w w' g bs (p + 1 + 10 * most) most e := by
  have hgw := rd_lt h
  have hw0 := h.base
  go_enter Tryz.func78, Tryz.ntmps78
  go_wp2_with (go_at_call 41; refine (pick_any w0 g bs p ((most : Int) + 1) _ (h.grown (below_alloc (Below.refl _ _) _)) (by omega) (by omega)).mono ?_; rintro e w1 ⟨x, rfl, hx, hr, hg⟩; have hx0 := hx.1; have hx1 := hx.2.1 (by omega); have bE := blk_grown (blk_new w (.cells #[] 43)) hg (by simp; omega); have HM : Aside0 (SomeMem w0 w w1 g bs (p + 1) (.slice (some ⟨w.heap.size, 0, none⟩) 0 0) []) := ⟨⟨R_empty (kX w0) bE (Nat.le_refl _), ⟨p + 1, Nat.le_refl _, hr⟩, World.grownBy.trans (grown_alloc _ _) hg, AreOk.nil⟩⟩; clear hx hr hg bE)
  obtain ⟨n, hn⟩ : ∃ n : Nat, (n : Int) = x := ⟨x.toNat, by omega⟩
  have hnm : n ≤ most := by omega
  subst hn
  clear hx0 hx1
  go_loopw [5, 6] (fun v5 v6 wr => ∃ (v : Value) (m : Nat) (l : List Occ), v = v5 ∧ v6 = .int .i64 m ∧ m ≤ n ∧ l.length ≤ n - m ∧ Aside0 (SomeMem w0 w wr g bs (p + 1 + 10 * (n - m)) v l)) (fun _ v6 _ => (intOf v6).toNat)
  case atStart => exact ⟨_, n, [], rfl, rfl, Nat.le_refl _, by simp, by simpa using HM⟩
  case round =>
    obtain ⟨v, m, l, rfl, rfl, hmn, hlm, HS⟩ := hrel
    by_cases h0 : m = 0
    · subst h0
      have HP := Aside0.mk (show SomeOut w0 w _ g bs (p + 1 + 10 * most) most (.returned v) from ⟨v, l, rfl, by omega, ⟨HS.out.own, by obtain ⟨q, hq, hr⟩ := HS.out.rd; exact ⟨q, by omega, hr⟩, HS.out.gr, HS.out.ok⟩⟩)
      go_wp2
      go_ret
      exact HP.out
    · have hm0b : decide (0 < m) = true := by rw [decide_eq_true_eq]; omega
      have hm0 : decide ((m : Int) > 0) = true := by rw [decide_eq_true_eq]; omega
      have hm1 : (0 : Int) < m := by omega
      obtain ⟨q, hq, hrd⟩ := HS.out.rd
      have HRD := Aside0.mk hrd
      clear hrd
      go_wp2_with (first
        | (go_at_call 81; refine (sPut_any w0 w.heap.size (fun _ => True) v l A2 c2 o _ HR2.out.below HS.out.ok.sorted (by omega) HO2.out HI2.out (isOk_len HK2.out) HG2.out.size (fun _ _ => trivial)).mono ?_; rintro e w3 ⟨v3, rfl, hr3, hg3, hat3⟩; have hb3 : ∀ j, v.ownBlock = some j → w.heap.size ≤ j := Kd.R_base HO2.out; have HM3 : Aside0 (SomeMem w0 w w3 g bs (q + 10) v3 (put l o)) := ⟨⟨hr3, by { obtain ⟨q2, hq2, hr2⟩ := HQ2.out; exact ⟨q2, hq2, rd_keep hr2 hg3 (fun j hj => by have := hb3 j hj; omega)⟩ }, grown_new HG2.out hg3 (fun j hj => .inl (hb3 j hj)), HS.out.ok.put HK2.out⟩⟩; have hlp := len_put l o; clear hr3 hg3 hat3)
        | (go_at_call 79; refine (any_any w0 g bs q _ HRD.out (by omega)).mono ?_; rintro e w2 ⟨o, v2, rfl, hk2, ho2, hq2, hg2⟩; obtain ⟨A2, c2, rfl⟩ := Kd.R_slice ho2; have HK2 := Aside0.mk hk2; have HQ2 := Aside0.mk hq2; have HR2 : Aside0 (∃ q2, Rd w0 w2 g bs q2) := ⟨by { obtain ⟨q2, _, hr2⟩ := hq2; exact ⟨q2, hr2⟩ }⟩; obtain ⟨q3, hr3⟩ := HR2.out; have HR2 := Aside0.mk hr3; have HI2 : Aside0 (IsO w2 o A2 c2) := ⟨⟨(Kd.R_reads' ho2).2.1, (Kd.R_reads' ho2).2.2⟩⟩; have HO2 := Aside0.mk (own_step HS.out.own hg2 hgw); have HG2 := Aside0.mk (grown_new HS.out.gr hg2 (fun j hj => .inr hj.symm)); clear hk2 ho2 hq2 hg2 hr3))
      go_roundw
      case rel => exact ⟨_, m - 1, put l o, rfl, by go_num, by omega, by omega, ⟨⟨HM3.out.own, by obtain ⟨q2, hq2, hr2⟩ := HM3.out.rd; exact ⟨q2, by omega, hr2⟩, HM3.out.gr, HM3.out.ok⟩⟩⟩
      case measure => simp [intOf]; omega
end Go.Proofs.YtccenpmaooailaaGreat.Sk

/- The reference's draws of bent lists. -/
set_option linter.unusedVariables false
set_option linter.unusedSimpArgs false
namespace Go.Proofs.YtccenpmaooailaaGreat.Sl
open Go.RowKit Go.Proofs.YtccenpmaooailaaGreatW.PrintWords Go.Proofs.YtccenpmaooailaaGreat.Wd Go.Proofs.YtccenpmaooailaaGreat.Pu Go.Proofs.YtccenpmaooailaaGreat.Ca Go.Proofs.YtccenpmaooailaaGreat.Cg Go.Proofs.YtccenpmaooailaaGreat.Cf Go.Proofs.YtccenpmaooailaaGreat.Ce Go.Proofs.YtccenpmaooailaaGreat.Cp Go.Proofs.YtccenpmaooailaaGreat.Sa Go.Proofs.YtccenpmaooailaaGreat.Sb Go.Proofs.YtccenpmaooailaaGreat.Sc Go.Proofs.YtccenpmaooailaaGreat.Sh Go.Proofs.YtccenpmaooailaaGreat.Si Go.Proofs.YtccenpmaooailaaGreat.Sj Go.Proofs.YtccenpmaooailaaGreat.Sk

/-- numbers as they are laid -/
theorem R_lits {w : World} {base B : Nat} {e : TypeId} {xs : List Int} (hB : w.heap[B]? = some (.cells (xs.map (Value.int .i64)).toArray e (0, 0))) (hb : base ≤ B) (hl : xs.length ≤ 1000) : (Kd.int .i64).R e w base (fun _ => True) (.slice (some ⟨B, 0, none⟩) xs.length xs.length) xs := by
  refine ⟨fun _ _ => trivial, xs.map (Value.int .i64), ⟨by show (xs.map _).length = xs.length * 1; simp, .inr ⟨B, xs.length, _, rfl, hb, hB, Nat.le_refl _, by unfold maxLen; omega, by show Array.size _ = xs.length * 1; simp, ?_⟩⟩, ?_⟩
  · show List.take (xs.length * 1) _ = _
    rw [Nat.mul_one]
    simp only []
    exact List.take_of_length_le (by simp)
  · exact Kd.reps_scalar xs

def IdsOut (w0 w w' : World) (g : Nat) (bs : List Int) (p : Nat) (e : Ending) : Prop :=
  ∃ (v : Value) (ids : List Int), e = .returned v ∧ (Kd.int .i64).R 3 w' w.heap.size (fun _ => True) v ids ∧ ids.length ≤ 2 ∧ Rd w0 w' g bs (p + 1) ∧ w.grownBy w' (some g)
theorem r0_any (w0 : World) (g : Nat) (bs : List Int) (p : Nat) (w : World) (h : Rd w0 w g bs p) (hp : p < 99000) :
    Calls Tryz.prog 112 #[.pointer (some ⟨g, 0, none⟩)] w fun e w' => IdsOut w0 w w' g bs p e := by
  go_enter Tryz.func112, Tryz.ntmps112
  go_wp2_with (go_at_call 41; refine (pick_any w0 g bs p 3 _ h (by omega) (by omega)).mono ?_; rintro e w1 ⟨x, rfl, hx, hr, hg⟩; have hx0 := hx.1; have hx1 := hx.2.1 (by omega); have HR := Aside0.mk hr; have HG := Aside0.mk hg; clear hx hr hg; obtain rfl | rfl | rfl : x = 0 ∨ x = 1 ∨ x = 2 := by omega)
  · have HP := Aside0.mk (show IdsOut w0 w (w1.alloc (.cells #[] 3)) g bs p (.returned (.slice (some ⟨w1.heap.size, 0, none⟩) 0 0)) from ⟨_, [], rfl, R_empty _ (blk_new _ _) HG.out.size, by decide, HR.out.grown (below_alloc (Below.refl _ _) _), World.grownBy.trans HG.out (grown_alloc _ _)⟩)
    go_wp2
    go_ret
    exact HP.out
  · have HP := Aside0.mk (show IdsOut w0 w (w1.alloc (.cells #[.int .i64 2, .int .i64 2] 3)) g bs p (.returned (.slice (some ⟨w1.heap.size, 0, none⟩) 2 2)) from ⟨_, [2, 2], rfl, R_lits (xs := [2, 2]) (blk_new _ _) HG.out.size (by decide), by decide, HR.out.grown (below_alloc (Below.refl _ _) _), World.grownBy.trans HG.out (grown_alloc _ _)⟩)
    go_wp2
    go_ret
    exact HP.out
  · have HP := Aside0.mk (show IdsOut w0 w (w1.alloc (.cells #[.int .i64 24] 3)) g bs p (.returned (.slice (some ⟨w1.heap.size, 0, none⟩) 1 1)) from ⟨_, [24], rfl, R_lits (xs := [24]) (blk_new _ _) HG.out.size (by decide), by decide, HR.out.grown (below_alloc (Below.refl _ _) _), World.grownBy.trans HG.out (grown_alloc _ _)⟩)
    go_wp2
    go_ret
    exact HP.out

structure BentMem (w0 w wr : World) (g : Nat) (bs : List Int) (v : Value) (l : List Occ) : Prop where
  own : (kX w0).R 43 wr w.heap.size (fun _ => True) v l
  rd : ∃ p, p ≤ 2000 ∧ Rd w0 wr g bs p
  gr : w.grownBy wr (some g)
  len : l.length ≤ 7
  ids : ∀ x ∈ l, x.f2.length ≤ 24
def BentOut (w0 w w' : World) (g : Nat) (bs : List Int) (e : Ending) : Prop := ∃ (v : Value) (l : List Occ), e = .returned v ∧ BentMem w0 w w' g bs v l
theorem isOk_24 {o : Occ} (h : IsOk o) : o.f2.length ≤ 24 := by
  have h2 := okO_iff.2 h
  unfold okO at h2
  simp only [Bool.and_eq_true] at h2
  have := Sf.okIds_len (by omega) h2.1
  omega

theorem kX_mix {w0 w : World} {base : Nat} {ok : Nat → Prop} {f t : Int} {ids : List Int} {v : Value} (g : (Kd.mix 3 (Kd.int .i64) (Kd.int .i64) w0).M w base ok ids [v]) : (kX w0).M w base ok ⟨f, t, ids⟩ [.int .i64 f, .int .i64 t, v] :=
  ⟨[.int .i64 f], [.int .i64 t, v], rfl, rfl, ⟨[.int .i64 t], [v], rfl, rfl, g⟩⟩
theorem bent_set {w0 w W : World} {g gl n cap : Nat} {bs : List Int} {l : List Occ} (HM : BentMem w0 w W g bs (.slice (some ⟨gl, 0, none⟩) n cap) l) (hgw : g < w.heap.size) {k : Nat} (hk : k < n) {c : List Value} (hc : c.length = 3) (hcc : ∀ j u, c[j]? = some u → W.cell? ⟨gl, k * 3 + j, none⟩ = some u)
    (j : Nat) (hj : j + 1 ≤ 3) (u : Value) (x' : Occ) (hM : (kX w0).M W w.heap.size (fun i => True ∧ i ≠ gl) x' (c.take j ++ [u] ++ c.drop (j + 1))) (hx : x'.f2.length ≤ 24) : BentMem w0 w (W.setCell ⟨gl, k * 3 + j, none⟩ u) g bs (.slice (some ⟨gl, 0, none⟩) n cap) (l.set k x') := by
  have hb := Kd.R_base HM.own gl rfl
  have h := (Kd.R_seg HM.own (k : Int) (by omega) (by omega) hc hcc (seg := [u]) (j := j) hj hM (fun _ h => h)).1
  obtain ⟨q, hq, hr⟩ := HM.rd
  have hwb := hr.base
  refine ⟨h, ⟨q, hq, rd_far hr (by omega) (by omega) _ _⟩, grown_set (n := 0) HM.gr hb, by rw [List.length_set]; exact HM.len, fun y hy => ?_⟩
  rcases List.mem_or_eq_of_mem_set hy with h | h
  · exact HM.ids y h
  · rw [h]; exact hx
theorem mix_step {α : Type} {d : Kd α} {W W' : World} {base g : Nat} {ok : Nat → Prop} {x : α} {cs : List Value} (h : d.M W base ok x cs) (hg : W.grownBy W' (some g)) (hb : g < base) : d.M W' base ok x cs :=
  d.M_mono (fun k hk => hk.1) (d.M_move (fun k hk => hg.block k hk.2.2.1 (by simp; omega)) (d.M_bound h))
theorem bent_step {w0 w W W' : World} {g : Nat} {bs : List Int} {v : Value} {l : List Occ} (HM : BentMem w0 w W g bs v l) (hgw : g < w.heap.size) (hg : W.grownBy W' (some g)) (hr : ∃ p, p ≤ 2000 ∧ Rd w0 W' g bs p) : BentMem w0 w W' g bs v l :=
  ⟨own_step HM.own hg hgw, hr, grown_new HM.gr hg (fun j hj => .inr hj.symm), HM.len, HM.ids⟩
set_option maxHeartbeats 4000000 in
set_option maxRecDepth 100000 in
theorem bent_any (w0 : World) (g : Nat) (bs : List Int) (p : Nat) (w : World) (h : Rd w0 w g bs p) (hp : p ≤ 1000) :
    Calls Tryz.prog 69 #[.pointer (some ⟨g, 0, none⟩)] w fun e w' => BentOut w0 w w' g bs e := by
  have hgw := rd_lt h
  have hw0 := h.base
  go_enter Tryz.func69, Tryz.ntmps69
  go_wp2_with (first
    | (go_at_call 77; refine (num_any w0 g bs (q1 + 1 + 1) _ 2 [0, x.f1 + 1] _ (HR3.out.grown (below_alloc (Below.refl _ _) _)) (by omega) (by simp) (by simp) (fun w' hg' => blk_C (xs := [0, x.f1 + 1]) (blk_grown (blk_new w3 _) hg' (by have := rd_lt HR3.out; simp; omega)) (by simp))).mono ?_; rintro e w4 ⟨nv, rfl, _, hr4, hg4⟩; have HG4 := Aside0.mk (World.grownBy.trans (grown_alloc (w := w3) _ (some g)) hg4); have hcb : w4.heap[gl]? = w3.heap[gl]? := HG4.out.block gl hgl (by simp; omega); have HB4 := Aside0.mk (bent_step HB3.out hgw HG4.out ⟨_, by omega, hr4⟩); have HX4 := Aside0.mk (mix_step HX.out HG4.out hgw); have HCC4 := Aside0.mk (show ∀ (j : Nat) (u : Value), [Value.int .i64 x.f0, Value.int .i64 x.f1, vk][j]? = some u → w4.cell? ⟨gl, k * 3 + j, none⟩ = some u from fun j u h => (World.cell?_of_block hcb).trans (HCC.out j u h)); have d0' : w4.cell? ⟨gl, k * 3, none⟩ = some (.int .i64 x.f0) := HCC4.out 0 _ rfl; have d2' : w4.cell? ⟨gl, k * 3 + 2, none⟩ = some vk := HCC4.out 2 _ rfl; have z0' : w4.frozen? ⟨gl, k * 3, none⟩ = false := (World.frozen?_of_block hcb).trans z0; have z2' : w4.frozen? ⟨gl, k * 3 + 2, none⟩ = false := (World.frozen?_of_block hcb).trans z2)
    | (go_at_call 112; refine (r0_any w0 g bs (q1 + 1 + 1) _ HR3.out (by omega)).mono ?_; rintro e w4 ⟨v4, ids, rfl, ho4, hl4, hr4, hg4⟩; obtain ⟨A4, c4, rfl⟩ := Kd.R_slice ho4; have HO4 := Aside0.mk ho4; have HG4 := Aside0.mk hg4; have hcb : w4.heap[gl]? = w3.heap[gl]? := HG4.out.block gl hgl (by simp; omega); have HB4 := Aside0.mk (bent_step HB3.out hgw HG4.out ⟨_, by omega, hr4⟩); have HX4 := Aside0.mk (mix_step HX.out HG4.out hgw); have HCC4 := Aside0.mk (show ∀ (j : Nat) (u : Value), [Value.int .i64 x.f0, Value.int .i64 x.f1, vk][j]? = some u → w4.cell? ⟨gl, k * 3 + j, none⟩ = some u from fun j u h => (World.cell?_of_block hcb).trans (HCC.out j u h)); have d0' : w4.cell? ⟨gl, k * 3, none⟩ = some (.int .i64 x.f0) := HCC4.out 0 _ rfl; have d2' : w4.cell? ⟨gl, k * 3 + 2, none⟩ = some vk := HCC4.out 2 _ rfl; have z0' : w4.frozen? ⟨gl, k * 3, none⟩ = false := (World.frozen?_of_block hcb).trans z0; have z2' : w4.frozen? ⟨gl, k * 3 + 2, none⟩ = false := (World.frozen?_of_block hcb).trans z2)
    | ((with_reducible refine gate_dst (N := 47) rfl ?_); refine Kd.R_append (kX w0) (w0 := w3) w.heap.size rfl _ _ 23 43 (.agg #[.int .i64 0, .int .i64 0, .slice none 0 0]) 40 rfl Tryz.underlying23 (infoX w0) rfl (szX w0) (by decide) (.slice (some ⟨gl, 0, none⟩) l.length c1) l xz [.int .i64 xz.f0, .int .i64 xz.f1, .slice Az xz.f2.length cz2] (fun _ => True) (fun i => True ∧ i ≠ gl) rfl rfl HZM.out (fun i hi => ⟨trivial, fun h => hi.2 (by simpa [Value.ownBlock] using h)⟩) (fun _ _ => trivial) HB3.out.own (Below.refl _ _) (by have := HB3.out.gr.size; omega) (by have := HB3.out.len; omega) ?_; intro v5 w5 hr5 _ hg5 _; obtain ⟨A5, c5, rfl⟩ := Kd.R_slice hr5; rw [List.length_append, List.length_singleton] at hr5; have HP := Aside0.mk (show BentOut w0 w w5 g bs (.returned (.slice A5 (l.length + 1) c5)) from ⟨_, _, rfl, ⟨hr5, ⟨q1 + 1 + 1, by omega, rd_keep HR3.out hg5 (fun j hj => by have hj2 : gl = j := by { simpa [Value.ownBlock] using hj }; omega)⟩, grown_new HB3.out.gr hg5 (fun j hj => by have hj2 : gl = j := by { simpa [Value.ownBlock] using hj }; exact .inl (by omega)), by simp; omega, fun y hy => by rcases List.mem_append.1 hy with h | h; exact HB3.out.ids y h; rw [List.mem_singleton.1 h]; exact HZ24.out⟩⟩))
    | (go_at_call 41; refine (pick_any w0 g bs (q1 + 1) 40 _ HR2.out (by omega) (by omega)).mono ?_; rintro e w3 ⟨y, rfl, hy, hr3, hg3⟩; have hy0 := hy.1; have hy1 := hy.2.1 (by omega); have HM3 : Aside0 (SomeMem w0 w w3 g bs (q1 + 2) (.slice A1 l.length c1) l) := ⟨⟨own_step HO2.out hg3 hgw, ⟨_, Nat.le_refl _, hr3⟩, grown_new HG2.out hg3 (fun j hj => .inr hj.symm), HK1.out⟩⟩; have HR3 := Aside0.mk hr3; clear hy hr3 hg3; obtain ⟨gl, capl, hv, hbl, hgl, cl, hcl⟩ := Kd.R_form HM3.out.own hl0; cases hv; obtain ⟨c, hc1, hMk, hcc, hfz⟩ := Kd.R_elem HM3.out.own zO (k : Int) (by omega) (by omega); simp only [Int.toNat_natCast] at hMk hcc hfz; have hxm : l.getD k zO ∈ l := by { rw [List.getD_eq_getElem?_getD, List.getElem?_eq_getElem hkl]; exact List.getElem_mem _ }; have hxo := HK1.out.all _ hxm; generalize l.getD k zO = x at hMk hxo; obtain ⟨vk, rfl, hmix⟩ := kX_openM hMk; have HX := Aside0.mk hmix; have d0 : w3.cell? ⟨gl, k * 3, none⟩ = some (.int .i64 x.f0) := hcc 0 _ rfl; have d1 : w3.cell? ⟨gl, k * 3 + 1, none⟩ = some (.int .i64 x.f1) := hcc 1 _ rfl; have z0 : w3.frozen? ⟨gl, k * 3, none⟩ = false := hfz 0; have z1 : w3.frozen? ⟨gl, k * 3 + 1, none⟩ = false := hfz 1; have z2 : w3.frozen? ⟨gl, k * 3 + 2, none⟩ = false := hfz 2; have hxt : 0 ≤ x.f1 ∧ x.f1 ≤ 2000 := ⟨by { have := hxo.f1; have := hxo.ft; omega }, hxo.t2⟩; have hx24 := isOk_24 hxo; have HB3 : Aside0 (BentMem w0 w w3 g bs (.slice (some ⟨gl, 0, none⟩) l.length c1) l) := ⟨⟨HM3.out.own, ⟨q1 + 1 + 1, by omega, HR3.out⟩, HM3.out.gr, by omega, fun y hy => isOk_24 (HK1.out.all y hy)⟩⟩; have HCC := Aside0.mk hcc; obtain ⟨cz, hz1, hzM, hzc, _⟩ := Kd.R_elem HM3.out.own zO 0 (by omega) (by omega); simp only [Int.toNat_zero, Nat.zero_mul, Nat.zero_add] at hzM hzc; obtain ⟨Az, cz2, rfl, _, _⟩ := kO_open (kX_read HR3.out.below ((kX w0).K_of_M hzM)); have hzm : l.getD 0 zO ∈ l := by { rw [List.getD_eq_getElem?_getD, List.getElem?_eq_getElem hl0]; exact List.getElem_mem _ }; generalize l.getD 0 zO = xz at hzM hzc hzm; have y0 : w3.cell? ⟨gl, 0, none⟩ = some (.int .i64 xz.f0) := hzc 0 _ rfl; have y1 : w3.cell? ⟨gl, 1, none⟩ = some (.int .i64 xz.f1) := hzc 1 _ rfl; have y2 : w3.cell? ⟨gl, 2, none⟩ = some (.slice Az xz.f2.length cz2) := hzc 2 _ rfl; have HZM := Aside0.mk hzM; have HZ24 := Aside0.mk (isOk_24 (HK1.out.all _ hzm)); clear hz1 hzM hzc hzm; clear hc1 hMk hcc hfz hmix hxm hxo; obtain rfl | rfl | rfl | rfl | ⟨b0, b1, b2, b3⟩ : y = 0 ∨ y = 1 ∨ y = 2 ∨ y = 3 ∨ ((y == 0) = false ∧ (y == 1) = false ∧ (y == 2) = false ∧ (y == 3) = false) := by { simp only [beq_eq_false_iff_ne]; omega })
    | (go_at_call 41; refine (pick_any w0 g bs q1 l.length _ HR1.out (by omega) (by omega)).mono ?_; rintro e w2 ⟨x, rfl, hx, hr2, hg2⟩; obtain ⟨k, rfl⟩ := Int.eq_ofNat_of_zero_le hx.1; have hkl : k < l.length := by { have := hx.2.1 (by omega); omega }; have HR2 := Aside0.mk hr2; have HO2 := Aside0.mk (own_step HO1.out hg2 hgw); have HG2 := Aside0.mk (grown_new HG1.out hg2 (fun j hj => .inr hj.symm)); clear hx hr2 hg2)
    | (go_at_call 78; refine (some_any w0 g bs p 6 _ h (by omega) (by omega)).mono ?_; rintro e w1 ⟨v1, l, rfl, hl1, ⟨ho1, ⟨q1, hq1, hr1⟩, hg1, hk1⟩⟩; obtain ⟨A1, c1, rfl⟩ := Kd.R_slice ho1; have HO1 := Aside0.mk ho1; have HR1 := Aside0.mk hr1; have HG1 := Aside0.mk hg1; have HK1 := Aside0.mk hk1; clear ho1 hr1 hg1 hk1; obtain hl0 | hl0 : l = [] ∨ 0 < l.length := by { rcases l with _ | ⟨x, l⟩; exact .inl rfl; exact .inr (by simp) }))
  · have HP := Aside0.mk (show BentOut w0 w w1 g bs (.returned (.slice A1 l.length c1)) from ⟨_, l, rfl, ⟨HO1.out, ⟨q1, by omega, HR1.out⟩, HG1.out, by omega, fun x hx => isOk_24 (HK1.out.all x hx)⟩⟩)
    subst hl0
    go_wp2
    go_ret
    exact HP.out
  · have HP := Aside0.mk (show BentOut w0 w (w4.setCell ⟨gl, k * 3, none⟩ (.int .i64 nv)) g bs (.returned (.slice (some ⟨gl, 0, none⟩) l.length c1)) from ⟨_, _, rfl, bent_set HB4.out hgw hkl (c := [.int .i64 x.f0, .int .i64 x.f1, vk]) rfl HCC4.out 0 (by omega) (.int .i64 nv) ⟨nv, x.f1, x.f2⟩ (kX_mix HX4.out) hx24⟩)
    go_ret
    exact HP.out
  · have HP := Aside0.mk (show BentOut w0 w (w4.setCell ⟨gl, k * 3 + 2, none⟩ (.slice A4 ids.length c4)) g bs (.returned (.slice (some ⟨gl, 0, none⟩) l.length c1)) from ⟨_, _, rfl, bent_set HB4.out hgw hkl (c := [.int .i64 x.f0, .int .i64 x.f1, vk]) rfl HCC4.out 2 (by omega) (.slice A4 ids.length c4) ⟨x.f0, x.f1, ids⟩ (kX_made ⟨x.f0, x.f1, ids⟩ (Kd.R_lower (Kd.R_mono (Kd.R_bound HO4.out) (fun j hj => ⟨trivial, by have := hj.2.1; omega⟩)) (by have := HB3.out.gr.size; omega))) (by show ids.length ≤ 24; omega)⟩)
    go_ret
    exact HP.out
  · go_ret
    exact HP.out
  · have HP := Aside0.mk (show BentOut w0 w (w3.setCell ⟨gl, k * 3 + 1, none⟩ (.int .i64 2001)) g bs (.returned (.slice (some ⟨gl, 0, none⟩) l.length c1)) from ⟨_, _, rfl, bent_set HB3.out hgw hkl (c := [.int .i64 x.f0, .int .i64 x.f1, vk]) rfl HCC.out 1 (by omega) (.int .i64 2001) ⟨x.f0, 2001, x.f2⟩ (kX_mix HX.out) hx24⟩)
    go_ret
    exact HP.out
  · have HP := Aside0.mk (show BentOut w0 w w3 g bs (.returned (.slice (some ⟨gl, 0, none⟩) l.length c1)) from ⟨_, _, rfl, HB3.out⟩)
    go_ret
    exact HP.out
end Go.Proofs.YtccenpmaooailaaGreat.Sl

/- l3Bent again, further on. -/
set_option linter.unusedVariables false
set_option linter.unusedSimpArgs false
namespace Go.Proofs.YtccenpmaooailaaGreat.Sl2
open Go.RowKit Go.Proofs.YtccenpmaooailaaGreatW.PrintWords Go.Proofs.YtccenpmaooailaaGreat.Wd Go.Proofs.YtccenpmaooailaaGreat.Pu Go.Proofs.YtccenpmaooailaaGreat.Ca Go.Proofs.YtccenpmaooailaaGreat.Cg Go.Proofs.YtccenpmaooailaaGreat.Cf Go.Proofs.YtccenpmaooailaaGreat.Ce Go.Proofs.YtccenpmaooailaaGreat.Cp Go.Proofs.YtccenpmaooailaaGreat.Sa Go.Proofs.YtccenpmaooailaaGreat.Sb Go.Proofs.YtccenpmaooailaaGreat.Sc Go.Proofs.YtccenpmaooailaaGreat.Sh Go.Proofs.YtccenpmaooailaaGreat.Si Go.Proofs.YtccenpmaooailaaGreat.Sj Go.Proofs.YtccenpmaooailaaGreat.Sk Go.Proofs.YtccenpmaooailaaGreat.Sl
structure BentMem2 (w0 w wr : World) (g : Nat) (bs : List Int) (v : Value) (l : List Occ) : Prop where
  own : (kX w0).R 43 wr w.heap.size (fun _ => True) v l
  rd : ∃ p, p ≤ 40000 ∧ Rd w0 wr g bs p
  gr : w.grownBy wr (some g)
  len : l.length ≤ 7
  ids : ∀ x ∈ l, x.f2.length ≤ 24
def BentOut2 (w0 w w' : World) (g : Nat) (bs : List Int) (e : Ending) : Prop := ∃ (v : Value) (l : List Occ), e = .returned v ∧ BentMem2 w0 w w' g bs v l
theorem bent_set2 {w0 w W : World} {g gl n cap : Nat} {bs : List Int} {l : List Occ} (HM : BentMem2 w0 w W g bs (.slice (some ⟨gl, 0, none⟩) n cap) l) (hgw : g < w.heap.size) {k : Nat} (hk : k < n) {c : List Value} (hc : c.length = 3) (hcc : ∀ j u, c[j]? = some u → W.cell? ⟨gl, k * 3 + j, none⟩ = some u)
    (j : Nat) (hj : j + 1 ≤ 3) (u : Value) (x' : Occ) (hM : (kX w0).M W w.heap.size (fun i => True ∧ i ≠ gl) x' (c.take j ++ [u] ++ c.drop (j + 1))) (hx : x'.f2.length ≤ 24) : BentMem2 w0 w (W.setCell ⟨gl, k * 3 + j, none⟩ u) g bs (.slice (some ⟨gl, 0, none⟩) n cap) (l.set k x') := by
  have hb := Kd.R_base HM.own gl rfl
  have h := (Kd.R_seg HM.own (k : Int) (by omega) (by omega) hc hcc (seg := [u]) (j := j) hj hM (fun _ h => h)).1
  obtain ⟨q, hq, hr⟩ := HM.rd
  have hwb := hr.base
  refine ⟨h, ⟨q, hq, rd_far hr (by omega) (by omega) _ _⟩, grown_set (n := 0) HM.gr hb, by rw [List.length_set]; exact HM.len, fun y hy => ?_⟩
  rcases List.mem_or_eq_of_mem_set hy with h | h
  · exact HM.ids y h
  · rw [h]; exact hx
theorem bent_step2 {w0 w W W' : World} {g : Nat} {bs : List Int} {v : Value} {l : List Occ} (HM : BentMem2 w0 w W g bs v l) (hgw : g < w.heap.size) (hg : W.grownBy W' (some g)) (hr : ∃ p, p ≤ 40000 ∧ Rd w0 W' g bs p) : BentMem2 w0 w W' g bs v l :=
  ⟨own_step HM.own hg hgw, hr, grown_new HM.gr hg (fun j hj => .inr hj.symm), HM.len, HM.ids⟩
set_option maxHeartbeats 4000000 in
set_option maxRecDepth 100000 in
theorem bent_any2 (w0 : World) (g : Nat) (bs : List Int) (p : Nat) (w : World) (h : Rd w0 w g bs p) (hp : p ≤ 20000) :
    Calls Tryz.prog 69 #[.pointer (some ⟨g, 0, none⟩)] w fun e w' => BentOut2 w0 w w' g bs e := by
  have hgw := rd_lt h
  have hw0 := h.base
  go_enter Tryz.func69, Tryz.ntmps69
  go_wp2_with (first
    | (go_at_call 77; refine (num_any w0 g bs (q1 + 1 + 1) _ 2 [0, x.f1 + 1] _ (HR3.out.grown (below_alloc (Below.refl _ _) _)) (by omega) (by simp) (by simp) (fun w' hg' => blk_C (xs := [0, x.f1 + 1]) (blk_grown (blk_new w3 _) hg' (by have := rd_lt HR3.out; simp; omega)) (by simp))).mono ?_; rintro e w4 ⟨nv, rfl, _, hr4, hg4⟩; have HG4 := Aside0.mk (World.grownBy.trans (grown_alloc (w := w3) _ (some g)) hg4); have hcb : w4.heap[gl]? = w3.heap[gl]? := HG4.out.block gl hgl (by simp; omega); have HB4 := Aside0.mk (bent_step2 HB3.out hgw HG4.out ⟨_, by omega, hr4⟩); have HX4 := Aside0.mk (mix_step HX.out HG4.out hgw); have HCC4 := Aside0.mk (show ∀ (j : Nat) (u : Value), [Value.int .i64 x.f0, Value.int .i64 x.f1, vk][j]? = some u → w4.cell? ⟨gl, k * 3 + j, none⟩ = some u from fun j u h => (World.cell?_of_block hcb).trans (HCC.out j u h)); have d0' : w4.cell? ⟨gl, k * 3, none⟩ = some (.int .i64 x.f0) := HCC4.out 0 _ rfl; have d2' : w4.cell? ⟨gl, k * 3 + 2, none⟩ = some vk := HCC4.out 2 _ rfl; have z0' : w4.frozen? ⟨gl, k * 3, none⟩ = false := (World.frozen?_of_block hcb).trans z0; have z2' : w4.frozen? ⟨gl, k * 3 + 2, none⟩ = false := (World.frozen?_of_block hcb).trans z2)
    | (go_at_call 112; refine (r0_any w0 g bs (q1 + 1 + 1) _ HR3.out (by omega)).mono ?_; rintro e w4 ⟨v4, ids, rfl, ho4, hl4, hr4, hg4⟩; obtain ⟨A4, c4, rfl⟩ := Kd.R_slice ho4; have HO4 := Aside0.mk ho4; have HG4 := Aside0.mk hg4; have hcb : w4.heap[gl]? = w3.heap[gl]? := HG4.out.block gl hgl (by simp; omega); have HB4 := Aside0.mk (bent_step2 HB3.out hgw HG4.out ⟨_, by omega, hr4⟩); have HX4 := Aside0.mk (mix_step HX.out HG4.out hgw); have HCC4 := Aside0.mk (show ∀ (j : Nat) (u : Value), [Value.int .i64 x.f0, Value.int .i64 x.f1, vk][j]? = some u → w4.cell? ⟨gl, k * 3 + j, none⟩ = some u from fun j u h => (World.cell?_of_block hcb).trans (HCC.out j u h)); have d0' : w4.cell? ⟨gl, k * 3, none⟩ = some (.int .i64 x.f0) := HCC4.out 0 _ rfl; have d2' : w4.cell? ⟨gl, k * 3 + 2, none⟩ = some vk := HCC4.out 2 _ rfl; have z0' : w4.frozen? ⟨gl, k * 3, none⟩ = false := (World.frozen?_of_block hcb).trans z0; have z2' : w4.frozen? ⟨gl, k * 3 + 2, none⟩ = false := (World.frozen?_of_block hcb).trans z2)
    | ((with_reducible refine gate_dst (N := 47) rfl ?_); refine Kd.R_append (kX w0) (w0 := w3) w.heap.size rfl _ _ 23 43 (.agg #[.int .i64 0, .int .i64 0, .slice none 0 0]) 40 rfl Tryz.underlying23 (infoX w0) rfl (szX w0) (by decide) (.slice (some ⟨gl, 0, none⟩) l.length c1) l xz [.int .i64 xz.f0, .int .i64 xz.f1, .slice Az xz.f2.length cz2] (fun _ => True) (fun i => True ∧ i ≠ gl) rfl rfl HZM.out (fun i hi => ⟨trivial, fun h => hi.2 (by simpa [Value.ownBlock] using h)⟩) (fun _ _ => trivial) HB3.out.own (Below.refl _ _) (by have := HB3.out.gr.size; omega) (by have := HB3.out.len; omega) ?_; intro v5 w5 hr5 _ hg5 _; obtain ⟨A5, c5, rfl⟩ := Kd.R_slice hr5; rw [List.length_append, List.length_singleton] at hr5; have HP := Aside0.mk (show BentOut2 w0 w w5 g bs (.returned (.slice A5 (l.length + 1) c5)) from ⟨_, _, rfl, ⟨hr5, ⟨q1 + 1 + 1, by omega, rd_keep HR3.out hg5 (fun j hj => by have hj2 : gl = j := by { simpa [Value.ownBlock] using hj }; omega)⟩, grown_new HB3.out.gr hg5 (fun j hj => by have hj2 : gl = j := by { simpa [Value.ownBlock] using hj }; exact .inl (by omega)), by simp; omega, fun y hy => by rcases List.mem_append.1 hy with h | h; exact HB3.out.ids y h; rw [List.mem_singleton.1 h]; exact HZ24.out⟩⟩))
    | (go_at_call 41; refine (pick_any w0 g bs (q1 + 1) 40 _ HR2.out (by omega) (by omega)).mono ?_; rintro e w3 ⟨y, rfl, hy, hr3, hg3⟩; have hy0 := hy.1; have hy1 := hy.2.1 (by omega); have HM3 : Aside0 (SomeMem w0 w w3 g bs (q1 + 2) (.slice A1 l.length c1) l) := ⟨⟨own_step HO2.out hg3 hgw, ⟨_, Nat.le_refl _, hr3⟩, grown_new HG2.out hg3 (fun j hj => .inr hj.symm), HK1.out⟩⟩; have HR3 := Aside0.mk hr3; clear hy hr3 hg3; obtain ⟨gl, capl, hv, hbl, hgl, cl, hcl⟩ := Kd.R_form HM3.out.own hl0; cases hv; obtain ⟨c, hc1, hMk, hcc, hfz⟩ := Kd.R_elem HM3.out.own zO (k : Int) (by omega) (by omega); simp only [Int.toNat_natCast] at hMk hcc hfz; have hxm : l.getD k zO ∈ l := by { rw [List.getD_eq_getElem?_getD, List.getElem?_eq_getElem hkl]; exact List.getElem_mem _ }; have hxo := HK1.out.all _ hxm; generalize l.getD k zO = x at hMk hxo; obtain ⟨vk, rfl, hmix⟩ := kX_openM hMk; have HX := Aside0.mk hmix; have d0 : w3.cell? ⟨gl, k * 3, none⟩ = some (.int .i64 x.f0) := hcc 0 _ rfl; have d1 : w3.cell? ⟨gl, k * 3 + 1, none⟩ = some (.int .i64 x.f1) := hcc 1 _ rfl; have z0 : w3.frozen? ⟨gl, k * 3, none⟩ = false := hfz 0; have z1 : w3.frozen? ⟨gl, k * 3 + 1, none⟩ = false := hfz 1; have z2 : w3.frozen? ⟨gl, k * 3 + 2, none⟩ = false := hfz 2; have hxt : 0 ≤ x.f1 ∧ x.f1 ≤ 2000 := ⟨by { have := hxo.f1; have := hxo.ft; omega }, hxo.t2⟩; have hx24 := isOk_24 hxo; have HB3 : Aside0 (BentMem2 w0 w w3 g bs (.slice (some ⟨gl, 0, none⟩) l.length c1) l) := ⟨⟨HM3.out.own, ⟨q1 + 1 + 1, by omega, HR3.out⟩, HM3.out.gr, by omega, fun y hy => isOk_24 (HK1.out.all y hy)⟩⟩; have HCC := Aside0.mk hcc; obtain ⟨cz, hz1, hzM, hzc, _⟩ := Kd.R_elem HM3.out.own zO 0 (by omega) (by omega); simp only [Int.toNat_zero, Nat.zero_mul, Nat.zero_add] at hzM hzc; obtain ⟨Az, cz2, rfl, _, _⟩ := kO_open (kX_read HR3.out.below ((kX w0).K_of_M hzM)); have hzm : l.getD 0 zO ∈ l := by { rw [List.getD_eq_getElem?_getD, List.getElem?_eq_getElem hl0]; exact List.getElem_mem _ }; generalize l.getD 0 zO = xz at hzM hzc hzm; have y0 : w3.cell? ⟨gl, 0, none⟩ = some (.int .i64 xz.f0) := hzc 0 _ rfl; have y1 : w3.cell? ⟨gl, 1, none⟩ = some (.int .i64 xz.f1) := hzc 1 _ rfl; have y2 : w3.cell? ⟨gl, 2, none⟩ = some (.slice Az xz.f2.length cz2) := hzc 2 _ rfl; have HZM := Aside0.mk hzM; have HZ24 := Aside0.mk (isOk_24 (HK1.out.all _ hzm)); clear hz1 hzM hzc hzm; clear hc1 hMk hcc hfz hmix hxm hxo; obtain rfl | rfl | rfl | rfl | ⟨b0, b1, b2, b3⟩ : y = 0 ∨ y = 1 ∨ y = 2 ∨ y = 3 ∨ ((y == 0) = false ∧ (y == 1) = false ∧ (y == 2) = false ∧ (y == 3) = false) := by { simp only [beq_eq_false_iff_ne]; omega })
    | (go_at_call 41; refine (pick_any w0 g bs q1 l.length _ HR1.out (by omega) (by omega)).mono ?_; rintro e w2 ⟨x, rfl, hx, hr2, hg2⟩; obtain ⟨k, rfl⟩ := Int.eq_ofNat_of_zero_le hx.1; have hkl : k < l.length := by { have := hx.2.1 (by omega); omega }; have HR2 := Aside0.mk hr2; have HO2 := Aside0.mk (own_step HO1.out hg2 hgw); have HG2 := Aside0.mk (grown_new HG1.out hg2 (fun j hj => .inr hj.symm)); clear hx hr2 hg2)
    | (go_at_call 78; refine (some_any w0 g bs p 6 _ h (by omega) (by omega)).mono ?_; rintro e w1 ⟨v1, l, rfl, hl1, ⟨ho1, ⟨q1, hq1, hr1⟩, hg1, hk1⟩⟩; obtain ⟨A1, c1, rfl⟩ := Kd.R_slice ho1; have HO1 := Aside0.mk ho1; have HR1 := Aside0.mk hr1; have HG1 := Aside0.mk hg1; have HK1 := Aside0.mk hk1; clear ho1 hr1 hg1 hk1; obtain hl0 | hl0 : l = [] ∨ 0 < l.length := by { rcases l with _ | ⟨x, l⟩; exact .inl rfl; exact .inr (by simp) }))
  · have HP := Aside0.mk (show BentOut2 w0 w w1 g bs (.returned (.slice A1 l.length c1)) from ⟨_, l, rfl, ⟨HO1.out, ⟨q1, by omega, HR1.out⟩, HG1.out, by omega, fun x hx => isOk_24 (HK1.out.all x hx)⟩⟩)
    subst hl0
    go_wp2
    go_ret
    exact HP.out
  · have HP := Aside0.mk (show BentOut2 w0 w (w4.setCell ⟨gl, k * 3, none⟩ (.int .i64 nv)) g bs (.returned (.slice (some ⟨gl, 0, none⟩) l.length c1)) from ⟨_, _, rfl, bent_set2 HB4.out hgw hkl (c := [.int .i64 x.f0, .int .i64 x.f1, vk]) rfl HCC4.out 0 (by omega) (.int .i64 nv) ⟨nv, x.f1, x.f2⟩ (kX_mix HX4.out) hx24⟩)
    go_ret
    exact HP.out
  · have HP := Aside0.mk (show BentOut2 w0 w (w4.setCell ⟨gl, k * 3 + 2, none⟩ (.slice A4 ids.length c4)) g bs (.returned (.slice (some ⟨gl, 0, none⟩) l.length c1)) from ⟨_, _, rfl, bent_set2 HB4.out hgw hkl (c := [.int .i64 x.f0, .int .i64 x.f1, vk]) rfl HCC4.out 2 (by omega) (.slice A4 ids.length c4) ⟨x.f0, x.f1, ids⟩ (kX_made ⟨x.f0, x.f1, ids⟩ (Kd.R_lower (Kd.R_mono (Kd.R_bound HO4.out) (fun j hj => ⟨trivial, by have := hj.2.1; omega⟩)) (by have := HB3.out.gr.size; omega))) (by show ids.length ≤ 24; omega)⟩)
    go_ret
    exact HP.out
  · go_ret
    exact HP.out
  · have HP := Aside0.mk (show BentOut2 w0 w (w3.setCell ⟨gl, k * 3 + 1, none⟩ (.int .i64 2001)) g bs (.returned (.slice (some ⟨gl, 0, none⟩) l.length c1)) from ⟨_, _, rfl, bent_set2 HB3.out hgw hkl (c := [.int .i64 x.f0, .int .i64 x.f1, vk]) rfl HCC.out 1 (by omega) (.int .i64 2001) ⟨x.f0, 2001, x.f2⟩ (kX_mix HX.out) hx24⟩)
    go_ret
    exact HP.out
  · have HP := Aside0.mk (show BentOut2 w0 w w3 g bs (.returned (.slice (some ⟨gl, 0, none⟩) l.length c1)) from ⟨_, _, rfl, HB3.out⟩)
    go_ret
    exact HP.out
end Go.Proofs.YtccenpmaooailaaGreat.Sl2

/- The reference's draws: DrawOccOk, DrawOccsOk. -/
set_option linter.unusedVariables false
set_option linter.unusedSimpArgs false
namespace Go.Proofs.YtccenpmaooailaaGreat.Sm
open Go.RowKit Go.Proofs.YtccenpmaooailaaGreatW.PrintWords Go.Proofs.YtccenpmaooailaaGreat.Wd Go.Proofs.YtccenpmaooailaaGreat.Pu Go.Proofs.YtccenpmaooailaaGreat.Ca Go.Proofs.YtccenpmaooailaaGreat.Cg Go.Proofs.YtccenpmaooailaaGreat.Cf Go.Proofs.YtccenpmaooailaaGreat.Ce Go.Proofs.YtccenpmaooailaaGreat.Cp Go.Proofs.YtccenpmaooailaaGreat.Sa Go.Proofs.YtccenpmaooailaaGreat.Sb Go.Proofs.YtccenpmaooailaaGreat.Sc Go.Proofs.YtccenpmaooailaaGreat.Sh Go.Proofs.YtccenpmaooailaaGreat.Si Go.Proofs.YtccenpmaooailaaGreat.Sj Go.Proofs.YtccenpmaooailaaGreat.Sk Go.Proofs.YtccenpmaooailaaGreat.Sl

/-- a list as it was drawn -/
def ListOut (w w' : World) (e : Ending) : Prop := ∃ (l : List Occ) (A : Option Addr) (c : Nat), e = .returned (.slice A l.length c) ∧ IsL w' l A c ∧ l.length ≤ 7 ∧ (∀ x ∈ l, x.f2.length ≤ 24) ∧ Below w.heap.size w w'
end Go.Proofs.YtccenpmaooailaaGreat.Sm

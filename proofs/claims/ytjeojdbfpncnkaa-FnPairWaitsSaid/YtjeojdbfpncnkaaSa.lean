/- The reference's kit: what draws from bytes comes to. One walk each. -/
import Derived.Test.YtjeojdbfpncnkaaCg
import Derived.Laws.BitsAllLaws
set_option linter.unusedVariables false
set_option linter.unusedSimpArgs false
namespace Go.Proofs.Ytjeojdbfpncnkaa.Sa
open Go.RowKit Go.Proofs.YtjeojdbfpncnkaaW.PrintWords Go.Proofs.Ytjeojdbfpncnkaa.Wd Go.Proofs.Ytjeojdbfpncnkaa.Pu Go.Proofs.Ytjeojdbfpncnkaa.Ca Go.Proofs.Ytjeojdbfpncnkaa.Cg

/-- what draws: its bytes (those of the memory w0) and how many were drawn -/
structure Rd (w0 w : World) (g : Nat) (bs : List Int) (p : Nat) : Prop where
  mem : ∃ A c, w.heap[g]? = some (.cells #[.slice A bs.length c, .int .i64 p] 83 (0, 0)) ∧ (Kd.int .u8).C w0 A bs.length bs
  base : w0.heap.size ≤ g
  below : Below w0.heap.size w0 w
  byt : ∀ b ∈ bs, 0 ≤ b ∧ b ≤ 255
  len : bs.length ≤ 2000
theorem Rd.grown {w0 w w' : World} {g : Nat} {bs : List Int} {p : Nat} (h : Rd w0 w g bs p) (hb : Below w.heap.size w w') : Rd w0 w' g bs p := by
  obtain ⟨A, c, hg, hC⟩ := h.mem
  exact ⟨⟨A, c, blk_below hg hb, hC⟩, h.base, below_then h.below h.below.size hb, h.byt, h.len⟩
theorem Rd.step {w0 w : World} {g : Nat} {bs : List Int} {p : Nat} (h : Rd w0 w g bs p) (q : Nat) : Rd w0 (w.setCell ⟨g, 1, none⟩ (.int .i64 q)) g bs q ∧ w.grownBy (w.setCell ⟨g, 1, none⟩ (.int .i64 q)) (some g) := by
  obtain ⟨A, c, hg, hC⟩ := h.mem
  refine ⟨⟨⟨A, c, blk_put hg 1 _ rfl, hC⟩, h.base, h.below.setCell (p := ⟨g, 1, none⟩) h.base _, h.byt, h.len⟩, rfl, rfl, rfl, by simp [World.setCell], fun k hk hne => Below.heap_setCell w ⟨g, 1, none⟩ _ k (fun e => hne (by rw [e]))⟩

theorem at8 {w : World} {A : Option Addr} {n : Nat} {xs : List Int} (h : (Kd.int .u8).C w A n xs) (k : Nat) (hk : k < n) : ∃ ad, A = some ad ∧ w.cell? (ad.add k) = some (.int .u8 (xs.getD k 0)) := by
  obtain ⟨ad, e, hc⟩ := h.2.2 (by omega)
  have hl := h.1
  obtain ⟨c, h1, h2, h3⟩ := hc k (xs.getD k 0) (by rw [List.getD_eq_getElem?_getD, List.getElem?_eq_getElem (by omega)]; rfl)
  refine ⟨ad, e, ?_⟩
  have h2' : c = [.int .u8 (xs.getD k 0)] := h2
  have := h3 0 (.int .u8 (xs.getD k 0)) (by rw [h2']; rfl)
  simpa [show (Kd.int .u8).sz = 1 from rfl] using this

def mix (bs : List Int) (p : Nat) : Int :=
  bs.getD (p % bs.length) 0 * 131 + bs.getD ((p * 7 + 3) % bs.length) 0 * 1117 + p * 29 + ((p / bs.length : Nat) : Int) * 53

theorem xor_ge (a b : Int) (h1 : 0 ≤ a) (h2 : a < 4611686018427387904) (h3 : 0 ≤ b) (h4 : b < 4611686018427387904) : 0 ≤ bits .xor .i64 a b := by
  obtain ⟨x, rfl⟩ := Int.eq_ofNat_of_zero_le h1
  obtain ⟨y, rfl⟩ := Int.eq_ofNat_of_zero_le h3
  have hx : x ^^^ y < 2 ^ 62 := Nat.xor_lt_two_pow (by omega) (by omega)
  show 0 ≤ IntKind.i64.wrap ((BitVec.ofInt 64 (x : Int) ^^^ BitVec.ofInt 64 (y : Int)).toNat : Int)
  rw [BitVec.toNat_xor, ofInt_u64 x (by omega), ofInt_u64 y (by omega), IntKind.wrap_i64]
  omega
def PickOk (n x : Int) : Prop := 0 ≤ x ∧ (1 ≤ n → x < n) ∧ (n < 1 → x = 0)
theorem pickOk_zero {n : Int} : PickOk n 0 := ⟨by omega, by omega, fun _ => rfl⟩
theorem pickOk_mod {n y : Int} (hn : 0 < n) : PickOk n (y % n) := ⟨Int.emod_nonneg _ (by omega), fun _ => Int.emod_lt_of_pos _ (by omega), fun h => by omega⟩
set_option maxRecDepth 100000 in
theorem pick_any (w0 : World) (g : Nat) (bs : List Int) (p : Nat) (n : Int) (w : World) (h : Rd w0 w g bs p) (hp : p < 100000) (hn : n ≤ 1000000) :
    Calls Try.prog 36 #[.pointer (some ⟨g, 0, none⟩), .int .i64 n] w fun e w' =>
      ∃ x : Int, e = .returned (.int .i64 x) ∧ PickOk n x ∧ Rd w0 w' g bs (p + 1) ∧ w.grownBy w' (some g) := by
  obtain ⟨A, c, hg, hC⟩ := h.mem
  have c0 : w.cell? ⟨g, 0, none⟩ = some (.slice A bs.length c) := blk_cell hg 0
  have c1 : w.cell? ⟨g, 1, none⟩ = some (.int .i64 p) := blk_cell hg 1
  have f1 := blk_frozen hg 1
  have hwr : IntKind.i64.wrap ((p : Int) + 1) = (p : Int) + 1 := by rw [IntKind.wrap_i64]; omega
  have HR := Aside0.mk (h.step (p + 1))
  rw [show ((p + 1 : Nat) : Int) = (p : Int) + 1 from rfl] at HR
  by_cases h1 : n < 1
  · have d1 : decide (n < 1) = true := decide_eq_true h1
    go_enter Try.func36, Try.ntmps36
    go_wp2
    go_ret
    exact ⟨0, rfl, pickOk_zero, HR.out.1, HR.out.2⟩
  · have d1 : decide (n < 1) = false := decide_eq_false h1
    by_cases h0 : bs.length = 0
    · have d2 : ((bs.length : Int) == 0) = true := by simp [h0]
      have d3 : decide (bs.length = 0) = true := decide_eq_true h0
      go_enter Try.func36, Try.ntmps36
      go_wp2
      go_ret
      exact ⟨0, rfl, pickOk_zero, HR.out.1, HR.out.2⟩
    · have d2 : ((bs.length : Int) == 0) = false := by rw [beq_eq_false_iff_ne]; omega
      have d3 : decide (bs.length = 0) = false := decide_eq_false h0
      have hnz : ¬ (n = 0) := by omega
      have hn0 : 0 < n := by omega
      have hp0 : (0 : Int) ≤ p := by omega
      by_cases hk : p < bs.length
      · have hC1 := Kd.C_below hC HR.out.1.below
        obtain ⟨ad, rfl, hb⟩ := at8 hC1 p hk
        obtain ⟨y, hy⟩ : ∃ y, y = bs.getD p 0 := ⟨_, rfl⟩
        have hyb : 0 ≤ y ∧ y ≤ 255 := by rw [hy]; exact h.byt _ (by rw [List.getD_eq_getElem?_getD, List.getElem?_eq_getElem hk]; exact List.getElem_mem _)
        rw [← hy] at hb
        clear hy
        go_enter Try.func36, Try.ntmps36
        go_wp2
        go_ret
        exact ⟨_, rfl, pickOk_mod hn0, HR.out.1, HR.out.2⟩
      · obtain ⟨L, hL⟩ : ∃ L, L = bs.length := ⟨_, rfl⟩
        have hL0 : 0 < L := by omega
        have hC1 := Kd.C_below hC HR.out.1.below
        have hm1 : p % L < L := Nat.mod_lt _ hL0
        have hm2 : (p * 7 + 3) % L < L := Nat.mod_lt _ hL0
        obtain ⟨ad, rfl, ha⟩ := at8 hC1 (p % bs.length) (by rw [← hL]; exact hm1)
        obtain ⟨ad', e, hb⟩ := at8 hC1 ((p * 7 + 3) % bs.length) (by rw [← hL]; exact hm2)
        cases e
        have hLl := h.len
        have ya : 0 ≤ bs.getD (p % bs.length) 0 ∧ bs.getD (p % bs.length) 0 ≤ 255 := h.byt _ (by rw [List.getD_eq_getElem?_getD, List.getElem?_eq_getElem (by rw [← hL]; exact hm1)]; exact List.getElem_mem _)
        have yb : 0 ≤ bs.getD ((p * 7 + 3) % bs.length) 0 ∧ bs.getD ((p * 7 + 3) % bs.length) 0 ≤ 255 := h.byt _ (by rw [List.getD_eq_getElem?_getD, List.getElem?_eq_getElem (by rw [← hL]; exact hm2)]; exact List.getElem_mem _)
        generalize bs.getD (p % bs.length) 0 = y at ha ya
        generalize bs.getD ((p * 7 + 3) % bs.length) 0 = z at hb yb
        rw [← hL] at c0 ha hb hLl hk d2 d3
        have HN := Aside0.mk h1
        have c0' : (w.setCell ⟨g, 1, none⟩ (.int .i64 ((p : Int) + 1))).cell? ⟨g, 0, none⟩ = some (.slice (some ad) L c) := by
          obtain ⟨A2, c2, h2, _⟩ := HR.out.1.mem
          have h3 := (blk_cell (blk_put hg 1 (.int .i64 ((p : Int) + 1)) rfl) 0).trans rfl
          rw [h3, hL]
          rfl
        clear hL hg hC hC1 h0 h1
        have i1 : ((p : Int) % (L : Int)) = ((p % L : Nat) : Int) := rfl
        have i2 : ((p : Int) * 7 + 3) % (L : Int) = (((p * 7 + 3) % L : Nat) : Int) := rfl
        have i3 : ((p : Int) / (L : Int)) = ((p / L : Nat) : Int) := rfl
        obtain ⟨q, hq⟩ : ∃ q, q = p / L := ⟨_, rfl⟩
        have hq1 : q ≤ 100000 := by rw [hq]; exact Nat.le_trans (Nat.div_le_self _ _) (by omega)
        rw [← hq] at i3
        obtain ⟨r1, hr1⟩ : ∃ r, r = p % L := ⟨_, rfl⟩
        obtain ⟨r2, hr2⟩ : ∃ r, r = (p * 7 + 3) % L := ⟨_, rfl⟩
        rw [← hr1] at i1 hm1 ha
        rw [← hr2] at i2 hm2 hb
        clear hq hr1 hr2
        have e0 := cellE c0'
        have ea := cellE ha
        have eb := cellE hb
        go_enter Try.func36, Try.ntmps36
        go_wp2
        refine region_ext (W := w.setCell ⟨g, 1, none⟩ (.int .i64 ((p : Int) + 1))) (Below.refl _ _) (by kernel_rfl) (by kernel_rfl) ?_
        repeat (first | go_big_quiet_step (fail) | quiet_step (fail))
        refine wpQuiet_nil ?_
        rintro _ ⟨s, rfl⟩
        have HR3 := Aside0.mk (And.intro (HR.out.1.grown s.2) (World.grownBy.trans HR.out.2 (grown_of_below s.2 _)))
        generalize s.1 = W3 at HR3
        obtain ⟨X, hX⟩ : ∃ X, X = y * 131 + z * 1117 + (p : Int) * 29 + (q : Int) * 53 := ⟨_, rfl⟩
        have hX0 : 0 ≤ X := by omega
        have hX1 : X ≤ 100000000 := by omega
        rw [← hX]
        clear hX
        have HX := Aside0.mk (xor_ge X (X / 64) hX0 (by omega) (by omega) (by omega))
        go_wp2
        go_ret
        refine ⟨_, rfl, ?_, HR3.out.1, HR3.out.2⟩
        rw [Int.tmod_eq_emod_of_nonneg HX.out]
        exact pickOk_mod hn0
end Go.Proofs.Ytjeojdbfpncnkaa.Sa

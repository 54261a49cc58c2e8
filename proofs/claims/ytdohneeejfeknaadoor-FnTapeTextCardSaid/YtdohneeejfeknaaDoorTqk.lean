
/- The reference's draws of calls. Printed by genTqk.py. -/
import Derived.Test.YtdohneeejfeknaaDoorTqg
import Derived.Laws.BitsAllLaws
set_option linter.unusedVariables false
set_option linter.unusedSimpArgs false
namespace Go.Proofs.YtdohneeejfeknaaDoor.Tqk
open Go.RowKit Go.Proofs.YtdohneeejfeknaaDoorW.PrintWords Go.Proofs.YtdohneeejfeknaaDoor.Ja Go.Proofs.YtdohneeejfeknaaDoor.Tqa Go.Proofs.YtdohneeejfeknaaDoor.Tqb Go.Proofs.YtdohneeejfeknaaDoor.Tqg
structure Rd (w0 w : World) (g : Nat) (bs : List Int) (p : Nat) : Prop where
  mem : ∃ A c, w.heap[g]? = some (.cells #[.slice A bs.length c, .int .i64 p] 69 (0, 0)) ∧ (Kd.int .u8).C w0 A bs.length bs
  base : w0.heap.size ≤ g
  below : Below w0.heap.size w0 w
  byt : ∀ b ∈ bs, 0 ≤ b ∧ b ≤ 255
  len : bs.length ≤ 2000
theorem Rd.grown {w0 w w' : World} {g : Nat} {bs : List Int} {p : Nat} (h : Rd w0 w g bs p) (hb : Below w.heap.size w w') : Rd w0 w' g bs p := by
  obtain ⟨A, c, hg, hC⟩ := h.mem
  exact ⟨⟨A, c, blk_below hg hb, hC⟩, h.base, below_then h.below h.below.size hb, h.byt, h.len⟩
theorem Rd.step {w0 w : World} {g : Nat} {bs : List Int} {p : Nat} (h : Rd w0 w g bs p) (q : Nat) : Rd w0 (w.setCell ⟨g, 1, none⟩ (.int .i64 q)) g bs q ∧ w.grownBy (w.setCell ⟨g, 1, none⟩ (.int .i64 q)) (some g) := by
  obtain ⟨A, c, hg, hC⟩ := h.mem
  refine ⟨⟨⟨A, c, blk_put hg 1 _ rfl, hC⟩, h.base, h.below.setCell (p := ⟨g, 1, none⟩) h.base _, h.byt, h.len⟩, rfl, rfl, rfl, by simp [World.setCell], fun k hk hne => Below.heap_setCell w ⟨g, 1, none⟩ _ k (fun e => hne (by rw [e]))⟩
theorem at8 {w : World} {A : Option Addr} {n : Nat} {xs : List Int} (h : (Kd.int .u8).C w A n xs) (k : Nat) (hk : k < n) : ∃ ad, A = some ad ∧ w.cell? (ad.add k) = some (.int .u8 (xs.getD k 0)) := by
  obtain ⟨ad, e, hc⟩ := h.2.2 (by omega)
  have hl := h.1
  obtain ⟨c, h1, h2, h3⟩ := hc k (xs.getD k 0) (by rw [List.getD_eq_getElem?_getD, List.getElem?_eq_getElem (by omega)]; rfl)
  refine ⟨ad, e, ?_⟩
  have h2' : c = [.int .u8 (xs.getD k 0)] := h2
  have := h3 0 (.int .u8 (xs.getD k 0)) (by rw [h2']; rfl)
  simpa [show (Kd.int .u8).sz = 1 from rfl] using this
def mix (bs : List Int) (p : Nat) : Int :=
  bs.getD (p % bs.length) 0 * 131 + bs.getD ((p * 7 + 3) % bs.length) 0 * 1117 + p * 29 + ((p / bs.length : Nat) : Int) * 53
theorem xor_ge (a b : Int) (h1 : 0 ≤ a) (h2 : a < 4611686018427387904) (h3 : 0 ≤ b) (h4 : b < 4611686018427387904) : 0 ≤ bits .xor .i64 a b := by
  obtain ⟨x, rfl⟩ := Int.eq_ofNat_of_zero_le h1
  obtain ⟨y, rfl⟩ := Int.eq_ofNat_of_zero_le h3
  have hx : x ^^^ y < 2 ^ 62 := Nat.xor_lt_two_pow (by omega) (by omega)
  show 0 ≤ IntKind.i64.wrap ((BitVec.ofInt 64 (x : Int) ^^^ BitVec.ofInt 64 (y : Int)).toNat : Int)
  rw [BitVec.toNat_xor, ofInt_u64 x (by omega), ofInt_u64 y (by omega), IntKind.wrap_i64]
  omega
def PickOk (n x : Int) : Prop := 0 ≤ x ∧ (1 ≤ n → x < n) ∧ (n < 1 → x = 0)
theorem pickOk_zero {n : Int} : PickOk n 0 := ⟨by omega, by omega, fun _ => rfl⟩
theorem pickOk_mod {n y : Int} (hn : 0 < n) : PickOk n (y % n) := ⟨Int.emod_nonneg _ (by omega), fun _ => Int.emod_lt_of_pos _ (by omega), fun h => by omega⟩
set_option maxRecDepth 100000 in
theorem pick_any (w0 : World) (g : Nat) (bs : List Int) (p : Nat) (n : Int) (w : World) (h : Rd w0 w g bs p) (hp : p < 100000) (hn : n ≤ 1000000) :
    Calls Tryd.prog 28 #[.pointer (some ⟨g, 0, none⟩), .int .i64 n] w fun e w' =>
      ∃ x : Int, e = .returned (.int .i64 x) ∧ PickOk n x ∧ Rd w0 w' g bs (p + 1) ∧ w.grownBy w' (some g) := by
  obtain ⟨A, c, hg, hC⟩ := h.mem
  have c0 : w.cell? ⟨g, 0, none⟩ = some (.slice A bs.length c) := blk_cell hg 0
  have c1 : w.cell? ⟨g, 1, none⟩ = some (.int .i64 p) := blk_cell hg 1
  have f1 := blk_frozen hg 1
  have hwr : IntKind.i64.wrap ((p : Int) + 1) = (p : Int) + 1 := by rw [IntKind.wrap_i64]; omega
  have HR := Aside0.mk (h.step (p + 1))
  rw [show ((p + 1 : Nat) : Int) = (p : Int) + 1 from rfl] at HR
  by_cases h1 : n < 1
  · have d1 : decide (n < 1) = true := decide_eq_true h1
    go_enter Tryd.func28, Tryd.ntmps28
    go_wp2
    go_ret
    exact ⟨0, rfl, pickOk_zero, HR.out.1, HR.out.2⟩
  · have d1 : decide (n < 1) = false := decide_eq_false h1
    by_cases h0 : bs.length = 0
    · have d2 : ((bs.length : Int) == 0) = true := by simp [h0]
      have d3 : decide (bs.length = 0) = true := decide_eq_true h0
      go_enter Tryd.func28, Tryd.ntmps28
      go_wp2
      go_ret
      exact ⟨0, rfl, pickOk_zero, HR.out.1, HR.out.2⟩
    · have d2 : ((bs.length : Int) == 0) = false := by rw [beq_eq_false_iff_ne]; omega
      have d3 : decide (bs.length = 0) = false := decide_eq_false h0
      have hnz : ¬ (n = 0) := by omega
      have hn0 : 0 < n := by omega
      have hp0 : (0 : Int) ≤ p := by omega
      by_cases hk : p < bs.length
      · have hC1 := Kd.C_below hC HR.out.1.below
        obtain ⟨ad, rfl, hb⟩ := at8 hC1 p hk
        obtain ⟨y, hy⟩ : ∃ y, y = bs.getD p 0 := ⟨_, rfl⟩
        have hyb : 0 ≤ y ∧ y ≤ 255 := by rw [hy]; exact h.byt _ (by rw [List.getD_eq_getElem?_getD, List.getElem?_eq_getElem hk]; exact List.getElem_mem _)
        rw [← hy] at hb
        clear hy
        go_enter Tryd.func28, Tryd.ntmps28
        go_wp2
        go_ret
        exact ⟨_, rfl, pickOk_mod hn0, HR.out.1, HR.out.2⟩
      · obtain ⟨L, hL⟩ : ∃ L, L = bs.length := ⟨_, rfl⟩
        have hL0 : 0 < L := by omega
        have hC1 := Kd.C_below hC HR.out.1.below
        have hm1 : p % L < L := Nat.mod_lt _ hL0
        have hm2 : (p * 7 + 3) % L < L := Nat.mod_lt _ hL0
        obtain ⟨ad, rfl, ha⟩ := at8 hC1 (p % bs.length) (by rw [← hL]; exact hm1)
        obtain ⟨ad', e, hb⟩ := at8 hC1 ((p * 7 + 3) % bs.length) (by rw [← hL]; exact hm2)
        cases e
        have hLl := h.len
        have ya : 0 ≤ bs.getD (p % bs.length) 0 ∧ bs.getD (p % bs.length) 0 ≤ 255 := h.byt _ (by rw [List.getD_eq_getElem?_getD, List.getElem?_eq_getElem (by rw [← hL]; exact hm1)]; exact List.getElem_mem _)
        have yb : 0 ≤ bs.getD ((p * 7 + 3) % bs.length) 0 ∧ bs.getD ((p * 7 + 3) % bs.length) 0 ≤ 255 := h.byt _ (by rw [List.getD_eq_getElem?_getD, List.getElem?_eq_getElem (by rw [← hL]; exact hm2)]; exact List.getElem_mem _)
        generalize bs.getD (p % bs.length) 0 = y at ha ya
        generalize bs.getD ((p * 7 + 3) % bs.length) 0 = z at hb yb
        rw [← hL] at c0 ha hb hLl hk d2 d3
        have HN := Aside0.mk h1
        have c0' : (w.setCell ⟨g, 1, none⟩ (.int .i64 ((p : Int) + 1))).cell? ⟨g, 0, none⟩ = some (.slice (some ad) L c) := by
          obtain ⟨A2, c2, h2, _⟩ := HR.out.1.mem
          have h3 := (blk_cell (blk_put hg 1 (.int .i64 ((p : Int) + 1)) rfl) 0).trans rfl
          rw [h3, hL]
          rfl
        clear hL hg hC hC1 h0 h1
        have i1 : ((p : Int) % (L : Int)) = ((p % L : Nat) : Int) := rfl
        have i2 : ((p : Int) * 7 + 3) % (L : Int) = (((p * 7 + 3) % L : Nat) : Int) := rfl
        have i3 : ((p : Int) / (L : Int)) = ((p / L : Nat) : Int) := rfl
        obtain ⟨q, hq⟩ : ∃ q, q = p / L := ⟨_, rfl⟩
        have hq1 : q ≤ 100000 := by rw [hq]; exact Nat.le_trans (Nat.div_le_self _ _) (by omega)
        rw [← hq] at i3
        obtain ⟨r1, hr1⟩ : ∃ r, r = p % L := ⟨_, rfl⟩
        obtain ⟨r2, hr2⟩ : ∃ r, r = (p * 7 + 3) % L := ⟨_, rfl⟩
        rw [← hr1] at i1 hm1 ha
        rw [← hr2] at i2 hm2 hb
        clear hq hr1 hr2
        have e0 := cellE c0'
        have ea := cellE ha
        have eb := cellE hb
        go_enter Tryd.func28, Tryd.ntmps28
        go_wp2
        refine region_ext (W := w.setCell ⟨g, 1, none⟩ (.int .i64 ((p : Int) + 1))) (Below.refl _ _) (by kernel_rfl) (by kernel_rfl) ?_
        repeat (first | go_big_quiet_step (fail) | quiet_step (fail))
        refine wpQuiet_nil ?_
        rintro _ ⟨s, rfl⟩
        have HR3 := Aside0.mk (And.intro (HR.out.1.grown s.2) (World.grownBy.trans HR.out.2 (grown_of_below s.2 _)))
        generalize s.1 = W3 at HR3
        obtain ⟨X, hX⟩ : ∃ X, X = y * 131 + z * 1117 + (p : Int) * 29 + (q : Int) * 53 := ⟨_, rfl⟩
        have hX0 : 0 ≤ X := by omega
        have hX1 : X ≤ 100000000 := by omega
        rw [← hX]
        clear hX
        have HX := Aside0.mk (xor_ge X (X / 64) hX0 (by omega) (by omega) (by omega))
        go_wp2
        go_ret
        refine ⟨_, rfl, ?_, HR3.out.1, HR3.out.2⟩
        rw [Int.tmod_eq_emod_of_nonneg HX.out]
        exact pickOk_mod hn0
theorem num_any (w0 : World) (g : Nat) (bs : List Int) (p : Nat) (A : Option Addr) (c : Nat) (xs : List Int) (w : World) (h : Rd w0 w g bs p) (hp : p < 100000) (hx : 0 < xs.length) (hx2 : xs.length ≤ 1000)
    (hC : ∀ w', w.grownBy w' (some g) → (Kd.int .i64).C w' A xs.length xs) :
    Calls Tryd.prog 40 #[.pointer (some ⟨g, 0, none⟩), .slice A xs.length c] w fun e w' =>
      ∃ x : Int, e = .returned (.int .i64 x) ∧ x ∈ xs ∧ Rd w0 w' g bs (p + 1) ∧ w.grownBy w' (some g) := by
  go_enter Tryd.func40, Tryd.ntmps40
  go_wp2_with ((go_at_call 28; refine (pick_any w0 g bs p xs.length w h hp (by omega)).mono ?_; rintro e w2 ⟨x, rfl, hx0, hr, hg⟩; obtain ⟨k, rfl⟩ := Int.eq_ofNat_of_zero_le hx0.1; have hk : k < xs.length := by { have := hx0.2.1 (by omega); omega }; obtain ⟨ad, rfl, hcell⟩ := at1 (hC w2 hg) k hk; have HR := Aside0.mk hr; have HG := Aside0.mk hg; have hm : xs.getD k 0 ∈ xs := by { rw [List.getD_eq_getElem?_getD, List.getElem?_eq_getElem hk]; exact List.getElem_mem _ }; generalize xs.getD k 0 = y at hcell hm; have HM := Aside0.mk hm; clear hx0 hr hg hm hC))
  go_ret
  exact ⟨_, rfl, HM.out, HR.out, HG.out⟩
def Opened (w w' : World) (g : Nat) : Prop := ∃ bs, Rd w w' g bs 0
theorem open_any (wf : World) (A : Option Addr) (c : Nat) (bs : List Int) (w : World) (hwf : Below wf.heap.size wf w) (hC : (Kd.int .u8).C wf A bs.length bs) (hc : bs.length ≤ c) (hb : ∀ b ∈ bs, 0 ≤ b ∧ b ≤ 255) :
    Calls Tryd.prog 22 #[.slice A bs.length c] w fun e w' => ∃ g, e = .returned (.pointer (some ⟨g, 0, none⟩)) ∧ Opened wf w' g ∧ Below w.heap.size w w' := by
  by_cases hl : bs.length > 2000
  · have d1 : decide ((bs.length : Int) > 2000) = true := by rw [decide_eq_true_eq]; omega
    have d2 : (2000 : Int) < bs.length := by omega
    have d3 : (2000 : Int) ≤ c := by omega
    have hC2 : (Kd.int .u8).C wf A 2000 (bs.take 2000) := by
      refine ⟨by rw [List.length_take]; omega, by decide, fun _ => ?_⟩
      obtain ⟨ad, e, h2⟩ := hC.2.2 (by omega)
      refine ⟨ad, e, fun j q hj => h2 j q ?_⟩
      rw [List.getElem?_take] at hj
      split at hj
      · exact hj
      · cases hj
    have HL := Aside0.mk (show 2000 = (bs.take 2000).length by rw [List.length_take]; omega)
    go_enter Tryd.func22, Tryd.ntmps22
    go_wp2
    go_ret
    refine ⟨w.heap.size, rfl, ⟨bs.take 2000, ⟨⟨A, c, ?_, ?_⟩, hwf.size, hwf.alloc hwf.size _, fun b hb2 => hb b (List.mem_of_mem_take hb2), by rw [← HL.out]; decide⟩⟩, below_alloc (Below.refl _ _) _⟩
    · rw [← HL.out]; exact blk_new _ _
    · rw [← HL.out]; exact hC2
  · have d1 : decide ((bs.length : Int) > 2000) = false := by rw [decide_eq_false_iff_not]; omega
    have d2 : ¬ (2000 : Int) < bs.length := by omega
    have HL := Aside0.mk hl
    clear hl
    go_enter Tryd.func22, Tryd.ntmps22
    go_wp2
    go_ret
    exact ⟨w.heap.size, rfl, ⟨bs, ⟨⟨A, c, blk_new _ _, hC⟩, hwf.size, hwf.alloc hwf.size _, hb, by have := HL.out; omega⟩⟩, below_alloc (Below.refl _ _) _⟩
theorem rd_keep {w0 w w' : World} {g : Nat} {bs : List Int} {p : Nat} (h : Rd w0 w g bs p) {row : Option Nat} (hg : w.grownBy w' row) (hrow : ∀ k, row = some k → w0.heap.size ≤ k ∧ k ≠ g) : Rd w0 w' g bs p := by
  obtain ⟨A, c, hm, hC⟩ := h.mem
  exact ⟨⟨A, c, blk_grown hm hg (fun e => (hrow g e.symm).2 rfl), hC⟩, h.base, h.below.grown hg h.below.size (fun k hk => (hrow k hk).1), h.byt, h.len⟩
theorem rd_far {w0 w : World} {g : Nat} {bs : List Int} {p : Nat} (h : Rd w0 w g bs p) {H : Nat} (hH : w0.heap.size ≤ H) (hne : H ≠ g) (j : Nat) (u : Value) : Rd w0 (w.setCell ⟨H, j, none⟩ u) g bs p := by
  obtain ⟨A, c, hm, hC⟩ := h.mem
  exact ⟨⟨A, c, blk_far hm (p := ⟨H, j, none⟩) (fun e => hne e.symm) u, hC⟩, h.base, h.below.setCell (p := ⟨H, j, none⟩) hH u, h.byt, h.len⟩
theorem rd_lt {w0 w : World} {g : Nat} {bs : List Int} {p : Nat} (h : Rd w0 w g bs p) : g < w.heap.size := by
  obtain ⟨A, c, hm, hC⟩ := h.mem
  exact blk_lt hm
/-- one of some numbers that are laid for it -/
theorem numL (w0 : World) (g : Nat) (bs : List Int) (p : Nat) (xs : List Int) (cs : Array Value) (n : Nat) (W : World) (h : Rd w0 W g bs p) (hp : p < 100000) (hx : 0 < xs.length) (hx2 : xs.length ≤ 1000) (hcs : cs = (xs.map (Value.int .i64)).toArray) (hn : n = xs.length) :
    Calls Tryd.prog 40 #[.pointer (some ⟨g, 0, none⟩), .slice (some ⟨W.heap.size, 0, none⟩) n n] (W.alloc (.cells cs 3)) fun e w' =>
      ∃ y : Int, e = .returned (.int .i64 y) ∧ y ∈ xs ∧ Rd w0 w' g bs (p + 1) ∧ W.grownBy w' (some g) := by
  subst hcs hn
  have hlt := rd_lt h
  refine (num_any w0 g bs p _ xs.length xs _ (h.grown (below_alloc (Below.refl _ _) _)) hp hx hx2 (fun w' hg' => blk_C (blk_grown (blk_new W _) hg' (by simp; omega)) (by omega))).mono ?_
  rintro e w' ⟨y, rfl, hy, hr, hg⟩
  exact ⟨y, rfl, hy, hr, World.grownBy.trans (grown_alloc _ _) hg⟩
theorem infoCall : (Tryd.prog.info? 41).map (fun i => (i.zero, i.size, i.bytes)) = some (some (.agg #[.int .i64 0, .int .i64 0, .int .i64 0]), 3, 24) := by kernel_rfl
/-- calls in new memory; more was drawn -/
structure CMem (w0 w wr : World) (g : Nat) (bs : List Int) (v : Value) (l : List TCall) : Prop where
  own : kCall.R 41 wr w.heap.size (fun _ => True) v l
  rd : ∃ p, p ≤ 1000 ∧ Rd w0 wr g bs p
  gr : w.grownBy wr (some g)
  len : l.length ≤ 31
  sm : ∀ x ∈ l, Sm x
def COut (w0 w w' : World) (g : Nat) (bs : List Int) (e : Ending) : Prop := ∃ (v : Value) (l : List TCall), e = .returned v ∧ CMem w0 w w' g bs v l
theorem sm_of (a b c : Int) (hb : -1000 ≤ b ∧ b ≤ 1000) (hc : -1000 ≤ c ∧ c ≤ 1000) : Sm ⟨a, b, c⟩ := ⟨⟨by show _ ≤ b; omega, by show b ≤ _; omega⟩, by show _ ≤ c; omega, by show c ≤ _; omega⟩
set_option maxHeartbeats 1000000 in
set_option maxRecDepth 100000 in
theorem l10Calls_any (w0 : World) (g : Nat) (bs : List Int) (p : Nat) (w : World) (h : Rd w0 w g bs p) (hp : p ≤ 100) :
    Calls Tryd.prog 39 #[.pointer (some ⟨g, 0, none⟩)] w fun e w' => ∃ (v : Value) (l : List TCall) (q : Nat), e = .returned v ∧ kCall.R 41 w' w.heap.size (fun _ => True) v l ∧ q ≤ 200 ∧ Rd w0 w' g bs q ∧ w.grownBy w' (some g) ∧ l.length ≤ 11 ∧ ∀ x ∈ l, Sm x := by
  have hgw := rd_lt h
  have hba := below_alloc (Below.refl w.heap.size w) (.cells #[] 41)
  have HO0 : Aside0 (kCall.R 41 (w.alloc (.cells #[] 41)) w.heap.size (fun _ => True) (.slice (some ⟨w.heap.size, 0, none⟩) 0 0) []) := ⟨R_empty _ (blk_new _ _) (Nat.le_refl _)⟩
  have HG0 : Aside0 (w.grownBy (w.alloc (.cells #[] 41)) (some g)) := ⟨grown_alloc _ _⟩
  have HR0 := Aside0.mk (h.grown hba)
  clear hba
  go_enter Tryd.func39, Tryd.ntmps39
  go_upto_region 3 with (go_at_call 28; refine (pick_any w0 g bs p 12 _ HR0.out (by omega) (by omega)).mono ?_; rintro e w1 ⟨x, rfl, hx, hr, hg⟩; obtain ⟨m, rfl⟩ := Int.eq_ofNat_of_zero_le hx.1; have hm : m < 12 := by { have := hx.2.1 (by omega); omega }; have HR1 := Aside0.mk hr; have HO1 := Aside0.mk (own_step HO0.out hg hgw); have HG1 := Aside0.mk (grown_new HG0.out hg (fun j hj => .inr hj.symm)); clear hx hr hg)
  clear HR0 HO0 HG0
  go_loopw [3, 4] (fun v3 v4 wr => ∃ (i : Nat) (l : List TCall) (A : Option Addr) (c q : Nat), v3 = .slice A l.length c ∧ v4 = .int .i64 i ∧ l.length + i ≤ 11 ∧ q + 3 * i ≤ 150 ∧ Aside0 (∀ x ∈ l, Sm x) ∧ Aside0 (kCall.R 41 wr w.heap.size (fun _ => True) (.slice A l.length c) l) ∧ Aside0 (Rd w0 wr g bs q) ∧ Aside0 (w.grownBy wr (some g))) (fun _ v4 _ => (intOf v4).toNat)
  case atStart => exact ⟨m, [], _, _, p + 1, rfl, rfl, by simp; omega, by omega, ⟨by simp⟩, HO1, HR1, HG1⟩
  case round =>
    clear HR1 HO1 HG1
    obtain ⟨i, l, A, c, q, rfl, rfl, hli, hqi, HSM, HO, HR, HG⟩ := hrel
    by_cases h0 : i = 0
    · subst h0
      go_wp2
      go_ret
      exact ⟨_, l, q, rfl, HO.out, by omega, HR.out, HG.out, by omega, HSM.out⟩
    · have d0 : decide ((i : Int) > 0) = true := decide_eq_true (by omega)
      have i1 : (0 : Int) < i := by omega
      have hll : (l.length + 1) * 24 ≤ 140737488355328 := by omega
      have hq1 : q < 1000 := by omega
      go_wp2_with (first
        | ((with_reducible refine gate_dst (N := 24) rfl ?_); refine Kd.R_append kCall (w0 := W6) w.heap.size rfl _ _ 22 41 (.agg #[.int .i64 0, .int .i64 0, .int .i64 0]) 24 rfl Tryd.underlying22 infoCall rfl (by decide) (by decide) (.slice A l.length c) l ⟨y4, y5, y6⟩ [.int .i64 y4, .int .i64 y5, .int .i64 y6] (fun _ => True) (fun _ => False) rfl rfl (kCall_mkM _ _ _ ⟨y4, y5, y6⟩) (fun _ h => h.elim) (fun _ _ => trivial) HO6.out (Below.refl _ _) HG6.out.size hll ?_; intro v7 w7 hr7 _ hg7 _; obtain ⟨A7, c7, rfl⟩ := Kd.R_slice hr7; have HO7 := Aside0.mk hr7; have HR7 := Aside0.mk (rd_keep HR6.out hg7 (fun j hj => by have := Kd.R_base HO6.out j hj; have := HR6.out.base; omega)); have HG7 := Aside0.mk (grown_new HG6.out hg7 (fun j hj => by have := Kd.R_base HO6.out j hj; exact .inl this)); clear hr7 hg7)
        | (go_at_call 40; refine (numL w0 g bs (q + 1 + 1) [0, 0, 1, 5, 100] _ 5 _ HR5.out (by omega) (by decide) (by decide) rfl rfl).mono ?_; rintro e W6 ⟨y6, rfl, hy, hr, hg⟩; have hy6 : -1000 ≤ y6 ∧ y6 ≤ 1000 := by { simp at hy; omega }; have HR6 := Aside0.mk hr; have HO6 := Aside0.mk (own_step HO5.out hg hgw); have HG6 := Aside0.mk (grown_new HG5.out hg (fun j hj => .inr hj.symm)); clear hy hr hg)
        | (go_at_call 40; refine (numL w0 g bs (q + 1) [1, 1, 2, 3, 20] _ 5 _ HR4.out (by omega) (by decide) (by decide) rfl rfl).mono ?_; rintro e W5 ⟨y5, rfl, hy, hr, hg⟩; have hy5 : -1000 ≤ y5 ∧ y5 ≤ 1000 := by { simp at hy; omega }; have HR5 := Aside0.mk hr; have HO5 := Aside0.mk (own_step HO4.out hg hgw); have HG5 := Aside0.mk (grown_new HG4.out hg (fun j hj => .inr hj.symm)); clear hy hr hg)
        | (go_at_call 40; refine (numL w0 g bs q [0, 0, 1, 1, 2, 3, 4] _ 7 _ HR.out (by omega) (by decide) (by decide) rfl rfl).mono ?_; rintro e W4 ⟨y4, rfl, hy, hr, hg⟩; have HR4 := Aside0.mk hr; have HO4 := Aside0.mk (own_step HO.out hg hgw); have HG4 := Aside0.mk (grown_new HG.out hg (fun j hj => .inr hj.symm)); clear hy hr hg))
      have HSM2 : Aside0 (∀ x ∈ l ++ [⟨y4, y5, y6⟩], Sm x) := ⟨fun x hx => by
        rcases List.mem_append.1 hx with h | h
        · exact HSM.out x h
        · rw [List.mem_singleton.1 h]; exact sm_of _ _ _ hy5 hy6⟩
      go_roundw
      case rel => exact ⟨i - 1, l ++ [⟨y4, y5, y6⟩], _, _, q + 1 + 1 + 1, by rw [List.length_append]; rfl, by go_num, by rw [List.length_append]; simp; omega, by omega, HSM2, HO7, HR7, HG7⟩
      case measure => simp [intOf] <;> omega
end Go.Proofs.YtdohneeejfeknaaDoor.Tqk

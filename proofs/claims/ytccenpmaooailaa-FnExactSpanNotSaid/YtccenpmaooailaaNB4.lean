
import Derived.Test.YtccenpmaooailaaNB2
import Derived.Test.YtccenpmaooailaaNB3
import Derived.StillTailTactics
import Derived.OwnWalk
/- The reference's own lists: what keeps them; one list put into another. -/
set_option linter.unusedVariables false
set_option linter.unusedSimpArgs false
namespace Go.Proofs.Ytccenpmaooailaa.Ra
open Go.RowKit Go.Proofs.YtccenpmaooailaaW.PrintWords Go.Proofs.Ytccenpmaooailaa.Wd Go.Proofs.Ytccenpmaooailaa.Pu Go.Proofs.Ytccenpmaooailaa.Pv Go.Proofs.Ytccenpmaooailaa.Ca Go.Proofs.Ytccenpmaooailaa.Cb Go.Proofs.Ytccenpmaooailaa.Cc Go.Proofs.Ytccenpmaooailaa.Cp Go.Proofs.Ytccenpmaooailaa.Cd Go.Proofs.Ytccenpmaooailaa.Ci Go.Proofs.Ytccenpmaooailaa.Ce Go.Proofs.Ytccenpmaooailaa.Cf Go.Proofs.Ytccenpmaooailaa.Cg Go.Proofs.Ytccenpmaooailaa.Sc Go.Proofs.Ytccenpmaooailaa.Sh Go.Proofs.Ytccenpmaooailaa.Si Go.Proofs.Ytccenpmaooailaa.Sp Go.Proofs.Ytccenpmaooailaa.Ia Go.Proofs.Ytccenpmaooailaa.Ib Go.Proofs.Ytccenpmaooailaa.Ic Go.Proofs.Ytccenpmaooailaa.Id Go.Proofs.Ytccenpmaooailaa.Ie Go.Proofs.Ytccenpmaooailaa.If Go.Proofs.Ytccenpmaooailaa.Ig Go.Proofs.Ytccenpmaooailaa.Ih Go.Proofs.Ytccenpmaooailaa.Ij Go.Proofs.Ytccenpmaooailaa.Ik

structure Fr (S : Nat → Prop) (w w' : World) : Prop where
  os : w'.os = w.os
  tape : w'.tape = w.tape
  output : w'.output = w.output
  size : w.heap.size ≤ w'.heap.size
  block : ∀ k, k < w.heap.size → ¬ S k → w'.heap[k]? = w.heap[k]?
section
variable {S T : Nat → Prop} {w w' a b c : World} {B : Nat} {row : Option Nat}
theorem Fr.refl (S : Nat → Prop) (w : World) : Fr S w w := ⟨rfl, rfl, rfl, Nat.le_refl _, fun _ _ _ => rfl⟩
theorem Fr.of_below (h : Below w.heap.size w w') : Fr S w w' := ⟨h.os, h.tape, h.output, h.size, fun k hk _ => h.block k hk⟩
theorem Fr.of_grown (h : w.grownBy w' row) (hS : ∀ k, some k = row → S k) : Fr S w w' := ⟨h.os, h.tape, h.output, h.size, fun k hk hn => h.block k hk (fun e => hn (hS k e))⟩
theorem Fr.trans (h : Fr S a b) (g : Fr T b c) (hT : ∀ k, T k → k < a.heap.size → S k) : Fr S a c :=
  ⟨g.os.trans h.os, g.tape.trans h.tape, g.output.trans h.output, Nat.le_trans h.size g.size, fun k hk hn => (g.block k (Nat.lt_of_lt_of_le hk h.size) (fun ht => hn (hT k ht hk))).trans (h.block k hk hn)⟩
theorem Fr.below (h : Fr S w w') (hB : B ≤ w.heap.size) (hS : ∀ k, S k → B ≤ k) : Below B w w' := ⟨h.os, h.tape, h.output, h.size, fun k hk => h.block k (by omega) (fun hs => by have := hS k hs; omega)⟩
theorem Fr.grown (h : Fr S w w') (hS : ∀ k, S k → some k = row) : w.grownBy w' row := ⟨h.os, h.tape, h.output, h.size, fun k hk hn => h.block k hk (fun hs => hn (hS k hs))⟩
theorem Fr.mono (h : Fr S w w') (hS : ∀ k, S k → k < w.heap.size → T k) : Fr T w w' := ⟨h.os, h.tape, h.output, h.size, fun k hk hn => h.block k hk (fun hs => hn (hS k hs hk))⟩
theorem Fr.set {g j : Nat} {u : Value} (h : Fr S w w') (hg : g < w.heap.size → S g) : Fr S w (w'.setCell ⟨g, j, none⟩ u) :=
  h.trans (T := fun k => k = g) ⟨rfl, rfl, rfl, by simp [World.setCell], fun k _ hn => Below.heap_setCell w' ⟨g, j, none⟩ u k hn⟩ (fun k hk hlt => by subst hk; exact hg hlt)
end
/-- a value's own block -/
abbrev own (v : Value) : Nat → Prop := fun k => v.ownBlock = some k
abbrev Rw (w : World) (base : Nat) (v : Value) (l : List Occ) : Prop := kO.R 66 w base (fun _ => True) v l
/-- blocks that hold no numbers of events -/
def NotInt (w : World) (S : Nat → Prop) : Prop := ∀ k, S k → k < w.heap.size → ∃ (cells : Array Value) (t : TypeId), t ≠ 3 ∧ w.heap[k]? = some (.cells cells t (0, 0))
theorem Rw.keep {S : Nat → Prop} {w w' : World} {base : Nat} {v : Value} {l : List Occ} (h : Rw w base v l) (hf : Fr S w w') (h1 : ∀ k, own v k → ¬ S k) (h2 : NotInt w S) : Rw w' base v l := by
  have h3 : kO.R 66 w base (fun k => ¬ S k) v l := R_split h h1 (fun k q cells _ _ hlt hq hc hs => by
    obtain ⟨cs, t, ht, he⟩ := h2 k hs hlt
    rw [hc] at he
    injection he with he
    injection he with _ e2 _
    have hq2 : q = 3 := by simpa using (show q ∈ [3] from hq)
    exact ht (by rw [← e2, hq2]))
  exact Kd.R_mono (Kd.R_step h3 (fun k hk hlt => hf.block k hlt hk)) (fun _ _ => trivial)
theorem Rw.typed {w : World} {base : Nat} {v : Value} {l : List Occ} (h : Rw w base v l) : NotInt w (own v) := fun k hk _ => by
  obtain ⟨cells, hc⟩ := Kd.R_typed h k hk
  exact ⟨cells, 66, by decide, hc⟩
theorem Rw.isL {w : World} {base : Nat} {A : Option Addr} {n c : Nat} {l : List Occ} (h : Rw w base (.slice A n c) l) : n = l.length ∧ IsL w l A c := by
  have hq := Kd.R_reads' h
  exact ⟨hq.1, ⟨by have := hq.2.1; omega, hq.2.2⟩⟩
theorem Rw.below {w w' : World} {base : Nat} {v : Value} {l : List Occ} (h : Rw w base v l) (hb : Below w.heap.size w w') : Rw w' base v l := Kd.R_below h hb
def At' (v v' : Value) (n : Nat) : Prop := v'.ownBlock = v.ownBlock ∨ ∃ b, v'.ownBlock = some b ∧ n ≤ b
theorem at_trans {u v x : Value} {n m : Nat} (h : At' u v n) (g : At' v x m) (hm : n ≤ m) : At' u x n := by
  rcases g with g | ⟨b, g1, g2⟩
  · rcases h with h | ⟨c, h1, h2⟩
    · exact .inl (g.trans h)
    · exact .inr ⟨c, g.trans h1, h2⟩
  · exact .inr ⟨b, g1, by omega⟩

end Go.Proofs.Ytccenpmaooailaa.Ra

/- The reference's l3Union, l3Join. -/
set_option linter.unusedVariables false
set_option linter.unusedSimpArgs false
namespace Go.Proofs.Ytccenpmaooailaa.Rb
open Go.RowKit Go.Proofs.YtccenpmaooailaaW.PrintWords Go.Proofs.Ytccenpmaooailaa.Wd Go.Proofs.Ytccenpmaooailaa.Pu Go.Proofs.Ytccenpmaooailaa.Pv Go.Proofs.Ytccenpmaooailaa.Ca Go.Proofs.Ytccenpmaooailaa.Cb Go.Proofs.Ytccenpmaooailaa.Cc Go.Proofs.Ytccenpmaooailaa.Cp Go.Proofs.Ytccenpmaooailaa.Cd Go.Proofs.Ytccenpmaooailaa.Ci Go.Proofs.Ytccenpmaooailaa.Ce Go.Proofs.Ytccenpmaooailaa.Cf Go.Proofs.Ytccenpmaooailaa.Cg Go.Proofs.Ytccenpmaooailaa.Sc Go.Proofs.Ytccenpmaooailaa.Sh Go.Proofs.Ytccenpmaooailaa.Si Go.Proofs.Ytccenpmaooailaa.Ia Go.Proofs.Ytccenpmaooailaa.Ic Go.Proofs.Ytccenpmaooailaa.Ij Go.Proofs.Ytccenpmaooailaa.Ra

theorem min_any (a b : Int) (w : World) : Calls Try.prog 130 #[.int .i64 a, .int .i64 b] w fun e w' => e = .returned (.int .i64 (min a b)) ∧ w' = w := by
  by_cases h : a < b
  · have d : decide (a < b) = true := decide_eq_true h
    have HE := Aside0.mk (show min a b = a by omega)
    go_enter Try.func130, Try.ntmps130
    go_wp2
    go_ret
    exact ⟨by rw [HE.out]; rfl, rfl⟩
  · have d : decide (a < b) = false := decide_eq_false h
    have HE := Aside0.mk (show min a b = b by omega)
    go_enter Try.func130, Try.ntmps130
    go_wp2
    go_ret
    exact ⟨by rw [HE.out]; rfl, rfl⟩
theorem max_any (a b : Int) (w : World) : Calls Try.prog 132 #[.int .i64 a, .int .i64 b] w fun e w' => e = .returned (.int .i64 (max a b)) ∧ w' = w := by
  by_cases h : a > b
  · have d : decide (a > b) = true := decide_eq_true h
    have d2 : decide (b < a) = true := decide_eq_true h
    have HE := Aside0.mk (show max a b = a by omega)
    go_enter Try.func132, Try.ntmps132
    go_wp2
    go_ret
    exact ⟨by rw [HE.out]; rfl, rfl⟩
  · have d : decide (a > b) = false := decide_eq_false h
    have d2 : decide (b < a) = false := decide_eq_false h
    have HE := Aside0.mk (show max a b = b by omega)
    go_enter Try.func132, Try.ntmps132
    go_wp2
    go_ret
    exact ⟨by rw [HE.out]; rfl, rfl⟩
theorem uni_lt {a b : List Int} {i k : Nat} (h : i < a.length) (h2 : k < b.length) (hx : a.getD i 0 < b.getD k 0) : uni (a.drop i) (b.drop k) = a.getD i 0 :: uni (a.drop (i + 1)) (b.drop k) := by
  rw [drop_at a 0 i h, drop_at b 0 k h2, uni, if_pos hx]
theorem uni_eq {a b : List Int} {i k : Nat} (h : i < a.length) (h2 : k < b.length) (hx : a.getD i 0 = b.getD k 0) : uni (a.drop i) (b.drop k) = b.getD k 0 :: uni (a.drop (i + 1)) (b.drop (k + 1)) := by
  rw [drop_at a 0 i h, drop_at b 0 k h2, uni, if_neg (by omega), if_pos hx]
theorem uni_gt {a b : List Int} {i k : Nat} (h : i < a.length) (h2 : k < b.length) (hx : b.getD k 0 < a.getD i 0) : uni (a.drop i) (b.drop k) = b.getD k 0 :: uni (a.drop i) (b.drop (k + 1)) := by
  rw [drop_at a 0 i h, drop_at b 0 k h2, uni, if_neg (by omega), if_neg (by omega)]
theorem uni_nil (a : List Int) : uni a [] = a := by cases a <;> simp [uni]
theorem uni_left {a b : List Int} {i k : Nat} (h : i < a.length) (h2 : b.length ≤ k) : uni (a.drop i) (b.drop k) = a.getD i 0 :: uni (a.drop (i + 1)) (b.drop k) := by
  rw [List.drop_of_length_le h2, uni_nil, uni_nil, drop_at a 0 i h]
theorem uni_right {a b : List Int} {i k : Nat} (h : a.length ≤ i) (h2 : k < b.length) : uni (a.drop i) (b.drop k) = b.getD k 0 :: uni (a.drop i) (b.drop (k + 1)) := by
  rw [List.drop_of_length_le h, drop_at b 0 k h2]; simp [uni]
theorem uni_end {a b : List Int} {i k : Nat} (h : a.length ≤ i) (h2 : b.length ≤ k) : uni (a.drop i) (b.drop k) = [] := by
  rw [List.drop_of_length_le h, List.drop_of_length_le h2]; simp [uni]
def UniOut (w w' : World) (r : List Int) (e : Ending) : Prop := ∃ v, e = .returned v ∧ (Kd.int .i64).R 3 w' w.heap.size (fun _ => True) v r ∧ Below w.heap.size w w'

set_option maxHeartbeats 4000000 in
set_option maxRecDepth 100000 in
theorem sUni_any (A B : Option Addr) (ca cb : Nat) (a b : List Int) (w : World) (la : a.length ≤ 1048576) (lb : b.length ≤ 1048576) (hA : (Kd.int .i64).C w A a.length a) (hB : (Kd.int .i64).C w B b.length b) :
    Calls Try.prog 133 #[.slice A a.length ca, .slice B b.length cb] w fun e w' => UniOut w w' (uni a b) e := by
  have hE0 := blk_new w (.cells #[] 3)
  have hR0 : RI w (w.alloc (.cells #[] 3)) (.slice (some ⟨w.heap.size, 0, none⟩) 0 0) [] := R_empty (Kd.int .i64) hE0 (Nat.le_refl _)
  have HB0 := Aside0.mk (below_alloc (Below.refl w.heap.size w) (.cells #[] 3))
  go_enter Try.func133, Try.ntmps133
  go_wp2
  generalize w.alloc (.cells #[] 3) = W0 at hR0 HB0 ⊢
  clear hE0
  go_loopw [5, 6, 7] (fun v5 vi vk wr => ∃ (i k : Nat) (P : List Int) (v : Value), i ≤ a.length ∧ k ≤ b.length ∧ P.length ≤ i + k ∧ vi = .int .i64 i ∧ vk = .int .i64 k ∧ v = v5 ∧ Aside0 (uni a b = P ++ uni (a.drop i) (b.drop k)) ∧ Aside0 (RI w wr v P) ∧ Aside0 (Below w.heap.size w wr)) (fun _ vi vk _ => (a.length - (intOf vi).toNat) + (b.length - (intOf vk).toNat))
  case atStart => exact ⟨0, 0, [], _, Nat.zero_le _, Nat.zero_le _, Nat.zero_le _, rfl, rfl, rfl, ⟨rfl⟩, ⟨hR0⟩, HB0⟩
  case round =>
    clear hR0 HB0
    obtain ⟨i, k, P, v, hi, hk, hP, rfl, rfl, rfl, HU, HR, HB⟩ := hrel
    by_cases hia : i < a.length
    · have a1 : decide (i < a.length) = true := decide_eq_true hia
      have a2 : (i : Int) < a.length := by omega
      obtain ⟨ad, rfl, hca⟩ := at1 (Kd.C_below hA HB.out) i hia
      by_cases hkb : k < b.length
      · have b1 : decide (k < b.length) = true := decide_eq_true hkb
        have b2 : (k : Int) < b.length := by omega
        have b3 : decide (b.length ≤ k) = false := decide_eq_false (by omega)
        obtain ⟨bd, rfl, hcb⟩ := at1 (Kd.C_below hB HB.out) k hkb
        have hlt3 := fun h => uni_lt (a := a) (b := b) hia hkb h
        have heq3 := fun h => uni_eq (a := a) (b := b) hia hkb h
        have hgt3 := fun h => uni_gt (a := a) (b := b) hia hkb h
        generalize a.getD i 0 = x at hca hlt3 heq3 hgt3
        generalize b.getD k 0 = y at hcb hlt3 heq3 hgt3
        have HL3 := Aside0.mk hlt3
        have HE3 := Aside0.mk heq3
        have HG3 := Aside0.mk hgt3
        clear hlt3 heq3 hgt3
        by_cases hxy : x < y
        · have t1 : decide (x < y) = true := decide_eq_true hxy
          have HN := Aside0.mk (show uni a b = (P ++ [x]) ++ uni (a.drop (i + 1)) (b.drop k) by rw [HU.out, HL3.out hxy]; simp)
          clear HL3 HE3 HG3
          go_wp2
          replace hca := cellE hca
          replace hcb := cellE hcb
          refine region_ext (W := wr) (Below.refl _ _) (by kernel_rfl) (by kernel_rfl) ?_
          repeat (first | go_big_quiet_step (fail) | quiet_step (fail))
          refine wpQuiet_nil ?_
          rintro _ ⟨s, rfl⟩
          have HBq := Aside0.mk (below_then HB.out HB.out.size s.2)
          have HRq := Aside0.mk (Kd.R_below HR.out s.2)
          replace hca := hca s
          replace hcb := hcb s
          clear HB HR
          generalize s.1 = wq at HBq HRq hca hcb ⊢
          have HB := HBq
          have HR := HRq
          clear HBq HRq
          go_wp2_with ((with_reducible refine gate_dst (N := 46) rfl ?_); refine Kd.R_append (Kd.int .i64) (w0 := w) w.heap.size rfl _ _ 59 3 (.int .i64 0) 8 rfl Try.underlying59 Cc.infoI rfl (by decide) (by decide) v P x [.int .i64 x] (fun _ => True) (fun _ => False) rfl rfl rfl (fun _ h => h.elim) (fun _ _ => trivial) HR.out HB.out HB.out.size (by omega) ?_; intro v4 w4 hr4 hb4 hg4 hat4; have HR4 := Aside0.mk hr4; have HB4 := Aside0.mk hb4; clear hr4 hb4 hg4 hat4)
          go_roundw
          case rel => exact ⟨i + 1, k, P ++ [x], _, by omega, by omega, by simp; omega, by go_num, rfl, rfl, HN, HR4, HB4⟩
          case measure => simp [intOf]; omega
        · have t1 : decide (x < y) = false := decide_eq_false hxy
          by_cases hey : x = y
          · have t2 : (x == y) = true := by simpa using hey
            have HN := Aside0.mk (show uni a b = (P ++ [y]) ++ uni (a.drop (i + 1)) (b.drop (k + 1)) by rw [HU.out, HE3.out hey]; simp)
            have HEY := Aside0.mk hey
            clear HL3 HE3 HG3 hey hxy
            go_wp2
            replace hca := cellE hca
            replace hcb := cellE hcb
            refine region_ext (W := wr) (Below.refl _ _) (by kernel_rfl) (by kernel_rfl) ?_
            repeat (first | go_big_quiet_step (fail) | quiet_step (fail))
            refine wpQuiet_nil ?_
            rintro _ ⟨s, rfl⟩
            have HBq := Aside0.mk (below_then HB.out HB.out.size s.2)
            have HRq := Aside0.mk (Kd.R_below HR.out s.2)
            replace hca := hca s
            replace hcb := hcb s
            clear HB HR
            generalize s.1 = wq at HBq HRq hca hcb ⊢
            have HB := HBq
            have HR := HRq
            clear HBq HRq
            go_wp2
            replace hca := cellE hca
            replace hcb := cellE hcb
            refine region_ext (W := wq) (Below.refl _ _) (by kernel_rfl) (by kernel_rfl) ?_
            repeat (first | go_big_quiet_step (fail) | quiet_step (fail))
            refine wpQuiet_nil ?_
            rintro _ ⟨s, rfl⟩
            have HBq := Aside0.mk (below_then HB.out HB.out.size s.2)
            have HRq := Aside0.mk (Kd.R_below HR.out s.2)
            replace hca := hca s
            replace hcb := hcb s
            clear HB HR
            generalize s.1 = wq2 at HBq HRq hca hcb ⊢
            have HB := HBq
            have HR := HRq
            clear HBq HRq
            go_wp2_with ((with_reducible refine gate_dst (N := 72) rfl ?_); refine Kd.R_append (Kd.int .i64) (w0 := w) w.heap.size rfl _ _ 59 3 (.int .i64 0) 8 rfl Try.underlying59 Cc.infoI rfl (by decide) (by decide) v P y [.int .i64 y] (fun _ => True) (fun _ => False) rfl rfl rfl (fun _ h => h.elim) (fun _ _ => trivial) HR.out HB.out HB.out.size (by omega) ?_; intro v4 w4 hr4 hb4 hg4 hat4; have HR4 := Aside0.mk hr4; have HB4 := Aside0.mk hb4; clear hr4 hb4 hg4 hat4)
            go_roundw
            case rel => exact ⟨i + 1, k + 1, P ++ [y], _, by omega, by omega, by simp; omega, by go_num, by go_num, rfl, HN, HR4, HB4⟩
            case measure => simp [intOf]; omega
          · have t2 : (x == y) = false := by simpa using hey
            have HN := Aside0.mk (show uni a b = (P ++ [y]) ++ uni (a.drop i) (b.drop (k + 1)) by rw [HU.out, HG3.out (by omega)]; simp)
            clear HL3 HE3 HG3 hey hxy
            go_wp2
            replace hca := cellE hca
            replace hcb := cellE hcb
            refine region_ext (W := wr) (Below.refl _ _) (by kernel_rfl) (by kernel_rfl) ?_
            repeat (first | go_big_quiet_step (fail) | quiet_step (fail))
            refine wpQuiet_nil ?_
            rintro _ ⟨s, rfl⟩
            have HBq := Aside0.mk (below_then HB.out HB.out.size s.2)
            have HRq := Aside0.mk (Kd.R_below HR.out s.2)
            replace hca := hca s
            replace hcb := hcb s
            clear HB HR
            generalize s.1 = wq at HBq HRq hca hcb ⊢
            have HB := HBq
            have HR := HRq
            clear HBq HRq
            go_wp2
            replace hca := cellE hca
            replace hcb := cellE hcb
            refine region_ext (W := wq) (Below.refl _ _) (by kernel_rfl) (by kernel_rfl) ?_
            repeat (first | go_big_quiet_step (fail) | quiet_step (fail))
            refine wpQuiet_nil ?_
            rintro _ ⟨s, rfl⟩
            have HBq := Aside0.mk (below_then HB.out HB.out.size s.2)
            have HRq := Aside0.mk (Kd.R_below HR.out s.2)
            replace hca := hca s
            replace hcb := hcb s
            clear HB HR
            generalize s.1 = wq2 at HBq HRq hca hcb ⊢
            have HB := HBq
            have HR := HRq
            clear HBq HRq
            go_wp2_with ((with_reducible refine gate_dst (N := 72) rfl ?_); refine Kd.R_append (Kd.int .i64) (w0 := w) w.heap.size rfl _ _ 59 3 (.int .i64 0) 8 rfl Try.underlying59 Cc.infoI rfl (by decide) (by decide) v P y [.int .i64 y] (fun _ => True) (fun _ => False) rfl rfl rfl (fun _ h => h.elim) (fun _ _ => trivial) HR.out HB.out HB.out.size (by omega) ?_; intro v4 w4 hr4 hb4 hg4 hat4; have HR4 := Aside0.mk hr4; have HB4 := Aside0.mk hb4; clear hr4 hb4 hg4 hat4)
            go_roundw
            case rel => exact ⟨i, k + 1, P ++ [y], _, by omega, by omega, by simp; omega, rfl, by go_num, rfl, HN, HR4, HB4⟩
            case measure => simp [intOf]; omega
      · have b1 : decide (k < b.length) = false := decide_eq_false hkb
        have b3 : decide (b.length ≤ k) = true := decide_eq_true (by omega)
        have hl3 := uni_left (a := a) (b := b) hia (show b.length ≤ k by omega)
        generalize a.getD i 0 = x at hca hl3
        have HN := Aside0.mk (show uni a b = (P ++ [x]) ++ uni (a.drop (i + 1)) (b.drop k) by rw [HU.out, hl3]; simp)
        clear hl3
        go_wp2
        replace hca := cellE hca
        refine region_ext (W := wr) (Below.refl _ _) (by kernel_rfl) (by kernel_rfl) ?_
        repeat (first | go_big_quiet_step (fail) | quiet_step (fail))
        refine wpQuiet_nil ?_
        rintro _ ⟨s, rfl⟩
        have HBq := Aside0.mk (below_then HB.out HB.out.size s.2)
        have HRq := Aside0.mk (Kd.R_below HR.out s.2)
        replace hca := hca s
        clear HB HR
        generalize s.1 = wq at HBq HRq hca ⊢
        have HB := HBq
        have HR := HRq
        clear HBq HRq
        go_wp2_with ((with_reducible refine gate_dst (N := 46) rfl ?_); refine Kd.R_append (Kd.int .i64) (w0 := w) w.heap.size rfl _ _ 59 3 (.int .i64 0) 8 rfl Try.underlying59 Cc.infoI rfl (by decide) (by decide) v P x [.int .i64 x] (fun _ => True) (fun _ => False) rfl rfl rfl (fun _ h => h.elim) (fun _ _ => trivial) HR.out HB.out HB.out.size (by omega) ?_; intro v4 w4 hr4 hb4 hg4 hat4; have HR4 := Aside0.mk hr4; have HB4 := Aside0.mk hb4; clear hr4 hb4 hg4 hat4)
        go_roundw
        case rel => exact ⟨i + 1, k, P ++ [x], _, by omega, by omega, by simp; omega, by go_num, rfl, rfl, HN, HR4, HB4⟩
        case measure => simp [intOf]; omega
    · have a1 : decide (i < a.length) = false := decide_eq_false hia
      by_cases hkb : k < b.length
      · have b1 : decide (k < b.length) = true := decide_eq_true hkb
        have b2 : (k : Int) < b.length := by omega
        have b3 : decide (b.length ≤ k) = false := decide_eq_false (by omega)
        obtain ⟨bd, rfl, hcb⟩ := at1 (Kd.C_below hB HB.out) k hkb
        have hl3 := uni_right (a := a) (b := b) (show a.length ≤ i by omega) hkb
        generalize b.getD k 0 = y at hcb hl3
        have HN := Aside0.mk (show uni a b = (P ++ [y]) ++ uni (a.drop i) (b.drop (k + 1)) by rw [HU.out, hl3]; simp)
        clear hl3
        go_wp2
        replace hcb := cellE hcb
        refine region_ext (W := wr) (Below.refl _ _) (by kernel_rfl) (by kernel_rfl) ?_
        repeat (first | go_big_quiet_step (fail) | quiet_step (fail))
        refine wpQuiet_nil ?_
        rintro _ ⟨s, rfl⟩
        have HBq := Aside0.mk (below_then HB.out HB.out.size s.2)
        have HRq := Aside0.mk (Kd.R_below HR.out s.2)
        replace hcb := hcb s
        clear HB HR
        generalize s.1 = wq at HBq HRq hcb ⊢
        have HB := HBq
        have HR := HRq
        clear HBq HRq
        go_wp2
        replace hcb := cellE hcb
        refine region_ext (W := wq) (Below.refl _ _) (by kernel_rfl) (by kernel_rfl) ?_
        repeat (first | go_big_quiet_step (fail) | quiet_step (fail))
        refine wpQuiet_nil ?_
        rintro _ ⟨s, rfl⟩
        have HBq := Aside0.mk (below_then HB.out HB.out.size s.2)
        have HRq := Aside0.mk (Kd.R_below HR.out s.2)
        replace hcb := hcb s
        clear HB HR
        generalize s.1 = wq2 at HBq HRq hcb ⊢
        have HB := HBq
        have HR := HRq
        clear HBq HRq
        go_wp2_with ((with_reducible refine gate_dst (N := 72) rfl ?_); refine Kd.R_append (Kd.int .i64) (w0 := w) w.heap.size rfl _ _ 59 3 (.int .i64 0) 8 rfl Try.underlying59 Cc.infoI rfl (by decide) (by decide) v P y [.int .i64 y] (fun _ => True) (fun _ => False) rfl rfl rfl (fun _ h => h.elim) (fun _ _ => trivial) HR.out HB.out HB.out.size (by omega) ?_; intro v4 w4 hr4 hb4 hg4 hat4; have HR4 := Aside0.mk hr4; have HB4 := Aside0.mk hb4; clear hr4 hb4 hg4 hat4)
        go_roundw
        case rel => exact ⟨i, k + 1, P ++ [y], _, by omega, by omega, by simp; omega, rfl, by go_num, rfl, HN, HR4, HB4⟩
        case measure => simp [intOf]; omega
      · have b1 : decide (k < b.length) = false := decide_eq_false hkb
        have HN := Aside0.mk (show uni a b = P by rw [HU.out, uni_end (by omega) (by omega)]; simp)
        go_wp2
        go_ret
        exact ⟨_, rfl, by rw [HN.out]; exact HR.out, HB.out⟩

def JoinOut (w w' : World) (x y : Occ) (e : Ending) : Prop := ∃ v, e = .returned (.agg #[.int .i64 (join x y).f0, .int .i64 (join x y).f1, v]) ∧ (Kd.int .i64).R 3 w' w.heap.size (fun _ => True) v (join x y).f2 ∧ Below w.heap.size w w'
set_option maxHeartbeats 2000000 in
set_option maxRecDepth 100000 in
theorem sJoin_any (x y : Occ) (A B : Option Addr) (ca cb : Nat) (w : World) (hx : IsO w x A ca) (hy : IsO w y B cb) (lx : x.f2.length ≤ 1048576) (ly : y.f2.length ≤ 1048576) :
    Calls Try.prog 111 #[.agg #[.int .i64 x.f0, .int .i64 x.f1, .slice A x.f2.length ca], .agg #[.int .i64 y.f0, .int .i64 y.f1, .slice B y.f2.length cb]] w fun e w' => JoinOut w w' x y e := by
  obtain ⟨hb, b0, b1, b2⟩ := boxes3 w #[.int .i64 x.f0, .int .i64 x.f1, .slice A x.f2.length ca] #[.int .i64 y.f0, .int .i64 y.f1, .slice B y.f2.length cb] #[.int .i64 0, .int .i64 0, .slice none 0 0] 66 66 66
  have HX := Aside0.mk (hx.below hb)
  have HY := Aside0.mk (hy.below hb)
  have HB := Aside0.mk hb
  go_enter Try.func111, Try.ntmps111
  go_wp2
  generalize ((w.alloc (.cells #[.int .i64 x.f0, .int .i64 x.f1, .slice A x.f2.length ca] 66)).alloc (.cells #[.int .i64 y.f0, .int .i64 y.f1, .slice B y.f2.length cb] 66)).alloc (.cells #[.int .i64 0, .int .i64 0, .slice none 0 0] 66) = W at b0 b1 b2 HX HY HB ⊢
  clear hb
  have F : ∀ w', Below W.heap.size W w' → w'.cell? ⟨w.heap.size, 0, none⟩ = some (.int .i64 x.f0) ∧ w'.cell? ⟨w.heap.size, 1, none⟩ = some (.int .i64 x.f1) ∧ w'.cell? ⟨w.heap.size, 2, none⟩ = some (.slice A x.f2.length ca) ∧ w'.cell? ⟨w.heap.size + 1, 0, none⟩ = some (.int .i64 y.f0) ∧ w'.cell? ⟨w.heap.size + 1, 1, none⟩ = some (.int .i64 y.f1) ∧ w'.cell? ⟨w.heap.size + 1, 2, none⟩ = some (.slice B y.f2.length cb) :=
    fun w' h => ⟨pw_cell_below h ((blk_cell b0 0).trans rfl), pw_cell_below h ((blk_cell b0 1).trans rfl), pw_cell_below h ((blk_cell b0 2).trans rfl), pw_cell_below h ((blk_cell b1 0).trans rfl), pw_cell_below h ((blk_cell b1 1).trans rfl), pw_cell_below h ((blk_cell b1 2).trans rfl)⟩
  have k0 := fun w2 => min_any x.f0 y.f0 w2
  have k1 := fun w2 => max_any x.f1 y.f1 w2
  have hn0 : w.heap.size ≠ w.heap.size + 1 + 1 := by omega
  have hn1 : w.heap.size + 1 ≠ w.heap.size + 1 + 1 := by omega
  go_region_held3 (fun w' => w'.cell? ⟨w.heap.size, 0, none⟩ = some (.int .i64 x.f0) ∧ w'.cell? ⟨w.heap.size, 1, none⟩ = some (.int .i64 x.f1) ∧ w'.cell? ⟨w.heap.size, 2, none⟩ = some (.slice A x.f2.length ca) ∧ w'.cell? ⟨w.heap.size + 1, 0, none⟩ = some (.int .i64 y.f0) ∧ w'.cell? ⟨w.heap.size + 1, 1, none⟩ = some (.int .i64 y.f1) ∧ w'.cell? ⟨w.heap.size + 1, 2, none⟩ = some (.slice B y.f2.length cb))
    (first | (with_reducible exact F _ (Below.refl _ _)) | (with_reducible exact F _ (below_drew (Below.refl _ _))) | (with_reducible exact F _ HB5) | (with_reducible exact G5 _ _ _))
    (first
      | (go_at_call 130; refine (k0 _).mono ?_; rintro e w' ⟨rfl, rfl⟩)
      | (go_at_call 132; refine (k1 _).mono ?_; rintro e w' ⟨rfl, rfl⟩)
      | (go_at_call 133; refine (sUni_any A B ca cb x.f2 y.f2 _ lx ly (HX.out.below (below_drew (Below.refl _ _))).2 (HY.out.below (below_drew (Below.refl _ _))).2).mono ?_; rintro e w5 ⟨v5, rfl, hr5, hb5⟩; obtain ⟨A5, c5, rfl⟩ := Kd.R_slice hr5; have HB5 : Below W.heap.size W w5 := keepD hb5; have HR5 := Aside0.mk hr5; have b25 := blk_below b2 HB5; have q0 := (blk_cell b25 0).trans rfl; have q1 := (blk_cell b25 1).trans rfl; have q2 := (blk_cell b25 2).trans rfl; have z0 := blk_frozen b25 0; have z1 := blk_frozen b25 1; have z2 := blk_frozen b25 2; have b05 := blk_below b0 HB5; have b15 := blk_below b1 HB5; have G5 : ∀ u0 u1 u2, (((w5.setCell ⟨w.heap.size + 1 + 1, 0, none⟩ u0).setCell ⟨w.heap.size + 1 + 1, 1, none⟩ u1).setCell ⟨w.heap.size + 1 + 1, 2, none⟩ u2).cell? ⟨w.heap.size, 0, none⟩ = some (.int .i64 x.f0) ∧ (((w5.setCell ⟨w.heap.size + 1 + 1, 0, none⟩ u0).setCell ⟨w.heap.size + 1 + 1, 1, none⟩ u1).setCell ⟨w.heap.size + 1 + 1, 2, none⟩ u2).cell? ⟨w.heap.size, 1, none⟩ = some (.int .i64 x.f1) ∧ (((w5.setCell ⟨w.heap.size + 1 + 1, 0, none⟩ u0).setCell ⟨w.heap.size + 1 + 1, 1, none⟩ u1).setCell ⟨w.heap.size + 1 + 1, 2, none⟩ u2).cell? ⟨w.heap.size, 2, none⟩ = some (.slice A x.f2.length ca) ∧ (((w5.setCell ⟨w.heap.size + 1 + 1, 0, none⟩ u0).setCell ⟨w.heap.size + 1 + 1, 1, none⟩ u1).setCell ⟨w.heap.size + 1 + 1, 2, none⟩ u2).cell? ⟨w.heap.size + 1, 0, none⟩ = some (.int .i64 y.f0) ∧ (((w5.setCell ⟨w.heap.size + 1 + 1, 0, none⟩ u0).setCell ⟨w.heap.size + 1 + 1, 1, none⟩ u1).setCell ⟨w.heap.size + 1 + 1, 2, none⟩ u2).cell? ⟨w.heap.size + 1, 1, none⟩ = some (.int .i64 y.f1) ∧ (((w5.setCell ⟨w.heap.size + 1 + 1, 0, none⟩ u0).setCell ⟨w.heap.size + 1 + 1, 1, none⟩ u1).setCell ⟨w.heap.size + 1 + 1, 2, none⟩ u2).cell? ⟨w.heap.size + 1, 2, none⟩ = some (.slice B y.f2.length cb) := fun u0 u1 u2 => ⟨(far3 hn0).trans ((blk_cell b05 0).trans rfl), (far3 hn0).trans ((blk_cell b05 1).trans rfl), (far3 hn0).trans ((blk_cell b05 2).trans rfl), (far3 hn1).trans ((blk_cell b15 0).trans rfl), (far3 hn1).trans ((blk_cell b15 1).trans rfl), (far3 hn1).trans ((blk_cell b15 2).trans rfl)⟩; clear hr5 hb5))
  all_goals
    go_wp2
    refine bodyPost_ret (results_cell_row rfl _ _ (w.heap.size + 1 + 1) 66 #[.int .i64 (min x.f0 y.f0), .int .i64 (max x.f1 y.f1), .slice A5 (uni x.f2 y.f2).length c5] (0, 0) _ rfl (set3_blk _ _ _ b25) Try.underlying66 rfl (by kernel_rfl)) rfl ?_
    exact ⟨_, rfl, Kd.R_lower (set3_R HR5.out b25 (by decide) _ _ _) HB.out.size, set3_below (below_then HB.out HB.out.size HB5) (by omega) _ _ _⟩
end Go.Proofs.Ytccenpmaooailaa.Rb

/- The reference's marks of a list. -/
set_option linter.unusedVariables false
set_option linter.unusedSimpArgs false
namespace Go.Proofs.Ytccenpmaooailaa.Rc
open Go.RowKit Go.Proofs.YtccenpmaooailaaW.PrintWords Go.Proofs.Ytccenpmaooailaa.Wd Go.Proofs.Ytccenpmaooailaa.Pu Go.Proofs.Ytccenpmaooailaa.Pv Go.Proofs.Ytccenpmaooailaa.Ca Go.Proofs.Ytccenpmaooailaa.Cb Go.Proofs.Ytccenpmaooailaa.Cc Go.Proofs.Ytccenpmaooailaa.Cp Go.Proofs.Ytccenpmaooailaa.Cd Go.Proofs.Ytccenpmaooailaa.Ci Go.Proofs.Ytccenpmaooailaa.Ce Go.Proofs.Ytccenpmaooailaa.Cf Go.Proofs.Ytccenpmaooailaa.Cg Go.Proofs.Ytccenpmaooailaa.Sc Go.Proofs.Ytccenpmaooailaa.Sh Go.Proofs.Ytccenpmaooailaa.Si Go.Proofs.Ytccenpmaooailaa.Ia Go.Proofs.Ytccenpmaooailaa.Ib Go.Proofs.Ytccenpmaooailaa.Ic Go.Proofs.Ytccenpmaooailaa.If Go.Proofs.Ytccenpmaooailaa.Ij Go.Proofs.Ytccenpmaooailaa.Ra Go.Proofs.Ytccenpmaooailaa.Rb

theorem infoB : (Try.prog.info? 4).map (fun i => (i.zero, i.size, i.bytes)) = some (some (.bool false), 1, 1) := by kernel_rfl
/-- marks, up to place k -/
def bk (can : Occ → Bool) (l : List Occ) (k : Nat) : List Bool := (l.take k).map can ++ List.replicate (l.length - k) false
theorem bk_zero (can : Occ → Bool) (l : List Occ) : bk can l 0 = List.replicate l.length false := by simp [bk]
theorem bk_end (can : Occ → Bool) (l : List Occ) : bk can l l.length = l.map can := by simp [bk]
theorem bk_len (can : Occ → Bool) (l : List Occ) (k : Nat) (h : k ≤ l.length) : (bk can l k).length = l.length := by simp [bk]; omega
theorem bk_set (can : Occ → Bool) (l : List Occ) (k : Nat) (h : k < l.length) : (bk can l k).set k (can (l.getD k zO)) = bk can l (k + 1) := by
  unfold bk
  obtain ⟨m, hm⟩ : ∃ m, l.length - k = m + 1 := ⟨l.length - k - 1, by omega⟩
  have hm2 : l.length - (k + 1) = m := by omega
  rw [take_succ_getD l k zO h, List.map_append, hm, hm2, List.set_append_right _ _ (by simp; omega)]
  have hk : k - ((l.take k).map can).length = 0 := by rw [List.length_map, List.length_take]; omega
  rw [hk]
  simp [List.replicate_succ]
abbrev RB (w wr : World) (v : Value) (bs : List Bool) : Prop := Kd.bool.R 4 wr w.heap.size (fun _ => True) v bs
def MarksOut (w w' : World) (bs : List Bool) (e : Ending) : Prop := ∃ v, e = .returned v ∧ RB w w' v bs ∧ Below w.heap.size w w'

set_option maxHeartbeats 1000000 in
set_option maxRecDepth 100000 in
theorem whole_any (A : Option Addr) (c : Nat) (l : List Occ) (w : World) (hl : l.length ≤ 1048576) :
    Calls Try.prog 118 #[.slice A l.length c] w fun e w' => MarksOut w w' (l.map whole) e := by
  have hn : (0 : Int) ≤ l.length := by omega
  have hlb : ((l.length : Int)).toNat * 1 ≤ 281474976710656 := by omega
  go_enter Try.func118, Try.ntmps118
  go_wp2_with ((with_reducible refine gate_dst (N := 7) rfl ?_); refine Kd.R_make Kd.bool (w0 := w) w.heap.size 4 rfl (N := 7) rfl 86 _ _ rfl (l.length : Int) rfl rfl Try.underlying86 (.bool false) 1 infoB rfl (by decide) (by omega) false (ok := fun _ => True) (okp := fun _ => True) rfl (fun _ hk => hk) trivial hn hlb (Below.refl _ _) (Nat.le_refl _) ?_; intro v7 w7 hr7 hb7 hg7 _; simp only [Int.toNat_natCast] at hr7; rw [← bk_zero whole] at hr7; have HR := Aside0.mk hr7; have HB := Aside0.mk hb7; clear hr7 hb7 hg7)
  clear hlb hn
  go_loopw [4] (fun vi wr => ∃ k : Nat, k ≤ l.length ∧ vi = .int .i64 k ∧ Aside0 (RB w wr v7 (bk whole l k)) ∧ Aside0 (Below w.heap.size w wr)) (fun vi _ => l.length - (intOf vi).toNat)
  case atStart => exact ⟨0, Nat.zero_le _, rfl, HR, HB⟩
  case round =>
    clear HR HB
    obtain ⟨k, hk, rfl, HR, HB⟩ := hrel
    by_cases hlt : k < l.length
    · have g1 : decide (k < l.length) = true := decide_eq_true hlt
      have i1 : (k : Int) < l.length := by omega
      have hlen := bk_len whole l k hk
      obtain ⟨g, cap, rfl, hgb, hgl, hcl⟩ := Kd.R_form HR.out (by omega)
      rw [hlen] at HR ⊢
      have hce := Kd.R_celln false HR.out (k : Int) (by omega) (by omega)
      have hpp := Kd.R_putg HR.out (k : Int) true
      rw [Int.toNat_natCast] at hce hpp
      obtain ⟨h0, h1⟩ := hce
      have HN := Aside0.mk (bk_set whole l k hlt)
      have HS := Aside0.mk hpp.1
      have HBS := Aside0.mk (HB.out.setCell (p := ⟨g, k, none⟩) hgb (.bool true))
      clear hpp hlen
      go_wp2
      go_roundw
      case rel => exact ⟨k + 1, by omega, by go_num, ⟨by rw [← HN.out]; exact HS.out⟩, HBS⟩
      case measure => simp [intOf]; omega
    · have hke : k = l.length := by omega
      subst hke
      have g1 : decide (l.length < l.length) = false := decide_eq_false (by omega)
      have hR := HR.out
      rw [bk_end] at hR
      go_wp2
      go_ret
      exact ⟨v7, rfl, hR, HB.out⟩

set_option maxHeartbeats 1000000 in
set_option maxRecDepth 100000 in
theorem before_any (A B : Option Addr) (c cb : Nat) (l : List Occ) (o : Occ) (w : World) (hl : l.length ≤ 1048576) (hL : IsL w l A c) :
    Calls Try.prog 75 #[.slice A l.length c, .agg #[.int .i64 o.f0, .int .i64 o.f1, .slice B o.f2.length cb]] w fun e w' => MarksOut w w' (l.map (before o)) e := by
  have hn : (0 : Int) ≤ l.length := by omega
  have hlb : ((l.length : Int)).toNat * 1 ≤ 281474976710656 := by omega
  have hbx := box3 w (.int .i64 o.f0) (.int .i64 o.f1) (.slice B o.f2.length cb) 66
  have HX := Aside0.mk hbx.1
  have hx0 := hbx.2.1
  clear hbx
  go_enter Try.func75, Try.ntmps75
  go_upto_region 1 with fail
  obtain ⟨O, hO⟩ : ∃ O, O = w.heap.size := ⟨_, rfl⟩
  rw [← hO] at hx0 ⊢
  have hOw : w.heap.size ≤ O := by omega
  generalize w.alloc (.cells #[.int .i64 o.f0, .int .i64 o.f1, .slice B o.f2.length cb] 66) = W at HX hx0 ⊢
  have hOW : O < W.heap.size := World.block_lt_of_cell? W _ hx0
  clear hO
  go_wp2_with ((with_reducible refine gate_dst (N := 9) rfl ?_); refine Kd.R_make Kd.bool (w0 := W) W.heap.size 4 rfl (N := 9) rfl 86 _ _ rfl (l.length : Int) rfl rfl Try.underlying86 (.bool false) 1 infoB rfl (by decide) (by omega) false (ok := fun _ => True) (okp := fun _ => True) rfl (fun _ hk => hk) trivial hn hlb (Below.refl _ _) (Nat.le_refl _) ?_; intro v7 w7 hr7 hb7 hg7 _; simp only [Int.toNat_natCast] at hr7; rw [← bk_zero (before o)] at hr7; have HR := Aside0.mk hr7; have HB := Aside0.mk hb7; clear hr7 hb7 hg7)
  clear hlb hn
  go_loopw [6] (fun vi wr => ∃ k : Nat, k ≤ l.length ∧ vi = .int .i64 k ∧ Aside0 (RB W wr v7 (bk (before o) l k)) ∧ Aside0 (Below W.heap.size W wr)) (fun vi _ => l.length - (intOf vi).toNat)
  case atStart => exact ⟨0, Nat.zero_le _, rfl, HR, HB⟩
  case round =>
    clear HR HB
    obtain ⟨k, hk, rfl, HR, HB⟩ := hrel
    by_cases hlt : k < l.length
    · have g1 : decide (k < l.length) = true := decide_eq_true hlt
      have i1 : (k : Int) < l.length := by omega
      have hlen := bk_len (before o) l k hk
      obtain ⟨ad, A2, c3, rfl, pa, pb, pc, pl, pC⟩ := atO hL.rd k hlt
      have hlo : (ad.add (k * 3)).block < W.heap.size := Nat.lt_of_lt_of_le (World.block_lt_of_cell? w _ pa) HX.out.size
      have hpb := pw_cell_below (below_then HX.out HX.out.size HB.out) pb
      have hpx := pw_cell_below HB.out hx0
      obtain ⟨g, cap, rfl, hgb, hgl, hcl⟩ := Kd.R_form HR.out (by omega)
      rw [hlen] at HR ⊢
      have hce := Kd.R_celln false HR.out (k : Int) (by omega) (by omega)
      have HN := Aside0.mk (bk_set (before o) l k hlt)
      have hpp := fun b => Kd.R_putg HR.out (k : Int) b
      rw [Int.toNat_natCast] at hce
      simp only [Int.toNat_natCast] at hpp
      obtain ⟨h0, h1⟩ := hce
      generalize hy : l.getD k zO = y at pa pb pc pl pC hpb HN
      have HY := Aside0.mk hy
      have HS := Aside0.mk (hpp (before o y)).1
      have HBS := Aside0.mk (HB.out.setCell (p := ⟨g, k, none⟩) hgb (.bool (before o y)))
      have hng : (⟨(ad.add (k * 3)).block, (ad.add (k * 3)).off + 1, none⟩ : Addr).block ≠ g := by show (ad.add (k * 3)).block ≠ g; omega
      have hng2 : (⟨O, 0, none⟩ : Addr).block ≠ g := by show O ≠ g; omega
      have J : ∀ u, (wr.setCell ⟨g, k, none⟩ u).cell? ⟨(ad.add (k * 3)).block, (ad.add (k * 3)).off + 1, none⟩ = some (.int .i64 y.f1) ∧ (wr.setCell ⟨g, k, none⟩ u).cell? ⟨O, 0, none⟩ = some (.int .i64 o.f0) :=
        fun u => ⟨(World.cell?_of_block (Below.heap_setCell wr ⟨g, k, none⟩ u _ hng)).trans hpb, (World.cell?_of_block (Below.heap_setCell wr ⟨g, k, none⟩ u _ hng2)).trans hpx⟩
      have J2 : ∀ u, (wr.setCell ⟨g, k, none⟩ u).drew.cell? ⟨(ad.add (k * 3)).block, (ad.add (k * 3)).off + 1, none⟩ = some (.int .i64 y.f1) ∧ (wr.setCell ⟨g, k, none⟩ u).drew.cell? ⟨O, 0, none⟩ = some (.int .i64 o.f0) := J
      have F0 : wr.cell? ⟨(ad.add (k * 3)).block, (ad.add (k * 3)).off + 1, none⟩ = some (.int .i64 y.f1) ∧ wr.cell? ⟨O, 0, none⟩ = some (.int .i64 o.f0) := ⟨hpb, hpx⟩
      have F1 : wr.drew.cell? ⟨(ad.add (k * 3)).block, (ad.add (k * 3)).off + 1, none⟩ = some (.int .i64 y.f1) ∧ wr.drew.cell? ⟨O, 0, none⟩ = some (.int .i64 o.f0) := ⟨hpb, hpx⟩
      have d0 : wr.drew.cell? ⟨g, k, none⟩ = some (.bool (rdOf false (bk (before o) l k) (k : Int))) := h0
      have d1 : wr.drew.frozen? ⟨g, k, none⟩ = false := h1
      have hbe : before o y = decide (y.f1 < o.f0) := rfl
      rw [hbe] at HS HBS
      clear hpp hlen pa pb pc pl pC hy hbe
      go_wp2
      go_region_held3 (fun w' => w'.cell? ⟨(ad.add (k * 3)).block, (ad.add (k * 3)).off + 1, none⟩ = some (.int .i64 y.f1) ∧ w'.cell? ⟨O, 0, none⟩ = some (.int .i64 o.f0))
        (first | (with_reducible exact F0) | (with_reducible exact F1) | (with_reducible exact J _) | (with_reducible exact J2 _))
        (first | fail)
      go_wp2
      go_roundw
      case rel => exact ⟨k + 1, by omega, by go_num, ⟨by rw [← HN.out]; first | exact HS.out | exact Kd.R_drew HS.out⟩, ⟨by first | exact HBS.out | exact below_drew HBS.out⟩⟩
      case measure => simp [intOf]; omega
    · have hke : k = l.length := by omega
      subst hke
      have g1 : decide (l.length < l.length) = false := decide_eq_false (by omega)
      have hR := HR.out
      rw [bk_end] at hR
      go_wp2
      go_ret
      exact ⟨v7, rfl, Kd.R_lower hR HX.out.size, below_then HX.out HX.out.size HB.out⟩
end Go.Proofs.Ytccenpmaooailaa.Rc

/- What of a list is paired, and what is left: the reference's. -/
set_option linter.unusedVariables false
set_option linter.unusedSimpArgs false
namespace Go.Proofs.Ytccenpmaooailaa.Rd
open Go.RowKit Go.Proofs.YtccenpmaooailaaW.PrintWords Go.Proofs.Ytccenpmaooailaa.Wd Go.Proofs.Ytccenpmaooailaa.Pu Go.Proofs.Ytccenpmaooailaa.Pv Go.Proofs.Ytccenpmaooailaa.Ca Go.Proofs.Ytccenpmaooailaa.Cb Go.Proofs.Ytccenpmaooailaa.Cc Go.Proofs.Ytccenpmaooailaa.Cp Go.Proofs.Ytccenpmaooailaa.Cd Go.Proofs.Ytccenpmaooailaa.Ci Go.Proofs.Ytccenpmaooailaa.Ce Go.Proofs.Ytccenpmaooailaa.Cf Go.Proofs.Ytccenpmaooailaa.Cg Go.Proofs.Ytccenpmaooailaa.Sc Go.Proofs.Ytccenpmaooailaa.Se Go.Proofs.Ytccenpmaooailaa.Sh Go.Proofs.Ytccenpmaooailaa.Si Go.Proofs.Ytccenpmaooailaa.Ia Go.Proofs.Ytccenpmaooailaa.Ib Go.Proofs.Ytccenpmaooailaa.Ic Go.Proofs.Ytccenpmaooailaa.If Go.Proofs.Ytccenpmaooailaa.Ij Go.Proofs.Ytccenpmaooailaa.Ra Go.Proofs.Ytccenpmaooailaa.Rb Go.Proofs.Ytccenpmaooailaa.Rc

theorem atB {w : World} {A : Option Addr} {n : Nat} {xs : List Bool} (h : Kd.bool.C w A n xs) (k : Nat) (hk : k < n) : ∃ ad, A = some ad ∧ w.cell? (ad.add k) = some (.bool (xs.getD k false)) := by
  obtain ⟨ad, c, e, _, hK, hc⟩ := Kd.C_get h false (k : Int) (by omega) (by omega)
  rw [Int.toNat_natCast] at hK hc
  have hc' : ∀ j u, c[j]? = some u → w.cell? (ad.add (k * 1 + j)) = some u := hc
  have hK' : c = [.bool (xs.getD k false)] := hK
  refine ⟨ad, e, ?_⟩
  have := hc' 0 (.bool (xs.getD k false)) (by rw [hK']; rfl)
  simpa using this
theorem map_getD (can : Occ → Bool) (l : List Occ) (k : Nat) (h : k < l.length) : (l.map can).getD k false = can (l.getD k zO) := by
  rw [List.getD_eq_getElem?_getD, List.getD_eq_getElem?_getD, List.getElem?_map, List.getElem?_eq_getElem h]; rfl
def left2 (mode : Int) (can : Occ → Bool) (s0 : Occ) : Occ → Bool := fun x => if mode = 2 then !can x || !decide (x = s0) else !can x
theorem IsL.drop {w : World} {l : List Occ} {ad : Addr} {c m : Nat} (h : IsL w l (some ad) c) (hm : m ≤ l.length) : IsL w (l.drop m) (some (ad.add (m * 3))) (c - m) := by
  refine ⟨by rw [List.length_drop]; have := h.cap; omega, ?_⟩
  have := C_dropF h.rd m hm
  rw [List.length_drop]
  exact this
theorem drop_last {l : List Occ} (h : 0 < l.length) : l.drop (l.length - 1) = [l.getD (l.length - 1) zO] := by
  rw [drop_at l zO (l.length - 1) (by omega), List.drop_of_length_le (by omega)]
end Go.Proofs.Ytccenpmaooailaa.Rd

/- What is found of some and of one: the reference's. -/
set_option linter.unusedVariables false
set_option linter.unusedSimpArgs false
namespace Go.Proofs.Ytccenpmaooailaa.Re
open Go.RowKit Go.Proofs.YtccenpmaooailaaW.PrintWords Go.Proofs.Ytccenpmaooailaa.Wd Go.Proofs.Ytccenpmaooailaa.Pu Go.Proofs.Ytccenpmaooailaa.Pv Go.Proofs.Ytccenpmaooailaa.Ca Go.Proofs.Ytccenpmaooailaa.Cb Go.Proofs.Ytccenpmaooailaa.Cc Go.Proofs.Ytccenpmaooailaa.Cp Go.Proofs.Ytccenpmaooailaa.Cd Go.Proofs.Ytccenpmaooailaa.Ci Go.Proofs.Ytccenpmaooailaa.Ce Go.Proofs.Ytccenpmaooailaa.Cf Go.Proofs.Ytccenpmaooailaa.Cg Go.Proofs.Ytccenpmaooailaa.Sc Go.Proofs.Ytccenpmaooailaa.Se Go.Proofs.Ytccenpmaooailaa.Sh Go.Proofs.Ytccenpmaooailaa.Si Go.Proofs.Ytccenpmaooailaa.Sp Go.Proofs.Ytccenpmaooailaa.Ia Go.Proofs.Ytccenpmaooailaa.Ib Go.Proofs.Ytccenpmaooailaa.Ic Go.Proofs.Ytccenpmaooailaa.Id Go.Proofs.Ytccenpmaooailaa.If Go.Proofs.Ytccenpmaooailaa.Ij Go.Proofs.Ytccenpmaooailaa.Ra Go.Proofs.Ytccenpmaooailaa.Rb Go.Proofs.Ytccenpmaooailaa.Rc Go.Proofs.Ytccenpmaooailaa.Rd

def MakeOut (w w' : World) (l : List Occ) (e : Ending) : Prop := ∃ v, e = .returned v ∧ Rw w' w.heap.size v l ∧ Below w.heap.size w w'
set_option maxHeartbeats 4000000 in
set_option maxRecDepth 100000 in
theorem make_any (mode : Int) (U B : Option Addr) (cu cb : Nat) (s : List Occ) (o : Occ) (w : World) (hs : ∀ x ∈ s, IsOk x) (hok : IsOk o) (hl : s.length ≤ 1048576) (hU : IsL w s U cu) (ho : IsO w o B cb) :
    Calls Try.prog 77 #[.int .i64 mode, .slice U s.length cu, .agg #[.int .i64 o.f0, .int .i64 o.f1, .slice B o.f2.length cb]] w fun e w' => MakeOut w w' (make mode s o) e := by
  have bO := blk_alloc (blk_new w (.cells #[.int .i64 o.f0, .int .i64 o.f1, .slice B o.f2.length cb] 66)) (.cells #[] 66)
  have bE : ((w.alloc (.cells #[.int .i64 o.f0, .int .i64 o.f1, .slice B o.f2.length cb] 66)).alloc (.cells #[] 66)).heap[w.heap.size + 1]? = some (.cells #[] 66 (0, 0)) := by
    have := blk_new (w.alloc (.cells #[.int .i64 o.f0, .int .i64 o.f1, .slice B o.f2.length cb] 66)) (.cells #[] 66)
    simpa using this
  have HB0 := Aside0.mk (below_alloc (below_alloc (Below.refl w.heap.size w) (.cells #[.int .i64 o.f0, .int .i64 o.f1, .slice B o.f2.length cb] 66)) (.cells #[] 66))
  have HU := Aside0.mk hU
  have HO := Aside0.mk ho
  have HK := Aside0.mk hok
  have HS := Aside0.mk hs
  clear hU ho hok hs
  by_cases h0 : s.length = 0
  · have d0 : ((s.length : Int) == 0) = true := by simp [h0]
    have HE := Aside0.mk (show make mode s o = [] by unfold make; rw [if_pos h0])
    go_enter Try.func77, Try.ntmps77
    go_wp2
    go_ret
    exact ⟨_, rfl, by rw [HE.out]; exact R_empty kO bE (by omega), HB0.out⟩
  have d0 : ((s.length : Int) == 0) = false := by rw [beq_eq_false_iff_ne]; omega
  have d00 : ¬ ((s.length : Int) = 0) := by omega
  have HR0 : Aside0 (Rw ((w.alloc (.cells #[.int .i64 o.f0, .int .i64 o.f1, .slice B o.f2.length cb] 66)).alloc (.cells #[] 66)) (w.heap.size + 1) (.slice (some ⟨w.heap.size + 1, 0, none⟩) 0 0) []) := ⟨R_empty kO bE (Nat.le_refl _)⟩
  by_cases m4 : mode = 4
  · subst m4
    have HE := Aside0.mk (show make 4 s o = [s.foldl join o] by unfold make; rw [if_neg h0, if_pos rfl])
    go_enter Try.func77, Try.ntmps77
    go_upto_region 5 with fail
    generalize (w.alloc (.cells #[.int .i64 o.f0, .int .i64 o.f1, .slice B o.f2.length cb] 66)).alloc (.cells #[] 66) = W0 at bO bE HB0 HR0 ⊢
    have o0 := (blk_cell bO 0).trans rfl
    have o1 := (blk_cell bO 1).trans rfl
    have o2 := (blk_cell bO 2).trans rfl
    have bX0 := blk_new W0 (.cells #[.int .i64 o.f0, .int .i64 o.f1, .slice B o.f2.length cb] 66)
    have HB1 := Aside0.mk (below_then HB0.out HB0.out.size (below_alloc (Below.refl _ _) (.cells #[.int .i64 o.f0, .int .i64 o.f1, .slice B o.f2.length cb] 66)))
    have bE1 := blk_alloc bE (.cells #[.int .i64 o.f0, .int .i64 o.f1, .slice B o.f2.length cb] 66)
    have hWs : w.heap.size + 1 < W0.heap.size := blk_lt bE
    go_upto_region 6 with fail
    obtain ⟨X, hX⟩ : ∃ X, X = W0.heap.size := ⟨_, rfl⟩
    rw [← hX] at bX0 hWs ⊢
    generalize W0.alloc (.cells #[.int .i64 o.f0, .int .i64 o.f1, .slice B o.f2.length cb] 66) = W1 at bX0 HB1 bE1 ⊢
    clear hX o0 o1 o2 bO bE HB0 HR0
    go_wp2
    go_loopw [9] (fun vi wr => ∃ (k : Nat) (x : Occ) (Ax : Option Addr) (cx : Nat), k ≤ s.length ∧ vi = .int .i64 k ∧ Aside0 (x = (s.take k).foldl join o ∧ IsOk x) ∧ Aside0 (IsO wr x Ax cx ∧ (0 < k → ∃ v0, v0 = .slice Ax x.f2.length cx ∧ (Kd.int .i64).R 3 wr (w.heap.size + 1) (fun _ => True) v0 x.f2)) ∧ Aside0 (wr.heap[X]? = some (.cells #[.int .i64 x.f0, .int .i64 x.f1, .slice Ax x.f2.length cx] 66 (0, 0))) ∧ Aside0 (wr.heap[w.heap.size + 1]? = some (.cells #[] 66 (0, 0))) ∧ Aside0 (Below w.heap.size w wr)) (fun vi _ => s.length - (intOf vi).toNat)
    case atStart => exact ⟨0, o, B, cb, Nat.zero_le _, rfl, ⟨by simp, HK.out⟩, ⟨HO.out.below HB1.out, fun h => absurd h (Nat.lt_irrefl _)⟩, ⟨bX0⟩, ⟨bE1⟩, HB1⟩
    case round =>
      clear bX0 bE1 HB1
      obtain ⟨k, x, Ax, cx, hk, rfl, HX, HI, HBX, HEB, HB⟩ := hrel
      have bX := HBX.out
      by_cases hlt : k < s.length
      · have g1 : decide (k < s.length) = true := decide_eq_true hlt
        have i1 : (k : Int) < s.length := by omega
        obtain ⟨ad, A3, c3, rfl, pa, pb, pc, pl, pC⟩ := atO HU.out.rd k hlt
        have hIw : IsO w (s.getD k zO) A3 c3 := ⟨pl, pC⟩
        have hy := HS.out _ (getD_mem (l := s) (i := k) hlt)
        have hT := take_succ_getD s k zO hlt
        have hlo : (ad.add (k * 3)).block < w.heap.size := World.block_lt_of_cell? w _ pa
        have qa := pw_cell_below HB.out pa
        have qb := pw_cell_below HB.out pb
        have qc := pw_cell_below HB.out pc
        have hIy := hIw.below HB.out
        generalize s.getD k zO = y at qa qb qc hIy hy hT
        have HT := Aside0.mk hT
        have HY := Aside0.mk hy
        have HIy := Aside0.mk hIy
        clear pl pC hy hT pa pb pc hIw hIy
        have hXw : w.heap.size + 1 < X := hWs
        have F : ∀ w', Below wr.heap.size wr w' → w'.cell? ⟨X, 0, none⟩ = some (.int .i64 x.f0) ∧ w'.cell? ⟨X, 1, none⟩ = some (.int .i64 x.f1) ∧ w'.cell? ⟨X, 2, none⟩ = some (.slice Ax x.f2.length cx) ∧ w'.cell? (ad.add (k * 3)) = some (.int .i64 y.f0) ∧ w'.cell? ⟨(ad.add (k * 3)).block, (ad.add (k * 3)).off + 1, none⟩ = some (.int .i64 y.f1) ∧ w'.cell? ⟨(ad.add (k * 3)).block, (ad.add (k * 3)).off + 2, none⟩ = some (.slice A3 y.f2.length c3) :=
          fun w' h => ⟨pw_cell_below h ((blk_cell bX 0).trans rfl), pw_cell_below h ((blk_cell bX 1).trans rfl), pw_cell_below h ((blk_cell bX 2).trans rfl), pw_cell_below h qa, pw_cell_below h qb, pw_cell_below h qc⟩
        go_upto_region 9 with fail
        have hnX : (ad.add (k * 3)).block ≠ X := by omega
        have x0 := (blk_cell bX 0).trans rfl
        have x1 := (blk_cell bX 1).trans rfl
        have x2 := (blk_cell bX 2).trans rfl
        go_still_tail 5, (by kernel_rfl)
        change wpList _ _ _ _ _ wr.drew
        go_wp2_with (go_at_call 111; refine (sJoin_any x y Ax A3 cx c3 _ (HI.out.1.below (below_drew (Below.refl _ _))) (HIy.out.below (below_drew (Below.refl _ _))) (isOk_big HX.out.2) (isOk_big HY.out)).mono ?_; rintro e wj ⟨vj, rfl, hj, hbj⟩; obtain ⟨Aj, cj, rfl⟩ := Kd.R_slice hj; have HBj : Below wr.heap.size wr wj := keepD hbj; have bXj := blk_below bX HBj; have q0 := (blk_cell bXj 0).trans rfl; have q1 := (blk_cell bXj 1).trans rfl; have q2 := (blk_cell bXj 2).trans rfl; have z0 := blk_frozen bXj 0; have z1 := blk_frozen bXj 1; have z2 := blk_frozen bXj 2; have HJ := Aside0.mk hj; clear hj hbj)
        have r3 := set3_R HJ.out bXj (by decide) (.int .i64 (join x y).f0) (.int .i64 (join x y).f1) (.slice Aj (join x y).f2.length cj)
        have b3 := set3_blk (.int .i64 (join x y).f0) (.int .i64 (join x y).f1) (.slice Aj (join x y).f2.length cj) bXj
        have hq := Kd.R_reads' r3
        have HE4 := Aside0.mk (show (set3 wj X (.int .i64 (join x y).f0) (.int .i64 (join x y).f1) (.slice Aj (join x y).f2.length cj)).heap[w.heap.size + 1]? = some (.cells #[] 66 (0, 0)) from blk_far (blk_far (blk_far (blk_below HEB.out HBj) (p := ⟨X, 0, none⟩) (show w.heap.size + 1 ≠ X by omega) _) (p := ⟨X, 1, none⟩) (show w.heap.size + 1 ≠ X by omega) _) (p := ⟨X, 2, none⟩) (show w.heap.size + 1 ≠ X by omega) _)
        have HB4 := Aside0.mk (set3_below (below_then HB.out HB.out.size HBj) (show w.heap.size ≤ X by omega) (.int .i64 (join x y).f0) (.int .i64 (join x y).f1) (.slice Aj (join x y).f2.length cj))
        have hge : w.heap.size + 1 ≤ wr.heap.size := by have := blk_lt bX; omega
        go_roundw
        case rel => exact ⟨k + 1, join x y, Aj, cj, by omega, by go_num, ⟨by rw [HT.out, List.foldl_append, ← HX.out.1]; rfl, isOk_join HX.out.2 HY.out⟩, ⟨⟨hq.2.1, hq.2.2⟩, fun _ => ⟨_, rfl, Kd.R_lower r3 hge⟩⟩, ⟨b3⟩, HE4, HB4⟩
        case measure => simp [intOf]; omega
      · have hke : k = s.length := by omega
        subst hke
        have g1 : decide (s.length < s.length) = false := decide_eq_false (by omega)
        have hX := HX.out.1
        rw [List.take_length] at hX
        obtain ⟨v0, hv0, hr0⟩ := HI.out.2 (by omega)
        subst hv0
        have b0 := (blk_cell bX 0).trans rfl
        have b1 := (blk_cell bX 1).trans rfl
        have b2 := (blk_cell bX 2).trans rfl
        have HXE := Aside0.mk hX
        have HVT := Aside0.mk (Kd.R_mono (Kd.R_types hr0 HEB.out (by decide)) (fun j hj => Ne.symm hj.2))
        have hXs := blk_lt bX
        have hge : w.heap.size + 1 ≤ wr.heap.size := by omega
        clear hX hr0
        go_wp2_with ((with_reducible refine gate_dst (N := 34) rfl ?_); refine Kd.R_append kO (w0 := wr) (w.heap.size + 1) rfl _ _ 27 66 (.agg #[.int .i64 0, .int .i64 0, .slice none 0 0]) 40 rfl Try.underlying27 infoO rfl (by decide) (by decide) (.slice (some ⟨w.heap.size + 1, 0, none⟩) 0 0) [] x [.int .i64 x.f0, .int .i64 x.f1, .slice Ax x.f2.length cx] (fun _ => True) (fun j => w.heap.size + 1 ≠ j) rfl rfl (kO_mkM _ _ _ x HVT.out) (fun j hj => ⟨trivial, fun h => hj (by simpa [Value.ownBlock] using h.symm)⟩) (fun _ _ => trivial) (R_empty kO HEB.out (Nat.le_refl _)) (Below.refl _ _) hge (by simp) ?_; intro v4 w4 hr4 hb4 hg4 hat4; have HR4 := Aside0.mk hr4; have HB4 : Aside0 (Below w.heap.size w w4) := ⟨Below.grown HB.out hg4 HB.out.size (fun j hj => by simp [Value.ownBlock] at hj; omega)⟩; clear hr4 hb4 hg4 hat4)
        go_ret
        exact ⟨v4, rfl, by rw [HE.out, ← HXE.out]; exact Kd.R_lower HR4.out (by omega), HB4.out⟩
  have e4 : (mode == 4) = false := by rw [beq_eq_false_iff_ne]; omega
  have HE := Aside0.mk (show make mode s o = putAll [] (s.map (fun x => join x o)) by unfold make; rw [if_neg h0, if_neg m4])
  go_enter Try.func77, Try.ntmps77
  go_wp2
  generalize (w.alloc (.cells #[.int .i64 o.f0, .int .i64 o.f1, .slice B o.f2.length cb] 66)).alloc (.cells #[] 66) = W0 at bO bE HB0 HR0 ⊢
  clear bE
  go_loopw [7, 10] (fun v7 vi wr => ∃ (k : Nat) (v : Value), k ≤ s.length ∧ vi = .int .i64 k ∧ v = v7 ∧ Aside0 (Rw wr (w.heap.size + 1) v (putAll [] ((s.take k).map (fun x => join x o)))) ∧ Aside0 (wr.heap[w.heap.size]? = some (.cells #[.int .i64 o.f0, .int .i64 o.f1, .slice B o.f2.length cb] 66 (0, 0))) ∧ Aside0 (Below w.heap.size w wr)) (fun _ vi _ => s.length - (intOf vi).toNat)
  case atStart => exact ⟨0, _, Nat.zero_le _, rfl, rfl, by simpa [putAll] using HR0, ⟨bO⟩, HB0⟩
  case round =>
    clear HR0 bO HB0
    obtain ⟨k, v, hk, rfl, rfl, HR, HBO, HB⟩ := hrel
    by_cases hlt : k < s.length
    · have g1 : decide (k < s.length) = true := decide_eq_true hlt
      have i1 : (k : Int) < s.length := by omega
      obtain ⟨ad, A3, c3, rfl, pa, pb, pc, pl, pC⟩ := atO HU.out.rd k hlt
      have hIy : IsO wr (s.getD k zO) A3 c3 := IsO.below ⟨pl, pC⟩ HB.out
      have hy := HS.out _ (getD_mem (l := s) (i := k) hlt)
      have hT := take_succ_getD s k zO hlt
      have hln := len_putAll1 [] ((s.take k).map (fun x => join x o))
      rw [List.length_map, List.length_take] at hln
      have hall : ∀ x ∈ s.take k, IsOk x := fun x hx => HS.out x (List.mem_of_mem_take hx)
      have hsk : AreOk (putAll [] ((s.take k).map (fun x => join x o))) := AreOk.nil.putAll (fun x hx => by obtain ⟨z, hz, rfl⟩ := List.mem_map.1 hx; exact isOk_join (hall z hz) HK.out)
      generalize s.getD k zO = y at pa pb pc hIy hy hT
      have HT := Aside0.mk (show putAll [] ((s.take (k + 1)).map (fun x => join x o)) = put (putAll [] ((s.take k).map (fun x => join x o))) (join y o) by rw [hT, List.map_append, putAll_append]; rfl)
      have HY := Aside0.mk hy
      have HIy := Aside0.mk hIy
      have HSK := Aside0.mk hsk
      have HIo := Aside0.mk (HO.out.below HB.out)
      have b0 := (blk_cell HBO.out 0).trans rfl
      have b1 := (blk_cell HBO.out 1).trans rfl
      have b2 := (blk_cell HBO.out 2).trans rfl
      have hOs := blk_lt HBO.out
      clear pl pC hy hT hall hsk hIy
      generalize putAll [] ((s.take k).map (fun x => join x o)) = L at *
      go_upto_region 14 with fail
      have F : ∀ w' : World, Below w.heap.size w w' → w'.cell? (ad.add (k * 3)) = some (.int .i64 y.f0) ∧ w'.cell? ⟨(ad.add (k * 3)).block, (ad.add (k * 3)).off + 1, none⟩ = some (.int .i64 y.f1) ∧ w'.cell? ⟨(ad.add (k * 3)).block, (ad.add (k * 3)).off + 2, none⟩ = some (.slice A3 y.f2.length c3) := fun w' h => ⟨pw_cell_below h pa, pw_cell_below h pb, pw_cell_below h pc⟩
      have G : ∀ w' : World, w'.heap[w.heap.size]? = some (.cells #[.int .i64 o.f0, .int .i64 o.f1, .slice B o.f2.length cb] 66 (0, 0)) → w'.cell? ⟨w.heap.size, 0, none⟩ = some (.int .i64 o.f0) ∧ w'.cell? ⟨w.heap.size, 1, none⟩ = some (.int .i64 o.f1) ∧ w'.cell? ⟨w.heap.size, 2, none⟩ = some (.slice B o.f2.length cb) := fun w' h => ⟨(blk_cell h 0).trans rfl, (blk_cell h 1).trans rfl, (blk_cell h 2).trans rfl⟩
      have F0 : (wr.cell? (ad.add (k * 3)) = some (.int .i64 y.f0) ∧ wr.cell? ⟨(ad.add (k * 3)).block, (ad.add (k * 3)).off + 1, none⟩ = some (.int .i64 y.f1) ∧ wr.cell? ⟨(ad.add (k * 3)).block, (ad.add (k * 3)).off + 2, none⟩ = some (.slice A3 y.f2.length c3)) ∧ (wr.cell? ⟨w.heap.size, 0, none⟩ = some (.int .i64 o.f0) ∧ wr.cell? ⟨w.heap.size, 1, none⟩ = some (.int .i64 o.f1) ∧ wr.cell? ⟨w.heap.size, 2, none⟩ = some (.slice B o.f2.length cb)) := ⟨F _ HB.out, G _ HBO.out⟩
      have F1 : (wr.drew.cell? (ad.add (k * 3)) = some (.int .i64 y.f0) ∧ wr.drew.cell? ⟨(ad.add (k * 3)).block, (ad.add (k * 3)).off + 1, none⟩ = some (.int .i64 y.f1) ∧ wr.drew.cell? ⟨(ad.add (k * 3)).block, (ad.add (k * 3)).off + 2, none⟩ = some (.slice A3 y.f2.length c3)) ∧ (wr.drew.cell? ⟨w.heap.size, 0, none⟩ = some (.int .i64 o.f0) ∧ wr.drew.cell? ⟨w.heap.size, 1, none⟩ = some (.int .i64 o.f1) ∧ wr.drew.cell? ⟨w.heap.size, 2, none⟩ = some (.slice B o.f2.length cb)) := F0
      clear b0 b1 b2
      go_region_held3 (fun w' => (w'.cell? (ad.add (k * 3)) = some (.int .i64 y.f0) ∧ w'.cell? ⟨(ad.add (k * 3)).block, (ad.add (k * 3)).off + 1, none⟩ = some (.int .i64 y.f1) ∧ w'.cell? ⟨(ad.add (k * 3)).block, (ad.add (k * 3)).off + 2, none⟩ = some (.slice A3 y.f2.length c3)) ∧ (w'.cell? ⟨w.heap.size, 0, none⟩ = some (.int .i64 o.f0) ∧ w'.cell? ⟨w.heap.size, 1, none⟩ = some (.int .i64 o.f1) ∧ w'.cell? ⟨w.heap.size, 2, none⟩ = some (.slice B o.f2.length cb)))
        (first | (with_reducible exact F0) | (with_reducible exact F1) | (with_reducible exact ⟨F _ HBw.out, G _ HBOj.out⟩) | (with_reducible exact ⟨F _ HB3.out, G _ HBO3.out⟩))
        (first
        | (go_at_call 110; refine (oPut_any wr (w.heap.size + 1) (fun _ => True) v L Aj cj (join y o) _ HBj.out HSK.out.sorted (by simp at hln; omega) HRj.out HIj.out (isOk_big (isOk_join HY.out HK.out)) (Nat.le_trans (Nat.succ_le_of_lt hOs) HBj.out.size) (fun _ _ => trivial)).mono ?_; rintro e w3 ⟨v3, rfl, hr3, hg3, hat3⟩; have HR3 := Aside0.mk hr3; have hbv := Kd.R_base HRj.out; have HBO3 := Aside0.mk (blk_grown (blk_below HBO.out HBj.out) hg3 (fun h => by have := hbv _ h.symm; omega)); have HB3 : Aside0 (Below w.heap.size w w3) := ⟨Below.grown (below_then HB.out HB.out.size HBj.out) hg3 (Nat.le_trans HB.out.size HBj.out.size) (fun j hj => by have := hbv j hj; omega)⟩; clear hr3 hg3 hat3 hbv)
        | (go_at_call 111; refine (sJoin_any y o A3 B c3 cb _ (HIy.out.below (below_drew (Below.refl _ _))) (HIo.out.below (below_drew (Below.refl _ _))) (isOk_big HY.out) (isOk_big HK.out)).mono ?_; rintro e wj ⟨vj, rfl, hj, hbj⟩; obtain ⟨Aj, cj, rfl⟩ := Kd.R_slice hj; have HBj : Aside0 (Below wr.heap.size wr wj) := ⟨keepD hbj⟩; have hjq := Kd.R_reads' hj; have HBw := Aside0.mk (below_then HB.out HB.out.size HBj.out); have HBOj := Aside0.mk (blk_below HBO.out HBj.out); have HIj : Aside0 (IsO wj (join y o) Aj cj) := ⟨⟨hjq.2.1, hjq.2.2⟩⟩; have HRj := Aside0.mk (Kd.R_below HR.out HBj.out); clear hj hbj hjq))
      go_wp2
      go_roundw
      case rel => exact ⟨k + 1, v3, by omega, by go_num, rfl, ⟨by rw [HT.out]; exact HR3.out⟩, HBO3, HB3⟩
      case measure => simp [intOf]; omega
    · have hke : k = s.length := by omega
      subst hke
      have g1 : decide (s.length < s.length) = false := decide_eq_false (by omega)
      have hR := HR.out
      rw [List.take_length] at hR
      have HR2 := Aside0.mk hR
      clear hR
      go_wp2
      go_ret
      exact ⟨v, rfl, by rw [HE.out]; exact Kd.R_lower HR2.out (by omega), HB.out⟩
end Go.Proofs.Ytccenpmaooailaa.Re

/- The reference's own lists whose elements came in or were made. -/
set_option linter.unusedVariables false
set_option linter.unusedSimpArgs false
namespace Go.Proofs.Ytccenpmaooailaa.Ya
open Go.RowKit Go.Proofs.YtccenpmaooailaaW.PrintWords Go.Proofs.Ytccenpmaooailaa.Wd Go.Proofs.Ytccenpmaooailaa.Pu Go.Proofs.Ytccenpmaooailaa.Pv Go.Proofs.Ytccenpmaooailaa.Ca Go.Proofs.Ytccenpmaooailaa.Cb Go.Proofs.Ytccenpmaooailaa.Cc Go.Proofs.Ytccenpmaooailaa.Cp Go.Proofs.Ytccenpmaooailaa.Cd Go.Proofs.Ytccenpmaooailaa.Ci Go.Proofs.Ytccenpmaooailaa.Ce Go.Proofs.Ytccenpmaooailaa.Cf Go.Proofs.Ytccenpmaooailaa.Cg Go.Proofs.Ytccenpmaooailaa.Sc Go.Proofs.Ytccenpmaooailaa.Sh Go.Proofs.Ytccenpmaooailaa.Si Go.Proofs.Ytccenpmaooailaa.Sp Go.Proofs.Ytccenpmaooailaa.Ia Go.Proofs.Ytccenpmaooailaa.Ib Go.Proofs.Ytccenpmaooailaa.Ic Go.Proofs.Ytccenpmaooailaa.Id Go.Proofs.Ytccenpmaooailaa.Ie Go.Proofs.Ytccenpmaooailaa.If Go.Proofs.Ytccenpmaooailaa.Ig Go.Proofs.Ytccenpmaooailaa.Ih Go.Proofs.Ytccenpmaooailaa.Ij Go.Proofs.Ytccenpmaooailaa.Ik Go.Proofs.Ytccenpmaooailaa.Ra Go.Proofs.Ytccenpmaooailaa.Rb Go.Proofs.Ytccenpmaooailaa.Rc Go.Proofs.Ytccenpmaooailaa.Sj

abbrev Xw (Wz w : World) (base : Nat) (v : Value) (l : List Occ) : Prop := (kX Wz).R 66 w base (fun _ => True) v l
variable {Wz : World}
theorem Xw.of {w : World} {base : Nat} {v : Value} {l : List Occ} (h : Rw w base v l) : Xw Wz w base v l :=
  Kd.R_imp (d := kO) (d' := kX Wz) rfl (fun w base ok x cs h => by obtain ⟨v, rfl, g⟩ := kO_openM h; exact kX_made x g) h
theorem Xw.keep {S : Nat → Prop} {w w' : World} {base : Nat} {v : Value} {l : List Occ} (h : Xw Wz w base v l) (hf : Fr S w w') (h1 : ∀ k, own v k → ¬ S k) (h2 : NotInt w S) : Xw Wz w' base v l := by
  have h3 : (kX Wz).R 66 w base (fun k => ¬ S k) v l := R_split h h1 (fun k q cells _ _ hlt hq hc hs => by
    obtain ⟨cs, t, ht, he⟩ := h2 k hs hlt
    rw [hc] at he
    injection he with he
    injection he with _ e2 _
    have hq2 : q = 3 := by simpa using (show q ∈ [3] from hq)
    exact ht (by rw [← e2, hq2]))
  exact Kd.R_mono (Kd.R_step h3 (fun k hk hlt => hf.block k hlt hk)) (fun _ _ => trivial)
theorem Xw.typed {w : World} {base : Nat} {v : Value} {l : List Occ} (h : Xw Wz w base v l) : NotInt w (own v) := fun k hk _ => by
  obtain ⟨cells, hc⟩ := Kd.R_typed h k hk
  exact ⟨cells, 66, by decide, hc⟩
theorem Xw.len {w : World} {base : Nat} {A : Option Addr} {n c : Nat} {l : List Occ} (h : Xw Wz w base (.slice A n c) l) : n = l.length := (Kd.R_reads' h).1
theorem Xw.isL {w : World} {base : Nat} {A : Option Addr} {n c : Nat} {l : List Occ} (hW : Below Wz.heap.size Wz w) (h : Xw Wz w base (.slice A n c) l) : IsL w l A c := by
  have hq := Kd.R_reads' h
  exact ⟨by have := hq.2.1; have := hq.1; omega, X_O hW hq.2.2⟩
theorem Xw.below {w w' : World} {base : Nat} {v : Value} {l : List Occ} (h : Xw Wz w base v l) (hb : Below w.heap.size w w') : Xw Wz w' base v l := Kd.R_below h hb
theorem Xw.lt {w : World} {base : Nat} {v : Value} {l : List Occ} (h : Xw Wz w base v l) : ∀ k, own v k → k < w.heap.size := Kd.R_lt h
theorem Xw.base {w : World} {base : Nat} {v : Value} {l : List Occ} (h : Xw Wz w base v l) : ∀ k, own v k → base ≤ k := Kd.R_base h
theorem Xw.slice {w : World} {base : Nat} {v : Value} {l : List Occ} (h : Xw Wz w base v l) : ∃ A c, v = .slice A l.length c := Kd.R_slice h
/-- two values' own blocks differ -/
def Nq (u v : Value) : Prop := ∀ k, own u k → ¬ own v k
theorem Nq.symm {u v : Value} (h : Nq u v) : Nq v u := fun k h1 h2 => h k h2 h1
theorem Nq.fresh {u v : Value} {n : Nat} (h : ∀ k, own u k → k < n) (g : ∀ k, own v k → n ≤ k) : Nq u v := fun k h1 h2 => by have := h k h1; have := g k h2; omega
theorem Nq.at_ {u v v' : Value} {n : Nat} (h : Nq u v) (hu : ∀ k, own u k → k < n) (ha : At' v v' n) : Nq u v' := fun k h1 h2 => by
  rcases ha with e | ⟨b, e, hb⟩
  · exact h k h1 (e.symm.trans h2)
  · have := hu k h1
    have h3 : some b = some k := e.symm.trans h2
    injection h3 with h3
    omega
/-- another list's growth keeps a list -/
theorem Xw.other {w w' : World} {base base2 : Nat} {u v : Value} {l m : List Occ} (h : Xw Wz w base u l) (g : Xw Wz w base2 v m) (hg : w.grownBy w' v.ownBlock) (hn : Nq u v) : Xw Wz w' base u l :=
  Xw.keep h (Fr.of_grown hg (S := own v) (fun k e => e.symm)) hn (Xw.typed g)
theorem Fr.bel {S : Nat → Prop} {w w' : World} (hW : Below Wz.heap.size Wz w) (hf : Fr S w w') (hS : ∀ k, S k → Wz.heap.size ≤ k) : Below Wz.heap.size Wz w' :=
  ⟨hf.os.trans hW.os, hf.tape.trans hW.tape, hf.output.trans hW.output, Nat.le_trans hW.size hf.size, fun k hk => (hf.block k (Nat.lt_of_lt_of_le hk hW.size) (fun hs => by have := hS k hs; omega)).trans (hW.block k hk)⟩
theorem Xw.read {w : World} {base base2 : Nat} {u : Value} {A : Option Addr} {n c : Nat} {l m : List Occ} (hW : Below Wz.heap.size Wz w) (hb2 : Wz.heap.size ≤ base) (h : Xw Wz w base u l) (g : Xw Wz w base2 (.slice A n c) m) (hn : Nq (.slice A n c) u) : ∀ W, Fr (own u) w W → IsL W m A c :=
  fun W hf => Xw.isL (Fr.bel hW hf (fun k hk => by have := Xw.base h k hk; omega)) (Xw.keep g hf hn (Xw.typed h))
theorem Xw.set {w : World} {base P : Nat} {u : Value} {l : List Occ} {cells : Array Value} {t : TypeId} (h : Xw Wz w base u l) (b : w.heap[P]? = some (.cells cells t (0, 0))) (ht : ∀ q, q ∈ 66 :: kO.E → q ≠ t) (j : Nat) (x : Value) : Xw Wz (w.setCell ⟨P, j, none⟩ x) base u l := Kd.R_set h b ht j x
def XGrow (Wz w w' : World) (base : Nat) (v : Value) (l : List Occ) (e : Ending) : Prop := ∃ v', e = .returned v' ∧ Xw Wz w' base v' l ∧ w.grownBy w' v.ownBlock ∧ At' v v' w.heap.size

set_option maxHeartbeats 1000000 in
set_option maxRecDepth 100000 in
theorem xmerge_any (Wz : World) (base : Nat) (v : Value) (a : List Occ) (B : Option Addr) (cb : Nat) (b : List Occ) (w : World) (ha : AreOk a) (hb : ∀ x ∈ b, IsOk x) (hl : a.length + b.length ≤ 1048576) (hW : Below Wz.heap.size Wz w) (hWb : Wz.heap.size ≤ base) (hR : Xw Wz w base v a) (hB : ∀ W, Fr (own v) w W → IsL W b B cb) (hbase : base ≤ w.heap.size) :
    Calls Try.prog 76 #[v, .slice B b.length cb] w fun e w' => XGrow Wz w w' base v (putAll a b) e := by
  have HBB := Aside0.mk hB
  clear hB
  go_enter Try.func76, Try.ntmps76
  go_wp2
  go_loopw [0, 5] (fun v0 vi wr => ∃ (k : Nat) (v1 : Value), k ≤ b.length ∧ vi = .int .i64 k ∧ v1 = v0 ∧ Aside0 (Xw Wz wr base v1 (putAll a (b.take k))) ∧ Aside0 (w.grownBy wr v.ownBlock) ∧ Aside0 (At' v v1 w.heap.size)) (fun _ vi _ => b.length - (intOf vi).toNat)
  case atStart => exact ⟨0, _, Nat.zero_le _, rfl, rfl, ⟨by simpa [putAll] using hR⟩, ⟨World.grownBy.refl _ _⟩, ⟨.inl rfl⟩⟩
  case round =>
    obtain ⟨k, v1, hk, rfl, rfl, HR, HG, HAT⟩ := hrel
    by_cases hlt : k < b.length
    · have g1 : decide (k < b.length) = true := decide_eq_true hlt
      have hI := HBB.out wr (Fr.of_grown HG.out (fun k e => e.symm))
      obtain ⟨ad, A2, c3, rfl, pa, pb, pc, pl, pC⟩ := atO hI.rd k hlt
      have hIo : IsO wr (b.getD k zO) A2 c3 := ⟨pl, pC⟩
      have hy := hb _ (getD_mem (l := b) (i := k) hlt)
      have hT := take_succ_getD b k zO hlt
      have hln := len_putAll1 a (b.take k)
      rw [List.length_take] at hln
      generalize b.getD k zO = o at pa pb pc hIo hy hT
      have HT := Aside0.mk (show putAll a (b.take (k + 1)) = put (putAll a (b.take k)) o by rw [hT, putAll_append]; rfl)
      have hsk : AreOk (putAll a (b.take k)) := ha.putAll (fun x hx => hb x (List.mem_of_mem_take hx))
      have HSK := Aside0.mk hsk
      have HBW : Aside0 (Below Wz.heap.size Wz wr) := ⟨Fr.bel hW (Fr.of_grown (S := own v) HG.out (fun k e => e.symm)) (fun k hk => by have := Xw.base hR k hk; omega)⟩
      have HIo := Aside0.mk hIo
      have HY := Aside0.mk hy
      clear pl pC hy hT hI hsk hIo
      generalize putAll a (b.take k) = L at *
      go_wp2_with (go_at_call 110; refine (sPut_any Wz base (fun _ => True) v1 L A2 c3 o _ HBW.out HSK.out.sorted (by omega) HR.out HIo.out (isOk_big HY.out) (Nat.le_trans hbase HG.out.size) (fun _ _ => trivial)).mono ?_; rintro e w2 ⟨v2, rfl, hr2, hg2, hat2⟩; have HR2 := Aside0.mk hr2; have HG2 := Aside0.mk hg2; have HAT2 := Aside0.mk (at_trans HAT.out hat2 HG.out.size); clear hr2 hg2 hat2)
      go_roundw
      case rel => exact ⟨k + 1, v2, by omega, by go_num, rfl, ⟨by rw [HT.out]; exact HR2.out⟩, ⟨grown_new HG.out HG2.out (fun j hj => by
        rcases HAT.out with h | ⟨b2, h1, h2⟩
        · rw [h] at hj; exact .inr hj.symm
        · rw [h1] at hj; injection hj with hj; exact .inl (by omega))⟩, HAT2⟩
      case measure => simp [intOf]; omega
    · have hke : k = b.length := by omega
      subst hke
      have g1 : decide (b.length < b.length) = false := decide_eq_false (by omega)
      have hR2 := HR.out
      rw [List.take_length] at hR2
      go_wp2
      go_ret
      exact ⟨v1, rfl, hR2, HG.out, HAT.out⟩
end Go.Proofs.Ytccenpmaooailaa.Ya

/- What of a list is paired, and what is left: the reference's, of lists whose elements came in or were made. -/
set_option linter.unusedVariables false
set_option linter.unusedSimpArgs false
namespace Go.Proofs.Ytccenpmaooailaa.Yd
open Go.RowKit Go.Proofs.YtccenpmaooailaaW.PrintWords Go.Proofs.Ytccenpmaooailaa.Wd Go.Proofs.Ytccenpmaooailaa.Pu Go.Proofs.Ytccenpmaooailaa.Pv Go.Proofs.Ytccenpmaooailaa.Ca Go.Proofs.Ytccenpmaooailaa.Cb Go.Proofs.Ytccenpmaooailaa.Cc Go.Proofs.Ytccenpmaooailaa.Cp Go.Proofs.Ytccenpmaooailaa.Cd Go.Proofs.Ytccenpmaooailaa.Ci Go.Proofs.Ytccenpmaooailaa.Ce Go.Proofs.Ytccenpmaooailaa.Cf Go.Proofs.Ytccenpmaooailaa.Cg Go.Proofs.Ytccenpmaooailaa.Sc Go.Proofs.Ytccenpmaooailaa.Se Go.Proofs.Ytccenpmaooailaa.Sh Go.Proofs.Ytccenpmaooailaa.Si Go.Proofs.Ytccenpmaooailaa.Ia Go.Proofs.Ytccenpmaooailaa.Ib Go.Proofs.Ytccenpmaooailaa.Ic Go.Proofs.Ytccenpmaooailaa.If Go.Proofs.Ytccenpmaooailaa.Ij Go.Proofs.Ytccenpmaooailaa.Ra Go.Proofs.Ytccenpmaooailaa.Rb Go.Proofs.Ytccenpmaooailaa.Rc Go.Proofs.Ytccenpmaooailaa.Ra Go.Proofs.Ytccenpmaooailaa.Rb Go.Proofs.Ytccenpmaooailaa.Rc Go.Proofs.Ytccenpmaooailaa.Rd Go.Proofs.Ytccenpmaooailaa.Sj Go.Proofs.Ytccenpmaooailaa.Ya

structure XPickMem (Wz w w' : World) (base : Nat) (v : Value) (p : List Occ × List Occ) (U : Option Addr) (cu : Nat) (r : Value) : Prop where
  rd : IsL w' p.1 U cu
  rest : Xw Wz w' base r p.2
  at_ : r = v ∨ ∀ k, own r k → w.heap.size ≤ k
  bel : Below w.heap.size w w'
def XPickOut (Wz w w' : World) (base : Nat) (v : Value) (p : List Occ × List Occ) (e : Ending) : Prop := ∃ U nu cu r, nu = p.1.length ∧ e = .returned (.tuple #[.slice U nu cu, r]) ∧ XPickMem Wz w w' base v p U cu r

set_option maxHeartbeats 4000000 in
set_option maxRecDepth 100000 in
theorem xpick_any (Wz : World) (mode : Int) (hm : 0 ≤ mode ∧ mode ≤ 4) (base : Nat) (A M : Option Addr) (c cm : Nat) (l : List Occ) (can : Occ → Bool) (w : World) (hl : l.length ≤ 1048576) (hW : Below Wz.heap.size Wz w) (hR : Xw Wz w base (.slice A l.length c) l) (hM : Kd.bool.C w M l.length (l.map can)) (hbase : base ≤ w.heap.size) :
    Calls Try.prog 74 #[.int .i64 mode, .slice A l.length c, .slice M l.length cm] w fun e w' => XPickOut Wz w w' base (.slice A l.length c) (pick mode l can) e := by
  have hL : IsL w l A c := Xw.isL hW hR
  have HR := Aside0.mk hR
  have hE1 := blk_alloc (blk_new w (.cells #[] 66)) (.cells #[] 66)
  have hE2 : ((w.alloc (.cells #[] 66)).alloc (.cells #[] 66)).heap[w.heap.size + 1]? = some (.cells #[] 66 (0, 0)) := by have := blk_new (w.alloc (.cells #[] 66)) (.cells #[] 66); simpa using this
  have HB0 := Aside0.mk (below_alloc (below_alloc (Below.refl w.heap.size w) (.cells #[] 66)) (.cells #[] 66))
  have HF0 : Aside0 (Fx w ((w.alloc (.cells #[] 66)).alloc (.cells #[] 66)) (.slice (some ⟨w.heap.size, 0, none⟩) 0 0) []) := ⟨R_empty _ hE1 (Nat.le_refl _)⟩
  clear hR
  go_enter Try.func74, Try.ntmps74
  go_wp2
  generalize (w.alloc (.cells #[] 66)).alloc (.cells #[] 66) = W0 at hE2 HB0 HF0 ⊢
  clear hE1
  have bE0 : Aside0 (W0.heap[w.heap.size + 1]? = some (.cells #[] 66 (0, 0))) := ⟨hE2⟩
  clear hE2
  go_loopw [8, 10] (fun v8 vi wr => ∃ (k : Nat) (v : Value), k ≤ l.length ∧ vi = .int .i64 k ∧ v = v8 ∧ Aside0 (Fx w wr v ((l.take k).filter can)) ∧ Aside0 (NeRow (.slice (some ⟨w.heap.size + 1, 0, none⟩) 0 0) v) ∧ Aside0 (wr.heap[w.heap.size + 1]? = some (.cells #[] 66 (0, 0))) ∧ Aside0 (Below w.heap.size w wr)) (fun _ vi _ => l.length - (intOf vi).toNat)
  case atStart => exact ⟨0, _, Nat.zero_le _, rfl, rfl, HF0, ⟨fun k hk h => by simp [Value.ownBlock] at hk h; omega⟩, bE0, HB0⟩
  case round =>
    clear HF0 bE0 HB0
    obtain ⟨k, v, hk, rfl, rfl, HF, HNE, HE, HB⟩ := hrel
    by_cases hlt : k < l.length
    · have g1 : decide (k < l.length) = true := decide_eq_true hlt
      have i1 : (k : Int) < l.length := by omega
      obtain ⟨ad0, A20, c30, rfl, ha0, hb0, hc0, hl20, hC20⟩ := atO hL.rd k hlt
      obtain ⟨am, rfl, hcm⟩ := atB (Kd.C_below hM HB.out) k hlt
      rw [map_getD can l k hlt] at hcm
      have ha := pw_cell_below HB.out ha0
      have hb := pw_cell_below HB.out hb0
      have hc := pw_cell_below HB.out hc0
      have hT := take_succ_getD l k zO hlt
      have hIw : IsO w (l.getD k zO) A20 c30 := ⟨hl20, hC20⟩
      have hln : ((l.take k).filter can).length ≤ k := Nat.le_trans (List.length_filter_le _ _) (by rw [List.length_take]; omega)
      clear hl20 hC20 ha0 hb0 hc0
      generalize l.getD k zO = o at ha hb hc hcm hIw hT
      have HT := Aside0.mk (show (l.take (k + 1)).filter can = if can o then (l.take k).filter can ++ [o] else (l.take k).filter can by rw [hT]; exact filter_snoc _ _ _)
      clear hT
      cases hd : can o with
      | true =>
        rw [hd] at hcm
        go_wp2_with ((with_reducible refine gate_dst (N := 30) rfl ?_); refine Kd.R_append (Kd.fixed kO w) (w0 := w) w.heap.size rfl _ _ 27 66 (.agg #[.int .i64 0, .int .i64 0, .slice none 0 0]) 40 rfl Try.underlying27 infoO rfl (szO w) (by decide) v ((l.take k).filter can) o [.int .i64 o.f0, .int .i64 o.f1, .slice A20 o.f2.length c30] (fun _ => True) (fun _ => False) rfl rfl (kO_mk w o hIw.1 hIw.2) (fun _ h => h.elim) (fun _ _ => trivial) HF.out HB.out HB.out.size (by omega) ?_; intro v3 w3 hs3 hb3 hg3 hat3; have HS3 := Aside0.mk hs3; have HB3 := Aside0.mk hb3; have HE3 := Aside0.mk (blk_grown HE.out hg3 (fun h => HNE.out (w.heap.size + 1) rfl h.symm)); have HNE3 : Aside0 (NeRow (.slice (some ⟨w.heap.size + 1, 0, none⟩) 0 0) v3) := ⟨fun j hj h => by rcases hat3 with h2 | ⟨b, h2, h3⟩; exact HNE.out j hj (h2.symm.trans h); rw [h2] at h; injection h with h; simp [Value.ownBlock] at hj; have := blk_lt HE.out; omega⟩; clear hs3 hb3 hg3 hat3)
        go_roundw
        case rel => exact ⟨k + 1, _, by omega, by go_num, rfl, ⟨by rw [HT.out, hd]; exact HS3.out⟩, HNE3, HE3, HB3⟩
        case measure => simp [intOf]; omega
      | false =>
        rw [hd] at hcm
        go_wp2
        go_roundw
        case rel => exact ⟨k + 1, _, by omega, by go_num, rfl, ⟨by rw [HT.out, hd]; exact HF.out⟩, HNE, HE, HB⟩
        case measure => simp [intOf]; omega
    · have hke : k = l.length := by omega
      subst hke
      have g1 : decide (l.length < l.length) = false := decide_eq_false (by omega)
      have hF := HF.out
      rw [List.take_length] at hF
      obtain ⟨U, cu, rfl⟩ := Kd.R_slice hF
      have hUL := (Fx.isL hF HB.out).2
      obtain ⟨s, hs⟩ : ∃ s, s = l.filter can := ⟨_, rfl⟩
      have HPK := Aside0.mk (show pick mode l can = (if s.length = 0 then (s, l) else if mode = 0 then (s, l) else if mode = 1 then ([s.getD (s.length - 1) zO], l) else if mode = 2 then (s.take 1, l.filter (left2 2 can (s.getD 0 zO))) else (s, l.filter (left2 3 can zO))) by rw [hs]; unfold pick left2; simp only [if_true, show ¬ ((3 : Int) = 2) by decide, if_false])
      have hsl : s.length ≤ l.length := by rw [hs]; exact List.length_filter_le _ _
      have hF2 := hF
      rw [← hs] at hUL hF2 HNE ⊢
      have HU := Aside0.mk hUL
      have HR2 := Aside0.mk (Kd.R_below HR.out HB.out)
      have HFs := Aside0.mk hF2
      clear hs hF hUL HF hF2
      by_cases h0 : s.length = 0
      · have d0 : ((s.length : Int) == 0) = true := by simp [h0]
        have d00 : (s.length : Int) = 0 := by omega
        have HP := Aside0.mk (show XPickOut Wz w wr base (.slice A l.length c) (pick mode l can) (.returned (.tuple #[.slice U s.length cu, .slice A l.length c])) from ⟨U, s.length, cu, _, by rw [HPK.out, if_pos h0], rfl, ⟨by rw [HPK.out, if_pos h0]; exact HU.out, by rw [HPK.out, if_pos h0]; exact HR2.out, .inl rfl, HB.out⟩⟩)
        go_wp2
        go_ret2
        exact HP.out
      have d0 : ((s.length : Int) == 0) = false := by rw [beq_eq_false_iff_ne]; omega
      have d00 : ¬ ((s.length : Int) = 0) := by omega
      by_cases m0 : mode = 0
      · subst m0
        have HP := Aside0.mk (show XPickOut Wz w wr base (.slice A l.length c) (pick 0 l can) (.returned (.tuple #[.slice U s.length cu, .slice A l.length c])) from ⟨U, s.length, cu, _, by rw [HPK.out, if_neg h0]; rfl, rfl, ⟨by rw [HPK.out, if_neg h0]; exact HU.out, by rw [HPK.out, if_neg h0]; exact HR2.out, .inl rfl, HB.out⟩⟩)
        go_wp2
        go_ret2
        exact HP.out
      have e0 : (mode == 0) = false := by rw [beq_eq_false_iff_ne]; omega
      by_cases m1 : mode = 1
      · subst m1
        obtain ⟨gU, rfl⟩ : ∃ gU, U = some gU := by
          obtain ⟨ad, e, _⟩ := HU.out.rd.2.2 (by omega)
          exact ⟨ad, e⟩
        obtain ⟨n, hn⟩ : ∃ n, s.length = n + 1 := ⟨s.length - 1, by omega⟩
        obtain ⟨A', hcut, hA'⟩ := cutO (some gU) s.length cu n (by omega)
        have hcap := HU.out.cap
        have hAe : A' = some (gU.add (n * 3)) := hA' (by omega)
        have hdr := IsL.drop HU.out (m := n) (by omega)
        have hdl := drop_last (l := s) (by omega)
        rw [hn, Nat.add_sub_cancel] at hdl
        rw [hdl] at hdr
        have HP := Aside0.mk (show XPickOut Wz w wr base (.slice A l.length c) (pick 1 l can) (.returned (.tuple #[.slice A' 1 (cu - n), .slice A l.length c])) from ⟨A', 1, cu - n, _, by rw [HPK.out, if_neg h0]; rfl, rfl, ⟨by rw [HPK.out, if_neg h0, hn, Nat.add_sub_cancel, hAe]; exact hdr, by rw [HPK.out, if_neg h0]; exact HR2.out, .inl rfl, HB.out⟩⟩)
        have hcut2 : ∀ W, (Instr.slice 27 (.slice (some gU) (n + 1) cu) (some (.int .i64 (n : Int))) none none).run Try.prog W = .ok (.slice A' 1 (cu - n)) W := by
          intro W
          have h := hcut W
          rw [hn, Nat.add_sub_cancel_left] at h
          exact h
        have w1' : IntKind.i64.wrap (n : Int) = n := by rw [IntKind.wrap_i64]; omega
        have w2' : IntKind.i64.wrap ((n : Int) + 1 - 1) = n := by rw [IntKind.wrap_i64]; omega
        have w3' : IntKind.i64.wrap ((n : Int) + 1) = (n : Int) + 1 := by rw [IntKind.wrap_i64]; omega
        have z0 : (0 : Int) ≤ n := by omega
        have z1 : (n : Int) ≤ n + 1 := by omega
        rw [hn] at d0 d00 ⊢
        clear hcut hA' hAe hdr hdl hn hcap
        go_wp2
        go_ret2
        exact HP.out
      have e1 : (mode == 1) = false := by rw [beq_eq_false_iff_ne]; omega
      obtain ⟨gl0, capl0, hv0, hbl0, hgl0, hcl0⟩ := Kd.R_form HR.out (by omega)
      cases hv0
      clear hcl0
      by_cases m2 : mode = 2
      · subst m2
        have HPK2 := Aside0.mk (show pick 2 l can = (s.take 1, l.filter (left2 2 can (s.getD 0 zO))) by rw [HPK.out, if_neg h0, if_neg m0, if_neg m1, if_pos rfl])
        obtain ⟨gU, rfl⟩ : ∃ gU, U = some gU := by
          obtain ⟨ad, e, _⟩ := HU.out.rd.2.2 (by omega)
          exact ⟨ad, e⟩
        have htk : ∀ W, (Instr.slice 27 (.slice (some gU) s.length cu) none (some (.int .i64 1)) none).run Try.prog W = .ok (.slice (some gU) 1 cu) W := fun W => take_any gU s.length cu 1 (by have := HU.out.cap; omega) W
        have u1 : (1 : Int) ≤ cu := by have := HU.out.cap; omega
        go_wp2
        go_loopw [9, 11] (fun v9 vi wr2 => ∃ (k : Nat) (v : Value), k ≤ l.length ∧ vi = .int .i64 k ∧ v = v9 ∧ Aside0 (Xw Wz wr2 base v ((l.take k).filter (left2 2 can (s.getD 0 zO)))) ∧ Aside0 (∀ j, own v j → w.heap.size ≤ j) ∧ Aside0 (Fx w wr2 (.slice (some gU) s.length cu) s) ∧ Aside0 (NeRow (.slice (some gU) s.length cu) v) ∧ Aside0 (Below w.heap.size w wr2)) (fun _ vi _ => l.length - (intOf vi).toNat)
        case atStart => exact ⟨0, _, Nat.zero_le _, rfl, rfl, ⟨by simpa using (R_empty (kX Wz) HE.out (by omega) : Xw Wz wr base (.slice (some ⟨w.heap.size + 1, 0, none⟩) 0 0) [])⟩, ⟨fun j hj => by simp [own, Value.ownBlock] at hj; omega⟩, HFs, ⟨fun j hj h => HNE.out j h hj⟩, HB⟩
        case round =>
          clear HFs HE HNE HB HR2 HU
          obtain ⟨k, v, hk, rfl, rfl, HV, HVB, HFs, HNE, HB⟩ := hrel
          by_cases hlt : k < l.length
          · have g1 : decide (k < l.length) = true := decide_eq_true hlt
            have i1 : (k : Int) < l.length := by omega
            obtain ⟨cs, hcs, hMk, hcc, hfz⟩ := Kd.R_elem HR.out zO (k : Int) (by omega) (by omega)
            simp only [Int.toNat_natCast] at hMk hcc hfz
            obtain ⟨adz, A20, c30, e0x, haz, hbz, hcz, hl20, hC20⟩ := atO hL.rd k hlt
            cases e0x
            obtain ⟨vk, hcsk, hvk⟩ := kX_openM hMk
            have hvs : vk = .slice A20 (l.getD k zO).f2.length c30 := by
              have h1 := hcc 2 _ (by rw [hcsk]; rfl)
              have h2 : w.cell? ⟨gl0, k * 3 + 2, none⟩ = some (.slice A20 (l.getD k zO).f2.length c30) := by rw [add_plain] at hcz; simpa using hcz
              rw [show k * (kX Wz).sz + 2 = k * 3 + 2 from rfl, h2] at h1
              injection h1 with h1
              exact h1.symm
            rw [hvs] at hcsk
            rw [hcsk] at hMk hcc
            have ha0 : w.cell? ⟨gl0, k * 3, none⟩ = some (.int .i64 (l.getD k zO).f0) := hcc 0 _ rfl
            have hb0 : w.cell? ⟨gl0, k * 3 + 1, none⟩ = some (.int .i64 (l.getD k zO).f1) := hcc 1 _ rfl
            have hc0 : w.cell? ⟨gl0, k * 3 + 2, none⟩ = some (.slice A20 (l.getD k zO).f2.length c30) := hcc 2 _ rfl
            obtain ⟨am, rfl, hcm⟩ := atB (Kd.C_below hM HB.out) k hlt
            rw [map_getD can l k hlt] at hcm
            have ha := pw_cell_below HB.out ha0
            have hb := pw_cell_below HB.out hb0
            have hc := pw_cell_below HB.out hc0
            have hT := take_succ_getD l k zO hlt
            have hIo : IsO wr (l.getD k zO) A20 c30 := IsO.below ⟨hl20, hC20⟩ HB.out
            have hln : ((l.take k).filter (left2 2 can (s.getD 0 zO))).length ≤ k := Nat.le_trans (List.length_filter_le _ _) (by rw [List.length_take]; omega)
            have HM0 : Aside0 ((kX Wz).M w base (fun j => j < w.heap.size) (l.getD k zO) [.int .i64 (l.getD k zO).f0, .int .i64 (l.getD k zO).f1, .slice A20 (l.getD k zO).f2.length c30]) := ⟨(kX Wz).M_mono (fun j hj => hj.2.2.1) ((kX Wz).M_bound hMk)⟩
            clear hl20 hC20 ha0 hb0 hc0 hvk hcsk hvs hMk hcc hfz hcs haz hbz hcz
            generalize l.getD k zO = o at ha hb hc hcm hIo hT HM0
            have HT := Aside0.mk (show (l.take (k + 1)).filter (left2 2 can (s.getD 0 zO)) = if (left2 2 can (s.getD 0 zO)) o then (l.take k).filter (left2 2 can (s.getD 0 zO)) ++ [o] else (l.take k).filter (left2 2 can (s.getD 0 zO)) by rw [hT]; exact filter_snoc _ _ _)
            clear hT
            obtain ⟨bs, A4, c4, e4, sa, sb, sc, sl4, sC⟩ := atO (Fx.isL HFs.out HB.out).2.rd 0 (by omega)
            cases e4
            have hI4 : IsO wr (s.getD 0 zO) A4 c4 := ⟨sl4, sC⟩
            rw [Nat.zero_mul, add0] at sa sb sc
            clear sl4 sC
            cases hd : can o with
            | false =>
              have HQT := Aside0.mk (show left2 2 can (s.getD 0 zO) o = true by unfold left2; rw [if_pos rfl, hd]; rfl)
              rw [hd] at hcm
              clear sa sb sc hI4
              go_wp2
              have ha_e := fun s : Ext wr => cellE ha s
              have hb_e := fun s : Ext wr => cellE hb s
              have hc_e := fun s : Ext wr => cellE hc s
              have hcm_e := fun s : Ext wr => cellE hcm s
              clear ha hb hc hcm
              refine region_ext (W := wr) (Below.refl _ _) (by kernel_rfl) (by kernel_rfl) ?_
              repeat (first | go_big_quiet_step (fail) | quiet_step (fail))
              refine wpQuiet_nil ?_
              rintro _ ⟨sx, rfl⟩
              have HBq := Aside0.mk (below_then HB.out HB.out.size sx.2)
              have HVq := Aside0.mk (Kd.R_below HV.out sx.2)
              have HFq := Aside0.mk (Kd.R_below HFs.out sx.2)
              have ha := ha_e sx
              have hb := hb_e sx
              have hc := hc_e sx
              have hcm := hcm_e sx
              clear HB HV HFs ha_e hb_e hc_e hcm_e
              generalize sx.1 = wq at HBq HVq HFq ha hb hc hcm ⊢
              go_wp2_with ((with_reducible refine gate_dst (N := 85) rfl ?_); refine Kd.R_append (kX Wz) (w0 := w) base rfl _ _ 27 66 (.agg #[.int .i64 0, .int .i64 0, .slice none 0 0]) 40 rfl Try.underlying27 (infoX Wz) rfl (szX Wz) (by decide) v ((l.take k).filter (left2 2 can (s.getD 0 zO))) o [.int .i64 o.f0, .int .i64 o.f1, .slice A20 o.f2.length c30] (fun _ => True) (fun j => j < w.heap.size) rfl rfl (Kd.M_below HM0.out HBq.out) (fun j hj => ⟨trivial, fun h => by have := HVB.out j h.symm; omega⟩) (fun _ _ => trivial) HVq.out (Below.mono HBq.out hbase) (Nat.le_trans hbase HBq.out.size) (by omega) ?_; intro v3 w3 hs3 hb3 hg3 hat3; have HS3 := Aside0.mk hs3; have HB3 : Aside0 (Below w.heap.size w w3) := ⟨Below.grown HBq.out hg3 HBq.out.size (fun j hj => HVB.out j hj)⟩; have HVB3 : Aside0 (∀ j, own v3 j → w.heap.size ≤ j) := ⟨fun j hj => by rcases hat3 with h2 | ⟨b, h2, h3⟩; exact HVB.out j (h2.symm.trans hj); rw [show v3.ownBlock = some j from hj] at h2; injection h2 with h2; have := HBq.out.size; omega⟩; have HF3 : Aside0 (Fx w w3 (.slice (some gU) s.length cu) s) := ⟨Kd.R_mono (Kd.R_grown (Kd.R_tight rfl HFq.out) hg3 (fun j hj e => HNE.out j hj.symm e.symm)) (fun _ _ => trivial)⟩; have HNE3 : Aside0 (NeRow (.slice (some gU) s.length cu) v3) := ⟨fun j hj h => by rcases hat3 with h2 | ⟨b, h2, h3⟩; exact HNE.out j hj (h2.symm.trans h); rw [h2] at h; injection h with h; have := Kd.R_lt HFq.out j hj; omega⟩; clear hs3 hb3 hg3 hat3)
              go_roundw
              case rel => exact ⟨k + 1, _, by omega, by go_num, rfl, ⟨by rw [HT.out, if_pos (by first | exact HQT.out | exact rfl)]; exact HS3.out⟩, HVB3, HF3, HNE3, HB3⟩
              case measure => simp [intOf]; omega
            | true =>
              rw [hd] at hcm
              have hcl3 := fun sx : Ext wr => sSame_any o (s.getD 0 zO) A20 A4 c30 c4 sx.1 (hIo.ext sx) (hI4.ext sx)
              cases hs0 : decide (cmpO o (s.getD 0 zO) = 0) with
              | true =>
                have HQT := Aside0.mk (show left2 2 can (s.getD 0 zO) o = false by unfold left2; rw [if_pos rfl, hd, decide_eq_true ((cmpO_eq _ _).1 (of_decide_eq_true hs0))]; rfl)
                simp only [hs0] at hcl3
                clear hs0
                go_wp2
                have ha_e := fun s : Ext wr => cellE ha s
                have hb_e := fun s : Ext wr => cellE hb s
                have hc_e := fun s : Ext wr => cellE hc s
                have hcm_e := fun s : Ext wr => cellE hcm s
                have sa_e := fun s : Ext wr => cellE sa s
                have sb_e := fun s : Ext wr => cellE sb s
                have sc_e := fun s : Ext wr => cellE sc s
                clear ha hb hc hcm sa sb sc
                refine region_ext (W := wr) (Below.refl _ _) (by kernel_rfl) (by kernel_rfl) ?_
                repeat (first | go_big_quiet_step ((go_at_call 109; exact calls_ext (hcl3 _))) | quiet_step ((go_at_call 109; exact calls_ext (hcl3 _))))
                refine wpQuiet_nil ?_
                rintro _ ⟨sx, rfl⟩
                have HBq := Aside0.mk (below_then HB.out HB.out.size sx.2)
                have HVq := Aside0.mk (Kd.R_below HV.out sx.2)
                have HFq := Aside0.mk (Kd.R_below HFs.out sx.2)
                have ha := ha_e sx
                have hb := hb_e sx
                have hc := hc_e sx
                have hcm := hcm_e sx
                have sa := sa_e sx
                have sb := sb_e sx
                have sc := sc_e sx
                clear HB HV HFs ha_e hb_e hc_e hcm_e sa_e sb_e sc_e hcl3
                generalize sx.1 = wq at HBq HVq HFq ha hb hc hcm sa sb sc ⊢
                go_wp2
                go_roundw
                case rel => exact ⟨k + 1, _, by omega, by go_num, rfl, ⟨by rw [HT.out, if_neg (by rw [HQT.out]; decide)]; exact HVq.out⟩, HVB, HFq, HNE, HBq⟩
                case measure => simp [intOf]; omega
              | false =>
                have HQT := Aside0.mk (show left2 2 can (s.getD 0 zO) o = true by unfold left2; rw [if_pos rfl, hd, decide_eq_false (fun e => of_decide_eq_false hs0 ((cmpO_eq _ _).2 e))]; rfl)
                simp only [hs0] at hcl3
                clear hs0
                go_wp2
                have ha_e := fun s : Ext wr => cellE ha s
                have hb_e := fun s : Ext wr => cellE hb s
                have hc_e := fun s : Ext wr => cellE hc s
                have hcm_e := fun s : Ext wr => cellE hcm s
                have sa_e := fun s : Ext wr => cellE sa s
                have sb_e := fun s : Ext wr => cellE sb s
                have sc_e := fun s : Ext wr => cellE sc s
                clear ha hb hc hcm sa sb sc
                refine region_ext (W := wr) (Below.refl _ _) (by kernel_rfl) (by kernel_rfl) ?_
                repeat (first | go_big_quiet_step ((go_at_call 109; exact calls_ext (hcl3 _))) | quiet_step ((go_at_call 109; exact calls_ext (hcl3 _))))
                refine wpQuiet_nil ?_
                rintro _ ⟨sx, rfl⟩
                have HBq := Aside0.mk (below_then HB.out HB.out.size sx.2)
                have HVq := Aside0.mk (Kd.R_below HV.out sx.2)
                have HFq := Aside0.mk (Kd.R_below HFs.out sx.2)
                have ha := ha_e sx
                have hb := hb_e sx
                have hc := hc_e sx
                have hcm := hcm_e sx
                have sa := sa_e sx
                have sb := sb_e sx
                have sc := sc_e sx
                clear HB HV HFs ha_e hb_e hc_e hcm_e sa_e sb_e sc_e hcl3
                generalize sx.1 = wq at HBq HVq HFq ha hb hc hcm sa sb sc ⊢
                go_wp2_with ((with_reducible refine gate_dst (N := 85) rfl ?_); refine Kd.R_append (kX Wz) (w0 := w) base rfl _ _ 27 66 (.agg #[.int .i64 0, .int .i64 0, .slice none 0 0]) 40 rfl Try.underlying27 (infoX Wz) rfl (szX Wz) (by decide) v ((l.take k).filter (left2 2 can (s.getD 0 zO))) o [.int .i64 o.f0, .int .i64 o.f1, .slice A20 o.f2.length c30] (fun _ => True) (fun j => j < w.heap.size) rfl rfl (Kd.M_below HM0.out HBq.out) (fun j hj => ⟨trivial, fun h => by have := HVB.out j h.symm; omega⟩) (fun _ _ => trivial) HVq.out (Below.mono HBq.out hbase) (Nat.le_trans hbase HBq.out.size) (by omega) ?_; intro v3 w3 hs3 hb3 hg3 hat3; have HS3 := Aside0.mk hs3; have HB3 : Aside0 (Below w.heap.size w w3) := ⟨Below.grown HBq.out hg3 HBq.out.size (fun j hj => HVB.out j hj)⟩; have HVB3 : Aside0 (∀ j, own v3 j → w.heap.size ≤ j) := ⟨fun j hj => by rcases hat3 with h2 | ⟨b, h2, h3⟩; exact HVB.out j (h2.symm.trans hj); rw [show v3.ownBlock = some j from hj] at h2; injection h2 with h2; have := HBq.out.size; omega⟩; have HF3 : Aside0 (Fx w w3 (.slice (some gU) s.length cu) s) := ⟨Kd.R_mono (Kd.R_grown (Kd.R_tight rfl HFq.out) hg3 (fun j hj e => HNE.out j hj.symm e.symm)) (fun _ _ => trivial)⟩; have HNE3 : Aside0 (NeRow (.slice (some gU) s.length cu) v3) := ⟨fun j hj h => by rcases hat3 with h2 | ⟨b, h2, h3⟩; exact HNE.out j hj (h2.symm.trans h); rw [h2] at h; injection h with h; have := Kd.R_lt HFq.out j hj; omega⟩; clear hs3 hb3 hg3 hat3)
                go_roundw
                case rel => exact ⟨k + 1, _, by omega, by go_num, rfl, ⟨by rw [HT.out, if_pos (by first | exact HQT.out | exact rfl)]; exact HS3.out⟩, HVB3, HF3, HNE3, HB3⟩
                case measure => simp [intOf]; omega
          · have hke : k = l.length := by omega
            subst hke
            have g1 : decide (l.length < l.length) = false := decide_eq_false (by omega)
            have hV := HV.out
            rw [List.take_length] at hV
            have hls := IsL.take (Fx.isL HFs.out HB.out).2 (m := 1) (by omega)
            have HP := Aside0.mk (show XPickOut Wz w wr base (.slice (some ⟨gl0, 0, none⟩) l.length c) (pick 2 l can) (.returned (.tuple #[.slice (some gU) 1 cu, v])) from ⟨some gU, 1, cu, v, by rw [HPK2.out]; show 1 = (s.take 1).length; rw [List.length_take]; omega, rfl, ⟨by rw [HPK2.out]; exact hls, by rw [HPK2.out]; exact hV, .inr HVB.out, HB.out⟩⟩)
            clear hls
            go_wp2
            go_ret2
            exact HP.out
      · have e2 : (mode == 2) = false := by rw [beq_eq_false_iff_ne]; omega
        go_wp2
        go_loopw [9, 11] (fun v9 vi wr2 => ∃ (k : Nat) (v : Value), k ≤ l.length ∧ vi = .int .i64 k ∧ v = v9 ∧ Aside0 (Xw Wz wr2 base v ((l.take k).filter (left2 3 can zO))) ∧ Aside0 (∀ j, own v j → w.heap.size ≤ j) ∧ Aside0 (Fx w wr2 (.slice U s.length cu) s) ∧ Aside0 (NeRow (.slice U s.length cu) v) ∧ Aside0 (Below w.heap.size w wr2)) (fun _ vi _ => l.length - (intOf vi).toNat)
        case atStart => exact ⟨0, _, Nat.zero_le _, rfl, rfl, ⟨by simpa using (R_empty (kX Wz) HE.out (by omega) : Xw Wz wr base (.slice (some ⟨w.heap.size + 1, 0, none⟩) 0 0) [])⟩, ⟨fun j hj => by simp [own, Value.ownBlock] at hj; omega⟩, HFs, ⟨fun j hj h => HNE.out j h hj⟩, HB⟩
        case round =>
          clear HFs HE HNE HB HR2 HU
          obtain ⟨k, v, hk, rfl, rfl, HV, HVB, HFs, HNE, HB⟩ := hrel
          by_cases hlt : k < l.length
          · have g1 : decide (k < l.length) = true := decide_eq_true hlt
            have i1 : (k : Int) < l.length := by omega
            obtain ⟨cs, hcs, hMk, hcc, hfz⟩ := Kd.R_elem HR.out zO (k : Int) (by omega) (by omega)
            simp only [Int.toNat_natCast] at hMk hcc hfz
            obtain ⟨adz, A20, c30, e0x, haz, hbz, hcz, hl20, hC20⟩ := atO hL.rd k hlt
            cases e0x
            obtain ⟨vk, hcsk, hvk⟩ := kX_openM hMk
            have hvs : vk = .slice A20 (l.getD k zO).f2.length c30 := by
              have h1 := hcc 2 _ (by rw [hcsk]; rfl)
              have h2 : w.cell? ⟨gl0, k * 3 + 2, none⟩ = some (.slice A20 (l.getD k zO).f2.length c30) := by rw [add_plain] at hcz; simpa using hcz
              rw [show k * (kX Wz).sz + 2 = k * 3 + 2 from rfl, h2] at h1
              injection h1 with h1
              exact h1.symm
            rw [hvs] at hcsk
            rw [hcsk] at hMk hcc
            have ha0 : w.cell? ⟨gl0, k * 3, none⟩ = some (.int .i64 (l.getD k zO).f0) := hcc 0 _ rfl
            have hb0 : w.cell? ⟨gl0, k * 3 + 1, none⟩ = some (.int .i64 (l.getD k zO).f1) := hcc 1 _ rfl
            have hc0 : w.cell? ⟨gl0, k * 3 + 2, none⟩ = some (.slice A20 (l.getD k zO).f2.length c30) := hcc 2 _ rfl
            obtain ⟨am, rfl, hcm⟩ := atB (Kd.C_below hM HB.out) k hlt
            rw [map_getD can l k hlt] at hcm
            have ha := pw_cell_below HB.out ha0
            have hb := pw_cell_below HB.out hb0
            have hc := pw_cell_below HB.out hc0
            have hT := take_succ_getD l k zO hlt
            have hIo : IsO wr (l.getD k zO) A20 c30 := IsO.below ⟨hl20, hC20⟩ HB.out
            have hln : ((l.take k).filter (left2 3 can zO)).length ≤ k := Nat.le_trans (List.length_filter_le _ _) (by rw [List.length_take]; omega)
            have HM0 : Aside0 ((kX Wz).M w base (fun j => j < w.heap.size) (l.getD k zO) [.int .i64 (l.getD k zO).f0, .int .i64 (l.getD k zO).f1, .slice A20 (l.getD k zO).f2.length c30]) := ⟨(kX Wz).M_mono (fun j hj => hj.2.2.1) ((kX Wz).M_bound hMk)⟩
            clear hl20 hC20 ha0 hb0 hc0 hvk hcsk hvs hMk hcc hfz hcs haz hbz hcz
            generalize l.getD k zO = o at ha hb hc hcm hIo hT HM0
            have HT := Aside0.mk (show (l.take (k + 1)).filter (left2 3 can zO) = if (left2 3 can zO) o then (l.take k).filter (left2 3 can zO) ++ [o] else (l.take k).filter (left2 3 can zO) by rw [hT]; exact filter_snoc _ _ _)
            clear hT
            cases hd : can o with
            | false =>
              have HQT := Aside0.mk (show left2 3 can zO o = true by unfold left2; rw [if_neg (by decide), hd]; rfl)
              rw [hd] at hcm
              go_wp2
              have ha_e := fun s : Ext wr => cellE ha s
              have hb_e := fun s : Ext wr => cellE hb s
              have hc_e := fun s : Ext wr => cellE hc s
              have hcm_e := fun s : Ext wr => cellE hcm s
              clear ha hb hc hcm
              refine region_ext (W := wr) (Below.refl _ _) (by kernel_rfl) (by kernel_rfl) ?_
              repeat (first | go_big_quiet_step (fail) | quiet_step (fail))
              refine wpQuiet_nil ?_
              rintro _ ⟨sx, rfl⟩
              have HBq := Aside0.mk (below_then HB.out HB.out.size sx.2)
              have HVq := Aside0.mk (Kd.R_below HV.out sx.2)
              have HFq := Aside0.mk (Kd.R_below HFs.out sx.2)
              have ha := ha_e sx
              have hb := hb_e sx
              have hc := hc_e sx
              have hcm := hcm_e sx
              clear HB HV HFs ha_e hb_e hc_e hcm_e
              generalize sx.1 = wq at HBq HVq HFq ha hb hc hcm ⊢
              go_wp2_with ((with_reducible refine gate_dst (N := 85) rfl ?_); refine Kd.R_append (kX Wz) (w0 := w) base rfl _ _ 27 66 (.agg #[.int .i64 0, .int .i64 0, .slice none 0 0]) 40 rfl Try.underlying27 (infoX Wz) rfl (szX Wz) (by decide) v ((l.take k).filter (left2 3 can zO)) o [.int .i64 o.f0, .int .i64 o.f1, .slice A20 o.f2.length c30] (fun _ => True) (fun j => j < w.heap.size) rfl rfl (Kd.M_below HM0.out HBq.out) (fun j hj => ⟨trivial, fun h => by have := HVB.out j h.symm; omega⟩) (fun _ _ => trivial) HVq.out (Below.mono HBq.out hbase) (Nat.le_trans hbase HBq.out.size) (by omega) ?_; intro v3 w3 hs3 hb3 hg3 hat3; have HS3 := Aside0.mk hs3; have HB3 : Aside0 (Below w.heap.size w w3) := ⟨Below.grown HBq.out hg3 HBq.out.size (fun j hj => HVB.out j hj)⟩; have HVB3 : Aside0 (∀ j, own v3 j → w.heap.size ≤ j) := ⟨fun j hj => by rcases hat3 with h2 | ⟨b, h2, h3⟩; exact HVB.out j (h2.symm.trans hj); rw [show v3.ownBlock = some j from hj] at h2; injection h2 with h2; have := HBq.out.size; omega⟩; have HF3 : Aside0 (Fx w w3 (.slice U s.length cu) s) := ⟨Kd.R_mono (Kd.R_grown (Kd.R_tight rfl HFq.out) hg3 (fun j hj e => HNE.out j hj.symm e.symm)) (fun _ _ => trivial)⟩; have HNE3 : Aside0 (NeRow (.slice U s.length cu) v3) := ⟨fun j hj h => by rcases hat3 with h2 | ⟨b, h2, h3⟩; exact HNE.out j hj (h2.symm.trans h); rw [h2] at h; injection h with h; have := Kd.R_lt HFq.out j hj; omega⟩; clear hs3 hb3 hg3 hat3)
              go_roundw
              case rel => exact ⟨k + 1, _, by omega, by go_num, rfl, ⟨by rw [HT.out, if_pos (by first | exact HQT.out | exact rfl)]; exact HS3.out⟩, HVB3, HF3, HNE3, HB3⟩
              case measure => simp [intOf]; omega
            | true =>
              have HQT := Aside0.mk (show left2 3 can zO o = false by unfold left2; rw [if_neg (by decide), hd]; rfl)
              rw [hd] at hcm
              go_wp2
              have ha_e := fun s : Ext wr => cellE ha s
              have hb_e := fun s : Ext wr => cellE hb s
              have hc_e := fun s : Ext wr => cellE hc s
              have hcm_e := fun s : Ext wr => cellE hcm s
              clear ha hb hc hcm
              refine region_ext (W := wr) (Below.refl _ _) (by kernel_rfl) (by kernel_rfl) ?_
              repeat (first | go_big_quiet_step (fail) | quiet_step (fail))
              refine wpQuiet_nil ?_
              rintro _ ⟨sx, rfl⟩
              have HBq := Aside0.mk (below_then HB.out HB.out.size sx.2)
              have HVq := Aside0.mk (Kd.R_below HV.out sx.2)
              have HFq := Aside0.mk (Kd.R_below HFs.out sx.2)
              have ha := ha_e sx
              have hb := hb_e sx
              have hc := hc_e sx
              have hcm := hcm_e sx
              clear HB HV HFs ha_e hb_e hc_e hcm_e
              generalize sx.1 = wq at HBq HVq HFq ha hb hc hcm ⊢
              go_wp2
              go_roundw
              case rel => exact ⟨k + 1, _, by omega, by go_num, rfl, ⟨by rw [HT.out, if_neg (by rw [HQT.out]; decide)]; exact HVq.out⟩, HVB, HFq, HNE, HBq⟩
              case measure => simp [intOf]; omega
          · have hke : k = l.length := by omega
            subst hke
            have g1 : decide (l.length < l.length) = false := decide_eq_false (by omega)
            have hV := HV.out
            rw [List.take_length] at hV
            have HP := Aside0.mk (show XPickOut Wz w wr base (.slice (some ⟨gl0, 0, none⟩) l.length c) (pick mode l can) (.returned (.tuple #[.slice U s.length cu, v])) from ⟨U, s.length, cu, v, by rw [HPK.out, if_neg h0, if_neg m0, if_neg m1, if_neg m2], rfl, ⟨by rw [HPK.out, if_neg h0, if_neg m0, if_neg m1, if_neg m2]; exact (Fx.isL HFs.out HB.out).2, by rw [HPK.out, if_neg h0, if_neg m0, if_neg m1, if_neg m2]; exact hV, .inr HVB.out, HB.out⟩⟩)
            go_wp2
            go_ret2
            exact HP.out
end Go.Proofs.Ytccenpmaooailaa.Yd

/- A sequence at one point in time: the reference's. -/
set_option linter.unusedVariables false
set_option linter.unusedSimpArgs false
namespace Go.Proofs.Ytccenpmaooailaa.Yf
open Go.RowKit Go.Proofs.YtccenpmaooailaaW.PrintWords Go.Proofs.Ytccenpmaooailaa.Wd Go.Proofs.Ytccenpmaooailaa.Pu Go.Proofs.Ytccenpmaooailaa.Pv Go.Proofs.Ytccenpmaooailaa.Ca Go.Proofs.Ytccenpmaooailaa.Cb Go.Proofs.Ytccenpmaooailaa.Cc Go.Proofs.Ytccenpmaooailaa.Cp Go.Proofs.Ytccenpmaooailaa.Cd Go.Proofs.Ytccenpmaooailaa.Ci Go.Proofs.Ytccenpmaooailaa.Ce Go.Proofs.Ytccenpmaooailaa.Cf Go.Proofs.Ytccenpmaooailaa.Cg Go.Proofs.Ytccenpmaooailaa.Sc Go.Proofs.Ytccenpmaooailaa.Se Go.Proofs.Ytccenpmaooailaa.Sh Go.Proofs.Ytccenpmaooailaa.Si Go.Proofs.Ytccenpmaooailaa.Sp Go.Proofs.Ytccenpmaooailaa.Ia Go.Proofs.Ytccenpmaooailaa.Ib Go.Proofs.Ytccenpmaooailaa.Ic Go.Proofs.Ytccenpmaooailaa.Id Go.Proofs.Ytccenpmaooailaa.Ie Go.Proofs.Ytccenpmaooailaa.If Go.Proofs.Ytccenpmaooailaa.Ig Go.Proofs.Ytccenpmaooailaa.Ih Go.Proofs.Ytccenpmaooailaa.Ij Go.Proofs.Ytccenpmaooailaa.Ik Go.Proofs.Ytccenpmaooailaa.Ra Go.Proofs.Ytccenpmaooailaa.Rb Go.Proofs.Ytccenpmaooailaa.Rc Go.Proofs.Ytccenpmaooailaa.Rd Go.Proofs.Ytccenpmaooailaa.Re Go.Proofs.Ytccenpmaooailaa.Sj Go.Proofs.Ytccenpmaooailaa.Ya Go.Proofs.Ytccenpmaooailaa.Yd

variable {Wz : World}
def SeqSOut (Wz w w' : World) (base : Nat) (vL : Value) (R : Value) (p : List Occ × List Occ) (e : Ending) : Prop :=
  ∃ vL' vO, e = .returned (.tuple #[.agg #[vL', R], vO]) ∧ Xw Wz w' base vL' p.1 ∧ Xw Wz w' w.heap.size vO p.2 ∧ Nq vL' vO ∧ Fr (own vL) w w' ∧ (∀ k, own vL' k → own vL k ∨ w.heap.size ≤ k)
structure SeqSMem (Wz w wr : World) (base : Nat) (vL vO : Value) (A : Option Addr) (n c : Nat) (R : Value) (st : List Occ × List Occ) : Prop where
  bel : Below Wz.heap.size Wz wr
  bP : wr.heap[w.heap.size]? = some (.cells #[.slice A n c, R] 29 (0, 0))
  bR : wr.heap[w.heap.size + 1]? = some (.cells #[.slice none 0 0, .slice none 0 0] 29 (0, 0))
  rL : Xw Wz wr base (.slice A n c) st.1
  rO : Xw Wz wr (w.heap.size + 2) vO st.2
  ne : Nq (.slice A n c) vO
  fr : Fr (own vL) w wr
  atL : ∀ k, own (.slice A n c) k → own vL k ∨ w.heap.size ≤ k
theorem seqS_step {w wr w1 w2 w3 w4 : World} {base : Nat} {vL vo vo' R : Value} {Al Ar : Option Addr} {nl cl nr2 cr2 : Nat} {st : List Occ × List Occ} {p2 o' : List Occ}
    (hz : Wz.heap.size ≤ w.heap.size) (HM : SeqSMem Wz w wr base vL vo Al nl cl R st) (b1 : wr.heap.size ≤ w1.heap.size) (b2 : Below wr.heap.size wr w2) (rest : Xw Wz w2 base (.slice Ar nr2 cr2) p2)
    (at_ : Value.slice Ar nr2 cr2 = .slice Al nl cl ∨ ∀ k, own (.slice Ar nr2 cr2) k → w1.heap.size ≤ k) (b3 : Below w2.heap.size w2 w3) (hr4 : Xw Wz w4 (w.heap.size + 2) vo' o') (hg4 : w3.grownBy w4 vo.ownBlock) (hat : At' vo vo' w3.heap.size) :
    SeqSMem Wz w (w4.setCell ⟨w.heap.size, 0, none⟩ (.slice Ar nr2 cr2)) base vL vo' Ar nr2 cr2 R (p2, o') := by
  have hb := Xw.base HM.rO
  have b23 := below_then b2 b2.size b3
  have hP := blk_lt HM.bP
  have bP4 := blk_grown (blk_below HM.bP b23) hg4 (fun h => by have := hb _ h.symm; omega)
  have bR4 := blk_grown (blk_below HM.bR b23) hg4 (fun h => by have := hb _ h.symm; omega)
  have hne : Nq (.slice Ar nr2 cr2) vo := by
    rcases at_ with e | h
    · rw [e]; exact HM.ne
    · intro k h1 h2
      have := h k h1
      have := Xw.lt HM.rO k h2
      omega
  have hlt3 : ∀ k, own (.slice Ar nr2 cr2) k → k < w3.heap.size := fun k h => Nat.lt_of_lt_of_le (Xw.lt rest k h) b3.size
  have r4 : Xw Wz w4 base (.slice Ar nr2 cr2) p2 := Xw.other (Xw.below rest b3) (Xw.below HM.rO b23) hg4 hne
  refine ⟨(Fr.bel (below_then HM.bel HM.bel.size b23) (Fr.of_grown (S := own vo) hg4 (fun k e => e.symm)) (fun k hk => by have := hb k hk; omega)).setCell (p := ⟨w.heap.size, 0, none⟩) hz _, blk_put bP4 0 _ rfl, (Below.heap_setCell w4 ⟨w.heap.size, 0, none⟩ _ (w.heap.size + 1) (by simp)).trans bR4, Xw.set r4 bP4 (by decide) 0 _, Xw.set hr4 bP4 (by decide) 0 _, Nq.at_ hne hlt3 hat, ?_, ?_⟩
  · refine Fr.set (Fr.trans HM.fr (Fr.trans (S := own vo) (T := own vo) (Fr.of_below b23) (Fr.of_grown hg4 (fun k e => e.symm)) (fun k h _ => h)) ?_) (fun h => absurd h (by omega))
    intro k h1 h2
    have := hb k h1
    omega
  · intro k h
    rcases at_ with e | h2
    · rw [e] at h
      exact HM.atL k h
    · have := h2 k h
      exact .inr (by omega)
theorem seqS_end {w wr w5 : World} {base : Nat} {vL vo R : Value} {Al A5 : Option Addr} {nl cl n5 c5 : Nat} {st : List Occ × List Occ} {l' : List Occ} (hv : ∀ k, own vL k → k < w.heap.size)
    (HM : SeqSMem Wz w wr base vL vo Al nl cl R st) (h5 : Xw Wz w5 base (.slice A5 n5 c5) l') (hg5 : wr.grownBy w5 (Value.slice Al nl cl).ownBlock) (hat : At' (.slice Al nl cl) (.slice A5 n5 c5) wr.heap.size) :
    w5.heap[w.heap.size]? = some (.cells #[.slice Al nl cl, R] 29 (0, 0)) ∧ w5.heap[w.heap.size + 1]? = some (.cells #[.slice none 0 0, .slice none 0 0] 29 (0, 0)) ∧ (w5.setCell ⟨w.heap.size, 0, none⟩ (.slice A5 n5 c5)).heap[w.heap.size + 1]? = some (.cells #[.slice none 0 0, .slice none 0 0] 29 (0, 0)) ∧
    SeqSOut Wz w (set2 (w5.setCell ⟨w.heap.size, 0, none⟩ (.slice A5 n5 c5)) (w.heap.size + 1) (.slice A5 n5 c5) R) base vL R (l', st.2) (.returned (.tuple #[.agg #[.slice A5 n5 c5, R], vo])) := by
  have hb := Xw.base HM.rO
  have hP := blk_lt HM.bR
  have nt : ∀ (cells : Array Value) (g : Nat), wr.heap[g]? = some (.cells cells 29 (0, 0)) → ¬ own (.slice Al nl cl) g := fun cells g hg h => by
    obtain ⟨c2, h2⟩ := Kd.R_typed HM.rL g h
    rw [h2] at hg
    injection hg with hg
    injection hg with _ hg _
    exact absurd hg (by decide)
  have bP5 := blk_grown HM.bP hg5 (fun h => nt _ _ HM.bP h.symm)
  have bR5 := blk_grown HM.bR hg5 (fun h => nt _ _ HM.bR h.symm)
  have bR6 := (Below.heap_setCell w5 ⟨w.heap.size, 0, none⟩ (.slice A5 n5 c5) (w.heap.size + 1) (by simp)).trans bR5
  have bR7 := blk_put bR6 0 (.slice A5 n5 c5) rfl
  have vo5 : Xw Wz w5 (w.heap.size + 2) vo st.2 := Xw.other HM.rO HM.rL hg5 HM.ne.symm
  have S : ∀ {b : Nat} {u : Value} {l : List Occ}, Xw Wz w5 b u l → Xw Wz (set2 (w5.setCell ⟨w.heap.size, 0, none⟩ (.slice A5 n5 c5)) (w.heap.size + 1) (.slice A5 n5 c5) R) b u l := fun h => Xw.set (Xw.set (Xw.set h bP5 (by decide) 0 _) bR6 (by decide) 0 _) bR7 (by decide) 1 _
  refine ⟨bP5, bR5, bR6, _, _, rfl, S h5, Kd.R_lower (S vo5) (by omega), (Nq.at_ HM.ne.symm (fun k h => Xw.lt HM.rO k h) hat).symm, ?_, ?_⟩
  · refine Fr.set (Fr.set (Fr.set (Fr.trans HM.fr (Fr.of_grown (S := own (.slice Al nl cl)) hg5 (fun k e => e.symm)) ?_) ?_) ?_) ?_
    · intro k h1 h2
      rcases HM.atL k h1 with h | h
      · exact h
      · omega
    · intro h; omega
    · intro h; omega
    · intro h; omega
  · intro k h
    rcases hat with e | ⟨b, e, hb2⟩
    · exact HM.atL k (e.symm.trans h)
    · have : some b = some k := e.symm.trans h
      injection this with this
      exact .inr (by omega)
theorem made_ok' {mode : Int} (hm : 0 ≤ mode ∧ mode ≤ 4) {l : List Occ} (hl : AreOk l) {o : Occ} (ho : IsOk o) (can : Occ → Bool) : (∀ x ∈ make mode (pick mode l can).1 o, IsOk x) ∧ (make mode (pick mode l can).1 o).length ≤ l.length := by
  rw [← (comb_pick hm hl ho can).1]
  refine ⟨mem_combine ho (fun x hx => hl.all x (List.mem_filter.1 hx).1), Nat.le_trans (len_combine _ _ _) (List.length_filter_le _ _)⟩
theorem pick_len' {mode : Int} {l : List Occ} (can : Occ → Bool) : (pick mode l can).1.length ≤ l.length + 1 := by
  have h1 := List.length_filter_le can l
  unfold pick
  simp only
  repeat' split
  all_goals first | (simp only []; omega) | (simp; done) | (simp; omega)

set_option maxHeartbeats 4000000 in
set_option maxRecDepth 100000 in
theorem xSeq_any (Wz : World) (mode : Int) (hm : 0 ≤ mode ∧ mode ≤ 4) (base : Nat) (A C D R : Option Addr) (ca cc cd nr cr : Nat) (l left right : List Occ) (w : World) (hl : AreOk l) (hle : ∀ o ∈ left, IsOk o) (hri : ∀ o ∈ right, IsOk o)
    (n1 : l.length + left.length ≤ 500) (n2 : right.length ≤ 500) (hW : Below Wz.heap.size Wz w) (hWb : Wz.heap.size ≤ base) (hL : Xw Wz w base (.slice A l.length ca) l) (hbase : base ≤ w.heap.size) (hE : ∀ W, Fr (own (.slice A l.length ca)) w W → IsL W left C cc) (hI : ∀ W, Fr (own (.slice A l.length ca)) w W → IsL W right D cd) :
    Calls Try.prog 43 #[.int .i64 mode, .agg #[.slice A l.length ca, .slice R nr cr], .slice C left.length cc, .slice D right.length cd] w fun e w' => SeqSOut Wz w w' base (.slice A l.length ca) (.slice R nr cr) (seqS mode l left right) e := by
  obtain ⟨vL, hvL⟩ : ∃ vL, vL = Value.slice A l.length ca := ⟨_, rfl⟩
  have HV := Aside0.mk hvL
  rw [← hvL] at hE hI
  have hb0 : Below w.heap.size w (((w.alloc (.cells #[.slice A l.length ca, .slice R nr cr] 29)).alloc (.cells #[.slice none 0 0, .slice none 0 0] 29)).alloc (.cells #[] 66)) := below_alloc (below_alloc (below_alloc (Below.refl _ _) _) _) _
  have HM : Aside0 (SeqSMem Wz w (((w.alloc (.cells #[.slice A l.length ca, .slice R nr cr] 29)).alloc (.cells #[.slice none 0 0, .slice none 0 0] 29)).alloc (.cells #[] 66)) base vL (.slice (some ⟨w.heap.size + 1 + 1, 0, none⟩) 0 0) A l.length ca (.slice R nr cr) (l, [])) := by
    obtain ⟨_, b0, b1, b2⟩ := boxes3 w #[.slice A l.length ca, .slice R nr cr] #[.slice none 0 0, .slice none 0 0] #[] 29 29 66
    exact ⟨⟨below_then hW hW.size hb0, b0, b1, Xw.below hL hb0, R_empty (kX Wz) b2 (Nat.le_refl _), Nq.fresh (n := w.heap.size) (fun k hk => Xw.lt hL k hk) (fun k hk => by simp [own, Value.ownBlock] at hk; omega), Fr.of_below hb0, fun k hk => .inl (by rw [hvL]; exact hk)⟩⟩
  have LENS : Aside0 (SeqLen (l, []) l.length (0 * 500)) := ⟨⟨hl, AreOk.nil, Nat.le_refl _, Nat.le_refl _⟩⟩
  have HVL : Aside0 (∀ k, own vL k → k < w.heap.size) := ⟨by rw [hvL]; exact fun k h => Xw.lt hL k h⟩
  have HLE := Aside0.mk hE
  have HRI := Aside0.mk hI
  have HOKL := Aside0.mk hle
  have HOKR := Aside0.mk hri
  clear hL hE hI hle hri hb0 hl
  go_enter Try.func43, Try.ntmps43
  go_wp2
  go_loopw [10, 11] (fun vo vi wr => ∃ (k : Nat) (st : List Occ × List Occ) (v : Value) (Al : Option Addr) (nl cl : Nat), k ≤ right.length ∧ vi = .int .i64 k ∧ v = vo ∧ Aside0 (st = (right.take k).foldl (seqStepS mode) (l, [])) ∧ Aside0 (SeqLen st l.length (k * 500)) ∧ Aside0 (SeqSMem Wz w wr base vL v Al nl cl (.slice R nr cr) st)) (fun _ vi _ => right.length - (intOf vi).toNat)
  case atStart => exact ⟨0, _, _, _, _, _, Nat.zero_le _, rfl, rfl, ⟨by simp⟩, LENS, HM⟩
  case round =>
    clear HM LENS
    obtain ⟨k, st, vo, Al, nl, cl, hk, rfl, rfl, HST, HLN, HM⟩ := hrel
    have hP := HM.out.bP
    have hR := HM.out.bR
    have hPs := blk_lt hP
    have hRs := blk_lt hR
    have hn1 : nl = st.1.length := Xw.len HM.out.rL
    subst hn1
    have HLN5 := HLN.out.own
    have hout5 := HLN.out.out
    have hbw : base ≤ wr.heap.size := by omega
    by_cases hlt : k < right.length
    · have g1 : decide (k < right.length) = true := decide_eq_true hlt
      have i1 : (k : Int) < right.length := by omega
      have hIr := HRI.out wr HM.out.fr
      obtain ⟨ad, A3, c3, rfl, pa, pb, pc, pl, pC⟩ := atO hIr.rd k hlt
      have hIy : IsO wr (right.getD k zO) A3 c3 := ⟨pl, pC⟩
      have hy := HOKR.out _ (getD_mem (l := right) (i := k) hlt)
      have hT := foldl_take (seqStepS mode) (l, []) right k hlt
      rw [← HST.out] at hT
      generalize right.getD k zO = y at pa pb pc hIy hy hT
      have HT := Aside0.mk hT
      have HY := Aside0.mk hy
      have HIy := Aside0.mk hIy
      have HN2 : Aside0 (SeqLen (seqStepS mode st y) l.length (k * 500 + l.length)) := ⟨by rw [← seqStep_eq hm HLN.out.ok1 hy]; exact seqLen_step HLN.out hy⟩
      clear pl pC hy hT hIy hIr
      have F : ∀ w' : World, Below wr.heap.size wr w' → w'.cell? ⟨w.heap.size, 0, none⟩ = some (.slice Al st.1.length cl) ∧ w'.cell? (ad.add (k * 3)) = some (.int .i64 y.f0) ∧ w'.cell? ⟨(ad.add (k * 3)).block, (ad.add (k * 3)).off + 1, none⟩ = some (.int .i64 y.f1) ∧ w'.cell? ⟨(ad.add (k * 3)).block, (ad.add (k * 3)).off + 2, none⟩ = some (.slice A3 y.f2.length c3) :=
        fun w' h => ⟨pw_cell_below h ((blk_cell hP 0).trans rfl), pw_cell_below h pa, pw_cell_below h pb, pw_cell_below h pc⟩
      go_upto_region 5 with fail
      go_region_held3 (fun w' => w'.cell? ⟨w.heap.size, 0, none⟩ = some (.slice Al st.1.length cl) ∧ w'.cell? (ad.add (k * 3)) = some (.int .i64 y.f0) ∧ w'.cell? ⟨(ad.add (k * 3)).block, (ad.add (k * 3)).off + 1, none⟩ = some (.int .i64 y.f1) ∧ w'.cell? ⟨(ad.add (k * 3)).block, (ad.add (k * 3)).off + 2, none⟩ = some (.slice A3 y.f2.length c3))
        (first | (with_reducible exact F _ (Below.refl _ _)) | (with_reducible exact F _ (below_drew (Below.refl _ _))) | (with_reducible exact F _ HB1) | (with_reducible exact F _ HB2))
        (first
          | (go_at_call 74; refine (xpick_any Wz mode hm base Al M cl cm st.1 (before y) _ (by omega) (below_then HM.out.bel HM.out.bel.size HB1) (Xw.below HM.out.rL HB1) HMK.out (Nat.le_trans hbw HB1.size)).mono ?_; rintro e w2 ⟨U, nu, cu, r, rfl, rfl, hpk⟩; obtain ⟨Ar, cr2, rfl⟩ := Kd.R_slice hpk.rest; have HB2 : Below wr.heap.size wr w2 := below_then HB1 HB1.size hpk.bel; have HPK := Aside0.mk hpk; have HB21 := Aside0.mk HB1.size; clear hpk)
          | (go_at_call 75; refine (before_any Al A3 cl c3 st.1 y _ (by omega) ((Xw.isL HM.out.bel HM.out.rL).below (below_drew (Below.refl _ _)))).mono ?_; rintro e w1 ⟨v1, rfl, hm1, hb1⟩; obtain ⟨M, cm, rfl⟩ := Kd.R_slice hm1; have HB1 : Below wr.heap.size wr w1 := keepD hb1; have hmq := (Kd.R_reads' hm1).2.2; rw [List.length_map] at hmq ⊢; have HMK := Aside0.mk hmq; clear hm1 hb1 hmq))
      have HF2 := Aside0.mk (F _ HB2)
      obtain ⟨p0, pa2, pb2, pc2⟩ := HF2.out
      have bP2 := blk_below hP HB2
      have bR2 := blk_below hR HB2
      have HBB2 := Aside0.mk HB2
      have HRO2 := Aside0.mk (Xw.below HM.out.rO HB2)
      have HIy2 := Aside0.mk (HIy.out.below HB2)
      have hpl := areOk_pick (mode := mode) HLN.out.ok1 (before y)
      have hps : ∀ x ∈ (pick mode st.1 (before y)).1, IsOk x := pick_ok HLN.out.ok1 (before y)
      have HPS := Aside0.mk hps
      have HOW := Aside0.mk HLN.out.ok2
      clear F HF2 HB1 HB2 hps hpl hP hR pa pb pc
      have HMD := Aside0.mk (made_ok' hm HLN.out.ok1 HY.out (before y))
      have hpln := pick_len' (mode := mode) (l := st.1) (before y)
      go_wp2_with (first
        | (go_at_call 76; refine (xmerge_any Wz (w.heap.size + 2) vo st.2 Am cm3 (make mode (pick mode st.1 (before y)).1 y) _ HOW.out HMD.out.1 (by have := HMD.out.2; omega) HBZ3.out (by have := hW.size; omega) (Xw.below HRO2.out HB3.out) (Xw.read HBZ3.out (by have := hW.size; omega) (Xw.below HRO2.out HB3.out) HMK3.out HNE3.out) (by have := HBB2.out.size; have := HB3.out.size; omega)).mono ?_; rintro e w4 ⟨vo4, rfl, hr4, hg4, hat4⟩; have HN4 := Aside0.mk (seqS_step hW.size HM.out HB21.out HBB2.out HPK.out.rest HPK.out.at_ HB3.out hr4 hg4 hat4); have bP4 := blk_grown (blk_below bP2 HB3.out) hg4 (fun h => by have := (Xw.base HM.out.rO) _ h.symm; omega); have q4 := (blk_cell bP4 0).trans rfl; have z4 := blk_frozen bP4 0; clear hr4 hg4 hat4)
        | (go_at_call 77; refine (make_any mode U A3 cu c3 (pick mode st.1 (before y)).1 y _ HPS.out HY.out (by omega) HPK.out.rd HIy2.out).mono ?_; rintro e w3 ⟨vm, rfl, hm3, hb3⟩; have hmx : Xw Wz w3 w2.heap.size vm _ := Xw.of hm3; have HBZ3 : Aside0 (Below Wz.heap.size Wz w3) := ⟨below_then HM.out.bel HM.out.bel.size (below_then HBB2.out HBB2.out.size hb3)⟩; obtain ⟨Am, nm3, cm3, hvm⟩ : ∃ A n c, vm = .slice A n c := by { obtain ⟨A, c, h⟩ := Kd.R_slice hmx; exact ⟨A, _, c, h⟩ }; subst hvm; obtain rfl := Xw.len hmx; have HNE3 : Aside0 (Nq (.slice Am (make mode (pick mode st.1 (before y)).1 y).length cm3) vo) := ⟨fun k h1 h2 => by have := Xw.base hmx k h1; have := Xw.lt HRO2.out k h2; omega⟩; have HMK3 := Aside0.mk hmx; have HB3 := Aside0.mk hb3; clear hm3 hmx hb3))
      go_roundw
      case rel => exact ⟨k + 1, seqStepS mode st y, _, _, _, _, by omega, by go_num, rfl, ⟨HT.out.symm⟩, ⟨⟨HN2.out.ok1, HN2.out.ok2, HN2.out.own, by have := HN2.out.out; omega⟩⟩, HN4⟩
      case measure => simp [intOf]; omega
    · have hke : k = right.length := by omega
      subst hke
      have g1 : decide (right.length < right.length) = false := decide_eq_false (by omega)
      have hF := HST.out
      rw [List.take_length] at hF
      have HG := Aside0.mk (show seqS mode l left right = (putAll st.1 left, st.2) by unfold seqS; rw [← hF])
      have HOW := Aside0.mk HLN.out.ok1
      have hRd : Aside0 (∀ W, Fr (own (.slice Al st.1.length cl)) wr W → IsL W left C cc) := ⟨fun W hf => HLE.out W (Fr.trans HM.out.fr hf (fun k h1 h2 => by
        rcases HM.out.atL k h1 with h | h
        · exact h
        · omega))⟩
      have q0 := (blk_cell hP 0).trans rfl
      clear hF
      go_wp2_with (go_at_call 76; refine (xmerge_any Wz base (.slice Al st.1.length cl) st.1 C cc left _ HOW.out HOKL.out (by omega) HM.out.bel hWb HM.out.rL hRd.out hbw).mono ?_; rintro e w5 ⟨v5, rfl, hr5, hg5, hat5⟩; obtain ⟨A5, n5, c5, rfl⟩ : ∃ A n c, v5 = .slice A n c := by { obtain ⟨A, c, h⟩ := Kd.R_slice hr5; exact ⟨A, _, c, h⟩ }; have hend := seqS_end HVL.out HM.out hr5 hg5 hat5; have bP5 := hend.1; have q5 := (blk_cell bP5 0).trans rfl; have q51 := (blk_cell bP5 1).trans rfl; have z5 := blk_frozen bP5 0; have bR5 := hend.2.1; have r50 := (blk_cell bR5 0).trans rfl; have r51 := (blk_cell bR5 1).trans rfl; have f50 := blk_frozen bR5 0; have f51 := blk_frozen bR5 1; have bR6 := hend.2.2.1; have HEND := Aside0.mk hend.2.2.2; clear hend hr5 hg5 hat5)
      refine bodyPost_ret (results_ct rfl _ _ (w.heap.size + 1) 29 #[.slice A5 n5 c5, .slice R nr cr] (0, 0) _ rfl (set2_blk _ _ bR6) Try.underlying29 rfl (by kernel_rfl)) rfl ?_
      rw [HG.out]
      have hend := HEND.out
      rw [HV.out] at hend
      exact hend
end Go.Proofs.Ytccenpmaooailaa.Yf

/- One paired with all that waits on the other side: the reference's. -/
set_option linter.unusedVariables false
set_option linter.unusedSimpArgs false
namespace Go.Proofs.Ytccenpmaooailaa.Yg
open Go.RowKit Go.Proofs.YtccenpmaooailaaW.PrintWords Go.Proofs.Ytccenpmaooailaa.Wd Go.Proofs.Ytccenpmaooailaa.Pu Go.Proofs.Ytccenpmaooailaa.Pv Go.Proofs.Ytccenpmaooailaa.Ca Go.Proofs.Ytccenpmaooailaa.Cb Go.Proofs.Ytccenpmaooailaa.Cc Go.Proofs.Ytccenpmaooailaa.Cp Go.Proofs.Ytccenpmaooailaa.Cd Go.Proofs.Ytccenpmaooailaa.Ci Go.Proofs.Ytccenpmaooailaa.Ce Go.Proofs.Ytccenpmaooailaa.Cf Go.Proofs.Ytccenpmaooailaa.Cg Go.Proofs.Ytccenpmaooailaa.Sc Go.Proofs.Ytccenpmaooailaa.Se Go.Proofs.Ytccenpmaooailaa.Sh Go.Proofs.Ytccenpmaooailaa.Si Go.Proofs.Ytccenpmaooailaa.Sp Go.Proofs.Ytccenpmaooailaa.Ia Go.Proofs.Ytccenpmaooailaa.Ib Go.Proofs.Ytccenpmaooailaa.Ic Go.Proofs.Ytccenpmaooailaa.Id Go.Proofs.Ytccenpmaooailaa.Ie Go.Proofs.Ytccenpmaooailaa.If Go.Proofs.Ytccenpmaooailaa.Ig Go.Proofs.Ytccenpmaooailaa.Ih Go.Proofs.Ytccenpmaooailaa.Ij Go.Proofs.Ytccenpmaooailaa.Ik Go.Proofs.Ytccenpmaooailaa.Ra Go.Proofs.Ytccenpmaooailaa.Rb Go.Proofs.Ytccenpmaooailaa.Rc Go.Proofs.Ytccenpmaooailaa.Rd Go.Proofs.Ytccenpmaooailaa.Re Go.Proofs.Ytccenpmaooailaa.Sj Go.Proofs.Ytccenpmaooailaa.Ya Go.Proofs.Ytccenpmaooailaa.Yd Go.Proofs.Ytccenpmaooailaa.Yf

variable {Wz : World}
theorem one_X {w : World} {base B : Nat} {o : Occ} {A : Option Addr} {c : Nat} (hB : w.heap[B]? = some (.cells #[.int .i64 o.f0, .int .i64 o.f1, .slice A o.f2.length c] 66 (0, 0))) (hb : base ≤ B) (ho : IsO Wz o A c) : Xw Wz w base (.slice (some ⟨B, 0, none⟩) 1 1) [o] := by
  refine ⟨fun _ _ => trivial, [.int .i64 o.f0, .int .i64 o.f1, .slice A o.f2.length c], ⟨rfl, .inr ⟨B, 1, _, rfl, hb, hB, Nat.le_refl _, by unfold maxLen; omega, rfl, rfl⟩⟩, rfl, fun j q hq => ?_⟩
  obtain ⟨rfl, rfl⟩ : j = 0 ∧ q = o := by
    rcases j with _ | j
    · exact ⟨rfl, by simpa using hq.symm⟩
    · simp at hq
  exact kX_came q ho
structure OneMem (Wz w w' : World) (base : Nat) (vO vW r x u : Value) (oth own' out : List Occ) : Prop where
  rest : Xw Wz w' base r oth
  side : Xw Wz w' base x own'
  out : Xw Wz w' w.heap.size u out
  atr : r = vO ∨ ∀ k, own r k → w.heap.size ≤ k
  atx : ∀ k, own x k → own vW k ∨ w.heap.size ≤ k
  nrx : Nq r x
  nru : Nq r u
  nxu : Nq x u
  fr : Fr (own vW) w w'
def OneOut (Wz w w' : World) (base : Nat) (vO vW : Value) (oth own' out : List Occ) (e : Ending) : Prop := ∃ r x u, e = .returned (.tuple #[r, x, u]) ∧ OneMem Wz w w' base vO vW r x u oth own' out
/-- what is made, before one's own side changes -/
structure OneMid (Wz w w3 : World) (base : Nat) (vO vW r u : Value) (oth own' out : List Occ) : Prop where
  bel : Below Wz.heap.size Wz w3
  rest : Xw Wz w3 base r oth
  side : Xw Wz w3 base vW own'
  out : Xw Wz w3 w.heap.size u out
  atr : r = vO ∨ ∀ k, own r k → w.heap.size ≤ k
  nrx : Nq r vW
  nru : Nq r u
  lt : ∀ k, own vW k → k < w.heap.size
  fr : Below w.heap.size w w3
theorem OneMid.grow {w w3 w4 : World} {base : Nat} {vO vW r u x : Value} {oth own' own2 out : List Occ} (h : OneMid Wz w w3 base vO vW r u oth own' out) (hr : Xw Wz w4 base x own2) (hg : w3.grownBy w4 vW.ownBlock) (hat : At' vW x w3.heap.size) : OneMem Wz w w4 base vO vW r x u oth own2 out := by
  have hub := Xw.base h.out
  have hul := Xw.lt h.out
  have hnu : Nq vW u := fun k h1 h2 => by have := h.lt k h1; have := hub k h2; omega
  refine ⟨Xw.other h.rest h.side hg h.nrx, hr, Xw.other h.out h.side hg hnu.symm, h.atr, ?_, Nq.at_ h.nrx (fun k hk => Xw.lt h.rest k hk) hat, h.nru, (Nq.at_ hnu.symm (fun k hk => hul k hk) hat).symm, ?_⟩
  · intro k hk
    rcases hat with e | ⟨b, e, hb⟩
    · exact .inl (e.symm.trans hk)
    · have : some b = some k := e.symm.trans hk
      injection this with this
      have := h.fr.size
      exact .inr (by omega)
  · exact Fr.trans (S := own vW) (T := own vW) (Fr.of_below h.fr) (Fr.of_grown hg (fun k e => e.symm)) (fun k h _ => h)
theorem OneMid.stay {w w3 : World} {base : Nat} {vO vW r u : Value} {oth own' out : List Occ} (h : OneMid Wz w w3 base vO vW r u oth own' out) : OneMem Wz w w3 base vO vW r vW u oth own' out := by
  have hub := Xw.base h.out
  exact ⟨h.rest, h.side, h.out, h.atr, fun k hk => .inl hk, h.nrx, h.nru, fun k h1 h2 => by have := h.lt k h1; have := hub k h2; omega, Fr.of_below h.fr⟩
theorem OneMid.new {w w3 w4 : World} {base : Nat} {vO vW r u x : Value} {oth own' own2 out : List Occ} (h : OneMid Wz w w3 base vO vW r u oth own' out) (hb : Below w3.heap.size w3 w4) (hr : Xw Wz w4 base x own2) (hx : ∀ k, own x k → w3.heap.size ≤ k) : OneMem Wz w w4 base vO vW r x u oth own2 out := by
  have hul := Xw.lt h.out
  have hs := h.fr.size
  exact ⟨Xw.below h.rest hb, hr, Xw.below h.out hb, h.atr, fun k hk => .inr (by have := hx k hk; omega), fun k h1 h2 => by have := Xw.lt h.rest k h1; have := hx k h2; omega, h.nru, fun k h1 h2 => by have := hul k h2; have := hx k h1; omega, Fr.of_below (below_then h.fr hs hb)⟩

theorem oneMid_mk {w W1 w1 w2 w3 : World} {base : Nat} {O A : Option Addr} {no co na ca : Nat} {r u : Value} {oth2 own' out : List Occ} (hW : Below Wz.heap.size Wz w) (h0 : Below w.heap.size w W1) (h2 : Below W1.heap.size W1 w2) (h3 : Below w2.heap.size w2 w3) (h1 : W1.heap.size ≤ w1.heap.size)
    (rest : Xw Wz w2 base r oth2) (at_ : r = .slice O no co ∨ ∀ k, own r k → w1.heap.size ≤ k) (hS : Xw Wz W1 base (.slice A na ca) own') (hm : Xw Wz w3 w2.heap.size u out) (hne : Nq (.slice O no co) (.slice A na ca)) (hlt : ∀ k, own (.slice A na ca) k → k < w.heap.size) (hlo : ∀ k, own (.slice O no co) k → k < w.heap.size) :
    OneMid Wz w w3 base (.slice O no co) (.slice A na ca) r u oth2 own' out := by
  have hb3 := below_then h2 h2.size h3
  have hb := below_then h0 h0.size hb3
  have s0 := h0.size
  have s2 := h2.size
  refine ⟨below_then hW hW.size hb, Xw.below rest h3, Xw.below hS hb3, Kd.R_lower hm (by omega), ?_, ?_, ?_, hlt, hb⟩
  · rcases at_ with e | h
    · exact .inl e
    · exact .inr (fun k hk => by have := h k hk; omega)
  · rcases at_ with e | h
    · rw [e]; exact hne
    · exact fun k h1 h2 => by have := h k h1; have := hlt k h2; omega
  · exact fun k h1 h2 => by have := Xw.lt rest k h1; have := Xw.base hm k h2; omega

set_option maxHeartbeats 4000000 in
set_option maxRecDepth 100000 in
theorem xOne_any (Wz : World) (mode : Int) (hm : 0 ≤ mode ∧ mode ≤ 4) (base : Nat) (O A B : Option Addr) (co ca cb : Nat) (oth own' : List Occ) (o : Occ) (w : World) (ht : AreOk oth) (hs : AreOk own') (hok : IsOk o) (n1 : oth.length ≤ 500) (n2 : own'.length ≤ 500)
    (hW : Below Wz.heap.size Wz w) (hWb : Wz.heap.size ≤ base) (hO : Xw Wz w base (.slice O oth.length co) oth) (hS : Xw Wz w base (.slice A own'.length ca) own') (hne : Nq (.slice O oth.length co) (.slice A own'.length ca)) (ho : IsO Wz o B cb) (hbase : base ≤ w.heap.size) :
    Calls Try.prog 90 #[.int .i64 mode, .slice O oth.length co, .slice A own'.length ca, .agg #[.int .i64 o.f0, .int .i64 o.f1, .slice B o.f2.length cb]] w fun e w' =>
      OneOut Wz w w' base (.slice O oth.length co) (.slice A own'.length ca) (pick mode oth whole).2 (stowS mode own' o (decide ((pick mode oth whole).1.length = 0))) (make mode (pick mode oth whole).1 o) e := by
  have hb0 := below_alloc (Below.refl w.heap.size w) (.cells #[.int .i64 o.f0, .int .i64 o.f1, .slice B o.f2.length cb] 66)
  have bX := blk_new w (.cells #[.int .i64 o.f0, .int .i64 o.f1, .slice B o.f2.length cb] 66)
  have HW0 := Aside0.mk (below_then hW hW.size hb0)
  have HO0 := Aside0.mk (Xw.below hO hb0)
  have HS0 := Aside0.mk (Xw.below hS hb0)
  have hob := ho.below HW0.out
  have HIo := Aside0.mk hob
  have HIZ := Aside0.mk ho
  have HB0 := Aside0.mk hb0
  have HNE := Aside0.mk hne
  have HLT : Aside0 (∀ k, own (.slice A own'.length ca) k → k < w.heap.size) := ⟨fun k hk => Xw.lt hS k hk⟩
  have HLO : Aside0 (∀ k, own (.slice O oth.length co) k → k < w.heap.size) := ⟨fun k hk => Xw.lt hO k hk⟩
  have HOK := Aside0.mk hok
  have HT := Aside0.mk ht
  have HSK := Aside0.mk hs
  have hpl := pick_len' (mode := mode) (l := oth) whole
  have hps : ∀ x ∈ (pick mode oth whole).1, IsOk x := pick_ok ht whole
  have HPS := Aside0.mk hps
  clear hO hS ho hne hok ht hs hps hob
  go_enter Try.func90, Try.ntmps90
  go_upto_region 1 with fail
  generalize w.alloc (.cells #[.int .i64 o.f0, .int .i64 o.f1, .slice B o.f2.length cb] 66) = W1 at bX HW0 HO0 HS0 HIo HB0 hb0 ⊢
  go_upto_region 3 with (first
    | (go_at_call 77; refine (make_any mode U B cu cb (pick mode oth whole).1 o _ HPS.out HOK.out (by omega) HPK.out.rd (HIo.out.below HB2.out)).mono ?_; rintro e w3 ⟨vm, rfl, hm3, hb3⟩; have hmx : Xw Wz w3 w2.heap.size vm _ := Xw.of hm3; have HMD3 : Aside0 (OneMid Wz w w3 base (.slice O oth.length co) (.slice A own'.length ca) r vm (pick mode oth whole).2 own' (make mode (pick mode oth whole).1 o)) := ⟨oneMid_mk hW HB0.out HB2.out hb3 HB1s.out HPK.out.rest HPK.out.at_ HS0.out hmx HNE.out HLT.out HLO.out⟩; have bX3 := blk_below bX (below_then HB2.out HB2.out.size hb3); have q0 := (blk_cell bX3 0).trans rfl; have q1 := (blk_cell bX3 1).trans rfl; have q2 := (blk_cell bX3 2).trans rfl; have HB3 := Aside0.mk (below_then HB2.out HB2.out.size hb3); clear hm3 hmx hb3)
    | (go_at_call 74; refine (xpick_any Wz mode hm base O M co cm oth whole _ (by omega) (below_then HW0.out HW0.out.size HB1.out) (Xw.below HO0.out HB1.out) HMK.out (Nat.le_trans hbase (Nat.le_trans HB0.out.size HB1.out.size))).mono ?_; rintro e w2 ⟨U, nu, cu, r, rfl, rfl, hpk⟩; have HB2 := Aside0.mk (below_then HB1.out HB1.out.size hpk.bel); have HPK := Aside0.mk hpk; have HB1s := Aside0.mk HB1.out.size; have bX2 := blk_below bX HB2.out; have q0 := (blk_cell bX2 0).trans rfl; have q1 := (blk_cell bX2 1).trans rfl; have q2 := (blk_cell bX2 2).trans rfl; clear hpk)
    | (go_at_call 118; refine (whole_any O co oth _ (by omega)).mono ?_; rintro e w1 ⟨v1, rfl, hm1, hb1⟩; obtain ⟨M, cm, rfl⟩ := Kd.R_slice hm1; have HB1 := Aside0.mk hb1; have hmq := (Kd.R_reads' hm1).2.2; rw [List.length_map] at hmq ⊢; have HMK := Aside0.mk hmq; clear hm1 hb1 hmq))
  have s0 := hb0.size
  by_cases m0 : mode = 0
  · subst m0
    have HST := Aside0.mk (show stowS 0 own' o (decide ((pick 0 oth whole).1.length = 0)) = put own' o from rfl)
    go_wp2_with (go_at_call 110; refine (sPut_any Wz base (fun _ => True) (.slice A own'.length ca) own' B cb o _ HMD3.out.bel HSK.out.sorted (by omega) HMD3.out.side (HIo.out.below HB3.out) (isOk_big HOK.out) (by have := HB3.out.size; have := HB0.out.size; omega) (fun _ _ => trivial)).mono ?_; rintro e w4 ⟨x, rfl, hr4, hg4, hat4⟩; have HEND := Aside0.mk (HMD3.out.grow hr4 hg4 hat4); clear hr4 hg4 hat4)
    go_ret3
    rw [HST.out]
    exact ⟨r, x, vm, rfl, HEND.out⟩
  have e0 : (mode == 0) = false := by rw [beq_eq_false_iff_ne]; omega
  by_cases m1 : mode = 1
  · subst m1
    have HST := Aside0.mk (show stowS 1 own' o (decide ((pick 1 oth whole).1.length = 0)) = [o] from rfl)
    have HEND : Aside0 (OneMem Wz w (w3.alloc (.cells #[.int .i64 o.f0, .int .i64 o.f1, .slice B o.f2.length cb] 66)) base (.slice O oth.length co) (.slice A own'.length ca) r (.slice (some ⟨w3.heap.size, 0, none⟩) 1 1) vm (pick 1 oth whole).2 [o] (make 1 (pick 1 oth whole).1 o)) :=
      ⟨HMD3.out.new (below_alloc (Below.refl _ _) _) (one_X (blk_new _ _) (by have := HB3.out.size; omega) HIZ.out) (fun k hk => by simp [own, Value.ownBlock] at hk; omega)⟩
    go_wp2
    go_ret3
    rw [HST.out]
    exact ⟨r, _, vm, rfl, HEND.out⟩
  have e1 : (mode == 1) = false := by rw [beq_eq_false_iff_ne]; omega
  by_cases h0 : (pick mode oth whole).1.length = 0
  · have d0 : (((pick mode oth whole).1.length : Int) == 0) = true := by simp [h0]
    have d00 : ((pick mode oth whole).1.length : Int) = 0 := by omega
    have HST := Aside0.mk (show stowS mode own' o (decide ((pick mode oth whole).1.length = 0)) = put own' o by unfold stowS; rw [if_neg m0, if_neg m1, if_pos (by simpa using h0)])
    clear h0
    go_wp2_with (go_at_call 110; refine (sPut_any Wz base (fun _ => True) (.slice A own'.length ca) own' B cb o _ HMD3.out.bel HSK.out.sorted (by omega) HMD3.out.side (HIo.out.below HB3.out) (isOk_big HOK.out) (by have := HB3.out.size; have := HB0.out.size; omega) (fun _ _ => trivial)).mono ?_; rintro e w4 ⟨x, rfl, hr4, hg4, hat4⟩; have HEND := Aside0.mk (HMD3.out.grow hr4 hg4 hat4); clear hr4 hg4 hat4)
    go_ret3
    rw [HST.out]
    exact ⟨r, x, vm, rfl, HEND.out⟩
  · have d0 : (((pick mode oth whole).1.length : Int) == 0) = false := by rw [beq_eq_false_iff_ne]; omega
    have d00 : ¬ ((pick mode oth whole).1.length : Int) = 0 := by omega
    have HST := Aside0.mk (show stowS mode own' o (decide ((pick mode oth whole).1.length = 0)) = own' by unfold stowS; rw [if_neg m0, if_neg m1, if_neg (by simpa using h0)])
    clear h0
    go_wp2
    go_ret3
    rw [HST.out]
    exact ⟨r, _, vm, rfl, HMD3.out.stay⟩
end Go.Proofs.Ytccenpmaooailaa.Yg

/- A conjunction at one point in time: the reference's. -/
set_option linter.unusedVariables false
set_option linter.unusedSimpArgs false
namespace Go.Proofs.Ytccenpmaooailaa.Yh
open Go.RowKit Go.Proofs.YtccenpmaooailaaW.PrintWords Go.Proofs.Ytccenpmaooailaa.Wd Go.Proofs.Ytccenpmaooailaa.Pu Go.Proofs.Ytccenpmaooailaa.Pv Go.Proofs.Ytccenpmaooailaa.Ca Go.Proofs.Ytccenpmaooailaa.Cb Go.Proofs.Ytccenpmaooailaa.Cc Go.Proofs.Ytccenpmaooailaa.Cp Go.Proofs.Ytccenpmaooailaa.Cd Go.Proofs.Ytccenpmaooailaa.Ci Go.Proofs.Ytccenpmaooailaa.Ce Go.Proofs.Ytccenpmaooailaa.Cf Go.Proofs.Ytccenpmaooailaa.Cg Go.Proofs.Ytccenpmaooailaa.Sc Go.Proofs.Ytccenpmaooailaa.Se Go.Proofs.Ytccenpmaooailaa.Sh Go.Proofs.Ytccenpmaooailaa.Si Go.Proofs.Ytccenpmaooailaa.Sp Go.Proofs.Ytccenpmaooailaa.Ia Go.Proofs.Ytccenpmaooailaa.Ib Go.Proofs.Ytccenpmaooailaa.Ic Go.Proofs.Ytccenpmaooailaa.Id Go.Proofs.Ytccenpmaooailaa.Ie Go.Proofs.Ytccenpmaooailaa.If Go.Proofs.Ytccenpmaooailaa.Ig Go.Proofs.Ytccenpmaooailaa.Ih Go.Proofs.Ytccenpmaooailaa.Ij Go.Proofs.Ytccenpmaooailaa.Ik Go.Proofs.Ytccenpmaooailaa.Ra Go.Proofs.Ytccenpmaooailaa.Rb Go.Proofs.Ytccenpmaooailaa.Rc Go.Proofs.Ytccenpmaooailaa.Rd Go.Proofs.Ytccenpmaooailaa.Re Go.Proofs.Ytccenpmaooailaa.Sj Go.Proofs.Ytccenpmaooailaa.Ya Go.Proofs.Ytccenpmaooailaa.Yd Go.Proofs.Ytccenpmaooailaa.Yf Go.Proofs.Ytccenpmaooailaa.Yg Go.Proofs.Ytccenpmaooailaa.Ih

variable {Wz : World}
theorem atZ {w : World} {A : Option Addr} {n : Nat} {xs : List Occ} (h : (Kd.fixed kO Wz).C w A n xs) (k : Nat) (hk : k < n) :
    ∃ (ad : Addr) (B : Option Addr) (c : Nat), A = some ad ∧ w.cell? (ad.add (k * 3)) = some (.int .i64 (xs.getD k zO).f0) ∧ w.cell? ⟨(ad.add (k * 3)).block, (ad.add (k * 3)).off + 1, none⟩ = some (.int .i64 (xs.getD k zO).f1) ∧
      w.cell? ⟨(ad.add (k * 3)).block, (ad.add (k * 3)).off + 2, none⟩ = some (.slice B (xs.getD k zO).f2.length c) ∧ IsO Wz (xs.getD k zO) B c := by
  obtain ⟨ad, cs, e, _, hK, hc⟩ := Kd.C_get h zO (k : Int) (by omega) (by omega)
  rw [Int.toNat_natCast] at hK hc
  have hc' : ∀ j u, cs[j]? = some u → w.cell? (ad.add (k * 3 + j)) = some u := hc
  obtain ⟨B, c, rfl, hl, hC⟩ := kO_open (w := Wz) hK
  exact ⟨ad, B, c, e, hc' 0 _ rfl, by rw [← add_field _ _ 1 (by omega)]; exact hc' 1 _ rfl, by rw [← add_field _ _ 2 (by omega)]; exact hc' 2 _ rfl, hl, hC⟩
abbrev SO := Go.Proofs.Ytccenpmaooailaa.Pv.Sides
structure Core (Wz w wr : World) (base bo : Nat) (S : Nat → Prop) (vx vy vo : Value) (sx sy so : List Occ) : Prop where
  bel : Below Wz.heap.size Wz wr
  rX : Xw Wz wr base vx sx
  rY : Xw Wz wr base vy sy
  rO : Xw Wz wr bo vo so
  nXY : Nq vx vy
  nXO : Nq vx vo
  nYO : Nq vy vo
  fr : Fr S w wr
  atX : ∀ k, own vx k → S k ∨ w.heap.size ≤ k
  atY : ∀ k, own vy k → S k ∨ w.heap.size ≤ k
theorem Core.flip {w wr : World} {base bo : Nat} {S : Nat → Prop} {vx vy vo : Value} {sx sy so : List Occ} (h : Core Wz w wr base bo S vx vy vo sx sy so) : Core Wz w wr base bo S vy vx vo sy sx so :=
  ⟨h.bel, h.rY, h.rX, h.rO, h.nXY.symm, h.nYO, h.nXO, h.fr, h.atY, h.atX⟩
structure Mid (Wz w wr w3 : World) (base bo : Nat) (S : Nat → Prop) (x r vo u : Value) (sx sy so su : List Occ) : Prop where
  bel : Below Wz.heap.size Wz w3
  rX : Xw Wz w3 base x sx
  rY : Xw Wz w3 base r sy
  rO : Xw Wz w3 bo vo so
  rU : Xw Wz w3 wr.heap.size u su
  nXY : Nq x r
  nXO : Nq x vo
  nYO : Nq r vo
  nUO : Nq u vo
  fr : Fr S w w3
  atX : ∀ k, own x k → S k ∨ w.heap.size ≤ k
  atY : ∀ k, own r k → S k ∨ w.heap.size ≤ k
theorem nt {w : World} {base : Nat} {v : Value} {l : List Occ} (h : Xw Wz w base v l) {cells : Array Value} {g : Nat} (hg : w.heap[g]? = some (.cells cells 29 (0, 0))) : ¬ own v g := fun hk => by
  obtain ⟨c2, h2⟩ := Kd.R_typed h g hk
  rw [h2] at hg
  injection hg with hg
  injection hg with _ hg _
  exact absurd hg (by decide)
theorem fr_blk {S : Nat → Prop} {w w' : World} {o : Obj} {g : Nat} (hf : Fr S w w') (h : w.heap[g]? = some o) (hs : ¬ S g) : w'.heap[g]? = some o := (hf.block g (Array.getElem?_eq_some_iff.1 h).1 hs).trans h
theorem Core.step {w wr w2 : World} {base bo P : Nat} {S : Nat → Prop} {vx vy vo r x u : Value} {sx sy so oth own' found : List Occ} {cells : Array Value} (h : Core Wz w wr base bo S vx vy vo sx sy so) (g : OneMem Wz wr w2 base vy vx r x u oth own' found)
    (hP : wr.heap[P]? = some (.cells cells 29 (0, 0))) (hz : Wz.heap.size ≤ base) (hPz : Wz.heap.size ≤ P) (hPw : w.heap.size ≤ P) (u0 u1 : Value) :
    Mid Wz w wr (Id.set2 w2 P u0 u1) base bo S x r vo u own' oth so found := by
  have hP2 := fr_blk g.fr hP (nt h.rX hP)
  have hP3 := blk_set hP2 0 u0
  have hs := g.fr.size
  have hws := h.fr.size
  have hbx := Xw.base h.rX
  have k2 : Below Wz.heap.size Wz w2 := Fr.bel h.bel g.fr (fun k hk => by have := hbx k hk; omega)
  have e : ∀ {b : Nat} {v : Value} {l : List Occ}, Xw Wz w2 b v l → Xw Wz (Id.set2 w2 P u0 u1) b v l := fun hh => Xw.set (Xw.set hh hP2 (by decide) 0 u0) hP3 (by decide) 1 u1
  have rO2 : Xw Wz w2 bo vo so := Xw.keep h.rO g.fr h.nXO.symm (Xw.typed h.rX)
  have frx : Fr S w w2 := Fr.trans h.fr g.fr (fun k h1 h2 => by
    rcases h.atX k h1 with h3 | h3
    · exact h3
    · omega)
  refine ⟨(k2.setCell (p := ⟨P, 0, none⟩) hPz _).setCell (p := ⟨P, 1, none⟩) hPz _, e g.side, e g.rest, e rO2, e g.out, g.nrx.symm, ?_, ?_, ?_, Fr.set (Fr.set frx (fun hh => absurd hh (by omega))) (fun hh => absurd hh (by omega)), ?_, ?_⟩
  · intro k h1 h2
    rcases g.atx k h1 with h3 | h3
    · exact h.nXO k h3 h2
    · have := Xw.lt h.rO k h2; omega
  · rcases g.atr with h3 | h3
    · rw [h3]; exact h.nYO
    · intro k h1 h2; have := h3 k h1; have := Xw.lt h.rO k h2; omega
  · intro k h1 h2; have := Xw.base g.out k h1; have := Xw.lt h.rO k h2; omega
  · intro k h1
    rcases g.atx k h1 with h3 | h3
    · exact h.atX k h3
    · exact .inr (by omega)
  · intro k h1
    rcases g.atr with h3 | h3
    · rw [h3] at h1; exact h.atY k h1
    · have := h3 k h1; exact .inr (by omega)
theorem Mid.merge {w wr w3 w4 : World} {base bo : Nat} {S : Nat → Prop} {x r vo vo' u : Value} {sx sy so so' su : List Occ} (h : Mid Wz w wr w3 base bo S x r vo u sx sy so su) (hz : Wz.heap.size ≤ w.heap.size) (hbo : w.heap.size ≤ bo) (hr : Xw Wz w4 bo vo' so') (hg : w3.grownBy w4 vo.ownBlock) (hat : At' vo vo' w3.heap.size) :
    Core Wz w w4 base bo S x r vo' sx sy so' := by
  have hb := Xw.base h.rO
  have hf : Fr (own vo) w3 w4 := Fr.of_grown hg (fun k e => e.symm)
  refine ⟨Fr.bel h.bel hf (fun k hk => by have := hb k hk; omega), Xw.other h.rX h.rO hg h.nXO, Xw.other h.rY h.rO hg h.nYO, hr, h.nXY, Nq.at_ h.nXO (fun k hk => Xw.lt h.rX k hk) hat, Nq.at_ h.nYO (fun k hk => Xw.lt h.rY k hk) hat, Fr.trans h.fr hf (fun k h1 h2 => by have := hb k h1; omega), h.atX, h.atY⟩
theorem Core.pair {w wr : World} {base bo P : Nat} {S : Nat → Prop} {vx vy vo : Value} {sx sy so : List Occ} {cells : Array Value} (h : Core Wz w wr base bo S vx vy vo sx sy so) (hP : wr.heap[P]? = some (.cells cells 29 (0, 0))) (hz : Wz.heap.size ≤ P) (hw : w.heap.size ≤ P) (u0 u1 : Value) : Core Wz w (Id.set2 wr P u0 u1) base bo S vx vy vo sx sy so := by
  have hP3 := blk_set hP 0 u0
  have e : ∀ {b : Nat} {v : Value} {l : List Occ}, Xw Wz wr b v l → Xw Wz (Id.set2 wr P u0 u1) b v l := fun hh => Xw.set (Xw.set hh hP (by decide) 0 u0) hP3 (by decide) 1 u1
  exact ⟨(h.bel.setCell (p := ⟨P, 0, none⟩) hz _).setCell (p := ⟨P, 1, none⟩) hz _, e h.rX, e h.rY, e h.rO, h.nXY, h.nXO, h.nYO, Fr.set (Fr.set h.fr (fun hh => absurd hh (by omega))) (fun hh => absurd hh (by omega)), h.atX, h.atY⟩
def AndSOut (Wz w w' : World) (base : Nat) (S : Nat → Prop) (a : SO) (e : Ending) : Prop := ∃ vL vR vO, e = .returned (.tuple #[.agg #[vL, vR], vO]) ∧ Core Wz w w' base (w.heap.size + 2) S vL vR vO a.own a.oth a.out
theorem stepLen {mode : Int} (hm : 0 ≤ mode ∧ mode ≤ 4) {st : SO} {a b c : Nat} (h : AndLen st a b c) {o : Occ} (ho : IsOk o) : AndLen (andStepS mode st o) (a + 1) b (c + b) := by rw [← andStep_eq hm h.ok ho]; exact andLen_step h ho
theorem fr_cell {S : Nat → Prop} {w w' : World} {p : Addr} {v : Value} (hf : Fr S w w') (hs : ¬ S p.block) (h : w.cell? p = some v) : w'.cell? p = some v :=
  (World.cell?_of_block (hf.block _ (World.block_lt_of_cell? w _ h) hs)).trans h
theorem one_drew {w w' : World} {base : Nat} {vO vW r x u : Value} {oth own' out : List Occ} (h : OneMem Wz w.drew w' base vO vW r x u oth own' out) : OneMem Wz w w' base vO vW r x u oth own' out :=
  ⟨h.rest, h.side, h.out, h.atr, h.atx, h.nrx, h.nru, h.nxu, ⟨h.fr.os, h.fr.tape, h.fr.output, h.fr.size, h.fr.block⟩⟩
theorem far2_blk {w : World} {G P : Nat} {o : Obj} (h : w.heap[P]? = some o) (hne : P ≠ G) (u0 u1 : Value) : (Id.set2 w G u0 u1).heap[P]? = some o :=
  (Below.heap_setCell _ ⟨G, 1, none⟩ u1 P hne).trans ((Below.heap_setCell w ⟨G, 0, none⟩ u0 P hne).trans h)

set_option maxHeartbeats 4000000 in
set_option maxRecDepth 100000 in
theorem xAnd_any (Wz : World) (mode : Int) (hm : 0 ≤ mode ∧ mode ≤ 4) (base : Nat) (A B C D : Option Addr) (ca cb cc cd : Nat) (l r left right : List Occ) (w : World) (hl : AreOk l) (hr : AreOk r) (hle : ∀ o ∈ left, IsOk o) (hri : ∀ o ∈ right, IsOk o)
    (n1 : l.length + left.length ≤ 500) (n2 : r.length + right.length ≤ 500) (hW : Below Wz.heap.size Wz w) (hWb : Wz.heap.size ≤ base) (hL : Xw Wz w base (.slice A l.length ca) l) (hR : Xw Wz w base (.slice B r.length cb) r) (hne : Nq (.slice A l.length ca) (.slice B r.length cb)) (hbase : base ≤ w.heap.size)
    (hE : ∀ W, Fr (fun k => own (.slice A l.length ca) k ∨ own (.slice B r.length cb) k) w W → (Kd.fixed kO Wz).C W C left.length left) (hI : ∀ W, Fr (fun k => own (.slice A l.length ca) k ∨ own (.slice B r.length cb) k) w W → (Kd.fixed kO Wz).C W D right.length right)
    (hCS : ∀ ad, C = some ad → 0 < left.length → ad.block < w.heap.size ∧ ¬ (own (.slice A l.length ca) ad.block ∨ own (.slice B r.length cb) ad.block)) (hDS : ∀ ad, D = some ad → 0 < right.length → ad.block < w.heap.size ∧ ¬ (own (.slice A l.length ca) ad.block ∨ own (.slice B r.length cb) ad.block)) :
    Calls Try.prog 54 #[.int .i64 mode, .agg #[.slice A l.length ca, .slice B r.length cb], .slice C left.length cc, .slice D right.length cd] w fun e w' => AndSOut Wz w w' base (fun k => own (.slice A l.length ca) k ∨ own (.slice B r.length cb) k) (andS mode l r left right) e := by
  obtain ⟨S, hS⟩ : ∃ S : Nat → Prop, S = fun k => own (.slice A l.length ca) k ∨ own (.slice B r.length cb) k := ⟨_, rfl⟩
  have hCS2 : ∀ ad, C = some ad → 0 < left.length → ad.block < w.heap.size ∧ ¬ S ad.block := fun ad h1 h2 => by rw [hS]; exact hCS ad h1 h2
  have hDS2 : ∀ ad, D = some ad → 0 < right.length → ad.block < w.heap.size ∧ ¬ S ad.block := fun ad h1 h2 => by rw [hS]; exact hDS ad h1 h2
  rw [← hS] at hE hI ⊢
  have HCS := Aside0.mk hCS2
  have HDS := Aside0.mk hDS2
  clear hCS hDS hCS2 hDS2
  have hz : Wz.heap.size ≤ w.heap.size := hW.size
  have hb0 : Below w.heap.size w (((w.alloc (.cells #[.slice A l.length ca, .slice B r.length cb] 29)).alloc (.cells #[.slice none 0 0, .slice none 0 0] 29)).alloc (.cells #[] 66)) := below_alloc (below_alloc (below_alloc (Below.refl _ _) _) _) _
  obtain ⟨_, b0, b1, b2⟩ := boxes3 w #[.slice A l.length ca, .slice B r.length cb] #[.slice none 0 0, .slice none 0 0] #[] 29 29 66
  have HM : Aside0 (Core Wz w (((w.alloc (.cells #[.slice A l.length ca, .slice B r.length cb] 29)).alloc (.cells #[.slice none 0 0, .slice none 0 0] 29)).alloc (.cells #[] 66)) base (w.heap.size + 2) S (.slice A l.length ca) (.slice B r.length cb) (.slice (some ⟨w.heap.size + 1 + 1, 0, none⟩) 0 0) l r []) :=
    ⟨⟨below_then hW hW.size hb0, Xw.below hL hb0, Xw.below hR hb0, R_empty (kX Wz) b2 (Nat.le_refl _), hne, Nq.fresh (n := w.heap.size) (fun k hk => Xw.lt hL k hk) (fun k hk => by simp [own, Value.ownBlock] at hk; omega), Nq.fresh (n := w.heap.size) (fun k hk => Xw.lt hR k hk) (fun k hk => by simp [own, Value.ownBlock] at hk; omega), Fr.of_below hb0, fun k hk => .inl (by rw [hS]; exact .inl hk), fun k hk => .inl (by rw [hS]; exact .inr hk)⟩⟩
  have HP0 := Aside0.mk b0
  have HR0 := Aside0.mk b1
  have LENS : Aside0 (AndLen ⟨l, r, []⟩ (l.length + 0) r.length (0 * 500)) := ⟨⟨⟨hl, hr, AreOk.nil⟩, Nat.le_refl _, Nat.le_refl _, Nat.le_refl _⟩⟩
  have HLE := Aside0.mk hE
  have HRI := Aside0.mk hI
  have HOKL := Aside0.mk hle
  have HOKR := Aside0.mk hri
  clear hL hR hE hI hle hri hb0 hl hr b0 b1 b2 hne hS
  go_enter Try.func54, Try.ntmps54
  go_wp2
  go_loopw [10, 11] (fun vo vi wr => ∃ (k : Nat) (st : SO) (v : Value) (Al Ar : Option Addr) (nl nr cl cr : Nat), k ≤ left.length ∧ vi = .int .i64 k ∧ v = vo ∧ Aside0 (st = (left.take k).foldl (andStepS mode) ⟨l, r, []⟩) ∧ Aside0 (AndLen st (l.length + k) r.length (k * 500)) ∧ Aside0 (Core Wz w wr base (w.heap.size + 2) S (.slice Al nl cl) (.slice Ar nr cr) v st.own st.oth st.out) ∧ Aside0 (wr.heap[w.heap.size]? = some (.cells #[.slice Al nl cl, .slice Ar nr cr] 29 (0, 0))) ∧ Aside0 (wr.heap[w.heap.size + 1]? = some (.cells #[.slice none 0 0, .slice none 0 0] 29 (0, 0)))) (fun _ vi _ => left.length - (intOf vi).toNat)
  case atStart => exact ⟨0, _, _, _, _, _, _, _, _, Nat.zero_le _, rfl, rfl, ⟨by simp⟩, LENS, HM, HP0, HR0⟩
  case round =>
    clear HM LENS HP0 HR0
    obtain ⟨k, st, vo, Al, Ar, nl, nr, cl, cr, hk, rfl, rfl, HST, HLN, HM, HP, HR⟩ := hrel
    obtain rfl : nl = st.own.length := Xw.len HM.out.rX
    obtain rfl : nr = st.oth.length := Xw.len HM.out.rY
    have hPs := blk_lt HP.out
    have hRs := blk_lt HR.out
    have l1 := HLN.out.own
    have l2 := HLN.out.oth
    have l3 := HLN.out.out
    have hbw : base ≤ wr.heap.size := by omega
    by_cases hlt : k < left.length
    · have g1 : decide (k < left.length) = true := decide_eq_true hlt
      have i1 : (k : Int) < left.length := by omega
      have hIr := HLE.out wr HM.out.fr
      obtain ⟨ad, A3, c3, rfl, pa, pb, pc, hIz⟩ := atZ hIr k hlt
      have hy := HOKL.out _ (getD_mem (l := left) (i := k) hlt)
      have hT := foldl_take (andStepS mode) (⟨l, r, []⟩ : SO) left k hlt
      rw [← HST.out] at hT
      generalize left.getD k zO = y at pa pb pc hIz hy hT
      have HT := Aside0.mk hT
      have HY := Aside0.mk hy
      have HIz := Aside0.mk hIz
      have HN2 := Aside0.mk (stepLen hm HLN.out hy)
      have hmk := made_ok' hm HLN.out.ok.oth hy whole
      have HMK := Aside0.mk hmk
      clear hIz hy hT hIr hmk
      have hcs := HCS.out ad rfl (by omega)
      have hnx : ¬ own (.slice Al st.own.length cl) (ad.add (k * 3)).block := fun h => by
        rw [Id.add_block] at h
        rcases HM.out.atX _ h with h2 | h2
        · exact hcs.2 h2
        · have := hcs.1; omega
      have hnp := nt HM.out.rX HP.out
      have F : ∀ w' : World, Fr (own (.slice Al st.own.length cl)) wr w' → w'.cell? ⟨w.heap.size, 0, none⟩ = some (.slice Al st.own.length cl) ∧ w'.cell? ⟨w.heap.size, 1, none⟩ = some (.slice Ar st.oth.length cr) ∧ w'.cell? (ad.add (k * 3)) = some (.int .i64 y.f0) ∧ w'.cell? ⟨(ad.add (k * 3)).block, (ad.add (k * 3)).off + 1, none⟩ = some (.int .i64 y.f1) ∧ w'.cell? ⟨(ad.add (k * 3)).block, (ad.add (k * 3)).off + 2, none⟩ = some (.slice A3 y.f2.length c3) :=
        fun w' h => ⟨(blk_cell (fr_blk h HP.out hnp) 0).trans rfl, (blk_cell (fr_blk h HP.out hnp) 1).trans rfl, fr_cell h hnx pa, fr_cell (p := ⟨_, _, none⟩) h hnx pb, fr_cell (p := ⟨_, _, none⟩) h hnx pc⟩
      have HF := Aside0.mk F
      have hfr0 : Fr (own (.slice Al st.own.length cl)) wr wr.drew := Fr.of_below (below_drew (Below.refl _ _))
      clear pa pb pc hcs hnx hnp
      go_upto_region 5 with fail
      go_region_held3 (fun w' => w'.cell? ⟨w.heap.size, 0, none⟩ = some (.slice Al st.own.length cl) ∧ w'.cell? ⟨w.heap.size, 1, none⟩ = some (.slice Ar st.oth.length cr) ∧ w'.cell? (ad.add (k * 3)) = some (.int .i64 y.f0) ∧ w'.cell? ⟨(ad.add (k * 3)).block, (ad.add (k * 3)).off + 1, none⟩ = some (.int .i64 y.f1) ∧ w'.cell? ⟨(ad.add (k * 3)).block, (ad.add (k * 3)).off + 2, none⟩ = some (.slice A3 y.f2.length c3))
        (first | (with_reducible exact F _ (Fr.refl _ _)) | (with_reducible exact F _ hfr0) | (with_reducible exact F _ HF2.out))
        (first | (go_at_call 90; refine (xOne_any Wz mode hm base Ar Al A3 cr cl c3 st.oth st.own y _ HLN.out.ok.oth HLN.out.ok.own HY.out (by omega) (by omega) (below_then HM.out.bel HM.out.bel.size (below_drew (Below.refl _ _))) hWb (Xw.below HM.out.rY (below_drew (Below.refl _ _))) (Xw.below HM.out.rX (below_drew (Below.refl _ _))) HM.out.nXY.symm HIz.out hbw).mono ?_; rintro e w2 ⟨vr, vx, vu, rfl, hone⟩; obtain ⟨Ar2, nr2, cr2, rfl⟩ : ∃ A n c, vr = .slice A n c := by { obtain ⟨A, c, h⟩ := Xw.slice hone.rest; exact ⟨A, _, c, h⟩ }; obtain ⟨Ax, nx, cx, rfl⟩ : ∃ A n c, vx = .slice A n c := by { obtain ⟨A, c, h⟩ := Xw.slice hone.side; exact ⟨A, _, c, h⟩ }; obtain ⟨U, cu, rfl⟩ := Xw.slice hone.out; have HF2 : Aside0 (Fr (own (.slice Al st.own.length cl)) wr w2) := ⟨(one_drew hone).fr⟩; have HP2 := fr_blk hone.fr HP.out (nt HM.out.rX HP.out); have HR2 := fr_blk hone.fr HR.out (nt HM.out.rX HR.out); have z0 := (blk_cell HP2 0).trans rfl; have z1 := (blk_cell HP2 1).trans rfl; have y0 := blk_frozen HP2 0; have y1 := blk_frozen HP2 1; have HMD := Aside0.mk (Core.step HM.out (one_drew hone) HP.out hWb hz (Nat.le_refl _) (.slice Ax nx cx) (.slice Ar2 nr2 cr2)); have HP3 := Aside0.mk (Id.set2_blk (.slice Ax nx cx) (.slice Ar2 nr2 cr2) HP2); have HR3 := Aside0.mk (far2_blk (G := w.heap.size) HR2 (by omega) (.slice Ax nx cx) (.slice Ar2 nr2 cr2)); have hss : wr.heap.size ≤ w2.heap.size := hone.fr.size; have HB4s : Aside0 (w.heap.size + 2 ≤ (Id.set2 w2 w.heap.size (.slice Ax nx cx) (.slice Ar2 nr2 cr2)).heap.size) := ⟨by have e1 : (Id.set2 w2 w.heap.size (.slice Ax nx cx) (.slice Ar2 nr2 cr2)).heap.size = w2.heap.size := by { simp [Id.set2, World.setCell] }; omega⟩; clear hone))
      obtain ⟨p0, p1, -, -, -⟩ := HF.out _ HF2.out
      clear F HF
      go_wp2_with ((go_at_call 76; refine (xmerge_any Wz (w.heap.size + 2) vo st.out U cu (make mode (pick mode st.oth whole).1 y) _ HLN.out.ok.out HMK.out.1 (by have := HMK.out.2; omega) HMD.out.bel (by omega) HMD.out.rO (Xw.read HMD.out.bel (by omega) HMD.out.rO HMD.out.rU HMD.out.nUO) HB4s.out).mono ?_; rintro e w4 ⟨vo4, rfl, hr4, hg4, hat4⟩; have HN4 := Aside0.mk (HMD.out.merge hz (by omega) hr4 hg4 hat4); have HP4 := Aside0.mk (blk_grown HP3.out hg4 (fun h => by have := Xw.base HMD.out.rO _ h.symm; omega)); have HR4 := Aside0.mk (blk_grown HR3.out hg4 (fun h => by have := Xw.base HMD.out.rO _ h.symm; omega)); clear hr4 hg4 hat4))
      go_roundw
      case rel => exact ⟨k + 1, andStepS mode st y, _, _, _, _, _, _, _, by omega, by go_num, rfl, ⟨HT.out.symm⟩, ⟨andLen_mono HN2.out (by omega) (by omega) (by omega)⟩, HN4, HP4, HR4⟩
      case measure => simp [intOf]; omega
    · have hke : k = left.length := by omega
      subst hke
      have g1 : decide (left.length < left.length) = false := decide_eq_false (by omega)
      have hF := HST.out
      rw [List.take_length] at hF
      have HF1 := Aside0.mk hF
      have LENS : Aside0 (AndLen (Pv.flip st) (r.length + 0) (l.length + left.length) (left.length * 500 + 0 * 500)) := ⟨andLen_mono (andLen_flip HLN.out) (by omega) (by omega) (by omega)⟩
      have HM0 : Aside0 (Core Wz w wr base (w.heap.size + 2) S (.slice Ar (Pv.flip st).own.length cr) (.slice Al (Pv.flip st).oth.length cl) vo (Pv.flip st).own (Pv.flip st).oth (Pv.flip st).out) := ⟨HM.out.flip⟩
      have HP0 : Aside0 (wr.heap[w.heap.size]? = some (.cells #[.slice Al (Pv.flip st).oth.length cl, .slice Ar (Pv.flip st).own.length cr] 29 (0, 0))) := ⟨HP.out⟩
      clear hF HST HLN HM HP hPs hRs l1 l2 l3
      obtain ⟨st1, hst1⟩ : ∃ s, s = st := ⟨_, rfl⟩
      rw [← hst1] at HF1 LENS HM0 HP0
      clear hst1 st
      go_wp2
      go_loopw [10, 15] (fun vo vi wr => ∃ (k : Nat) (st : SO) (v : Value) (Al Ar : Option Addr) (nl nr cl cr : Nat), k ≤ right.length ∧ vi = .int .i64 k ∧ v = vo ∧ Aside0 (st = (right.take k).foldl (andStepS mode) (Pv.flip st1)) ∧ Aside0 (AndLen st (r.length + k) (l.length + left.length) (left.length * 500 + k * 500)) ∧ Aside0 (Core Wz w wr base (w.heap.size + 2) S (.slice Ar nr cr) (.slice Al nl cl) v st.own st.oth st.out) ∧ Aside0 (wr.heap[w.heap.size]? = some (.cells #[.slice Al nl cl, .slice Ar nr cr] 29 (0, 0))) ∧ Aside0 (wr.heap[w.heap.size + 1]? = some (.cells #[.slice none 0 0, .slice none 0 0] 29 (0, 0)))) (fun _ vi _ => right.length - (intOf vi).toNat)
      case atStart => exact ⟨0, _, _, _, _, _, _, _, _, Nat.zero_le _, rfl, rfl, ⟨by simp⟩, LENS, HM0, HP0, HR⟩
      case round =>
        clear HM0 LENS HP0 HR
        obtain ⟨k, st, vo, Al, Ar, nl, nr, cl, cr, hk, rfl, rfl, HST, HLN, HM, HP, HR⟩ := hrel
        obtain rfl : nr = st.own.length := Xw.len HM.out.rX
        obtain rfl : nl = st.oth.length := Xw.len HM.out.rY
        have hPs := blk_lt HP.out
        have hRs := blk_lt HR.out
        have l1 := HLN.out.own
        have l2 := HLN.out.oth
        have l3 := HLN.out.out
        have hbw : base ≤ wr.heap.size := by omega
        by_cases hlt : k < right.length
        · have g1 : decide (k < right.length) = true := decide_eq_true hlt
          have i1 : (k : Int) < right.length := by omega
          have hIr := HRI.out wr HM.out.fr
          obtain ⟨ad, A3, c3, rfl, pa, pb, pc, hIz⟩ := atZ hIr k hlt
          have hy := HOKR.out _ (getD_mem (l := right) (i := k) hlt)
          have hT := foldl_take (andStepS mode) (Pv.flip st1) right k hlt
          rw [← HST.out] at hT
          generalize right.getD k zO = y at pa pb pc hIz hy hT
          have HT := Aside0.mk hT
          have HY := Aside0.mk hy
          have HIz := Aside0.mk hIz
          have HN2 := Aside0.mk (stepLen hm HLN.out hy)
          have hmk := made_ok' hm HLN.out.ok.oth hy whole
          have HMK := Aside0.mk hmk
          clear hIz hy hT hIr hmk
          have hcs := HDS.out ad rfl (by omega)
          have hnx : ¬ own (.slice Ar st.own.length cr) (ad.add (k * 3)).block := fun h => by
            rw [Id.add_block] at h
            rcases HM.out.atX _ h with h2 | h2
            · exact hcs.2 h2
            · have := hcs.1; omega
          have hnp := nt HM.out.rX HP.out
          have F : ∀ w' : World, Fr (own (.slice Ar st.own.length cr)) wr w' → w'.cell? ⟨w.heap.size, 0, none⟩ = some (.slice Al st.oth.length cl) ∧ w'.cell? ⟨w.heap.size, 1, none⟩ = some (.slice Ar st.own.length cr) ∧ w'.cell? (ad.add (k * 3)) = some (.int .i64 y.f0) ∧ w'.cell? ⟨(ad.add (k * 3)).block, (ad.add (k * 3)).off + 1, none⟩ = some (.int .i64 y.f1) ∧ w'.cell? ⟨(ad.add (k * 3)).block, (ad.add (k * 3)).off + 2, none⟩ = some (.slice A3 y.f2.length c3) :=
            fun w' h => ⟨(blk_cell (fr_blk h HP.out hnp) 0).trans rfl, (blk_cell (fr_blk h HP.out hnp) 1).trans rfl, fr_cell h hnx pa, fr_cell (p := ⟨_, _, none⟩) h hnx pb, fr_cell (p := ⟨_, _, none⟩) h hnx pc⟩
          have HF := Aside0.mk F
          have hfr0 : Fr (own (.slice Ar st.own.length cr)) wr wr.drew := Fr.of_below (below_drew (Below.refl _ _))
          clear pa pb pc hcs hnx hnp
          go_upto_region 11 with fail
          go_region_held3 (fun w' => w'.cell? ⟨w.heap.size, 0, none⟩ = some (.slice Al st.oth.length cl) ∧ w'.cell? ⟨w.heap.size, 1, none⟩ = some (.slice Ar st.own.length cr) ∧ w'.cell? (ad.add (k * 3)) = some (.int .i64 y.f0) ∧ w'.cell? ⟨(ad.add (k * 3)).block, (ad.add (k * 3)).off + 1, none⟩ = some (.int .i64 y.f1) ∧ w'.cell? ⟨(ad.add (k * 3)).block, (ad.add (k * 3)).off + 2, none⟩ = some (.slice A3 y.f2.length c3))
            (first | (with_reducible exact F _ (Fr.refl _ _)) | (with_reducible exact F _ hfr0) | (with_reducible exact F _ HF2.out))
            (first | (go_at_call 90; refine (xOne_any Wz mode hm base Al Ar A3 cl cr c3 st.oth st.own y _ HLN.out.ok.oth HLN.out.ok.own HY.out (by omega) (by omega) (below_then HM.out.bel HM.out.bel.size (below_drew (Below.refl _ _))) hWb (Xw.below HM.out.rY (below_drew (Below.refl _ _))) (Xw.below HM.out.rX (below_drew (Below.refl _ _))) HM.out.nXY.symm HIz.out hbw).mono ?_; rintro e w2 ⟨vr, vx, vu, rfl, hone⟩; obtain ⟨Ar2, nr2, cr2, rfl⟩ : ∃ A n c, vr = .slice A n c := by { obtain ⟨A, c, h⟩ := Xw.slice hone.rest; exact ⟨A, _, c, h⟩ }; obtain ⟨Ax, nx, cx, rfl⟩ : ∃ A n c, vx = .slice A n c := by { obtain ⟨A, c, h⟩ := Xw.slice hone.side; exact ⟨A, _, c, h⟩ }; obtain ⟨U, cu, rfl⟩ := Xw.slice hone.out; have HF2 : Aside0 (Fr (own (.slice Ar st.own.length cr)) wr w2) := ⟨(one_drew hone).fr⟩; have HP2 := fr_blk hone.fr HP.out (nt HM.out.rX HP.out); have HR2 := fr_blk hone.fr HR.out (nt HM.out.rX HR.out); have z0 := (blk_cell HP2 0).trans rfl; have z1 := (blk_cell HP2 1).trans rfl; have y0 := blk_frozen HP2 0; have y1 := blk_frozen HP2 1; have HMD := Aside0.mk (Core.step HM.out (one_drew hone) HP.out hWb hz (Nat.le_refl _) (.slice Ar2 nr2 cr2) (.slice Ax nx cx)); have HP3 := Aside0.mk (Id.set2_blk (.slice Ar2 nr2 cr2) (.slice Ax nx cx) HP2); have HR3 := Aside0.mk (far2_blk (G := w.heap.size) HR2 (by omega) (.slice Ar2 nr2 cr2) (.slice Ax nx cx)); have hss : wr.heap.size ≤ w2.heap.size := hone.fr.size; have HB4s : Aside0 (w.heap.size + 2 ≤ (Id.set2 w2 w.heap.size (.slice Ar2 nr2 cr2) (.slice Ax nx cx)).heap.size) := ⟨by have e1 : (Id.set2 w2 w.heap.size (.slice Ar2 nr2 cr2) (.slice Ax nx cx)).heap.size = w2.heap.size := by { simp [Id.set2, World.setCell] }; omega⟩; clear hone))
          obtain ⟨p0, p1, -, -, -⟩ := HF.out _ HF2.out
          clear F HF
          go_wp2_with ((go_at_call 76; refine (xmerge_any Wz (w.heap.size + 2) vo st.out U cu (make mode (pick mode st.oth whole).1 y) _ HLN.out.ok.out HMK.out.1 (by have := HMK.out.2; omega) HMD.out.bel (by omega) HMD.out.rO (Xw.read HMD.out.bel (by omega) HMD.out.rO HMD.out.rU HMD.out.nUO) HB4s.out).mono ?_; rintro e w4 ⟨vo4, rfl, hr4, hg4, hat4⟩; have HN4 := Aside0.mk (HMD.out.merge hz (by omega) hr4 hg4 hat4); have HP4 := Aside0.mk (blk_grown HP3.out hg4 (fun h => by have := Xw.base HMD.out.rO _ h.symm; omega)); have HR4 := Aside0.mk (blk_grown HR3.out hg4 (fun h => by have := Xw.base HMD.out.rO _ h.symm; omega)); clear hr4 hg4 hat4))
          go_roundw
          case rel => exact ⟨k + 1, andStepS mode st y, _, _, _, _, _, _, _, by omega, by go_num, rfl, ⟨HT.out.symm⟩, ⟨andLen_mono HN2.out (by omega) (by omega) (by omega)⟩, HN4, HP4, HR4⟩
          case measure => simp [intOf]; omega
        · have hke : k = right.length := by omega
          subst hke
          have g1 : decide (right.length < right.length) = false := decide_eq_false (by omega)
          have hF := HST.out
          rw [List.take_length] at hF
          have HG := Aside0.mk (show andS mode l r left right = Pv.flip st by unfold andS; rw [← HF1.out, ← hF])
          clear hF
          have q0 := (blk_cell HP.out 0).trans rfl
          have q1 := (blk_cell HP.out 1).trans rfl
          have r0 := (blk_cell HR.out 0).trans rfl
          have r1 := (blk_cell HR.out 1).trans rfl
          have f0 := blk_frozen HR.out 0
          have f1 := blk_frozen HR.out 1
          have bR := HR.out
          have HEND := Aside0.mk (HM.out.flip.pair bR (by omega) (by omega) (.slice Al st.oth.length cl) (.slice Ar st.own.length cr))
          go_wp2
          refine bodyPost_ret (results_ct rfl _ _ (w.heap.size + 1) 29 #[.slice Al st.oth.length cl, .slice Ar st.own.length cr] (0, 0) _ rfl (set2_blk _ _ bR) Try.underlying29 rfl (by kernel_rfl)) rfl ?_
          rw [HG.out]
          exact ⟨_, _, _, rfl, HEND.out⟩
end Go.Proofs.Ytccenpmaooailaa.Yh

/- Lists and pairs in new memory: the reference's. -/
set_option linter.unusedVariables false
set_option linter.unusedSimpArgs false
namespace Go.Proofs.Ytccenpmaooailaa.Yi
open Go.RowKit Go.Proofs.YtccenpmaooailaaW.PrintWords Go.Proofs.Ytccenpmaooailaa.Wd Go.Proofs.Ytccenpmaooailaa.Pu Go.Proofs.Ytccenpmaooailaa.Pv Go.Proofs.Ytccenpmaooailaa.Ca Go.Proofs.Ytccenpmaooailaa.Cb Go.Proofs.Ytccenpmaooailaa.Cc Go.Proofs.Ytccenpmaooailaa.Cp Go.Proofs.Ytccenpmaooailaa.Cd Go.Proofs.Ytccenpmaooailaa.Ci Go.Proofs.Ytccenpmaooailaa.Ce Go.Proofs.Ytccenpmaooailaa.Cf Go.Proofs.Ytccenpmaooailaa.Cg Go.Proofs.Ytccenpmaooailaa.Sc Go.Proofs.Ytccenpmaooailaa.Se Go.Proofs.Ytccenpmaooailaa.Sh Go.Proofs.Ytccenpmaooailaa.Si Go.Proofs.Ytccenpmaooailaa.Sp Go.Proofs.Ytccenpmaooailaa.Ia Go.Proofs.Ytccenpmaooailaa.Ib Go.Proofs.Ytccenpmaooailaa.Ic Go.Proofs.Ytccenpmaooailaa.Id Go.Proofs.Ytccenpmaooailaa.Ie Go.Proofs.Ytccenpmaooailaa.If Go.Proofs.Ytccenpmaooailaa.Ig Go.Proofs.Ytccenpmaooailaa.Ih Go.Proofs.Ytccenpmaooailaa.Ij Go.Proofs.Ytccenpmaooailaa.Ik Go.Proofs.Ytccenpmaooailaa.Ra Go.Proofs.Ytccenpmaooailaa.Rb Go.Proofs.Ytccenpmaooailaa.Rc Go.Proofs.Ytccenpmaooailaa.Rd Go.Proofs.Ytccenpmaooailaa.Re Go.Proofs.Ytccenpmaooailaa.Sj Go.Proofs.Ytccenpmaooailaa.Ya Go.Proofs.Ytccenpmaooailaa.Yd Go.Proofs.Ytccenpmaooailaa.Yf Go.Proofs.Ytccenpmaooailaa.Yg Go.Proofs.Ytccenpmaooailaa.Ih Go.Proofs.Ytccenpmaooailaa.Yh

def ListOut (w w' : World) (l : List Occ) (e : Ending) : Prop := ∃ v, e = .returned v ∧ Rw w' w.heap.size v l ∧ Below w.heap.size w w'
set_option maxHeartbeats 1000000 in
set_option maxRecDepth 100000 in
theorem list_any (A : Option Addr) (c : Nat) (l : List Occ) (w : World) (hl : l.length ≤ 1048576) (hi : ∀ x ∈ l, x.f2.length ≤ 1048576) (hL : IsL w l A c) :
    Calls Try.prog 45 #[.slice A l.length c] w fun e w' => ListOut w w' l e := by
  have HI := Aside0.mk hi
  have HB0 := Aside0.mk (below_alloc (Below.refl w.heap.size w) (.cells #[] 66))
  have HR0 : Aside0 (Rw (w.alloc (.cells #[] 66)) w.heap.size (.slice (some ⟨w.heap.size, 0, none⟩) 0 0) []) := ⟨R_empty kO (blk_new _ _) (Nat.le_refl _)⟩
  clear hi
  go_enter Try.func45, Try.ntmps45
  go_wp2
  go_loopw [3, 4] (fun v3 vi wr => ∃ (k : Nat) (v : Value), k ≤ l.length ∧ vi = .int .i64 k ∧ v = v3 ∧ Aside0 (Rw wr w.heap.size v (l.take k)) ∧ Aside0 (Below w.heap.size w wr)) (fun _ vi _ => l.length - (intOf vi).toNat)
  case atStart => exact ⟨0, _, Nat.zero_le _, rfl, rfl, by simpa using HR0, HB0⟩
  case round =>
    clear HR0 HB0
    obtain ⟨k, v, hk, rfl, rfl, HR, HB⟩ := hrel
    by_cases hlt : k < l.length
    · have g1 : decide (k < l.length) = true := decide_eq_true hlt
      have i1 : (k : Int) < l.length := by omega
      obtain ⟨ad, A3, c3, rfl, pa, pb, pc, pl, pC⟩ := atO (hL.below HB.out).rd k hlt
      have hT := take_succ_getD l k zO hlt
      have hio := HI.out _ (getD_mem (l := l) (i := k) hlt)
      have hIo : IsO wr (l.getD k zO) A3 c3 := ⟨pl, pC⟩
      generalize l.getD k zO = o at pa pb pc hT hio hIo
      have HT := Aside0.mk hT
      have HIo := Aside0.mk hIo
      have hln : (l.take k).length = k := by rw [List.length_take]; omega
      have HLN := Aside0.mk hln
      have hws := HB.out.size
      clear pl pC hT hIo hln
      go_wp2_with (first
        | ((with_reducible refine gate_dst (N := 19) rfl ?_); refine Kd.R_append kO (w0 := w) w.heap.size rfl _ _ 27 66 (.agg #[.int .i64 0, .int .i64 0, .slice none 0 0]) 40 rfl Try.underlying27 infoO rfl (by decide) (by decide) v (l.take k) o [.int .i64 o.f0, .int .i64 o.f1, .slice Ac o.f2.length cc] (fun _ => True) (fun j => wr.heap.size ≤ j) rfl rfl (kO_mkM _ _ _ o (Kd.R_lower (Kd.R_mono (Kd.R_bound HC4.out) (fun j hj => hj.2.1)) hws)) (fun j hj => ⟨trivial, fun h => by have := Kd.R_lt HR.out j h.symm; omega⟩) (fun _ _ => trivial) HR4.out HB4.out HB4.out.size (by rw [HLN.out]; omega) ?_; intro v5 w5 hs5 hb5 hg5 hat5; have HS5 := Aside0.mk hs5; have HB5 := Aside0.mk hb5; clear hs5 hb5 hg5 hat5)
        | (go_at_call 78; refine (sCopy_any A3 c3 o _ HIo.out hio).mono ?_; rintro e w4 ⟨v4, rfl, hc4, hb4⟩; obtain ⟨Ac, cc, rfl⟩ := Kd.R_slice hc4; have HC4 := Aside0.mk hc4; have HR4 := Aside0.mk (Rw.below HR.out hb4); have HB4 := Aside0.mk (below_then HB.out HB.out.size hb4); clear hc4 hb4))
      go_roundw
      case rel => exact ⟨k + 1, v5, by omega, by go_num, rfl, ⟨by rw [HT.out]; exact HS5.out⟩, HB5⟩
      case measure => simp [intOf]; omega
    · have hke : k = l.length := by omega
      subst hke
      have g1 : decide (l.length < l.length) = false := decide_eq_false (by omega)
      have hF := HR.out
      rw [List.take_length] at hF
      have HF := Aside0.mk hF
      clear hF
      go_wp2
      go_ret
      exact ⟨v, rfl, HF.out, HB.out⟩
end Go.Proofs.Ytccenpmaooailaa.Yi

/- A pair in new memory: the reference's. -/
set_option linter.unusedVariables false
set_option linter.unusedSimpArgs false
namespace Go.Proofs.Ytccenpmaooailaa.Yj
open Go.RowKit Go.Proofs.YtccenpmaooailaaW.PrintWords Go.Proofs.Ytccenpmaooailaa.Wd Go.Proofs.Ytccenpmaooailaa.Pu Go.Proofs.Ytccenpmaooailaa.Pv Go.Proofs.Ytccenpmaooailaa.Ca Go.Proofs.Ytccenpmaooailaa.Cb Go.Proofs.Ytccenpmaooailaa.Cc Go.Proofs.Ytccenpmaooailaa.Cp Go.Proofs.Ytccenpmaooailaa.Cd Go.Proofs.Ytccenpmaooailaa.Ci Go.Proofs.Ytccenpmaooailaa.Ce Go.Proofs.Ytccenpmaooailaa.Cf Go.Proofs.Ytccenpmaooailaa.Cg Go.Proofs.Ytccenpmaooailaa.Sc Go.Proofs.Ytccenpmaooailaa.Se Go.Proofs.Ytccenpmaooailaa.Sh Go.Proofs.Ytccenpmaooailaa.Si Go.Proofs.Ytccenpmaooailaa.Sp Go.Proofs.Ytccenpmaooailaa.Ia Go.Proofs.Ytccenpmaooailaa.Ib Go.Proofs.Ytccenpmaooailaa.Ic Go.Proofs.Ytccenpmaooailaa.Id Go.Proofs.Ytccenpmaooailaa.Ie Go.Proofs.Ytccenpmaooailaa.If Go.Proofs.Ytccenpmaooailaa.Ig Go.Proofs.Ytccenpmaooailaa.Ih Go.Proofs.Ytccenpmaooailaa.Ij Go.Proofs.Ytccenpmaooailaa.Ik Go.Proofs.Ytccenpmaooailaa.Ra Go.Proofs.Ytccenpmaooailaa.Rb Go.Proofs.Ytccenpmaooailaa.Rc Go.Proofs.Ytccenpmaooailaa.Rd Go.Proofs.Ytccenpmaooailaa.Re Go.Proofs.Ytccenpmaooailaa.Sj Go.Proofs.Ytccenpmaooailaa.Ya Go.Proofs.Ytccenpmaooailaa.Yd Go.Proofs.Ytccenpmaooailaa.Yf Go.Proofs.Ytccenpmaooailaa.Yg Go.Proofs.Ytccenpmaooailaa.Ih Go.Proofs.Ytccenpmaooailaa.Yh Go.Proofs.Ytccenpmaooailaa.Yi

theorem RR.two {W w1 w2 : World} {u v : Value} {l m : List Occ} (h : Rw w1 W.heap.size u l) (g : Rw w2 w1.heap.size v m) (hb : Below w1.heap.size w1 w2) (hs : W.heap.size ≤ w1.heap.size) : Rw w2 W.heap.size u l ∧ Rw w2 W.heap.size v m ∧ Nq u v :=
  ⟨Rw.below h hb, Kd.R_lower g hs, fun k h1 h2 => by have := Kd.R_lt h k h1; have := Kd.R_base g k h2; omega⟩
theorem _root_.And.symm3 {a b : Prop} {u v : Value} (h : a ∧ b ∧ Nq u v) : b ∧ a ∧ Nq v u := ⟨h.2.1, h.1, h.2.2.symm⟩
theorem RR.set2 {w : World} {base G : Nat} {v : Value} {xs : List Occ} {cs : Array Value} (h : Rw w base v xs) (b : w.heap[G]? = some (.cells cs 29 (0, 0))) (u0 u1 : Value) : Rw (Id.set2 w G u0 u1) base v xs :=
  Kd.R_set (Kd.R_set h b (by decide) 0 u0) (blk_set b 0 u0) (by decide) 1 u1
def CopyOut (w w' : World) (l r : List Occ) (e : Ending) : Prop := ∃ v0 v1, e = .returned (.agg #[v0, v1]) ∧ Rw w' w.heap.size v0 l ∧ Rw w' w.heap.size v1 r ∧ Nq v0 v1 ∧ Below w.heap.size w w'
set_option maxHeartbeats 1000000 in
set_option maxRecDepth 100000 in
theorem copy_any (A B : Option Addr) (ca cb : Nat) (l r : List Occ) (w : World) (nl : l.length ≤ 1048576) (nr : r.length ≤ 1048576) (il : ∀ x ∈ l, x.f2.length ≤ 1048576) (ir : ∀ x ∈ r, x.f2.length ≤ 1048576) (hL : IsL w l A ca) (hR : IsL w r B cb) :
    Calls Try.prog 44 #[.agg #[.slice A l.length ca, .slice B r.length cb]] w fun e w' => CopyOut w w' l r e := by
  have hb0 : Below w.heap.size w ((w.alloc (.cells #[.slice A l.length ca, .slice B r.length cb] 29)).alloc (.cells #[.slice none 0 0, .slice none 0 0] 29)) := below_alloc (below_alloc (Below.refl _ _) _) _
  have bP := blk_alloc (blk_new w (.cells #[.slice A l.length ca, .slice B r.length cb] 29)) (.cells #[.slice none 0 0, .slice none 0 0] 29)
  have bR : ((w.alloc (.cells #[.slice A l.length ca, .slice B r.length cb] 29)).alloc (.cells #[.slice none 0 0, .slice none 0 0] 29)).heap[w.heap.size + 1]? = some (.cells #[.slice none 0 0, .slice none 0 0] 29 (0, 0)) := by
    have := blk_new (w.alloc (.cells #[.slice A l.length ca, .slice B r.length cb] 29)) (.cells #[.slice none 0 0, .slice none 0 0] 29)
    simpa using this
  go_enter Try.func44, Try.ntmps44
  go_upto_region 1 with fail
  go_wp2_with fail
  generalize (w.alloc (.cells #[.slice A l.length ca, .slice B r.length cb] 29)).alloc (.cells #[.slice none 0 0, .slice none 0 0] 29) = W at hb0 bP bR ⊢
  have HL := Aside0.mk (hL.below hb0)
  have HR := Aside0.mk (hR.below hb0)
  have HB := Aside0.mk hb0
  have F : ∀ w', Below W.heap.size W w' → w'.cell? ⟨w.heap.size, 0, none⟩ = some (.slice A l.length ca) ∧ w'.cell? ⟨w.heap.size, 1, none⟩ = some (.slice B r.length cb) :=
    fun w' h => ⟨pw_cell_below h ((blk_cell bP 0).trans rfl), pw_cell_below h ((blk_cell bP 1).trans rfl)⟩
  go_region_held3 (fun w' => w'.cell? ⟨w.heap.size, 0, none⟩ = some (.slice A l.length ca) ∧ w'.cell? ⟨w.heap.size, 1, none⟩ = some (.slice B r.length cb))
    (first | (with_reducible exact F _ (Below.refl _ _)) | (with_reducible exact F _ (below_drew (Below.refl _ _))) | (with_reducible exact F _ HB1) | (with_reducible exact F _ HB2) | (with_reducible exact ⟨s0 _ _, s1 _ _⟩))
    (first
      | (go_at_call 45; refine (list_any B cb r _ nr ir (HR.out.below HB1)).mono ?_; rintro e w2 ⟨v1, rfl, hs2, hb2⟩; obtain ⟨A1, c1, rfl⟩ := Kd.R_slice hs2; have HT := Aside0.mk (RR.two hs1 hs2 hb2 HB1.size); have HB2 : Below W.heap.size W w2 := below_then HB1 HB1.size hb2; have bR2 := blk_below bR HB2; have r0 := (blk_cell bR2 0).trans rfl; have r1 := (blk_cell bR2 1).trans rfl; have f0 := blk_frozen bR2 0; have f1 := blk_frozen bR2 1; have bP2 := blk_below bP HB2; have s0 : ∀ u0 u1, ((w2.setCell ⟨w.heap.size + 1, 0, none⟩ u0).setCell ⟨w.heap.size + 1, 1, none⟩ u1).cell? ⟨w.heap.size, 0, none⟩ = some (.slice A l.length ca) := fun u0 u1 => (blk_cell (blk_far (blk_far bP2 (p := ⟨w.heap.size + 1, 0, none⟩) (by simp) u0) (p := ⟨w.heap.size + 1, 1, none⟩) (by simp) u1) 0).trans rfl; have s1 : ∀ u0 u1, ((w2.setCell ⟨w.heap.size + 1, 0, none⟩ u0).setCell ⟨w.heap.size + 1, 1, none⟩ u1).cell? ⟨w.heap.size, 1, none⟩ = some (.slice B r.length cb) := fun u0 u1 => (blk_cell (blk_far (blk_far bP2 (p := ⟨w.heap.size + 1, 0, none⟩) (by simp) u0) (p := ⟨w.heap.size + 1, 1, none⟩) (by simp) u1) 1).trans rfl)
      | (go_at_call 45; refine (list_any A ca l _ nl il (HL.out.below HB1)).mono ?_; rintro e w2 ⟨v0, rfl, hs2, hb2⟩; obtain ⟨A0, c0, rfl⟩ := Kd.R_slice hs2; have HT := Aside0.mk (RR.two hs1 hs2 hb2 HB1.size).symm3; have HB2 : Below W.heap.size W w2 := below_then HB1 HB1.size hb2; have bR2 := blk_below bR HB2; have r0 := (blk_cell bR2 0).trans rfl; have r1 := (blk_cell bR2 1).trans rfl; have f0 := blk_frozen bR2 0; have f1 := blk_frozen bR2 1; have bP2 := blk_below bP HB2; have s0 : ∀ u0 u1, ((w2.setCell ⟨w.heap.size + 1, 0, none⟩ u0).setCell ⟨w.heap.size + 1, 1, none⟩ u1).cell? ⟨w.heap.size, 0, none⟩ = some (.slice A l.length ca) := fun u0 u1 => (blk_cell (blk_far (blk_far bP2 (p := ⟨w.heap.size + 1, 0, none⟩) (by simp) u0) (p := ⟨w.heap.size + 1, 1, none⟩) (by simp) u1) 0).trans rfl; have s1 : ∀ u0 u1, ((w2.setCell ⟨w.heap.size + 1, 0, none⟩ u0).setCell ⟨w.heap.size + 1, 1, none⟩ u1).cell? ⟨w.heap.size, 1, none⟩ = some (.slice B r.length cb) := fun u0 u1 => (blk_cell (blk_far (blk_far bP2 (p := ⟨w.heap.size + 1, 0, none⟩) (by simp) u0) (p := ⟨w.heap.size + 1, 1, none⟩) (by simp) u1) 1).trans rfl)
      | (go_at_call 45; refine (list_any A ca l _ nl il (HL.out.below (below_drew (Below.refl _ _)))).mono ?_; rintro e w1 ⟨v0, rfl, hs1, hb1⟩; obtain ⟨A0, c0, rfl⟩ := Kd.R_slice hs1; have HB1 : Below W.heap.size W w1 := keepD hb1)
      | (go_at_call 45; refine (list_any B cb r _ nr ir (HR.out.below (below_drew (Below.refl _ _)))).mono ?_; rintro e w1 ⟨v1, rfl, hs1, hb1⟩; obtain ⟨A1, c1, rfl⟩ := Kd.R_slice hs1; have HB1 : Below W.heap.size W w1 := keepD hb1))
  all_goals
    go_wp2
    refine bodyPost_ret (results_cell_row rfl _ _ (w.heap.size + 1) 29 #[.slice A0 l.length c0, .slice A1 r.length c1] (0, 0) _ rfl (Id.set2_blk _ _ bR2) Try.underlying29 rfl (by kernel_rfl)) rfl ?_
    exact ⟨_, _, rfl, Kd.R_lower (RR.set2 HT.out.1 bR2 _ _) HB.out.size, Kd.R_lower (RR.set2 HT.out.2.1 bR2 _ _) HB.out.size, HT.out.2.2, Id.set2_below (below_then HB.out HB.out.size HB2) (by omega) _ _⟩
end Go.Proofs.Ytccenpmaooailaa.Yj

/- What waits, paired at one point in time: the reference's. -/
set_option linter.unusedVariables false
set_option linter.unusedSimpArgs false
namespace Go.Proofs.Ytccenpmaooailaa.Yk
open Go.RowKit Go.Proofs.YtccenpmaooailaaW.PrintWords Go.Proofs.Ytccenpmaooailaa.Wd Go.Proofs.Ytccenpmaooailaa.Pu Go.Proofs.Ytccenpmaooailaa.Pv Go.Proofs.Ytccenpmaooailaa.Ca Go.Proofs.Ytccenpmaooailaa.Cb Go.Proofs.Ytccenpmaooailaa.Cc Go.Proofs.Ytccenpmaooailaa.Cp Go.Proofs.Ytccenpmaooailaa.Cd Go.Proofs.Ytccenpmaooailaa.Ci Go.Proofs.Ytccenpmaooailaa.Ce Go.Proofs.Ytccenpmaooailaa.Cf Go.Proofs.Ytccenpmaooailaa.Cg Go.Proofs.Ytccenpmaooailaa.Sc Go.Proofs.Ytccenpmaooailaa.Se Go.Proofs.Ytccenpmaooailaa.Sh Go.Proofs.Ytccenpmaooailaa.Si Go.Proofs.Ytccenpmaooailaa.Sp Go.Proofs.Ytccenpmaooailaa.Ia Go.Proofs.Ytccenpmaooailaa.Ib Go.Proofs.Ytccenpmaooailaa.Ic Go.Proofs.Ytccenpmaooailaa.Id Go.Proofs.Ytccenpmaooailaa.Ie Go.Proofs.Ytccenpmaooailaa.If Go.Proofs.Ytccenpmaooailaa.Ig Go.Proofs.Ytccenpmaooailaa.Ih Go.Proofs.Ytccenpmaooailaa.Ij Go.Proofs.Ytccenpmaooailaa.Ik Go.Proofs.Ytccenpmaooailaa.Ra Go.Proofs.Ytccenpmaooailaa.Rb Go.Proofs.Ytccenpmaooailaa.Rc Go.Proofs.Ytccenpmaooailaa.Rd Go.Proofs.Ytccenpmaooailaa.Re Go.Proofs.Ytccenpmaooailaa.Sj Go.Proofs.Ytccenpmaooailaa.Ya Go.Proofs.Ytccenpmaooailaa.Yd Go.Proofs.Ytccenpmaooailaa.Yf Go.Proofs.Ytccenpmaooailaa.Yg Go.Proofs.Ytccenpmaooailaa.Ih Go.Proofs.Ytccenpmaooailaa.Yh Go.Proofs.Ytccenpmaooailaa.Yi Go.Proofs.Ytccenpmaooailaa.Sg Go.Proofs.Ytccenpmaooailaa.Sf Go.Proofs.Ytccenpmaooailaa.Yj Go.Proofs.Ytccenpmaooailaa.Ig

theorem sMode_any (m : Int) (w : World) : Calls Try.prog 41 #[.int .i64 m] w fun e w' => e = .returned (.bool (inb m 0 4)) ∧ w' = w := by
  by_cases h0 : 0 ≤ m
  · have e1 : decide (m ≥ 0) = true := decide_eq_true h0
    have e2 : decide (m < 5) = decide (m ≤ 4) := by rw [decide_eq_decide]; omega
    have HE := Aside0.mk (show inb m 0 4 = decide (m < 5) by unfold inb; rw [e2]; simp [h0])
    clear e2
    go_enter Try.func41, Try.ntmps41
    go_wp2
    go_ret
    exact ⟨ret_bool HE.out.symm, rfl⟩
  · have e1 : decide (m ≥ 0) = false := decide_eq_false h0
    have HE := Aside0.mk (show inb m 0 4 = false by unfold inb; simp; omega)
    go_enter Try.func41, Try.ntmps41
    go_wp2
    go_ret
    exact ⟨ret_bool HE.out.symm, rfl⟩
theorem sPairOk_any (A B : Option Addr) (ca cb : Nat) (l r : List Occ) (w : World) (hL : IsL w l A ca) (hR : IsL w r B cb) :
    Calls Try.prog 42 #[.agg #[.slice A l.length ca, .slice B r.length cb]] w fun e w' => e = .returned (.bool (okOs l && okOs r)) ∧ Below w.heap.size w w' := by
  have hb0 := below_alloc (Below.refl w.heap.size w) (.cells #[.slice A l.length ca, .slice B r.length cb] 29)
  have bP := blk_new w (.cells #[.slice A l.length ca, .slice B r.length cb] 29)
  have h1 := sOccsOk_any A ca l _ (hL.below hb0).rd
  have h2 := fun (w2 : World) (h : Below w.heap.size w w2) => sOccsOk_any B cb r w2 (hR.below h).rd
  cases h : okOs l with
  | false =>
    rw [h] at h1
    clear h
    go_enter Try.func42, Try.ntmps42
    go_wp2_with (go_at_call 39; refine h1.mono ?_; rintro e w2 ⟨rfl, hb⟩; have HB := Aside0.mk (below_then hb0 hb0.size hb))
    go_ret
    exact ⟨rfl, HB.out⟩
  | true =>
    rw [h] at h1
    clear h
    go_enter Try.func42, Try.ntmps42
    go_wp2_with (first
      | (go_at_call 39; refine (h2 _ HB.out).mono ?_; rintro e w3 ⟨rfl, hb3⟩; have HB3 := Aside0.mk (below_then HB.out HB.out.size hb3))
      | (go_at_call 39; refine h1.mono ?_; rintro e w2 ⟨rfl, hb⟩; have HB := Aside0.mk (below_then hb0 hb0.size hb); have b2 := blk_below bP hb; have q1 := (blk_cell b2 1).trans rfl))
    go_ret
    exact ⟨ret_bool (by simp), HB3.out⟩
/-- what is read of the results -/
def Out3L (w w' : World) (p : P3) (e : Ending) : Prop := ∃ A0 c0 A1 c1 A2 c2, e = .returned (.tuple #[.agg #[.slice A0 p.a.length c0, .slice A1 p.b.length c1], .slice A2 p.c.length c2]) ∧ IsL w' p.a A0 c0 ∧ IsL w' p.b A1 c1 ∧ IsL w' p.c A2 c2 ∧ Below w.heap.size w w'
theorem isL_nil (w : World) (A : Option Addr) (c : Nat) : IsL w [] A c := ⟨Nat.zero_le _, rfl, by decide, fun h => absurd h (by decide)⟩
theorem Rw.two {w : World} {base P : Nat} {v : Value} {l : List Occ} {cs : Array Value} (h : Rw w base v l) (b : w.heap[P]? = some (.cells cs 29 (0, 0))) (u0 u1 : Value) : Rw (Id.set2 w P u0 u1) base v l := RR.set2 h b u0 u1
def spec3 (b : Bool) (p : P3) : P3 := if b then p else ⟨[], [], []⟩
structure CallMem (w4 w5 : World) (C D : Option Addr) (a b : List Occ) (cc cd : Nat) (v0 v1 : Value) : Prop where
  fa : ∀ W, Fr (fun k => own v0 k ∨ own v1 k) w5 W → (Kd.fixed kO w4).C W C a.length a
  fb : ∀ W, Fr (fun k => own v0 k ∨ own v1 k) w5 W → (Kd.fixed kO w4).C W D b.length b
  ca : ∀ ad, C = some ad → 0 < a.length → ad.block < w5.heap.size ∧ ¬ (own v0 ad.block ∨ own v1 ad.block)
  cb : ∀ ad, D = some ad → 0 < b.length → ad.block < w5.heap.size ∧ ¬ (own v0 ad.block ∨ own v1 ad.block)
  la : ∀ W, Fr (own v0) w5 W → IsL W a C cc
  lb : ∀ W, Fr (own v0) w5 W → IsL W b D cd
theorem low_of {w : World} {l : List Occ} {C : Option Addr} {c : Nat} (h : IsL w l C c) : ∀ ad, C = some ad → 0 < l.length → ad.block < w.heap.size := fun ad e hl => by
  obtain ⟨ad2, _, _, e2, h0, _⟩ := atO h.rd 0 hl
  rw [e] at e2
  injection e2 with e2
  subst e2
  have := World.block_lt_of_cell? w _ h0
  rwa [Id.add_block] at this
theorem call_mem {w4 w5 : World} {C D : Option Addr} {a b l r : List Occ} {cc cd : Nat} {v0 v1 : Value} (hC : IsL w4 a C cc) (hD : IsL w4 b D cd) (hb : Below w4.heap.size w4 w5) (h0 : Rw w5 w4.heap.size v0 l) (h1 : Rw w5 w4.heap.size v1 r) (hne : Nq v0 v1) : CallMem w4 w5 C D a b cc cd v0 v1 := by
  have b0 : ∀ k, own v0 k → w4.heap.size ≤ k := Kd.R_base h0
  have b1 : ∀ k, own v1 k → w4.heap.size ≤ k := Kd.R_base h1
  have hS : ∀ k, (own v0 k ∨ own v1 k) → w4.heap.size ≤ k := fun k h => h.elim (b0 k) (b1 k)
  have fx : ∀ {x : List Occ} {X : Option Addr} {cx : Nat}, IsL w4 x X cx → (Kd.fixed kO w4).C w4 X x.length x := fun h => h.rd
  have s := hb.size
  refine ⟨fun W hf => Kd.C_below (fx hC) (Fr.bel hb hf hS), fun W hf => Kd.C_below (fx hD) (Fr.bel hb hf hS), ?_, ?_, fun W hf => hC.below (Fr.bel hb hf b0), fun W hf => hD.below (Fr.bel hb hf b0)⟩
  · intro ad e hl
    have := low_of hC ad e hl
    exact ⟨by omega, fun h => by have := hS _ h; omega⟩
  · intro ad e hl
    have := low_of hD ad e hl
    exact ⟨by omega, fun h => by have := hS _ h; omega⟩

structure AfterMem (w w6 : World) (p : P3) (AL AR Ao : Option Addr) (cL cR co : Nat) : Prop where
  la : IsL w6 p.a AL cL
  lb : IsL w6 p.b AR cR
  lc : IsL w6 p.c Ao co
  bel : Below w.heap.size w w6
  bR : w6.heap[w.heap.size + 1]? = some (.cells #[.slice none 0 0, .slice none 0 0] 29 (0, 0))
theorem AfterMem.below {w w6 w7 : World} {p : P3} {AL AR Ao : Option Addr} {cL cR co : Nat} (h : AfterMem w w6 p AL AR Ao cL cR co) (hb : Below w6.heap.size w6 w7) : AfterMem w w7 p AL AR Ao cL cR co :=
  ⟨h.la.below hb, h.lb.below hb, h.lc.below hb, below_then h.bel h.bel.size hb, blk_below h.bR hb⟩
theorem and_after {mode : Int} {w w4 w5 w6 : World} {l r a b : List Occ} {v0 v1 : Value} {p : P3} {e : Ending} (hp : p = and3 mode l r a b) (heq : andI mode l r a b = andS mode l r a b) (h : AndSOut w4 w5 w6 w4.heap.size (fun k => own v0 k ∨ own v1 k) (andS mode l r a b) e)
    (hw : Below w.heap.size w w4) (h5 : Below w4.heap.size w4 w5) (h0 : Rw w5 w4.heap.size v0 l) (h1 : Rw w5 w4.heap.size v1 r) (bR : w4.heap[w.heap.size + 1]? = some (.cells #[.slice none 0 0, .slice none 0 0] 29 (0, 0))) :
    ∃ AL cL AR cR Ao co, e = .returned (.tuple #[.agg #[.slice AL p.a.length cL, .slice AR p.b.length cR], .slice Ao p.c.length co]) ∧ AfterMem w w6 p AL AR Ao cL cR co := by
  obtain ⟨vL, vR, vO, rfl, hc⟩ := h
  have e3 : and3 mode l r a b = ⟨(andS mode l r a b).own, (andS mode l r a b).oth, (andS mode l r a b).out⟩ := by unfold and3; rw [heq]
  rw [e3] at hp
  subst hp
  obtain ⟨AL, cL, rfl⟩ := Xw.slice hc.rX
  obtain ⟨AR, cR, rfl⟩ := Xw.slice hc.rY
  obtain ⟨Ao, co, rfl⟩ := Xw.slice hc.rO
  have hS : ∀ k, (own v0 k ∨ own v1 k) → w4.heap.size ≤ k := fun k h => h.elim (Kd.R_base h0 k) (Kd.R_base h1 k)
  have b6 : Below w4.heap.size w4 w6 := Fr.bel h5 hc.fr hS
  exact ⟨AL, cL, AR, cR, Ao, co, rfl, Xw.isL hc.bel hc.rX, Xw.isL hc.bel hc.rY, Xw.isL hc.bel hc.rO, below_then hw hw.size b6, blk_below bR b6⟩
theorem seq_after {mode : Int} {w w4 w5 w6 : World} {l r a b : List Occ} {v0 : Value} {A1 : Option Addr} {c1 : Nat} {p : P3} {e : Ending} (hp : p = seq3 mode l r a b) (heq : seqI mode l a b = seqS mode l a b) (h : SeqSOut w4 w5 w6 w4.heap.size v0 (.slice A1 r.length c1) (seqS mode l a b) e)
    (hw : Below w.heap.size w w4) (h5 : Below w4.heap.size w4 w5) (h0 : Rw w5 w4.heap.size v0 l) (h1 : Rw w5 w4.heap.size (.slice A1 r.length c1) r) (hne : Nq v0 (.slice A1 r.length c1)) (bR : w4.heap[w.heap.size + 1]? = some (.cells #[.slice none 0 0, .slice none 0 0] 29 (0, 0))) :
    ∃ AL cL AR cR Ao co, e = .returned (.tuple #[.agg #[.slice AL p.a.length cL, .slice AR p.b.length cR], .slice Ao p.c.length co]) ∧ AfterMem w w6 p AL AR Ao cL cR co := by
  obtain ⟨vL, vO, rfl, hL, hO, hn, hfr, hat⟩ := h
  have e3 : seq3 mode l r a b = ⟨(seqS mode l a b).1, r, (seqS mode l a b).2⟩ := by unfold seq3; rw [heq]
  rw [e3] at hp
  subst hp
  obtain ⟨AL, cL, rfl⟩ := Xw.slice hL
  obtain ⟨Ao, co, rfl⟩ := Xw.slice hO
  have b6 : Below w4.heap.size w4 w6 := Fr.bel h5 hfr (Kd.R_base h0)
  have hx0 : Xw w4 w5 w4.heap.size v0 l := Xw.of h0
  have hx1 : Xw w4 w5 w4.heap.size (.slice A1 r.length c1) r := Xw.of h1
  have hx2 : Xw w4 w6 w4.heap.size (.slice A1 r.length c1) r := Xw.keep hx1 hfr hne.symm (Xw.typed hx0)
  exact ⟨AL, cL, A1, c1, Ao, co, rfl, Xw.isL b6 hL, Xw.isL b6 hx2, Xw.isL b6 hO, below_then hw hw.size b6, blk_below bR b6⟩

set_option maxHeartbeats 4000000 in
set_option maxRecDepth 100000 in
theorem sPairAnd_any (mode : Int) (A B C D : Option Addr) (ca cb cc cd : Nat) (l r a b : List Occ) (w : World) (hL : IsL w l A ca) (hR : IsL w r B cb) (hE : IsL w a C cc) (hI : IsL w b D cd) :
    Calls Try.prog 22 #[.int .i64 mode, .agg #[.slice A l.length ca, .slice B r.length cb], .slice C a.length cc, .slice D b.length cd] w fun e w' => Out3L w w' (spec3 (fits mode l r a b) (and3 mode l r a b)) e := by
  have hb0 : Below w.heap.size w ((w.alloc (.cells #[.slice A l.length ca, .slice B r.length cb] 29)).alloc (.cells #[.slice none 0 0, .slice none 0 0] 29)) := below_alloc (below_alloc (Below.refl _ _) _) _
  have bP := blk_alloc (blk_new w (.cells #[.slice A l.length ca, .slice B r.length cb] 29)) (.cells #[.slice none 0 0, .slice none 0 0] 29)
  have bR : ((w.alloc (.cells #[.slice A l.length ca, .slice B r.length cb] 29)).alloc (.cells #[.slice none 0 0, .slice none 0 0] 29)).heap[w.heap.size + 1]? = some (.cells #[.slice none 0 0, .slice none 0 0] 29 (0, 0)) := by
    have := blk_new (w.alloc (.cells #[.slice A l.length ca, .slice B r.length cb] 29)) (.cells #[.slice none 0 0, .slice none 0 0] 29)
    simpa using this
  have HL := Aside0.mk hL
  have HR := Aside0.mk hR
  have HLE := Aside0.mk hE
  have HRI := Aside0.mk hI
  have HB0 := Aside0.mk hb0
  clear hL hR hE hI
  go_enter Try.func22, Try.ntmps22
  go_upto_region 1 with fail
  generalize (w.alloc (.cells #[.slice A l.length ca, .slice B r.length cb] 29)).alloc (.cells #[.slice none 0 0, .slice none 0 0] 29) = W at hb0 bP bR HB0 ⊢
  clear hb0
  have p0 := (blk_cell bP 0).trans rfl
  have p1 := (blk_cell bP 1).trans rfl
  cases q0 : inb mode 0 4 with
  | false =>
    have HF := Aside0.mk (show fits mode l r a b = false by unfold fits; rw [q0]; rfl)
    go_wp2_with (first
      | (go_at_call 41; refine (sMode_any mode _).mono ?_; rintro e w1 ⟨rfl, rfl⟩; rw [q0]; have HB1 := Aside0.mk (Below.refl w1.heap.size w1); have bR9 := blk_alloc (blk_below bR HB1.out) (.cells #[] 66); have r0 := (blk_cell bR9 0).trans rfl; have r1 := (blk_cell bR9 1).trans rfl; have f0 := blk_frozen bR9 0; have f1 := blk_frozen bR9 1; have HB9 := Aside0.mk (below_then HB0.out HB0.out.size (below_alloc HB1.out (.cells #[] 66)))))
    rw [HF.out]
    refine bodyPost_ret (results_ct rfl _ _ (w.heap.size + 1) 29 #[.slice none 0 0, .slice none 0 0] (0, 0) _ rfl (Id.set2_blk _ _ bR9) Try.underlying29 rfl (by kernel_rfl)) rfl ?_
    exact ⟨none, 0, none, 0, _, 0, rfl, isL_nil _ _ _, isL_nil _ _ _, isL_nil _ _ _, Id.set2_below HB9.out (by omega) _ _⟩
  | true =>
    cases q1 : (okOs l && okOs r) with
    | false =>
      have HF := Aside0.mk (show fits mode l r a b = false by unfold fits; rw [q0, q1]; rfl)
      go_wp2_with (first
        | (go_at_call 42; refine (sPairOk_any A B ca cb l r _ (HL.out.below HB0.out) (HR.out.below HB0.out)).mono ?_; rintro e w2 ⟨rfl, hb2⟩; rw [q1]; have HB2 := Aside0.mk hb2; have bR9 := blk_alloc (blk_below bR HB2.out) (.cells #[] 66); have r0 := (blk_cell bR9 0).trans rfl; have r1 := (blk_cell bR9 1).trans rfl; have f0 := blk_frozen bR9 0; have f1 := blk_frozen bR9 1; have HB9 := Aside0.mk (below_then HB0.out HB0.out.size (below_alloc HB2.out (.cells #[] 66))); clear hb2)
        | (go_at_call 41; refine (sMode_any mode _).mono ?_; rintro e w1 ⟨rfl, rfl⟩; rw [q0]; have HB1 := Aside0.mk (Below.refl w1.heap.size w1)))
      rw [HF.out]
      refine bodyPost_ret (results_ct rfl _ _ (w.heap.size + 1) 29 #[.slice none 0 0, .slice none 0 0] (0, 0) _ rfl (Id.set2_blk _ _ bR9) Try.underlying29 rfl (by kernel_rfl)) rfl ?_
      exact ⟨none, 0, none, 0, _, 0, rfl, isL_nil _ _ _, isL_nil _ _ _, isL_nil _ _ _, Id.set2_below HB9.out (by omega) _ _⟩
    | true =>
      cases q2 : okOs a with
      | false =>
        have HF := Aside0.mk (show fits mode l r a b = false by unfold fits; rw [q0, q1, q2]; rfl)
        go_wp2_with (first
          | (go_at_call 39; refine (sOccsOk_any C cc a _ (HLE.out.below (below_then HB0.out HB0.out.size HB2.out)).rd).mono ?_; rintro e w3 ⟨rfl, hb3⟩; rw [q2]; have HB3 := Aside0.mk (below_then HB2.out HB2.out.size hb3); have bR9 := blk_alloc (blk_below bR HB3.out) (.cells #[] 66); have r0 := (blk_cell bR9 0).trans rfl; have r1 := (blk_cell bR9 1).trans rfl; have f0 := blk_frozen bR9 0; have f1 := blk_frozen bR9 1; have HB9 := Aside0.mk (below_then HB0.out HB0.out.size (below_alloc HB3.out (.cells #[] 66))); clear hb3)
          | (go_at_call 42; refine (sPairOk_any A B ca cb l r _ (HL.out.below HB0.out) (HR.out.below HB0.out)).mono ?_; rintro e w2 ⟨rfl, hb2⟩; rw [q1]; have HB2 := Aside0.mk hb2; clear hb2)
          | (go_at_call 41; refine (sMode_any mode _).mono ?_; rintro e w1 ⟨rfl, rfl⟩; rw [q0]; have HB1 := Aside0.mk (Below.refl w1.heap.size w1)))
        rw [HF.out]
        refine bodyPost_ret (results_ct rfl _ _ (w.heap.size + 1) 29 #[.slice none 0 0, .slice none 0 0] (0, 0) _ rfl (Id.set2_blk _ _ bR9) Try.underlying29 rfl (by kernel_rfl)) rfl ?_
        exact ⟨none, 0, none, 0, _, 0, rfl, isL_nil _ _ _, isL_nil _ _ _, isL_nil _ _ _, Id.set2_below HB9.out (by omega) _ _⟩
      | true =>
        cases q3 : okOs b with
        | false =>
          have HF := Aside0.mk (show fits mode l r a b = false by unfold fits; rw [q0, q1, q2, q3]; rfl)
          go_wp2_with (first
            | (go_at_call 39; refine (sOccsOk_any D cd b _ (HRI.out.below (below_then HB0.out HB0.out.size HB3.out)).rd).mono ?_; rintro e w4 ⟨rfl, hb4⟩; rw [q3]; have HB4 := Aside0.mk (below_then HB3.out HB3.out.size hb4); have bR9 := blk_alloc (blk_below bR HB4.out) (.cells #[] 66); have r0 := (blk_cell bR9 0).trans rfl; have r1 := (blk_cell bR9 1).trans rfl; have f0 := blk_frozen bR9 0; have f1 := blk_frozen bR9 1; have HB9 := Aside0.mk (below_then HB0.out HB0.out.size (below_alloc HB4.out (.cells #[] 66))); clear hb4)
            | (go_at_call 39; refine (sOccsOk_any C cc a _ (HLE.out.below (below_then HB0.out HB0.out.size HB2.out)).rd).mono ?_; rintro e w3 ⟨rfl, hb3⟩; rw [q2]; have HB3 := Aside0.mk (below_then HB2.out HB2.out.size hb3); clear hb3)
            | (go_at_call 42; refine (sPairOk_any A B ca cb l r _ (HL.out.below HB0.out) (HR.out.below HB0.out)).mono ?_; rintro e w2 ⟨rfl, hb2⟩; rw [q1]; have HB2 := Aside0.mk hb2; clear hb2)
            | (go_at_call 41; refine (sMode_any mode _).mono ?_; rintro e w1 ⟨rfl, rfl⟩; rw [q0]; have HB1 := Aside0.mk (Below.refl w1.heap.size w1)))
          rw [HF.out]
          refine bodyPost_ret (results_ct rfl _ _ (w.heap.size + 1) 29 #[.slice none 0 0, .slice none 0 0] (0, 0) _ rfl (Id.set2_blk _ _ bR9) Try.underlying29 rfl (by kernel_rfl)) rfl ?_
          exact ⟨none, 0, none, 0, _, 0, rfl, isL_nil _ _ _, isL_nil _ _ _, isL_nil _ _ _, Id.set2_below HB9.out (by omega) _ _⟩
        | true =>
          have HF := Aside0.mk (show fits mode l r a b = true by unfold fits; rw [q0, q1, q2, q3]; rfl)
          obtain ⟨hm, ⟨hl, nl⟩, ⟨hr, nr⟩, ⟨ha, na⟩, ⟨hb, nb⟩⟩ := fits_iff.1 HF.out
          obtain ⟨p, hp⟩ : ∃ p, p = and3 mode l r a b := ⟨_, rfl⟩
          have HP := Aside0.mk hp
          have hok : Ok3 (and3 mode l r a b) := and3_ok hm hl hr ha hb (by omega) (by omega)
          rw [← hp] at hok
          have HK := Aside0.mk hok
          have HEQ := Aside0.mk ((andI_eq hm hl hr ha.all hb.all).1)
          have HOL := Aside0.mk hl
          have HOR := Aside0.mk hr
          have HOA := Aside0.mk ha
          have HOB := Aside0.mk hb
          clear hl hr ha hb hp hok
          go_upto_region 3 with (first
            | (go_at_call 39; refine (sOccsOk_any D cd b _ (HRI.out.below (below_then HB0.out HB0.out.size HB3.out)).rd).mono ?_; rintro e w4 ⟨rfl, hb4⟩; rw [q3]; have HB4 := Aside0.mk (below_then HB3.out HB3.out.size hb4); have bP4 := blk_below bP HB4.out; have s0 := (blk_cell bP4 0).trans rfl; have s1 := (blk_cell bP4 1).trans rfl; clear hb4)
            | (go_at_call 39; refine (sOccsOk_any C cc a _ (HLE.out.below (below_then HB0.out HB0.out.size HB2.out)).rd).mono ?_; rintro e w3 ⟨rfl, hb3⟩; rw [q2]; have HB3 := Aside0.mk (below_then HB2.out HB2.out.size hb3); clear hb3)
            | (go_at_call 42; refine (sPairOk_any A B ca cb l r _ (HL.out.below HB0.out) (HR.out.below HB0.out)).mono ?_; rintro e w2 ⟨rfl, hb2⟩; rw [q1]; have HB2 := Aside0.mk hb2; clear hb2)
            | (go_at_call 41; refine (sMode_any mode _).mono ?_; rintro e w1 ⟨rfl, rfl⟩; rw [q0]; have HB1 := Aside0.mk (Below.refl w1.heap.size w1)))
          have HL4 := Aside0.mk (HL.out.below (below_then HB0.out HB0.out.size HB4.out))
          have HR4 := Aside0.mk (HR.out.below (below_then HB0.out HB0.out.size HB4.out))
          have HLE4 := Aside0.mk (HLE.out.below (below_then HB0.out HB0.out.size HB4.out))
          have HRI4 := Aside0.mk (HRI.out.below (below_then HB0.out HB0.out.size HB4.out))
          have bR4 := blk_below bR HB4.out
          have HBw4 := Aside0.mk (below_then HB0.out HB0.out.size HB4.out)
          go_upto_region 4 with (first
            | (go_at_call 54; refine (xAnd_any w4 mode hm w4.heap.size A0 A1 C D c0 c1 cc cd l r a b _ HOL.out HOR.out HOA.out.all HOB.out.all (by omega) (by omega) HB5.out (Nat.le_refl _) (Xw.of HV0.out) (Xw.of HV1.out) HNE5.out HB5.out.size HCA.out.fa HCA.out.fb HCA.out.ca HCA.out.cb).mono ?_; rintro e w6 hout; obtain ⟨AL, cL, AR, cR, Ao, co, rfl, haft⟩ := and_after HP.out HEQ.out hout HBw4.out HB5.out HV0.out HV1.out bR4; have HAF := Aside0.mk haft; clear hout haft)
            | (go_at_call 44; refine (copy_any A B ca cb l r _ (by omega) (by omega) (fun x hx => isOk_big (HOL.out.all x hx)) (fun x hx => isOk_big (HOR.out.all x hx)) HL4.out HR4.out).mono ?_; rintro e w5 ⟨v0, v1, rfl, hv0, hv1, hne5, hb5⟩; obtain ⟨A0, c0, rfl⟩ := Kd.R_slice hv0; obtain ⟨A1, c1, rfl⟩ := Kd.R_slice hv1; have HV0 := Aside0.mk hv0; have HV1 := Aside0.mk hv1; have HNE5 := Aside0.mk hne5; have HB5 := Aside0.mk hb5; have HCA := Aside0.mk (call_mem HLE4.out HRI4.out hb5 hv0 hv1 hne5); clear hv0 hv1 hne5 hb5))
          have bX := blk_new w6 (.cells #[.slice AL p.a.length cL, .slice AR p.b.length cR] 29)
          have HB67 := below_alloc (Below.refl w6.heap.size w6) (.cells #[.slice AL p.a.length cL, .slice AR p.b.length cR] 29)
          generalize w6.alloc (.cells #[.slice AL p.a.length cL, .slice AR p.b.length cR] 29) = W7 at bX HB67 ⊢
          have H7 := Aside0.mk (HAF.out.below HB67)
          have x0 := (blk_cell bX 0).trans rfl
          have x1 := (blk_cell bX 1).trans rfl
          clear HB67
          go_wp2_with (first
            | (go_at_call 45; refine (list_any Ao co p.c _ HK.out.lc (fun x hx => isOk_big (HK.out.c.all x hx)) (H7.out.lc.below HB8.out)).mono ?_; rintro e w9 ⟨v9, rfl, hv9, hb9⟩; obtain ⟨A9, c9, rfl⟩ := Kd.R_slice hv9; have bR9 := blk_below H7.out.bR (below_then HB8.out HB8.out.size hb9); have r0 := (blk_cell bR9 0).trans rfl; have r1 := (blk_cell bR9 1).trans rfl; have f0 := blk_frozen bR9 0; have f1 := blk_frozen bR9 1; have HV9 := Aside0.mk hv9; have HV80 := Aside0.mk (Ra.Rw.below H80.out hb9); have HV81 := Aside0.mk (Ra.Rw.below H81.out hb9); have HB9 := Aside0.mk (below_then H7.out.bel H7.out.bel.size (below_then HB8.out HB8.out.size hb9)); clear hv9 hb9)
            | (go_at_call 44; refine (copy_any AL AR cL cR p.a p.b _ HK.out.la HK.out.lb (fun x hx => isOk_big (HK.out.a.all x hx)) (fun x hx => isOk_big (HK.out.b.all x hx)) H7.out.la H7.out.lb).mono ?_; rintro e w8 ⟨v80, v81, rfl, h80, h81, -, hb8⟩; obtain ⟨A80, c80, rfl⟩ := Kd.R_slice h80; obtain ⟨A81, c81, rfl⟩ := Kd.R_slice h81; have H80 := Aside0.mk h80; have H81 := Aside0.mk h81; have HB8 := Aside0.mk hb8; clear h80 h81 hb8))
          refine bodyPost_ret (results_ct rfl _ _ (w.heap.size + 1) 29 #[.slice A80 p.a.length c80, .slice A81 p.b.length c81] (0, 0) _ rfl (Id.set2_blk _ _ bR9) Try.underlying29 rfl (by kernel_rfl)) rfl ?_
          rw [HF.out, ← HP.out]
          exact ⟨A80, c80, A81, c81, A9, c9, rfl, (Ra.Rw.isL (Yk.Rw.two HV80.out bR9 _ _)).2, (Ra.Rw.isL (Yk.Rw.two HV81.out bR9 _ _)).2, (Ra.Rw.isL (Yk.Rw.two HV9.out bR9 _ _)).2, Id.set2_below HB9.out (by omega) _ _⟩

end Go.Proofs.Ytccenpmaooailaa.Yk

/- What waits, paired at one point in time: the reference's. -/
set_option linter.unusedVariables false
set_option linter.unusedSimpArgs false
namespace Go.Proofs.Ytccenpmaooailaa.YkS
open Go.RowKit Go.Proofs.YtccenpmaooailaaW.PrintWords Go.Proofs.Ytccenpmaooailaa.Wd Go.Proofs.Ytccenpmaooailaa.Pu Go.Proofs.Ytccenpmaooailaa.Pv Go.Proofs.Ytccenpmaooailaa.Ca Go.Proofs.Ytccenpmaooailaa.Cb Go.Proofs.Ytccenpmaooailaa.Cc Go.Proofs.Ytccenpmaooailaa.Cp Go.Proofs.Ytccenpmaooailaa.Cd Go.Proofs.Ytccenpmaooailaa.Ci Go.Proofs.Ytccenpmaooailaa.Ce Go.Proofs.Ytccenpmaooailaa.Cf Go.Proofs.Ytccenpmaooailaa.Cg Go.Proofs.Ytccenpmaooailaa.Sc Go.Proofs.Ytccenpmaooailaa.Se Go.Proofs.Ytccenpmaooailaa.Sh Go.Proofs.Ytccenpmaooailaa.Si Go.Proofs.Ytccenpmaooailaa.Sp Go.Proofs.Ytccenpmaooailaa.Ia Go.Proofs.Ytccenpmaooailaa.Ib Go.Proofs.Ytccenpmaooailaa.Ic Go.Proofs.Ytccenpmaooailaa.Id Go.Proofs.Ytccenpmaooailaa.Ie Go.Proofs.Ytccenpmaooailaa.If Go.Proofs.Ytccenpmaooailaa.Ig Go.Proofs.Ytccenpmaooailaa.Ih Go.Proofs.Ytccenpmaooailaa.Ij Go.Proofs.Ytccenpmaooailaa.Ik Go.Proofs.Ytccenpmaooailaa.Ra Go.Proofs.Ytccenpmaooailaa.Rb Go.Proofs.Ytccenpmaooailaa.Rc Go.Proofs.Ytccenpmaooailaa.Rd Go.Proofs.Ytccenpmaooailaa.Re Go.Proofs.Ytccenpmaooailaa.Sj Go.Proofs.Ytccenpmaooailaa.Ya Go.Proofs.Ytccenpmaooailaa.Yd Go.Proofs.Ytccenpmaooailaa.Yf Go.Proofs.Ytccenpmaooailaa.Yg Go.Proofs.Ytccenpmaooailaa.Ih Go.Proofs.Ytccenpmaooailaa.Yh Go.Proofs.Ytccenpmaooailaa.Yi Go.Proofs.Ytccenpmaooailaa.Sg Go.Proofs.Ytccenpmaooailaa.Sf Go.Proofs.Ytccenpmaooailaa.Yj Go.Proofs.Ytccenpmaooailaa.Ig Go.Proofs.Ytccenpmaooailaa.Yk


set_option maxHeartbeats 4000000 in
set_option maxRecDepth 100000 in
theorem sPairSeq_any (mode : Int) (A B C D : Option Addr) (ca cb cc cd : Nat) (l r a b : List Occ) (w : World) (hL : IsL w l A ca) (hR : IsL w r B cb) (hE : IsL w a C cc) (hI : IsL w b D cd) :
    Calls Try.prog 12 #[.int .i64 mode, .agg #[.slice A l.length ca, .slice B r.length cb], .slice C a.length cc, .slice D b.length cd] w fun e w' => Out3L w w' (spec3 (fits mode l r a b) (seq3 mode l r a b)) e := by
  have hb0 : Below w.heap.size w ((w.alloc (.cells #[.slice A l.length ca, .slice B r.length cb] 29)).alloc (.cells #[.slice none 0 0, .slice none 0 0] 29)) := below_alloc (below_alloc (Below.refl _ _) _) _
  have bP := blk_alloc (blk_new w (.cells #[.slice A l.length ca, .slice B r.length cb] 29)) (.cells #[.slice none 0 0, .slice none 0 0] 29)
  have bR : ((w.alloc (.cells #[.slice A l.length ca, .slice B r.length cb] 29)).alloc (.cells #[.slice none 0 0, .slice none 0 0] 29)).heap[w.heap.size + 1]? = some (.cells #[.slice none 0 0, .slice none 0 0] 29 (0, 0)) := by
    have := blk_new (w.alloc (.cells #[.slice A l.length ca, .slice B r.length cb] 29)) (.cells #[.slice none 0 0, .slice none 0 0] 29)
    simpa using this
  have HL := Aside0.mk hL
  have HR := Aside0.mk hR
  have HLE := Aside0.mk hE
  have HRI := Aside0.mk hI
  have HB0 := Aside0.mk hb0
  clear hL hR hE hI
  go_enter Try.func12, Try.ntmps12
  go_upto_region 1 with fail
  generalize (w.alloc (.cells #[.slice A l.length ca, .slice B r.length cb] 29)).alloc (.cells #[.slice none 0 0, .slice none 0 0] 29) = W at hb0 bP bR HB0 ⊢
  clear hb0
  have p0 := (blk_cell bP 0).trans rfl
  have p1 := (blk_cell bP 1).trans rfl
  cases q0 : inb mode 0 4 with
  | false =>
    have HF := Aside0.mk (show fits mode l r a b = false by unfold fits; rw [q0]; rfl)
    go_wp2_with (first
      | (go_at_call 41; refine (sMode_any mode _).mono ?_; rintro e w1 ⟨rfl, rfl⟩; rw [q0]; have HB1 := Aside0.mk (Below.refl w1.heap.size w1); have bR9 := blk_alloc (blk_below bR HB1.out) (.cells #[] 66); have r0 := (blk_cell bR9 0).trans rfl; have r1 := (blk_cell bR9 1).trans rfl; have f0 := blk_frozen bR9 0; have f1 := blk_frozen bR9 1; have HB9 := Aside0.mk (below_then HB0.out HB0.out.size (below_alloc HB1.out (.cells #[] 66)))))
    rw [HF.out]
    refine bodyPost_ret (results_ct rfl _ _ (w.heap.size + 1) 29 #[.slice none 0 0, .slice none 0 0] (0, 0) _ rfl (Id.set2_blk _ _ bR9) Try.underlying29 rfl (by kernel_rfl)) rfl ?_
    exact ⟨none, 0, none, 0, _, 0, rfl, isL_nil _ _ _, isL_nil _ _ _, isL_nil _ _ _, Id.set2_below HB9.out (by omega) _ _⟩
  | true =>
    cases q1 : (okOs l && okOs r) with
    | false =>
      have HF := Aside0.mk (show fits mode l r a b = false by unfold fits; rw [q0, q1]; rfl)
      go_wp2_with (first
        | (go_at_call 42; refine (sPairOk_any A B ca cb l r _ (HL.out.below HB0.out) (HR.out.below HB0.out)).mono ?_; rintro e w2 ⟨rfl, hb2⟩; rw [q1]; have HB2 := Aside0.mk hb2; have bR9 := blk_alloc (blk_below bR HB2.out) (.cells #[] 66); have r0 := (blk_cell bR9 0).trans rfl; have r1 := (blk_cell bR9 1).trans rfl; have f0 := blk_frozen bR9 0; have f1 := blk_frozen bR9 1; have HB9 := Aside0.mk (below_then HB0.out HB0.out.size (below_alloc HB2.out (.cells #[] 66))); clear hb2)
        | (go_at_call 41; refine (sMode_any mode _).mono ?_; rintro e w1 ⟨rfl, rfl⟩; rw [q0]; have HB1 := Aside0.mk (Below.refl w1.heap.size w1)))
      rw [HF.out]
      refine bodyPost_ret (results_ct rfl _ _ (w.heap.size + 1) 29 #[.slice none 0 0, .slice none 0 0] (0, 0) _ rfl (Id.set2_blk _ _ bR9) Try.underlying29 rfl (by kernel_rfl)) rfl ?_
      exact ⟨none, 0, none, 0, _, 0, rfl, isL_nil _ _ _, isL_nil _ _ _, isL_nil _ _ _, Id.set2_below HB9.out (by omega) _ _⟩
    | true =>
      cases q2 : okOs a with
      | false =>
        have HF := Aside0.mk (show fits mode l r a b = false by unfold fits; rw [q0, q1, q2]; rfl)
        go_wp2_with (first
          | (go_at_call 39; refine (sOccsOk_any C cc a _ (HLE.out.below (below_then HB0.out HB0.out.size HB2.out)).rd).mono ?_; rintro e w3 ⟨rfl, hb3⟩; rw [q2]; have HB3 := Aside0.mk (below_then HB2.out HB2.out.size hb3); have bR9 := blk_alloc (blk_below bR HB3.out) (.cells #[] 66); have r0 := (blk_cell bR9 0).trans rfl; have r1 := (blk_cell bR9 1).trans rfl; have f0 := blk_frozen bR9 0; have f1 := blk_frozen bR9 1; have HB9 := Aside0.mk (below_then HB0.out HB0.out.size (below_alloc HB3.out (.cells #[] 66))); clear hb3)
          | (go_at_call 42; refine (sPairOk_any A B ca cb l r _ (HL.out.below HB0.out) (HR.out.below HB0.out)).mono ?_; rintro e w2 ⟨rfl, hb2⟩; rw [q1]; have HB2 := Aside0.mk hb2; clear hb2)
          | (go_at_call 41; refine (sMode_any mode _).mono ?_; rintro e w1 ⟨rfl, rfl⟩; rw [q0]; have HB1 := Aside0.mk (Below.refl w1.heap.size w1)))
        rw [HF.out]
        refine bodyPost_ret (results_ct rfl _ _ (w.heap.size + 1) 29 #[.slice none 0 0, .slice none 0 0] (0, 0) _ rfl (Id.set2_blk _ _ bR9) Try.underlying29 rfl (by kernel_rfl)) rfl ?_
        exact ⟨none, 0, none, 0, _, 0, rfl, isL_nil _ _ _, isL_nil _ _ _, isL_nil _ _ _, Id.set2_below HB9.out (by omega) _ _⟩
      | true =>
        cases q3 : okOs b with
        | false =>
          have HF := Aside0.mk (show fits mode l r a b = false by unfold fits; rw [q0, q1, q2, q3]; rfl)
          go_wp2_with (first
            | (go_at_call 39; refine (sOccsOk_any D cd b _ (HRI.out.below (below_then HB0.out HB0.out.size HB3.out)).rd).mono ?_; rintro e w4 ⟨rfl, hb4⟩; rw [q3]; have HB4 := Aside0.mk (below_then HB3.out HB3.out.size hb4); have bR9 := blk_alloc (blk_below bR HB4.out) (.cells #[] 66); have r0 := (blk_cell bR9 0).trans rfl; have r1 := (blk_cell bR9 1).trans rfl; have f0 := blk_frozen bR9 0; have f1 := blk_frozen bR9 1; have HB9 := Aside0.mk (below_then HB0.out HB0.out.size (below_alloc HB4.out (.cells #[] 66))); clear hb4)
            | (go_at_call 39; refine (sOccsOk_any C cc a _ (HLE.out.below (below_then HB0.out HB0.out.size HB2.out)).rd).mono ?_; rintro e w3 ⟨rfl, hb3⟩; rw [q2]; have HB3 := Aside0.mk (below_then HB2.out HB2.out.size hb3); clear hb3)
            | (go_at_call 42; refine (sPairOk_any A B ca cb l r _ (HL.out.below HB0.out) (HR.out.below HB0.out)).mono ?_; rintro e w2 ⟨rfl, hb2⟩; rw [q1]; have HB2 := Aside0.mk hb2; clear hb2)
            | (go_at_call 41; refine (sMode_any mode _).mono ?_; rintro e w1 ⟨rfl, rfl⟩; rw [q0]; have HB1 := Aside0.mk (Below.refl w1.heap.size w1)))
          rw [HF.out]
          refine bodyPost_ret (results_ct rfl _ _ (w.heap.size + 1) 29 #[.slice none 0 0, .slice none 0 0] (0, 0) _ rfl (Id.set2_blk _ _ bR9) Try.underlying29 rfl (by kernel_rfl)) rfl ?_
          exact ⟨none, 0, none, 0, _, 0, rfl, isL_nil _ _ _, isL_nil _ _ _, isL_nil _ _ _, Id.set2_below HB9.out (by omega) _ _⟩
        | true =>
          have HF := Aside0.mk (show fits mode l r a b = true by unfold fits; rw [q0, q1, q2, q3]; rfl)
          obtain ⟨hm, ⟨hl, nl⟩, ⟨hr, nr⟩, ⟨ha, na⟩, ⟨hb, nb⟩⟩ := fits_iff.1 HF.out
          obtain ⟨p, hp⟩ : ∃ p, p = seq3 mode l r a b := ⟨_, rfl⟩
          have HP := Aside0.mk hp
          have hok : Ok3 (seq3 mode l r a b) := seq3_ok hm hl hr ha hb (by omega) (by omega)
          rw [← hp] at hok
          have HK := Aside0.mk hok
          have HEQ := Aside0.mk (seqI_eq hm hl (left := a) hb.all)
          have HOL := Aside0.mk hl
          have HOR := Aside0.mk hr
          have HOA := Aside0.mk ha
          have HOB := Aside0.mk hb
          clear hl hr ha hb hp hok
          go_upto_region 3 with (first
            | (go_at_call 39; refine (sOccsOk_any D cd b _ (HRI.out.below (below_then HB0.out HB0.out.size HB3.out)).rd).mono ?_; rintro e w4 ⟨rfl, hb4⟩; rw [q3]; have HB4 := Aside0.mk (below_then HB3.out HB3.out.size hb4); have bP4 := blk_below bP HB4.out; have s0 := (blk_cell bP4 0).trans rfl; have s1 := (blk_cell bP4 1).trans rfl; clear hb4)
            | (go_at_call 39; refine (sOccsOk_any C cc a _ (HLE.out.below (below_then HB0.out HB0.out.size HB2.out)).rd).mono ?_; rintro e w3 ⟨rfl, hb3⟩; rw [q2]; have HB3 := Aside0.mk (below_then HB2.out HB2.out.size hb3); clear hb3)
            | (go_at_call 42; refine (sPairOk_any A B ca cb l r _ (HL.out.below HB0.out) (HR.out.below HB0.out)).mono ?_; rintro e w2 ⟨rfl, hb2⟩; rw [q1]; have HB2 := Aside0.mk hb2; clear hb2)
            | (go_at_call 41; refine (sMode_any mode _).mono ?_; rintro e w1 ⟨rfl, rfl⟩; rw [q0]; have HB1 := Aside0.mk (Below.refl w1.heap.size w1)))
          have HL4 := Aside0.mk (HL.out.below (below_then HB0.out HB0.out.size HB4.out))
          have HR4 := Aside0.mk (HR.out.below (below_then HB0.out HB0.out.size HB4.out))
          have HLE4 := Aside0.mk (HLE.out.below (below_then HB0.out HB0.out.size HB4.out))
          have HRI4 := Aside0.mk (HRI.out.below (below_then HB0.out HB0.out.size HB4.out))
          have bR4 := blk_below bR HB4.out
          have HBw4 := Aside0.mk (below_then HB0.out HB0.out.size HB4.out)
          go_upto_region 4 with (first
            | (go_at_call 43; refine (xSeq_any w4 mode hm w4.heap.size A0 C D A1 c0 cc cd r.length c1 l a b _ HOL.out HOA.out.all HOB.out.all (by omega) (by omega) HB5.out (Nat.le_refl _) (Xw.of HV0.out) HB5.out.size HCA.out.la HCA.out.lb).mono ?_; rintro e w6 hout; obtain ⟨AL, cL, AR, cR, Ao, co, rfl, haft⟩ := seq_after HP.out HEQ.out hout HBw4.out HB5.out HV0.out HV1.out HNE5.out bR4; have HAF := Aside0.mk haft; clear hout haft)
            | (go_at_call 44; refine (copy_any A B ca cb l r _ (by omega) (by omega) (fun x hx => isOk_big (HOL.out.all x hx)) (fun x hx => isOk_big (HOR.out.all x hx)) HL4.out HR4.out).mono ?_; rintro e w5 ⟨v0, v1, rfl, hv0, hv1, hne5, hb5⟩; obtain ⟨A0, c0, rfl⟩ := Kd.R_slice hv0; obtain ⟨A1, c1, rfl⟩ := Kd.R_slice hv1; have HV0 := Aside0.mk hv0; have HV1 := Aside0.mk hv1; have HNE5 := Aside0.mk hne5; have HB5 := Aside0.mk hb5; have HCA := Aside0.mk (call_mem HLE4.out HRI4.out hb5 hv0 hv1 hne5); clear hv0 hv1 hne5 hb5))
          have bX := blk_new w6 (.cells #[.slice AL p.a.length cL, .slice AR p.b.length cR] 29)
          have HB67 := below_alloc (Below.refl w6.heap.size w6) (.cells #[.slice AL p.a.length cL, .slice AR p.b.length cR] 29)
          generalize w6.alloc (.cells #[.slice AL p.a.length cL, .slice AR p.b.length cR] 29) = W7 at bX HB67 ⊢
          have H7 := Aside0.mk (HAF.out.below HB67)
          have x0 := (blk_cell bX 0).trans rfl
          have x1 := (blk_cell bX 1).trans rfl
          clear HB67
          go_wp2_with (first
            | (go_at_call 45; refine (list_any Ao co p.c _ HK.out.lc (fun x hx => isOk_big (HK.out.c.all x hx)) (H7.out.lc.below HB8.out)).mono ?_; rintro e w9 ⟨v9, rfl, hv9, hb9⟩; obtain ⟨A9, c9, rfl⟩ := Kd.R_slice hv9; have bR9 := blk_below H7.out.bR (below_then HB8.out HB8.out.size hb9); have r0 := (blk_cell bR9 0).trans rfl; have r1 := (blk_cell bR9 1).trans rfl; have f0 := blk_frozen bR9 0; have f1 := blk_frozen bR9 1; have HV9 := Aside0.mk hv9; have HV80 := Aside0.mk (Ra.Rw.below H80.out hb9); have HV81 := Aside0.mk (Ra.Rw.below H81.out hb9); have HB9 := Aside0.mk (below_then H7.out.bel H7.out.bel.size (below_then HB8.out HB8.out.size hb9)); clear hv9 hb9)
            | (go_at_call 44; refine (copy_any AL AR cL cR p.a p.b _ HK.out.la HK.out.lb (fun x hx => isOk_big (HK.out.a.all x hx)) (fun x hx => isOk_big (HK.out.b.all x hx)) H7.out.la H7.out.lb).mono ?_; rintro e w8 ⟨v80, v81, rfl, h80, h81, -, hb8⟩; obtain ⟨A80, c80, rfl⟩ := Kd.R_slice h80; obtain ⟨A81, c81, rfl⟩ := Kd.R_slice h81; have H80 := Aside0.mk h80; have H81 := Aside0.mk h81; have HB8 := Aside0.mk hb8; clear h80 h81 hb8))
          refine bodyPost_ret (results_ct rfl _ _ (w.heap.size + 1) 29 #[.slice A80 p.a.length c80, .slice A81 p.b.length c81] (0, 0) _ rfl (Id.set2_blk _ _ bR9) Try.underlying29 rfl (by kernel_rfl)) rfl ?_
          rw [HF.out, ← HP.out]
          exact ⟨A80, c80, A81, c81, A9, c9, rfl, (Ra.Rw.isL (Yk.Rw.two HV80.out bR9 _ _)).2, (Ra.Rw.isL (Yk.Rw.two HV81.out bR9 _ _)).2, (Ra.Rw.isL (Yk.Rw.two HV9.out bR9 _ _)).2, Id.set2_below HB9.out (by omega) _ _⟩

end Go.Proofs.Ytccenpmaooailaa.YkS

/- What is found at a time; what is told: the reference's. -/
set_option linter.unusedVariables false
set_option linter.unusedSimpArgs false
namespace Go.Proofs.Ytccenpmaooailaa.Yl
open Go.RowKit Go.Proofs.YtccenpmaooailaaW.PrintWords Go.Proofs.Ytccenpmaooailaa.Wd Go.Proofs.Ytccenpmaooailaa.Pu Go.Proofs.Ytccenpmaooailaa.Pv Go.Proofs.Ytccenpmaooailaa.Ca Go.Proofs.Ytccenpmaooailaa.Cb Go.Proofs.Ytccenpmaooailaa.Cc Go.Proofs.Ytccenpmaooailaa.Cp Go.Proofs.Ytccenpmaooailaa.Cd Go.Proofs.Ytccenpmaooailaa.Ci Go.Proofs.Ytccenpmaooailaa.Ce Go.Proofs.Ytccenpmaooailaa.Cf Go.Proofs.Ytccenpmaooailaa.Cg Go.Proofs.Ytccenpmaooailaa.Sc Go.Proofs.Ytccenpmaooailaa.Se Go.Proofs.Ytccenpmaooailaa.Sh Go.Proofs.Ytccenpmaooailaa.Si Go.Proofs.Ytccenpmaooailaa.Sp Go.Proofs.Ytccenpmaooailaa.Ia Go.Proofs.Ytccenpmaooailaa.Ib Go.Proofs.Ytccenpmaooailaa.Ic Go.Proofs.Ytccenpmaooailaa.Id Go.Proofs.Ytccenpmaooailaa.Ie Go.Proofs.Ytccenpmaooailaa.If Go.Proofs.Ytccenpmaooailaa.Ig Go.Proofs.Ytccenpmaooailaa.Ih Go.Proofs.Ytccenpmaooailaa.Ij Go.Proofs.Ytccenpmaooailaa.Ik Go.Proofs.Ytccenpmaooailaa.Ra Go.Proofs.Ytccenpmaooailaa.Rb Go.Proofs.Ytccenpmaooailaa.Rc Go.Proofs.Ytccenpmaooailaa.Rd Go.Proofs.Ytccenpmaooailaa.Re Go.Proofs.Ytccenpmaooailaa.Sj Go.Proofs.Ytccenpmaooailaa.Ya Go.Proofs.Ytccenpmaooailaa.Yd Go.Proofs.Ytccenpmaooailaa.Yf Go.Proofs.Ytccenpmaooailaa.Yg Go.Proofs.Ytccenpmaooailaa.Ih Go.Proofs.Ytccenpmaooailaa.Yh Go.Proofs.Ytccenpmaooailaa.Yi Go.Proofs.Ytccenpmaooailaa.Sg Go.Proofs.Ytccenpmaooailaa.Sf Go.Proofs.Ytccenpmaooailaa.Yj Go.Proofs.Ytccenpmaooailaa.Ig Go.Proofs.Ytccenpmaooailaa.Yk Go.Proofs.Ytccenpmaooailaa.Ik

def ToldL (w w' : World) (p : List Occ × Bool) (e : Ending) : Prop := ∃ A c, e = .returned (.tuple #[.slice A p.1.length c, .bool p.2]) ∧ IsL w' p.1 A c ∧ Below w.heap.size w w'
end Go.Proofs.Ytccenpmaooailaa.Yl

/- All times of lists: the reference's. -/
set_option linter.unusedVariables false
set_option linter.unusedSimpArgs false
namespace Go.Proofs.Ytccenpmaooailaa.Ym
open Go.RowKit Go.Proofs.YtccenpmaooailaaW.PrintWords Go.Proofs.Ytccenpmaooailaa.Wd Go.Proofs.Ytccenpmaooailaa.Pu Go.Proofs.Ytccenpmaooailaa.Pv Go.Proofs.Ytccenpmaooailaa.Ca Go.Proofs.Ytccenpmaooailaa.Cb Go.Proofs.Ytccenpmaooailaa.Cc Go.Proofs.Ytccenpmaooailaa.Cp Go.Proofs.Ytccenpmaooailaa.Cd Go.Proofs.Ytccenpmaooailaa.Ci Go.Proofs.Ytccenpmaooailaa.Ce Go.Proofs.Ytccenpmaooailaa.Cf Go.Proofs.Ytccenpmaooailaa.Cg Go.Proofs.Ytccenpmaooailaa.Sc Go.Proofs.Ytccenpmaooailaa.Se Go.Proofs.Ytccenpmaooailaa.Sh Go.Proofs.Ytccenpmaooailaa.Si Go.Proofs.Ytccenpmaooailaa.Sp Go.Proofs.Ytccenpmaooailaa.Ia Go.Proofs.Ytccenpmaooailaa.Ib Go.Proofs.Ytccenpmaooailaa.Ic Go.Proofs.Ytccenpmaooailaa.Id Go.Proofs.Ytccenpmaooailaa.Ie Go.Proofs.Ytccenpmaooailaa.If Go.Proofs.Ytccenpmaooailaa.Ig Go.Proofs.Ytccenpmaooailaa.Ih Go.Proofs.Ytccenpmaooailaa.Ij Go.Proofs.Ytccenpmaooailaa.Ik Go.Proofs.Ytccenpmaooailaa.Ra Go.Proofs.Ytccenpmaooailaa.Rb Go.Proofs.Ytccenpmaooailaa.Rc Go.Proofs.Ytccenpmaooailaa.Rd Go.Proofs.Ytccenpmaooailaa.Re Go.Proofs.Ytccenpmaooailaa.Sj Go.Proofs.Ytccenpmaooailaa.Ya Go.Proofs.Ytccenpmaooailaa.Yd Go.Proofs.Ytccenpmaooailaa.Yf Go.Proofs.Ytccenpmaooailaa.Yg Go.Proofs.Ytccenpmaooailaa.Ih Go.Proofs.Ytccenpmaooailaa.Yh Go.Proofs.Ytccenpmaooailaa.Yi Go.Proofs.Ytccenpmaooailaa.Sg Go.Proofs.Ytccenpmaooailaa.Sf Go.Proofs.Ytccenpmaooailaa.Yj Go.Proofs.Ytccenpmaooailaa.Ig Go.Proofs.Ytccenpmaooailaa.Yk Go.Proofs.Ytccenpmaooailaa.Ik Go.Proofs.Ytccenpmaooailaa.Yl Go.Proofs.Ytccenpmaooailaa.Ij

def hit (l : List Occ) (t : Int) : Bool := l.any (fun o => decide (o.f1 = t))
end Go.Proofs.Ytccenpmaooailaa.Ym

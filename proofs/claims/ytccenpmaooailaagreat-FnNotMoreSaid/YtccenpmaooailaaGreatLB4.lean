
import Derived.Test.YtccenpmaooailaaGreatLB2
import Derived.Test.YtccenpmaooailaaGreatLB3
import Derived.StillTailTactics
import Derived.OwnWalk
/- The reference's own lists: what keeps them; one list put into another. -/
set_option linter.unusedVariables false
set_option linter.unusedSimpArgs false
namespace Go.Proofs.YtccenpmaooailaaGreat.Ra
open Go.RowKit Go.Proofs.YtccenpmaooailaaGreatW.PrintWords Go.Proofs.YtccenpmaooailaaGreat.Wd Go.Proofs.YtccenpmaooailaaGreat.Pu Go.Proofs.YtccenpmaooailaaGreat.Pv Go.Proofs.YtccenpmaooailaaGreat.Ca Go.Proofs.YtccenpmaooailaaGreat.Cb Go.Proofs.YtccenpmaooailaaGreat.Cc Go.Proofs.YtccenpmaooailaaGreat.Cp Go.Proofs.YtccenpmaooailaaGreat.Cd Go.Proofs.YtccenpmaooailaaGreat.Ci Go.Proofs.YtccenpmaooailaaGreat.Ce Go.Proofs.YtccenpmaooailaaGreat.Cf Go.Proofs.YtccenpmaooailaaGreat.Cg Go.Proofs.YtccenpmaooailaaGreat.Sc Go.Proofs.YtccenpmaooailaaGreat.Sh Go.Proofs.YtccenpmaooailaaGreat.Si Go.Proofs.YtccenpmaooailaaGreat.Sp Go.Proofs.YtccenpmaooailaaGreat.Ia Go.Proofs.YtccenpmaooailaaGreat.Ib Go.Proofs.YtccenpmaooailaaGreat.Ic Go.Proofs.YtccenpmaooailaaGreat.Id Go.Proofs.YtccenpmaooailaaGreat.Ie Go.Proofs.YtccenpmaooailaaGreat.If Go.Proofs.YtccenpmaooailaaGreat.Ig Go.Proofs.YtccenpmaooailaaGreat.Ih Go.Proofs.YtccenpmaooailaaGreat.Ij Go.Proofs.YtccenpmaooailaaGreat.Ik

structure Fr (S : Nat → Prop) (w w' : World) : Prop where
  os : w'.os = w.os
  tape : w'.tape = w.tape
  output : w'.output = w.output
  size : w.heap.size ≤ w'.heap.size
  block : ∀ k, k < w.heap.size → ¬ S k → w'.heap[k]? = w.heap[k]?
section
variable {S T : Nat → Prop} {w w' a b c : World} {B : Nat} {row : Option Nat}
theorem Fr.refl (S : Nat → Prop) (w : World) : Fr S w w := ⟨rfl, rfl, rfl, Nat.le_refl _, fun _ _ _ => rfl⟩
theorem Fr.of_below (h : Below w.heap.size w w') : Fr S w w' := ⟨h.os, h.tape, h.output, h.size, fun k hk _ => h.block k hk⟩
theorem Fr.of_grown (h : w.grownBy w' row) (hS : ∀ k, some k = row → S k) : Fr S w w' := ⟨h.os, h.tape, h.output, h.size, fun k hk hn => h.block k hk (fun e => hn (hS k e))⟩
theorem Fr.trans (h : Fr S a b) (g : Fr T b c) (hT : ∀ k, T k → k < a.heap.size → S k) : Fr S a c :=
  ⟨g.os.trans h.os, g.tape.trans h.tape, g.output.trans h.output, Nat.le_trans h.size g.size, fun k hk hn => (g.block k (Nat.lt_of_lt_of_le hk h.size) (fun ht => hn (hT k ht hk))).trans (h.block k hk hn)⟩
theorem Fr.below (h : Fr S w w') (hB : B ≤ w.heap.size) (hS : ∀ k, S k → B ≤ k) : Below B w w' := ⟨h.os, h.tape, h.output, h.size, fun k hk => h.block k (by omega) (fun hs => by have := hS k hs; omega)⟩
theorem Fr.grown (h : Fr S w w') (hS : ∀ k, S k → some k = row) : w.grownBy w' row := ⟨h.os, h.tape, h.output, h.size, fun k hk hn => h.block k hk (fun hs => hn (hS k hs))⟩
theorem Fr.mono (h : Fr S w w') (hS : ∀ k, S k → k < w.heap.size → T k) : Fr T w w' := ⟨h.os, h.tape, h.output, h.size, fun k hk hn => h.block k hk (fun hs => hn (hS k hs hk))⟩
theorem Fr.set {g j : Nat} {u : Value} (h : Fr S w w') (hg : g < w.heap.size → S g) : Fr S w (w'.setCell ⟨g, j, none⟩ u) :=
  h.trans (T := fun k => k = g) ⟨rfl, rfl, rfl, by simp [World.setCell], fun k _ hn => Below.heap_setCell w' ⟨g, j, none⟩ u k hn⟩ (fun k hk hlt => by subst hk; exact hg hlt)
end
/-- a value's own block -/
abbrev own (v : Value) : Nat → Prop := fun k => v.ownBlock = some k
abbrev Rw (w : World) (base : Nat) (v : Value) (l : List Occ) : Prop := kO.R 43 w base (fun _ => True) v l
/-- blocks that hold no numbers of events -/
def NotInt (w : World) (S : Nat → Prop) : Prop := ∀ k, S k → k < w.heap.size → ∃ (cells : Array Value) (t : TypeId), t ≠ 3 ∧ w.heap[k]? = some (.cells cells t (0, 0))
theorem Rw.keep {S : Nat → Prop} {w w' : World} {base : Nat} {v : Value} {l : List Occ} (h : Rw w base v l) (hf : Fr S w w') (h1 : ∀ k, own v k → ¬ S k) (h2 : NotInt w S) : Rw w' base v l := by
  have h3 : kO.R 43 w base (fun k => ¬ S k) v l := R_split h h1 (fun k q cells _ _ hlt hq hc hs => by
    obtain ⟨cs, t, ht, he⟩ := h2 k hs hlt
    rw [hc] at he
    injection he with he
    injection he with _ e2 _
    have hq2 : q = 3 := by simpa using (show q ∈ [3] from hq)
    exact ht (by rw [← e2, hq2]))
  exact Kd.R_mono (Kd.R_step h3 (fun k hk hlt => hf.block k hlt hk)) (fun _ _ => trivial)
theorem Rw.typed {w : World} {base : Nat} {v : Value} {l : List Occ} (h : Rw w base v l) : NotInt w (own v) := fun k hk _ => by
  obtain ⟨cells, hc⟩ := Kd.R_typed h k hk
  exact ⟨cells, 43, by decide, hc⟩
theorem Rw.isL {w : World} {base : Nat} {A : Option Addr} {n c : Nat} {l : List Occ} (h : Rw w base (.slice A n c) l) : n = l.length ∧ IsL w l A c := by
  have hq := Kd.R_reads' h
  exact ⟨hq.1, ⟨by have := hq.2.1; omega, hq.2.2⟩⟩
theorem Rw.below {w w' : World} {base : Nat} {v : Value} {l : List Occ} (h : Rw w base v l) (hb : Below w.heap.size w w') : Rw w' base v l := Kd.R_below h hb
def At' (v v' : Value) (n : Nat) : Prop := v'.ownBlock = v.ownBlock ∨ ∃ b, v'.ownBlock = some b ∧ n ≤ b
theorem at_trans {u v x : Value} {n m : Nat} (h : At' u v n) (g : At' v x m) (hm : n ≤ m) : At' u x n := by
  rcases g with g | ⟨b, g1, g2⟩
  · rcases h with h | ⟨c, h1, h2⟩
    · exact .inl (g.trans h)
    · exact .inr ⟨c, g.trans h1, h2⟩
  · exact .inr ⟨b, g1, by omega⟩

end Go.Proofs.YtccenpmaooailaaGreat.Ra

/- The reference's l3Union, l3Join. -/
set_option linter.unusedVariables false
set_option linter.unusedSimpArgs false
namespace Go.Proofs.YtccenpmaooailaaGreat.Rb
open Go.RowKit Go.Proofs.YtccenpmaooailaaGreatW.PrintWords Go.Proofs.YtccenpmaooailaaGreat.Wd Go.Proofs.YtccenpmaooailaaGreat.Pu Go.Proofs.YtccenpmaooailaaGreat.Pv Go.Proofs.YtccenpmaooailaaGreat.Ca Go.Proofs.YtccenpmaooailaaGreat.Cb Go.Proofs.YtccenpmaooailaaGreat.Cc Go.Proofs.YtccenpmaooailaaGreat.Cp Go.Proofs.YtccenpmaooailaaGreat.Cd Go.Proofs.YtccenpmaooailaaGreat.Ci Go.Proofs.YtccenpmaooailaaGreat.Ce Go.Proofs.YtccenpmaooailaaGreat.Cf Go.Proofs.YtccenpmaooailaaGreat.Cg Go.Proofs.YtccenpmaooailaaGreat.Sc Go.Proofs.YtccenpmaooailaaGreat.Sh Go.Proofs.YtccenpmaooailaaGreat.Si Go.Proofs.YtccenpmaooailaaGreat.Ia Go.Proofs.YtccenpmaooailaaGreat.Ic Go.Proofs.YtccenpmaooailaaGreat.Ij Go.Proofs.YtccenpmaooailaaGreat.Ra

theorem min_any (a b : Int) (w : World) : Calls Tryz.prog 80 #[.int .i64 a, .int .i64 b] w fun e w' => e = .returned (.int .i64 (min a b)) ∧ w' = w := by
  by_cases h : a < b
  · have d : decide (a < b) = true := decide_eq_true h
    have HE := Aside0.mk (show min a b = a by omega)
    go_enter Tryz.func80, Tryz.ntmps80
    go_wp2
    go_ret
    exact ⟨by rw [HE.out]; rfl, rfl⟩
  · have d : decide (a < b) = false := decide_eq_false h
    have HE := Aside0.mk (show min a b = b by omega)
    go_enter Tryz.func80, Tryz.ntmps80
    go_wp2
    go_ret
    exact ⟨by rw [HE.out]; rfl, rfl⟩
theorem max_any (a b : Int) (w : World) : Calls Tryz.prog 130 #[.int .i64 a, .int .i64 b] w fun e w' => e = .returned (.int .i64 (max a b)) ∧ w' = w := by
  by_cases h : a > b
  · have d : decide (a > b) = true := decide_eq_true h
    have d2 : decide (b < a) = true := decide_eq_true h
    have HE := Aside0.mk (show max a b = a by omega)
    go_enter Tryz.func130, Tryz.ntmps130
    go_wp2
    go_ret
    exact ⟨by rw [HE.out]; rfl, rfl⟩
  · have d : decide (a > b) = false := decide_eq_false h
    have d2 : decide (b < a) = false := decide_eq_false h
    have HE := Aside0.mk (show max a b = b by omega)
    go_enter Tryz.func130, Tryz.ntmps130
    go_wp2
    go_ret
    exact ⟨by rw [HE.out]; rfl, rfl⟩
theorem uni_lt {a b : List Int} {i k : Nat} (h : i < a.length) (h2 : k < b.length) (hx : a.getD i 0 < b.getD k 0) : uni (a.drop i) (b.drop k) = a.getD i 0 :: uni (a.drop (i + 1)) (b.drop k) := by
  rw [drop_at a 0 i h, drop_at b 0 k h2, uni, if_pos hx]
theorem uni_eq {a b : List Int} {i k : Nat} (h : i < a.length) (h2 : k < b.length) (hx : a.getD i 0 = b.getD k 0) : uni (a.drop i) (b.drop k) = b.getD k 0 :: uni (a.drop (i + 1)) (b.drop (k + 1)) := by
  rw [drop_at a 0 i h, drop_at b 0 k h2, uni, if_neg (by omega), if_pos hx]
theorem uni_gt {a b : List Int} {i k : Nat} (h : i < a.length) (h2 : k < b.length) (hx : b.getD k 0 < a.getD i 0) : uni (a.drop i) (b.drop k) = b.getD k 0 :: uni (a.drop i) (b.drop (k + 1)) := by
  rw [drop_at a 0 i h, drop_at b 0 k h2, uni, if_neg (by omega), if_neg (by omega)]
theorem uni_nil (a : List Int) : uni a [] = a := by cases a <;> simp [uni]
theorem uni_left {a b : List Int} {i k : Nat} (h : i < a.length) (h2 : b.length ≤ k) : uni (a.drop i) (b.drop k) = a.getD i 0 :: uni (a.drop (i + 1)) (b.drop k) := by
  rw [List.drop_of_length_le h2, uni_nil, uni_nil, drop_at a 0 i h]
theorem uni_right {a b : List Int} {i k : Nat} (h : a.length ≤ i) (h2 : k < b.length) : uni (a.drop i) (b.drop k) = b.getD k 0 :: uni (a.drop i) (b.drop (k + 1)) := by
  rw [List.drop_of_length_le h, drop_at b 0 k h2]; simp [uni]
theorem uni_end {a b : List Int} {i k : Nat} (h : a.length ≤ i) (h2 : b.length ≤ k) : uni (a.drop i) (b.drop k) = [] := by
  rw [List.drop_of_length_le h, List.drop_of_length_le h2]; simp [uni]
def UniOut (w w' : World) (r : List Int) (e : Ending) : Prop := ∃ v, e = .returned v ∧ (Kd.int .i64).R 3 w' w.heap.size (fun _ => True) v r ∧ Below w.heap.size w w'

set_option maxHeartbeats 4000000 in
set_option maxRecDepth 100000 in
theorem sUni_any (A B : Option Addr) (ca cb : Nat) (a b : List Int) (w : World) (la : a.length ≤ 1048576) (lb : b.length ≤ 1048576) (hA : (Kd.int .i64).C w A a.length a) (hB : (Kd.int .i64).C w B b.length b) :
    Calls Tryz.prog 131 #[.slice A a.length ca, .slice B b.length cb] w fun e w' => UniOut w w' (uni a b) e := by
  have hE0 := blk_new w (.cells #[] 3)
  have hR0 : RI w (w.alloc (.cells #[] 3)) (.slice (some ⟨w.heap.size, 0, none⟩) 0 0) [] := R_empty (Kd.int .i64) hE0 (Nat.le_refl _)
  have HB0 := Aside0.mk (below_alloc (Below.refl w.heap.size w) (.cells #[] 3))
  go_enter Tryz.func131, Tryz.ntmps131
  go_wp2
  generalize w.alloc (.cells #[] 3) = W0 at hR0 HB0 ⊢
  clear hE0
  go_loopw [5, 6, 7] (fun v5 vi vk wr => ∃ (i k : Nat) (P : List Int) (v : Value), i ≤ a.length ∧ k ≤ b.length ∧ P.length ≤ i + k ∧ vi = .int .i64 i ∧ vk = .int .i64 k ∧ v = v5 ∧ Aside0 (uni a b = P ++ uni (a.drop i) (b.drop k)) ∧ Aside0 (RI w wr v P) ∧ Aside0 (Below w.heap.size w wr)) (fun _ vi vk _ => (a.length - (intOf vi).toNat) + (b.length - (intOf vk).toNat))
  case atStart => exact ⟨0, 0, [], _, Nat.zero_le _, Nat.zero_le _, Nat.zero_le _, rfl, rfl, rfl, ⟨rfl⟩, ⟨hR0⟩, HB0⟩
  case round =>
    clear hR0 HB0
    obtain ⟨i, k, P, v, hi, hk, hP, rfl, rfl, rfl, HU, HR, HB⟩ := hrel
    by_cases hia : i < a.length
    · have a1 : decide (i < a.length) = true := decide_eq_true hia
      have a2 : (i : Int) < a.length := by omega
      obtain ⟨ad, rfl, hca⟩ := at1 (Kd.C_below hA HB.out) i hia
      by_cases hkb : k < b.length
      · have b1 : decide (k < b.length) = true := decide_eq_true hkb
        have b2 : (k : Int) < b.length := by omega
        have b3 : decide (b.length ≤ k) = false := decide_eq_false (by omega)
        obtain ⟨bd, rfl, hcb⟩ := at1 (Kd.C_below hB HB.out) k hkb
        have hlt3 := fun h => uni_lt (a := a) (b := b) hia hkb h
        have heq3 := fun h => uni_eq (a := a) (b := b) hia hkb h
        have hgt3 := fun h => uni_gt (a := a) (b := b) hia hkb h
        generalize a.getD i 0 = x at hca hlt3 heq3 hgt3
        generalize b.getD k 0 = y at hcb hlt3 heq3 hgt3
        have HL3 := Aside0.mk hlt3
        have HE3 := Aside0.mk heq3
        have HG3 := Aside0.mk hgt3
        clear hlt3 heq3 hgt3
        by_cases hxy : x < y
        · have t1 : decide (x < y) = true := decide_eq_true hxy
          have HN := Aside0.mk (show uni a b = (P ++ [x]) ++ uni (a.drop (i + 1)) (b.drop k) by rw [HU.out, HL3.out hxy]; simp)
          clear HL3 HE3 HG3
          go_wp2
          replace hca := cellE hca
          replace hcb := cellE hcb
          refine region_ext (W := wr) (Below.refl _ _) (by kernel_rfl) (by kernel_rfl) ?_
          repeat (first | go_big_quiet_step (fail) | quiet_step (fail))
          refine wpQuiet_nil ?_
          rintro _ ⟨s, rfl⟩
          have HBq := Aside0.mk (below_then HB.out HB.out.size s.2)
          have HRq := Aside0.mk (Kd.R_below HR.out s.2)
          replace hca := hca s
          replace hcb := hcb s
          clear HB HR
          generalize s.1 = wq at HBq HRq hca hcb ⊢
          have HB := HBq
          have HR := HRq
          clear HBq HRq
          go_wp2_with ((with_reducible refine gate_dst (N := 46) rfl ?_); refine Kd.R_append (Kd.int .i64) (w0 := w) w.heap.size rfl _ _ 41 3 (.int .i64 0) 8 rfl Tryz.underlying41 Cc.infoI rfl (by decide) (by decide) v P x [.int .i64 x] (fun _ => True) (fun _ => False) rfl rfl rfl (fun _ h => h.elim) (fun _ _ => trivial) HR.out HB.out HB.out.size (by omega) ?_; intro v4 w4 hr4 hb4 hg4 hat4; have HR4 := Aside0.mk hr4; have HB4 := Aside0.mk hb4; clear hr4 hb4 hg4 hat4)
          go_roundw
          case rel => exact ⟨i + 1, k, P ++ [x], _, by omega, by omega, by simp; omega, by go_num, rfl, rfl, HN, HR4, HB4⟩
          case measure => simp [intOf]; omega
        · have t1 : decide (x < y) = false := decide_eq_false hxy
          by_cases hey : x = y
          · have t2 : (x == y) = true := by simpa using hey
            have HN := Aside0.mk (show uni a b = (P ++ [y]) ++ uni (a.drop (i + 1)) (b.drop (k + 1)) by rw [HU.out, HE3.out hey]; simp)
            have HEY := Aside0.mk hey
            clear HL3 HE3 HG3 hey hxy
            go_wp2
            replace hca := cellE hca
            replace hcb := cellE hcb
            refine region_ext (W := wr) (Below.refl _ _) (by kernel_rfl) (by kernel_rfl) ?_
            repeat (first | go_big_quiet_step (fail) | quiet_step (fail))
            refine wpQuiet_nil ?_
            rintro _ ⟨s, rfl⟩
            have HBq := Aside0.mk (below_then HB.out HB.out.size s.2)
            have HRq := Aside0.mk (Kd.R_below HR.out s.2)
            replace hca := hca s
            replace hcb := hcb s
            clear HB HR
            generalize s.1 = wq at HBq HRq hca hcb ⊢
            have HB := HBq
            have HR := HRq
            clear HBq HRq
            go_wp2
            replace hca := cellE hca
            replace hcb := cellE hcb
            refine region_ext (W := wq) (Below.refl _ _) (by kernel_rfl) (by kernel_rfl) ?_
            repeat (first | go_big_quiet_step (fail) | quiet_step (fail))
            refine wpQuiet_nil ?_
            rintro _ ⟨s, rfl⟩
            have HBq := Aside0.mk (below_then HB.out HB.out.size s.2)
            have HRq := Aside0.mk (Kd.R_below HR.out s.2)
            replace hca := hca s
            replace hcb := hcb s
            clear HB HR
            generalize s.1 = wq2 at HBq HRq hca hcb ⊢
            have HB := HBq
            have HR := HRq
            clear HBq HRq
            go_wp2_with ((with_reducible refine gate_dst (N := 72) rfl ?_); refine Kd.R_append (Kd.int .i64) (w0 := w) w.heap.size rfl _ _ 41 3 (.int .i64 0) 8 rfl Tryz.underlying41 Cc.infoI rfl (by decide) (by decide) v P y [.int .i64 y] (fun _ => True) (fun _ => False) rfl rfl rfl (fun _ h => h.elim) (fun _ _ => trivial) HR.out HB.out HB.out.size (by omega) ?_; intro v4 w4 hr4 hb4 hg4 hat4; have HR4 := Aside0.mk hr4; have HB4 := Aside0.mk hb4; clear hr4 hb4 hg4 hat4)
            go_roundw
            case rel => exact ⟨i + 1, k + 1, P ++ [y], _, by omega, by omega, by simp; omega, by go_num, by go_num, rfl, HN, HR4, HB4⟩
            case measure => simp [intOf]; omega
          · have t2 : (x == y) = false := by simpa using hey
            have HN := Aside0.mk (show uni a b = (P ++ [y]) ++ uni (a.drop i) (b.drop (k + 1)) by rw [HU.out, HG3.out (by omega)]; simp)
            clear HL3 HE3 HG3 hey hxy
            go_wp2
            replace hca := cellE hca
            replace hcb := cellE hcb
            refine region_ext (W := wr) (Below.refl _ _) (by kernel_rfl) (by kernel_rfl) ?_
            repeat (first | go_big_quiet_step (fail) | quiet_step (fail))
            refine wpQuiet_nil ?_
            rintro _ ⟨s, rfl⟩
            have HBq := Aside0.mk (below_then HB.out HB.out.size s.2)
            have HRq := Aside0.mk (Kd.R_below HR.out s.2)
            replace hca := hca s
            replace hcb := hcb s
            clear HB HR
            generalize s.1 = wq at HBq HRq hca hcb ⊢
            have HB := HBq
            have HR := HRq
            clear HBq HRq
            go_wp2
            replace hca := cellE hca
            replace hcb := cellE hcb
            refine region_ext (W := wq) (Below.refl _ _) (by kernel_rfl) (by kernel_rfl) ?_
            repeat (first | go_big_quiet_step (fail) | quiet_step (fail))
            refine wpQuiet_nil ?_
            rintro _ ⟨s, rfl⟩
            have HBq := Aside0.mk (below_then HB.out HB.out.size s.2)
            have HRq := Aside0.mk (Kd.R_below HR.out s.2)
            replace hca := hca s
            replace hcb := hcb s
            clear HB HR
            generalize s.1 = wq2 at HBq HRq hca hcb ⊢
            have HB := HBq
            have HR := HRq
            clear HBq HRq
            go_wp2_with ((with_reducible refine gate_dst (N := 72) rfl ?_); refine Kd.R_append (Kd.int .i64) (w0 := w) w.heap.size rfl _ _ 41 3 (.int .i64 0) 8 rfl Tryz.underlying41 Cc.infoI rfl (by decide) (by decide) v P y [.int .i64 y] (fun _ => True) (fun _ => False) rfl rfl rfl (fun _ h => h.elim) (fun _ _ => trivial) HR.out HB.out HB.out.size (by omega) ?_; intro v4 w4 hr4 hb4 hg4 hat4; have HR4 := Aside0.mk hr4; have HB4 := Aside0.mk hb4; clear hr4 hb4 hg4 hat4)
            go_roundw
            case rel => exact ⟨i, k + 1, P ++ [y], _, by omega, by omega, by simp; omega, rfl, by go_num, rfl, HN, HR4, HB4⟩
            case measure => simp [intOf]; omega
      · have b1 : decide (k < b.length) = false := decide_eq_false hkb
        have b3 : decide (b.length ≤ k) = true := decide_eq_true (by omega)
        have hl3 := uni_left (a := a) (b := b) hia (show b.length ≤ k by omega)
        generalize a.getD i 0 = x at hca hl3
        have HN := Aside0.mk (show uni a b = (P ++ [x]) ++ uni (a.drop (i + 1)) (b.drop k) by rw [HU.out, hl3]; simp)
        clear hl3
        go_wp2
        replace hca := cellE hca
        refine region_ext (W := wr) (Below.refl _ _) (by kernel_rfl) (by kernel_rfl) ?_
        repeat (first | go_big_quiet_step (fail) | quiet_step (fail))
        refine wpQuiet_nil ?_
        rintro _ ⟨s, rfl⟩
        have HBq := Aside0.mk (below_then HB.out HB.out.size s.2)
        have HRq := Aside0.mk (Kd.R_below HR.out s.2)
        replace hca := hca s
        clear HB HR
        generalize s.1 = wq at HBq HRq hca ⊢
        have HB := HBq
        have HR := HRq
        clear HBq HRq
        go_wp2_with ((with_reducible refine gate_dst (N := 46) rfl ?_); refine Kd.R_append (Kd.int .i64) (w0 := w) w.heap.size rfl _ _ 41 3 (.int .i64 0) 8 rfl Tryz.underlying41 Cc.infoI rfl (by decide) (by decide) v P x [.int .i64 x] (fun _ => True) (fun _ => False) rfl rfl rfl (fun _ h => h.elim) (fun _ _ => trivial) HR.out HB.out HB.out.size (by omega) ?_; intro v4 w4 hr4 hb4 hg4 hat4; have HR4 := Aside0.mk hr4; have HB4 := Aside0.mk hb4; clear hr4 hb4 hg4 hat4)
        go_roundw
        case rel => exact ⟨i + 1, k, P ++ [x], _, by omega, by omega, by simp; omega, by go_num, rfl, rfl, HN, HR4, HB4⟩
        case measure => simp [intOf]; omega
    · have a1 : decide (i < a.length) = false := decide_eq_false hia
      by_cases hkb : k < b.length
      · have b1 : decide (k < b.length) = true := decide_eq_true hkb
        have b2 : (k : Int) < b.length := by omega
        have b3 : decide (b.length ≤ k) = false := decide_eq_false (by omega)
        obtain ⟨bd, rfl, hcb⟩ := at1 (Kd.C_below hB HB.out) k hkb
        have hl3 := uni_right (a := a) (b := b) (show a.length ≤ i by omega) hkb
        generalize b.getD k 0 = y at hcb hl3
        have HN := Aside0.mk (show uni a b = (P ++ [y]) ++ uni (a.drop i) (b.drop (k + 1)) by rw [HU.out, hl3]; simp)
        clear hl3
        go_wp2
        replace hcb := cellE hcb
        refine region_ext (W := wr) (Below.refl _ _) (by kernel_rfl) (by kernel_rfl) ?_
        repeat (first | go_big_quiet_step (fail) | quiet_step (fail))
        refine wpQuiet_nil ?_
        rintro _ ⟨s, rfl⟩
        have HBq := Aside0.mk (below_then HB.out HB.out.size s.2)
        have HRq := Aside0.mk (Kd.R_below HR.out s.2)
        replace hcb := hcb s
        clear HB HR
        generalize s.1 = wq at HBq HRq hcb ⊢
        have HB := HBq
        have HR := HRq
        clear HBq HRq
        go_wp2
        replace hcb := cellE hcb
        refine region_ext (W := wq) (Below.refl _ _) (by kernel_rfl) (by kernel_rfl) ?_
        repeat (first | go_big_quiet_step (fail) | quiet_step (fail))
        refine wpQuiet_nil ?_
        rintro _ ⟨s, rfl⟩
        have HBq := Aside0.mk (below_then HB.out HB.out.size s.2)
        have HRq := Aside0.mk (Kd.R_below HR.out s.2)
        replace hcb := hcb s
        clear HB HR
        generalize s.1 = wq2 at HBq HRq hcb ⊢
        have HB := HBq
        have HR := HRq
        clear HBq HRq
        go_wp2_with ((with_reducible refine gate_dst (N := 72) rfl ?_); refine Kd.R_append (Kd.int .i64) (w0 := w) w.heap.size rfl _ _ 41 3 (.int .i64 0) 8 rfl Tryz.underlying41 Cc.infoI rfl (by decide) (by decide) v P y [.int .i64 y] (fun _ => True) (fun _ => False) rfl rfl rfl (fun _ h => h.elim) (fun _ _ => trivial) HR.out HB.out HB.out.size (by omega) ?_; intro v4 w4 hr4 hb4 hg4 hat4; have HR4 := Aside0.mk hr4; have HB4 := Aside0.mk hb4; clear hr4 hb4 hg4 hat4)
        go_roundw
        case rel => exact ⟨i, k + 1, P ++ [y], _, by omega, by omega, by simp; omega, rfl, by go_num, rfl, HN, HR4, HB4⟩
        case measure => simp [intOf]; omega
      · have b1 : decide (k < b.length) = false := decide_eq_false hkb
        have HN := Aside0.mk (show uni a b = P by rw [HU.out, uni_end (by omega) (by omega)]; simp)
        go_wp2
        go_ret
        exact ⟨_, rfl, by rw [HN.out]; exact HR.out, HB.out⟩

def JoinOut (w w' : World) (x y : Occ) (e : Ending) : Prop := ∃ v, e = .returned (.agg #[.int .i64 (join x y).f0, .int .i64 (join x y).f1, v]) ∧ (Kd.int .i64).R 3 w' w.heap.size (fun _ => True) v (join x y).f2 ∧ Below w.heap.size w w'
set_option maxHeartbeats 2000000 in
set_option maxRecDepth 100000 in
theorem sJoin_any (x y : Occ) (A B : Option Addr) (ca cb : Nat) (w : World) (hx : IsO w x A ca) (hy : IsO w y B cb) (lx : x.f2.length ≤ 1048576) (ly : y.f2.length ≤ 1048576) :
    Calls Tryz.prog 120 #[.agg #[.int .i64 x.f0, .int .i64 x.f1, .slice A x.f2.length ca], .agg #[.int .i64 y.f0, .int .i64 y.f1, .slice B y.f2.length cb]] w fun e w' => JoinOut w w' x y e := by
  obtain ⟨hb, b0, b1, b2⟩ := boxes3 w #[.int .i64 x.f0, .int .i64 x.f1, .slice A x.f2.length ca] #[.int .i64 y.f0, .int .i64 y.f1, .slice B y.f2.length cb] #[.int .i64 0, .int .i64 0, .slice none 0 0] 43 43 43
  have HX := Aside0.mk (hx.below hb)
  have HY := Aside0.mk (hy.below hb)
  have HB := Aside0.mk hb
  go_enter Tryz.func120, Tryz.ntmps120
  go_wp2
  generalize ((w.alloc (.cells #[.int .i64 x.f0, .int .i64 x.f1, .slice A x.f2.length ca] 43)).alloc (.cells #[.int .i64 y.f0, .int .i64 y.f1, .slice B y.f2.length cb] 43)).alloc (.cells #[.int .i64 0, .int .i64 0, .slice none 0 0] 43) = W at b0 b1 b2 HX HY HB ⊢
  clear hb
  have F : ∀ w', Below W.heap.size W w' → w'.cell? ⟨w.heap.size, 0, none⟩ = some (.int .i64 x.f0) ∧ w'.cell? ⟨w.heap.size, 1, none⟩ = some (.int .i64 x.f1) ∧ w'.cell? ⟨w.heap.size, 2, none⟩ = some (.slice A x.f2.length ca) ∧ w'.cell? ⟨w.heap.size + 1, 0, none⟩ = some (.int .i64 y.f0) ∧ w'.cell? ⟨w.heap.size + 1, 1, none⟩ = some (.int .i64 y.f1) ∧ w'.cell? ⟨w.heap.size + 1, 2, none⟩ = some (.slice B y.f2.length cb) :=
    fun w' h => ⟨pw_cell_below h ((blk_cell b0 0).trans rfl), pw_cell_below h ((blk_cell b0 1).trans rfl), pw_cell_below h ((blk_cell b0 2).trans rfl), pw_cell_below h ((blk_cell b1 0).trans rfl), pw_cell_below h ((blk_cell b1 1).trans rfl), pw_cell_below h ((blk_cell b1 2).trans rfl)⟩
  have k0 := fun w2 => min_any x.f0 y.f0 w2
  have k1 := fun w2 => max_any x.f1 y.f1 w2
  have hn0 : w.heap.size ≠ w.heap.size + 1 + 1 := by omega
  have hn1 : w.heap.size + 1 ≠ w.heap.size + 1 + 1 := by omega
  go_region_held3 (fun w' => w'.cell? ⟨w.heap.size, 0, none⟩ = some (.int .i64 x.f0) ∧ w'.cell? ⟨w.heap.size, 1, none⟩ = some (.int .i64 x.f1) ∧ w'.cell? ⟨w.heap.size, 2, none⟩ = some (.slice A x.f2.length ca) ∧ w'.cell? ⟨w.heap.size + 1, 0, none⟩ = some (.int .i64 y.f0) ∧ w'.cell? ⟨w.heap.size + 1, 1, none⟩ = some (.int .i64 y.f1) ∧ w'.cell? ⟨w.heap.size + 1, 2, none⟩ = some (.slice B y.f2.length cb))
    (first | (with_reducible exact F _ (Below.refl _ _)) | (with_reducible exact F _ (below_drew (Below.refl _ _))) | (with_reducible exact F _ HB5) | (with_reducible exact G5 _ _ _))
    (first
      | (go_at_call 80; refine (k0 _).mono ?_; rintro e w' ⟨rfl, rfl⟩)
      | (go_at_call 130; refine (k1 _).mono ?_; rintro e w' ⟨rfl, rfl⟩)
      | (go_at_call 131; refine (sUni_any A B ca cb x.f2 y.f2 _ lx ly (HX.out.below (below_drew (Below.refl _ _))).2 (HY.out.below (below_drew (Below.refl _ _))).2).mono ?_; rintro e w5 ⟨v5, rfl, hr5, hb5⟩; obtain ⟨A5, c5, rfl⟩ := Kd.R_slice hr5; have HB5 : Below W.heap.size W w5 := keepD hb5; have HR5 := Aside0.mk hr5; have b25 := blk_below b2 HB5; have q0 := (blk_cell b25 0).trans rfl; have q1 := (blk_cell b25 1).trans rfl; have q2 := (blk_cell b25 2).trans rfl; have z0 := blk_frozen b25 0; have z1 := blk_frozen b25 1; have z2 := blk_frozen b25 2; have b05 := blk_below b0 HB5; have b15 := blk_below b1 HB5; have G5 : ∀ u0 u1 u2, (((w5.setCell ⟨w.heap.size + 1 + 1, 0, none⟩ u0).setCell ⟨w.heap.size + 1 + 1, 1, none⟩ u1).setCell ⟨w.heap.size + 1 + 1, 2, none⟩ u2).cell? ⟨w.heap.size, 0, none⟩ = some (.int .i64 x.f0) ∧ (((w5.setCell ⟨w.heap.size + 1 + 1, 0, none⟩ u0).setCell ⟨w.heap.size + 1 + 1, 1, none⟩ u1).setCell ⟨w.heap.size + 1 + 1, 2, none⟩ u2).cell? ⟨w.heap.size, 1, none⟩ = some (.int .i64 x.f1) ∧ (((w5.setCell ⟨w.heap.size + 1 + 1, 0, none⟩ u0).setCell ⟨w.heap.size + 1 + 1, 1, none⟩ u1).setCell ⟨w.heap.size + 1 + 1, 2, none⟩ u2).cell? ⟨w.heap.size, 2, none⟩ = some (.slice A x.f2.length ca) ∧ (((w5.setCell ⟨w.heap.size + 1 + 1, 0, none⟩ u0).setCell ⟨w.heap.size + 1 + 1, 1, none⟩ u1).setCell ⟨w.heap.size + 1 + 1, 2, none⟩ u2).cell? ⟨w.heap.size + 1, 0, none⟩ = some (.int .i64 y.f0) ∧ (((w5.setCell ⟨w.heap.size + 1 + 1, 0, none⟩ u0).setCell ⟨w.heap.size + 1 + 1, 1, none⟩ u1).setCell ⟨w.heap.size + 1 + 1, 2, none⟩ u2).cell? ⟨w.heap.size + 1, 1, none⟩ = some (.int .i64 y.f1) ∧ (((w5.setCell ⟨w.heap.size + 1 + 1, 0, none⟩ u0).setCell ⟨w.heap.size + 1 + 1, 1, none⟩ u1).setCell ⟨w.heap.size + 1 + 1, 2, none⟩ u2).cell? ⟨w.heap.size + 1, 2, none⟩ = some (.slice B y.f2.length cb) := fun u0 u1 u2 => ⟨(far3 hn0).trans ((blk_cell b05 0).trans rfl), (far3 hn0).trans ((blk_cell b05 1).trans rfl), (far3 hn0).trans ((blk_cell b05 2).trans rfl), (far3 hn1).trans ((blk_cell b15 0).trans rfl), (far3 hn1).trans ((blk_cell b15 1).trans rfl), (far3 hn1).trans ((blk_cell b15 2).trans rfl)⟩; clear hr5 hb5))
  all_goals
    go_wp2
    refine bodyPost_ret (results_cell_row rfl _ _ (w.heap.size + 1 + 1) 43 #[.int .i64 (min x.f0 y.f0), .int .i64 (max x.f1 y.f1), .slice A5 (uni x.f2 y.f2).length c5] (0, 0) _ rfl (set3_blk _ _ _ b25) Tryz.underlying43 rfl (by kernel_rfl)) rfl ?_
    exact ⟨_, rfl, Kd.R_lower (set3_R HR5.out b25 (by decide) _ _ _) HB.out.size, set3_below (below_then HB.out HB.out.size HB5) (by omega) _ _ _⟩
end Go.Proofs.YtccenpmaooailaaGreat.Rb

/- The reference's marks of a list. -/
set_option linter.unusedVariables false
set_option linter.unusedSimpArgs false
namespace Go.Proofs.YtccenpmaooailaaGreat.Rc
open Go.RowKit Go.Proofs.YtccenpmaooailaaGreatW.PrintWords Go.Proofs.YtccenpmaooailaaGreat.Wd Go.Proofs.YtccenpmaooailaaGreat.Pu Go.Proofs.YtccenpmaooailaaGreat.Pv Go.Proofs.YtccenpmaooailaaGreat.Ca Go.Proofs.YtccenpmaooailaaGreat.Cb Go.Proofs.YtccenpmaooailaaGreat.Cc Go.Proofs.YtccenpmaooailaaGreat.Cp Go.Proofs.YtccenpmaooailaaGreat.Cd Go.Proofs.YtccenpmaooailaaGreat.Ci Go.Proofs.YtccenpmaooailaaGreat.Ce Go.Proofs.YtccenpmaooailaaGreat.Cf Go.Proofs.YtccenpmaooailaaGreat.Cg Go.Proofs.YtccenpmaooailaaGreat.Sc Go.Proofs.YtccenpmaooailaaGreat.Sh Go.Proofs.YtccenpmaooailaaGreat.Si Go.Proofs.YtccenpmaooailaaGreat.Ia Go.Proofs.YtccenpmaooailaaGreat.Ib Go.Proofs.YtccenpmaooailaaGreat.Ic Go.Proofs.YtccenpmaooailaaGreat.If Go.Proofs.YtccenpmaooailaaGreat.Ij Go.Proofs.YtccenpmaooailaaGreat.Ra Go.Proofs.YtccenpmaooailaaGreat.Rb

theorem infoB : (Tryz.prog.info? 4).map (fun i => (i.zero, i.size, i.bytes)) = some (some (.bool false), 1, 1) := by kernel_rfl
/-- marks, up to place k -/
def bk (can : Occ → Bool) (l : List Occ) (k : Nat) : List Bool := (l.take k).map can ++ List.replicate (l.length - k) false
theorem bk_zero (can : Occ → Bool) (l : List Occ) : bk can l 0 = List.replicate l.length false := by simp [bk]
theorem bk_end (can : Occ → Bool) (l : List Occ) : bk can l l.length = l.map can := by simp [bk]
theorem bk_len (can : Occ → Bool) (l : List Occ) (k : Nat) (h : k ≤ l.length) : (bk can l k).length = l.length := by simp [bk]; omega
theorem bk_set (can : Occ → Bool) (l : List Occ) (k : Nat) (h : k < l.length) : (bk can l k).set k (can (l.getD k zO)) = bk can l (k + 1) := by
  unfold bk
  obtain ⟨m, hm⟩ : ∃ m, l.length - k = m + 1 := ⟨l.length - k - 1, by omega⟩
  have hm2 : l.length - (k + 1) = m := by omega
  rw [take_succ_getD l k zO h, List.map_append, hm, hm2, List.set_append_right _ _ (by simp; omega)]
  have hk : k - ((l.take k).map can).length = 0 := by rw [List.length_map, List.length_take]; omega
  rw [hk]
  simp [List.replicate_succ]
abbrev RB (w wr : World) (v : Value) (bs : List Bool) : Prop := Kd.bool.R 4 wr w.heap.size (fun _ => True) v bs
def MarksOut (w w' : World) (bs : List Bool) (e : Ending) : Prop := ∃ v, e = .returned v ∧ RB w w' v bs ∧ Below w.heap.size w w'

end Go.Proofs.YtccenpmaooailaaGreat.Rc

/- What of a list is paired, and what is left: the reference's. -/
set_option linter.unusedVariables false
set_option linter.unusedSimpArgs false
namespace Go.Proofs.YtccenpmaooailaaGreat.Rd
open Go.RowKit Go.Proofs.YtccenpmaooailaaGreatW.PrintWords Go.Proofs.YtccenpmaooailaaGreat.Wd Go.Proofs.YtccenpmaooailaaGreat.Pu Go.Proofs.YtccenpmaooailaaGreat.Pv Go.Proofs.YtccenpmaooailaaGreat.Ca Go.Proofs.YtccenpmaooailaaGreat.Cb Go.Proofs.YtccenpmaooailaaGreat.Cc Go.Proofs.YtccenpmaooailaaGreat.Cp Go.Proofs.YtccenpmaooailaaGreat.Cd Go.Proofs.YtccenpmaooailaaGreat.Ci Go.Proofs.YtccenpmaooailaaGreat.Ce Go.Proofs.YtccenpmaooailaaGreat.Cf Go.Proofs.YtccenpmaooailaaGreat.Cg Go.Proofs.YtccenpmaooailaaGreat.Sc Go.Proofs.YtccenpmaooailaaGreat.Se Go.Proofs.YtccenpmaooailaaGreat.Sh Go.Proofs.YtccenpmaooailaaGreat.Si Go.Proofs.YtccenpmaooailaaGreat.Ia Go.Proofs.YtccenpmaooailaaGreat.Ib Go.Proofs.YtccenpmaooailaaGreat.Ic Go.Proofs.YtccenpmaooailaaGreat.If Go.Proofs.YtccenpmaooailaaGreat.Ij Go.Proofs.YtccenpmaooailaaGreat.Ra Go.Proofs.YtccenpmaooailaaGreat.Rb Go.Proofs.YtccenpmaooailaaGreat.Rc

theorem atB {w : World} {A : Option Addr} {n : Nat} {xs : List Bool} (h : Kd.bool.C w A n xs) (k : Nat) (hk : k < n) : ∃ ad, A = some ad ∧ w.cell? (ad.add k) = some (.bool (xs.getD k false)) := by
  obtain ⟨ad, c, e, _, hK, hc⟩ := Kd.C_get h false (k : Int) (by omega) (by omega)
  rw [Int.toNat_natCast] at hK hc
  have hc' : ∀ j u, c[j]? = some u → w.cell? (ad.add (k * 1 + j)) = some u := hc
  have hK' : c = [.bool (xs.getD k false)] := hK
  refine ⟨ad, e, ?_⟩
  have := hc' 0 (.bool (xs.getD k false)) (by rw [hK']; rfl)
  simpa using this
theorem map_getD (can : Occ → Bool) (l : List Occ) (k : Nat) (h : k < l.length) : (l.map can).getD k false = can (l.getD k zO) := by
  rw [List.getD_eq_getElem?_getD, List.getD_eq_getElem?_getD, List.getElem?_map, List.getElem?_eq_getElem h]; rfl
def left2 (mode : Int) (can : Occ → Bool) (s0 : Occ) : Occ → Bool := fun x => if mode = 2 then !can x || !decide (x = s0) else !can x
theorem IsL.drop {w : World} {l : List Occ} {ad : Addr} {c m : Nat} (h : IsL w l (some ad) c) (hm : m ≤ l.length) : IsL w (l.drop m) (some (ad.add (m * 3))) (c - m) := by
  refine ⟨by rw [List.length_drop]; have := h.cap; omega, ?_⟩
  have := C_dropF h.rd m hm
  rw [List.length_drop]
  exact this
theorem drop_last {l : List Occ} (h : 0 < l.length) : l.drop (l.length - 1) = [l.getD (l.length - 1) zO] := by
  rw [drop_at l zO (l.length - 1) (by omega), List.drop_of_length_le (by omega)]
structure PickMem (w w' : World) (base : Nat) (v : Value) (p : List Occ × List Occ) (U : Option Addr) (cu : Nat) (r : Value) : Prop where
  rd : IsL w' p.1 U cu
  rest : Rw w' base r p.2
  at_ : r = v ∨ ∀ k, own r k → w.heap.size ≤ k
  bel : Below w.heap.size w w'
def PickOut (w w' : World) (base : Nat) (v : Value) (p : List Occ × List Occ) (e : Ending) : Prop := ∃ U nu cu r, nu = p.1.length ∧ e = .returned (.tuple #[.slice U nu cu, r]) ∧ PickMem w w' base v p U cu r

set_option maxHeartbeats 4000000 in
set_option maxRecDepth 100000 in
theorem pick_any (mode : Int) (hm : 0 ≤ mode ∧ mode ≤ 4) (base : Nat) (A M : Option Addr) (c cm : Nat) (l : List Occ) (can : Occ → Bool) (w : World) (hl : l.length ≤ 1048576) (hR : Rw w base (.slice A l.length c) l) (hM : Kd.bool.C w M l.length (l.map can)) (hbase : base ≤ w.heap.size) :
    Calls Tryz.prog 88 #[.int .i64 mode, .slice A l.length c, .slice M l.length cm] w fun e w' => PickOut w w' base (.slice A l.length c) (pick mode l can) e := by
  have hL : IsL w l A c := (Rw.isL hR).2
  have HR := Aside0.mk hR
  have hE1 := blk_alloc (blk_new w (.cells #[] 43)) (.cells #[] 43)
  have hE2 : ((w.alloc (.cells #[] 43)).alloc (.cells #[] 43)).heap[w.heap.size + 1]? = some (.cells #[] 43 (0, 0)) := by have := blk_new (w.alloc (.cells #[] 43)) (.cells #[] 43); simpa using this
  have HB0 := Aside0.mk (below_alloc (below_alloc (Below.refl w.heap.size w) (.cells #[] 43)) (.cells #[] 43))
  have HF0 : Aside0 (Fx w ((w.alloc (.cells #[] 43)).alloc (.cells #[] 43)) (.slice (some ⟨w.heap.size, 0, none⟩) 0 0) []) := ⟨R_empty _ hE1 (Nat.le_refl _)⟩
  clear hR
  go_enter Tryz.func88, Tryz.ntmps88
  go_wp2
  generalize (w.alloc (.cells #[] 43)).alloc (.cells #[] 43) = W0 at hE2 HB0 HF0 ⊢
  clear hE1
  have bE0 : Aside0 (W0.heap[w.heap.size + 1]? = some (.cells #[] 43 (0, 0))) := ⟨hE2⟩
  clear hE2
  go_loopw [8, 10] (fun v8 vi wr => ∃ (k : Nat) (v : Value), k ≤ l.length ∧ vi = .int .i64 k ∧ v = v8 ∧ Aside0 (Fx w wr v ((l.take k).filter can)) ∧ Aside0 (NeRow (.slice (some ⟨w.heap.size + 1, 0, none⟩) 0 0) v) ∧ Aside0 (wr.heap[w.heap.size + 1]? = some (.cells #[] 43 (0, 0))) ∧ Aside0 (Below w.heap.size w wr)) (fun _ vi _ => l.length - (intOf vi).toNat)
  case atStart => exact ⟨0, _, Nat.zero_le _, rfl, rfl, HF0, ⟨fun k hk h => by simp [Value.ownBlock] at hk h; omega⟩, bE0, HB0⟩
  case round =>
    clear HF0 bE0 HB0
    obtain ⟨k, v, hk, rfl, rfl, HF, HNE, HE, HB⟩ := hrel
    by_cases hlt : k < l.length
    · have g1 : decide (k < l.length) = true := decide_eq_true hlt
      have i1 : (k : Int) < l.length := by omega
      obtain ⟨ad0, A20, c30, rfl, ha0, hb0, hc0, hl20, hC20⟩ := atO hL.rd k hlt
      obtain ⟨am, rfl, hcm⟩ := atB (Kd.C_below hM HB.out) k hlt
      rw [map_getD can l k hlt] at hcm
      have ha := pw_cell_below HB.out ha0
      have hb := pw_cell_below HB.out hb0
      have hc := pw_cell_below HB.out hc0
      have hT := take_succ_getD l k zO hlt
      have hIw : IsO w (l.getD k zO) A20 c30 := ⟨hl20, hC20⟩
      have hln : ((l.take k).filter can).length ≤ k := Nat.le_trans (List.length_filter_le _ _) (by rw [List.length_take]; omega)
      clear hl20 hC20 ha0 hb0 hc0
      generalize l.getD k zO = o at ha hb hc hcm hIw hT
      have HT := Aside0.mk (show (l.take (k + 1)).filter can = if can o then (l.take k).filter can ++ [o] else (l.take k).filter can by rw [hT]; exact filter_snoc _ _ _)
      clear hT
      cases hd : can o with
      | true =>
        rw [hd] at hcm
        go_wp2_with ((with_reducible refine gate_dst (N := 30) rfl ?_); refine Kd.R_append (Kd.fixed kO w) (w0 := w) w.heap.size rfl _ _ 23 43 (.agg #[.int .i64 0, .int .i64 0, .slice none 0 0]) 40 rfl Tryz.underlying23 infoO rfl (szO w) (by decide) v ((l.take k).filter can) o [.int .i64 o.f0, .int .i64 o.f1, .slice A20 o.f2.length c30] (fun _ => True) (fun _ => False) rfl rfl (kO_mk w o hIw.1 hIw.2) (fun _ h => h.elim) (fun _ _ => trivial) HF.out HB.out HB.out.size (by omega) ?_; intro v3 w3 hs3 hb3 hg3 hat3; have HS3 := Aside0.mk hs3; have HB3 := Aside0.mk hb3; have HE3 := Aside0.mk (blk_grown HE.out hg3 (fun h => HNE.out (w.heap.size + 1) rfl h.symm)); have HNE3 : Aside0 (NeRow (.slice (some ⟨w.heap.size + 1, 0, none⟩) 0 0) v3) := ⟨fun j hj h => by rcases hat3 with h2 | ⟨b, h2, h3⟩; exact HNE.out j hj (h2.symm.trans h); rw [h2] at h; injection h with h; simp [Value.ownBlock] at hj; have := blk_lt HE.out; omega⟩; clear hs3 hb3 hg3 hat3)
        go_roundw
        case rel => exact ⟨k + 1, _, by omega, by go_num, rfl, ⟨by rw [HT.out, hd]; exact HS3.out⟩, HNE3, HE3, HB3⟩
        case measure => simp [intOf]; omega
      | false =>
        rw [hd] at hcm
        go_wp2
        go_roundw
        case rel => exact ⟨k + 1, _, by omega, by go_num, rfl, ⟨by rw [HT.out, hd]; exact HF.out⟩, HNE, HE, HB⟩
        case measure => simp [intOf]; omega
    · have hke : k = l.length := by omega
      subst hke
      have g1 : decide (l.length < l.length) = false := decide_eq_false (by omega)
      have hF := HF.out
      rw [List.take_length] at hF
      obtain ⟨U, cu, rfl⟩ := Kd.R_slice hF
      have hUL := (Fx.isL hF HB.out).2
      obtain ⟨s, hs⟩ : ∃ s, s = l.filter can := ⟨_, rfl⟩
      have HPK := Aside0.mk (show pick mode l can = (if s.length = 0 then (s, l) else if mode = 0 then (s, l) else if mode = 1 then ([s.getD (s.length - 1) zO], l) else if mode = 2 then (s.take 1, l.filter (left2 2 can (s.getD 0 zO))) else (s, l.filter (left2 3 can zO))) by rw [hs]; unfold pick left2; simp only [if_true, show ¬ ((3 : Int) = 2) by decide, if_false])
      have hsl : s.length ≤ l.length := by rw [hs]; exact List.length_filter_le _ _
      have hF2 := hF
      rw [← hs] at hUL hF2 HNE ⊢
      have HU := Aside0.mk hUL
      have HR2 := Aside0.mk (Kd.R_below HR.out HB.out)
      have HFs := Aside0.mk hF2
      clear hs hF hUL HF hF2
      by_cases h0 : s.length = 0
      · have d0 : ((s.length : Int) == 0) = true := by simp [h0]
        have d00 : (s.length : Int) = 0 := by omega
        have HP := Aside0.mk (show PickOut w wr base (.slice A l.length c) (pick mode l can) (.returned (.tuple #[.slice U s.length cu, .slice A l.length c])) from ⟨U, s.length, cu, _, by rw [HPK.out, if_pos h0], rfl, ⟨by rw [HPK.out, if_pos h0]; exact HU.out, by rw [HPK.out, if_pos h0]; exact HR2.out, .inl rfl, HB.out⟩⟩)
        go_wp2
        go_ret2
        exact HP.out
      have d0 : ((s.length : Int) == 0) = false := by rw [beq_eq_false_iff_ne]; omega
      have d00 : ¬ ((s.length : Int) = 0) := by omega
      by_cases m0 : mode = 0
      · subst m0
        have HP := Aside0.mk (show PickOut w wr base (.slice A l.length c) (pick 0 l can) (.returned (.tuple #[.slice U s.length cu, .slice A l.length c])) from ⟨U, s.length, cu, _, by rw [HPK.out, if_neg h0]; rfl, rfl, ⟨by rw [HPK.out, if_neg h0]; exact HU.out, by rw [HPK.out, if_neg h0]; exact HR2.out, .inl rfl, HB.out⟩⟩)
        go_wp2
        go_ret2
        exact HP.out
      have e0 : (mode == 0) = false := by rw [beq_eq_false_iff_ne]; omega
      by_cases m1 : mode = 1
      · subst m1
        obtain ⟨gU, rfl⟩ : ∃ gU, U = some gU := by
          obtain ⟨ad, e, _⟩ := HU.out.rd.2.2 (by omega)
          exact ⟨ad, e⟩
        obtain ⟨n, hn⟩ : ∃ n, s.length = n + 1 := ⟨s.length - 1, by omega⟩
        obtain ⟨A', hcut, hA'⟩ := cutO (some gU) s.length cu n (by omega)
        have hcap := HU.out.cap
        have hAe : A' = some (gU.add (n * 3)) := hA' (by omega)
        have hdr := IsL.drop HU.out (m := n) (by omega)
        have hdl := drop_last (l := s) (by omega)
        rw [hn, Nat.add_sub_cancel] at hdl
        rw [hdl] at hdr
        have HP := Aside0.mk (show PickOut w wr base (.slice A l.length c) (pick 1 l can) (.returned (.tuple #[.slice A' 1 (cu - n), .slice A l.length c])) from ⟨A', 1, cu - n, _, by rw [HPK.out, if_neg h0]; rfl, rfl, ⟨by rw [HPK.out, if_neg h0, hn, Nat.add_sub_cancel, hAe]; exact hdr, by rw [HPK.out, if_neg h0]; exact HR2.out, .inl rfl, HB.out⟩⟩)
        have hcut2 : ∀ W, (Instr.slice 23 (.slice (some gU) (n + 1) cu) (some (.int .i64 (n : Int))) none none).run Tryz.prog W = .ok (.slice A' 1 (cu - n)) W := by
          intro W
          have h := hcut W
          rw [hn, Nat.add_sub_cancel_left] at h
          exact h
        have w1' : IntKind.i64.wrap (n : Int) = n := by rw [IntKind.wrap_i64]; omega
        have w2' : IntKind.i64.wrap ((n : Int) + 1 - 1) = n := by rw [IntKind.wrap_i64]; omega
        have w3' : IntKind.i64.wrap ((n : Int) + 1) = (n : Int) + 1 := by rw [IntKind.wrap_i64]; omega
        have z0 : (0 : Int) ≤ n := by omega
        have z1 : (n : Int) ≤ n + 1 := by omega
        rw [hn] at d0 d00 ⊢
        clear hcut hA' hAe hdr hdl hn hcap
        go_wp2
        go_ret2
        exact HP.out
      have e1 : (mode == 1) = false := by rw [beq_eq_false_iff_ne]; omega
      obtain ⟨gl0, capl0, hv0, hbl0, hgl0, hcl0⟩ := Kd.R_form HR.out (by omega)
      cases hv0
      clear hcl0
      by_cases m2 : mode = 2
      · subst m2
        have HPK2 := Aside0.mk (show pick 2 l can = (s.take 1, l.filter (left2 2 can (s.getD 0 zO))) by rw [HPK.out, if_neg h0, if_neg m0, if_neg m1, if_pos rfl])
        obtain ⟨gU, rfl⟩ : ∃ gU, U = some gU := by
          obtain ⟨ad, e, _⟩ := HU.out.rd.2.2 (by omega)
          exact ⟨ad, e⟩
        have htk : ∀ W, (Instr.slice 23 (.slice (some gU) s.length cu) none (some (.int .i64 1)) none).run Tryz.prog W = .ok (.slice (some gU) 1 cu) W := fun W => take_any gU s.length cu 1 (by have := HU.out.cap; omega) W
        have u1 : (1 : Int) ≤ cu := by have := HU.out.cap; omega
        go_wp2
        go_loopw [9, 11] (fun v9 vi wr2 => ∃ (k : Nat) (v : Value), k ≤ l.length ∧ vi = .int .i64 k ∧ v = v9 ∧ Aside0 (Rw wr2 base v ((l.take k).filter (left2 2 can (s.getD 0 zO)))) ∧ Aside0 (∀ j, own v j → w.heap.size ≤ j) ∧ Aside0 (Fx w wr2 (.slice (some gU) s.length cu) s) ∧ Aside0 (NeRow (.slice (some gU) s.length cu) v) ∧ Aside0 (Below w.heap.size w wr2)) (fun _ vi _ => l.length - (intOf vi).toNat)
        case atStart => exact ⟨0, _, Nat.zero_le _, rfl, rfl, ⟨by simpa using (R_empty kO HE.out (by omega) : Rw wr base (.slice (some ⟨w.heap.size + 1, 0, none⟩) 0 0) [])⟩, ⟨fun j hj => by simp [own, Value.ownBlock] at hj; omega⟩, HFs, ⟨fun j hj h => HNE.out j h hj⟩, HB⟩
        case round =>
          clear HFs HE HNE HB HR2 HU
          obtain ⟨k, v, hk, rfl, rfl, HV, HVB, HFs, HNE, HB⟩ := hrel
          by_cases hlt : k < l.length
          · have g1 : decide (k < l.length) = true := decide_eq_true hlt
            have i1 : (k : Int) < l.length := by omega
            obtain ⟨cs, hcs, hMk, hcc, hfz⟩ := Kd.R_elem HR.out zO (k : Int) (by omega) (by omega)
            simp only [Int.toNat_natCast] at hMk hcc hfz
            obtain ⟨adz, A20, c30, e0x, haz, hbz, hcz, hl20, hC20⟩ := atO hL.rd k hlt
            cases e0x
            obtain ⟨vk, hcsk, hvk⟩ := kO_openM hMk
            have hvs : vk = .slice A20 (l.getD k zO).f2.length c30 := by
              have h1 := hcc 2 _ (by rw [hcsk]; rfl)
              have h2 : w.cell? ⟨gl0, k * 3 + 2, none⟩ = some (.slice A20 (l.getD k zO).f2.length c30) := by rw [add_plain] at hcz; simpa using hcz
              rw [show k * kO.sz + 2 = k * 3 + 2 from rfl, h2] at h1
              injection h1 with h1
              exact h1.symm
            rw [hvs] at hcsk
            rw [hcsk] at hMk hcc
            have ha0 : w.cell? ⟨gl0, k * 3, none⟩ = some (.int .i64 (l.getD k zO).f0) := hcc 0 _ rfl
            have hb0 : w.cell? ⟨gl0, k * 3 + 1, none⟩ = some (.int .i64 (l.getD k zO).f1) := hcc 1 _ rfl
            have hc0 : w.cell? ⟨gl0, k * 3 + 2, none⟩ = some (.slice A20 (l.getD k zO).f2.length c30) := hcc 2 _ rfl
            obtain ⟨am, rfl, hcm⟩ := atB (Kd.C_below hM HB.out) k hlt
            rw [map_getD can l k hlt] at hcm
            have ha := pw_cell_below HB.out ha0
            have hb := pw_cell_below HB.out hb0
            have hc := pw_cell_below HB.out hc0
            have hT := take_succ_getD l k zO hlt
            have hIo : IsO wr (l.getD k zO) A20 c30 := IsO.below ⟨hl20, hC20⟩ HB.out
            have hln : ((l.take k).filter (left2 2 can (s.getD 0 zO))).length ≤ k := Nat.le_trans (List.length_filter_le _ _) (by rw [List.length_take]; omega)
            have HM0 : Aside0 (kO.M w base (fun j => j < w.heap.size) (l.getD k zO) [.int .i64 (l.getD k zO).f0, .int .i64 (l.getD k zO).f1, .slice A20 (l.getD k zO).f2.length c30]) := ⟨kO.M_mono (fun j hj => hj.2.2.1) (kO.M_bound hMk)⟩
            clear hl20 hC20 ha0 hb0 hc0 hvk hcsk hvs hMk hcc hfz hcs haz hbz hcz
            generalize l.getD k zO = o at ha hb hc hcm hIo hT HM0
            have HT := Aside0.mk (show (l.take (k + 1)).filter (left2 2 can (s.getD 0 zO)) = if (left2 2 can (s.getD 0 zO)) o then (l.take k).filter (left2 2 can (s.getD 0 zO)) ++ [o] else (l.take k).filter (left2 2 can (s.getD 0 zO)) by rw [hT]; exact filter_snoc _ _ _)
            clear hT
            obtain ⟨bs, A4, c4, e4, sa, sb, sc, sl4, sC⟩ := atO (Fx.isL HFs.out HB.out).2.rd 0 (by omega)
            cases e4
            have hI4 : IsO wr (s.getD 0 zO) A4 c4 := ⟨sl4, sC⟩
            rw [Nat.zero_mul, add0] at sa sb sc
            clear sl4 sC
            cases hd : can o with
            | false =>
              have HQT := Aside0.mk (show left2 2 can (s.getD 0 zO) o = true by unfold left2; rw [if_pos rfl, hd]; rfl)
              rw [hd] at hcm
              clear sa sb sc hI4
              go_wp2
              have ha_e := fun s : Ext wr => cellE ha s
              have hb_e := fun s : Ext wr => cellE hb s
              have hc_e := fun s : Ext wr => cellE hc s
              have hcm_e := fun s : Ext wr => cellE hcm s
              clear ha hb hc hcm
              refine region_ext (W := wr) (Below.refl _ _) (by kernel_rfl) (by kernel_rfl) ?_
              repeat (first | go_big_quiet_step (fail) | quiet_step (fail))
              refine wpQuiet_nil ?_
              rintro _ ⟨sx, rfl⟩
              have HBq := Aside0.mk (below_then HB.out HB.out.size sx.2)
              have HVq := Aside0.mk (Kd.R_below HV.out sx.2)
              have HFq := Aside0.mk (Kd.R_below HFs.out sx.2)
              have ha := ha_e sx
              have hb := hb_e sx
              have hc := hc_e sx
              have hcm := hcm_e sx
              clear HB HV HFs ha_e hb_e hc_e hcm_e
              generalize sx.1 = wq at HBq HVq HFq ha hb hc hcm ⊢
              go_wp2_with ((with_reducible refine gate_dst (N := 85) rfl ?_); refine Kd.R_append kO (w0 := w) base rfl _ _ 23 43 (.agg #[.int .i64 0, .int .i64 0, .slice none 0 0]) 40 rfl Tryz.underlying23 infoO rfl (by decide) (by decide) v ((l.take k).filter (left2 2 can (s.getD 0 zO))) o [.int .i64 o.f0, .int .i64 o.f1, .slice A20 o.f2.length c30] (fun _ => True) (fun j => j < w.heap.size) rfl rfl (Kd.M_below HM0.out HBq.out) (fun j hj => ⟨trivial, fun h => by have := HVB.out j h.symm; omega⟩) (fun _ _ => trivial) HVq.out (Below.mono HBq.out hbase) (Nat.le_trans hbase HBq.out.size) (by omega) ?_; intro v3 w3 hs3 hb3 hg3 hat3; have HS3 := Aside0.mk hs3; have HB3 : Aside0 (Below w.heap.size w w3) := ⟨Below.grown HBq.out hg3 HBq.out.size (fun j hj => HVB.out j hj)⟩; have HVB3 : Aside0 (∀ j, own v3 j → w.heap.size ≤ j) := ⟨fun j hj => by rcases hat3 with h2 | ⟨b, h2, h3⟩; exact HVB.out j (h2.symm.trans hj); rw [show v3.ownBlock = some j from hj] at h2; injection h2 with h2; have := HBq.out.size; omega⟩; have HF3 : Aside0 (Fx w w3 (.slice (some gU) s.length cu) s) := ⟨Kd.R_mono (Kd.R_grown (Kd.R_tight rfl HFq.out) hg3 (fun j hj e => HNE.out j hj.symm e.symm)) (fun _ _ => trivial)⟩; have HNE3 : Aside0 (NeRow (.slice (some gU) s.length cu) v3) := ⟨fun j hj h => by rcases hat3 with h2 | ⟨b, h2, h3⟩; exact HNE.out j hj (h2.symm.trans h); rw [h2] at h; injection h with h; have := Kd.R_lt HFq.out j hj; omega⟩; clear hs3 hb3 hg3 hat3)
              go_roundw
              case rel => exact ⟨k + 1, _, by omega, by go_num, rfl, ⟨by rw [HT.out, if_pos (by first | exact HQT.out | exact rfl)]; exact HS3.out⟩, HVB3, HF3, HNE3, HB3⟩
              case measure => simp [intOf]; omega
            | true =>
              rw [hd] at hcm
              have hcl3 := fun sx : Ext wr => sSame_any o (s.getD 0 zO) A20 A4 c30 c4 sx.1 (hIo.ext sx) (hI4.ext sx)
              cases hs0 : decide (cmpO o (s.getD 0 zO) = 0) with
              | true =>
                have HQT := Aside0.mk (show left2 2 can (s.getD 0 zO) o = false by unfold left2; rw [if_pos rfl, hd, decide_eq_true ((cmpO_eq _ _).1 (of_decide_eq_true hs0))]; rfl)
                simp only [hs0] at hcl3
                clear hs0
                go_wp2
                have ha_e := fun s : Ext wr => cellE ha s
                have hb_e := fun s : Ext wr => cellE hb s
                have hc_e := fun s : Ext wr => cellE hc s
                have hcm_e := fun s : Ext wr => cellE hcm s
                have sa_e := fun s : Ext wr => cellE sa s
                have sb_e := fun s : Ext wr => cellE sb s
                have sc_e := fun s : Ext wr => cellE sc s
                clear ha hb hc hcm sa sb sc
                refine region_ext (W := wr) (Below.refl _ _) (by kernel_rfl) (by kernel_rfl) ?_
                repeat (first | go_big_quiet_step ((go_at_call 95; exact calls_ext (hcl3 _))) | quiet_step ((go_at_call 95; exact calls_ext (hcl3 _))))
                refine wpQuiet_nil ?_
                rintro _ ⟨sx, rfl⟩
                have HBq := Aside0.mk (below_then HB.out HB.out.size sx.2)
                have HVq := Aside0.mk (Kd.R_below HV.out sx.2)
                have HFq := Aside0.mk (Kd.R_below HFs.out sx.2)
                have ha := ha_e sx
                have hb := hb_e sx
                have hc := hc_e sx
                have hcm := hcm_e sx
                have sa := sa_e sx
                have sb := sb_e sx
                have sc := sc_e sx
                clear HB HV HFs ha_e hb_e hc_e hcm_e sa_e sb_e sc_e hcl3
                generalize sx.1 = wq at HBq HVq HFq ha hb hc hcm sa sb sc ⊢
                go_wp2
                go_roundw
                case rel => exact ⟨k + 1, _, by omega, by go_num, rfl, ⟨by rw [HT.out, if_neg (by rw [HQT.out]; decide)]; exact HVq.out⟩, HVB, HFq, HNE, HBq⟩
                case measure => simp [intOf]; omega
              | false =>
                have HQT := Aside0.mk (show left2 2 can (s.getD 0 zO) o = true by unfold left2; rw [if_pos rfl, hd, decide_eq_false (fun e => of_decide_eq_false hs0 ((cmpO_eq _ _).2 e))]; rfl)
                simp only [hs0] at hcl3
                clear hs0
                go_wp2
                have ha_e := fun s : Ext wr => cellE ha s
                have hb_e := fun s : Ext wr => cellE hb s
                have hc_e := fun s : Ext wr => cellE hc s
                have hcm_e := fun s : Ext wr => cellE hcm s
                have sa_e := fun s : Ext wr => cellE sa s
                have sb_e := fun s : Ext wr => cellE sb s
                have sc_e := fun s : Ext wr => cellE sc s
                clear ha hb hc hcm sa sb sc
                refine region_ext (W := wr) (Below.refl _ _) (by kernel_rfl) (by kernel_rfl) ?_
                repeat (first | go_big_quiet_step ((go_at_call 95; exact calls_ext (hcl3 _))) | quiet_step ((go_at_call 95; exact calls_ext (hcl3 _))))
                refine wpQuiet_nil ?_
                rintro _ ⟨sx, rfl⟩
                have HBq := Aside0.mk (below_then HB.out HB.out.size sx.2)
                have HVq := Aside0.mk (Kd.R_below HV.out sx.2)
                have HFq := Aside0.mk (Kd.R_below HFs.out sx.2)
                have ha := ha_e sx
                have hb := hb_e sx
                have hc := hc_e sx
                have hcm := hcm_e sx
                have sa := sa_e sx
                have sb := sb_e sx
                have sc := sc_e sx
                clear HB HV HFs ha_e hb_e hc_e hcm_e sa_e sb_e sc_e hcl3
                generalize sx.1 = wq at HBq HVq HFq ha hb hc hcm sa sb sc ⊢
                go_wp2_with ((with_reducible refine gate_dst (N := 85) rfl ?_); refine Kd.R_append kO (w0 := w) base rfl _ _ 23 43 (.agg #[.int .i64 0, .int .i64 0, .slice none 0 0]) 40 rfl Tryz.underlying23 infoO rfl (by decide) (by decide) v ((l.take k).filter (left2 2 can (s.getD 0 zO))) o [.int .i64 o.f0, .int .i64 o.f1, .slice A20 o.f2.length c30] (fun _ => True) (fun j => j < w.heap.size) rfl rfl (Kd.M_below HM0.out HBq.out) (fun j hj => ⟨trivial, fun h => by have := HVB.out j h.symm; omega⟩) (fun _ _ => trivial) HVq.out (Below.mono HBq.out hbase) (Nat.le_trans hbase HBq.out.size) (by omega) ?_; intro v3 w3 hs3 hb3 hg3 hat3; have HS3 := Aside0.mk hs3; have HB3 : Aside0 (Below w.heap.size w w3) := ⟨Below.grown HBq.out hg3 HBq.out.size (fun j hj => HVB.out j hj)⟩; have HVB3 : Aside0 (∀ j, own v3 j → w.heap.size ≤ j) := ⟨fun j hj => by rcases hat3 with h2 | ⟨b, h2, h3⟩; exact HVB.out j (h2.symm.trans hj); rw [show v3.ownBlock = some j from hj] at h2; injection h2 with h2; have := HBq.out.size; omega⟩; have HF3 : Aside0 (Fx w w3 (.slice (some gU) s.length cu) s) := ⟨Kd.R_mono (Kd.R_grown (Kd.R_tight rfl HFq.out) hg3 (fun j hj e => HNE.out j hj.symm e.symm)) (fun _ _ => trivial)⟩; have HNE3 : Aside0 (NeRow (.slice (some gU) s.length cu) v3) := ⟨fun j hj h => by rcases hat3 with h2 | ⟨b, h2, h3⟩; exact HNE.out j hj (h2.symm.trans h); rw [h2] at h; injection h with h; have := Kd.R_lt HFq.out j hj; omega⟩; clear hs3 hb3 hg3 hat3)
                go_roundw
                case rel => exact ⟨k + 1, _, by omega, by go_num, rfl, ⟨by rw [HT.out, if_pos (by first | exact HQT.out | exact rfl)]; exact HS3.out⟩, HVB3, HF3, HNE3, HB3⟩
                case measure => simp [intOf]; omega
          · have hke : k = l.length := by omega
            subst hke
            have g1 : decide (l.length < l.length) = false := decide_eq_false (by omega)
            have hV := HV.out
            rw [List.take_length] at hV
            have hls := IsL.take (Fx.isL HFs.out HB.out).2 (m := 1) (by omega)
            have HP := Aside0.mk (show PickOut w wr base (.slice (some ⟨gl0, 0, none⟩) l.length c) (pick 2 l can) (.returned (.tuple #[.slice (some gU) 1 cu, v])) from ⟨some gU, 1, cu, v, by rw [HPK2.out]; show 1 = (s.take 1).length; rw [List.length_take]; omega, rfl, ⟨by rw [HPK2.out]; exact hls, by rw [HPK2.out]; exact hV, .inr HVB.out, HB.out⟩⟩)
            clear hls
            go_wp2
            go_ret2
            exact HP.out
      · have e2 : (mode == 2) = false := by rw [beq_eq_false_iff_ne]; omega
        go_wp2
        go_loopw [9, 11] (fun v9 vi wr2 => ∃ (k : Nat) (v : Value), k ≤ l.length ∧ vi = .int .i64 k ∧ v = v9 ∧ Aside0 (Rw wr2 base v ((l.take k).filter (left2 3 can zO))) ∧ Aside0 (∀ j, own v j → w.heap.size ≤ j) ∧ Aside0 (Fx w wr2 (.slice U s.length cu) s) ∧ Aside0 (NeRow (.slice U s.length cu) v) ∧ Aside0 (Below w.heap.size w wr2)) (fun _ vi _ => l.length - (intOf vi).toNat)
        case atStart => exact ⟨0, _, Nat.zero_le _, rfl, rfl, ⟨by simpa using (R_empty kO HE.out (by omega) : Rw wr base (.slice (some ⟨w.heap.size + 1, 0, none⟩) 0 0) [])⟩, ⟨fun j hj => by simp [own, Value.ownBlock] at hj; omega⟩, HFs, ⟨fun j hj h => HNE.out j h hj⟩, HB⟩
        case round =>
          clear HFs HE HNE HB HR2 HU
          obtain ⟨k, v, hk, rfl, rfl, HV, HVB, HFs, HNE, HB⟩ := hrel
          by_cases hlt : k < l.length
          · have g1 : decide (k < l.length) = true := decide_eq_true hlt
            have i1 : (k : Int) < l.length := by omega
            obtain ⟨cs, hcs, hMk, hcc, hfz⟩ := Kd.R_elem HR.out zO (k : Int) (by omega) (by omega)
            simp only [Int.toNat_natCast] at hMk hcc hfz
            obtain ⟨adz, A20, c30, e0x, haz, hbz, hcz, hl20, hC20⟩ := atO hL.rd k hlt
            cases e0x
            obtain ⟨vk, hcsk, hvk⟩ := kO_openM hMk
            have hvs : vk = .slice A20 (l.getD k zO).f2.length c30 := by
              have h1 := hcc 2 _ (by rw [hcsk]; rfl)
              have h2 : w.cell? ⟨gl0, k * 3 + 2, none⟩ = some (.slice A20 (l.getD k zO).f2.length c30) := by rw [add_plain] at hcz; simpa using hcz
              rw [show k * kO.sz + 2 = k * 3 + 2 from rfl, h2] at h1
              injection h1 with h1
              exact h1.symm
            rw [hvs] at hcsk
            rw [hcsk] at hMk hcc
            have ha0 : w.cell? ⟨gl0, k * 3, none⟩ = some (.int .i64 (l.getD k zO).f0) := hcc 0 _ rfl
            have hb0 : w.cell? ⟨gl0, k * 3 + 1, none⟩ = some (.int .i64 (l.getD k zO).f1) := hcc 1 _ rfl
            have hc0 : w.cell? ⟨gl0, k * 3 + 2, none⟩ = some (.slice A20 (l.getD k zO).f2.length c30) := hcc 2 _ rfl
            obtain ⟨am, rfl, hcm⟩ := atB (Kd.C_below hM HB.out) k hlt
            rw [map_getD can l k hlt] at hcm
            have ha := pw_cell_below HB.out ha0
            have hb := pw_cell_below HB.out hb0
            have hc := pw_cell_below HB.out hc0
            have hT := take_succ_getD l k zO hlt
            have hIo : IsO wr (l.getD k zO) A20 c30 := IsO.below ⟨hl20, hC20⟩ HB.out
            have hln : ((l.take k).filter (left2 3 can zO)).length ≤ k := Nat.le_trans (List.length_filter_le _ _) (by rw [List.length_take]; omega)
            have HM0 : Aside0 (kO.M w base (fun j => j < w.heap.size) (l.getD k zO) [.int .i64 (l.getD k zO).f0, .int .i64 (l.getD k zO).f1, .slice A20 (l.getD k zO).f2.length c30]) := ⟨kO.M_mono (fun j hj => hj.2.2.1) (kO.M_bound hMk)⟩
            clear hl20 hC20 ha0 hb0 hc0 hvk hcsk hvs hMk hcc hfz hcs haz hbz hcz
            generalize l.getD k zO = o at ha hb hc hcm hIo hT HM0
            have HT := Aside0.mk (show (l.take (k + 1)).filter (left2 3 can zO) = if (left2 3 can zO) o then (l.take k).filter (left2 3 can zO) ++ [o] else (l.take k).filter (left2 3 can zO) by rw [hT]; exact filter_snoc _ _ _)
            clear hT
            cases hd : can o with
            | false =>
              have HQT := Aside0.mk (show left2 3 can zO o = true by unfold left2; rw [if_neg (by decide), hd]; rfl)
              rw [hd] at hcm
              go_wp2
              have ha_e := fun s : Ext wr => cellE ha s
              have hb_e := fun s : Ext wr => cellE hb s
              have hc_e := fun s : Ext wr => cellE hc s
              have hcm_e := fun s : Ext wr => cellE hcm s
              clear ha hb hc hcm
              refine region_ext (W := wr) (Below.refl _ _) (by kernel_rfl) (by kernel_rfl) ?_
              repeat (first | go_big_quiet_step (fail) | quiet_step (fail))
              refine wpQuiet_nil ?_
              rintro _ ⟨sx, rfl⟩
              have HBq := Aside0.mk (below_then HB.out HB.out.size sx.2)
              have HVq := Aside0.mk (Kd.R_below HV.out sx.2)
              have HFq := Aside0.mk (Kd.R_below HFs.out sx.2)
              have ha := ha_e sx
              have hb := hb_e sx
              have hc := hc_e sx
              have hcm := hcm_e sx
              clear HB HV HFs ha_e hb_e hc_e hcm_e
              generalize sx.1 = wq at HBq HVq HFq ha hb hc hcm ⊢
              go_wp2_with ((with_reducible refine gate_dst (N := 85) rfl ?_); refine Kd.R_append kO (w0 := w) base rfl _ _ 23 43 (.agg #[.int .i64 0, .int .i64 0, .slice none 0 0]) 40 rfl Tryz.underlying23 infoO rfl (by decide) (by decide) v ((l.take k).filter (left2 3 can zO)) o [.int .i64 o.f0, .int .i64 o.f1, .slice A20 o.f2.length c30] (fun _ => True) (fun j => j < w.heap.size) rfl rfl (Kd.M_below HM0.out HBq.out) (fun j hj => ⟨trivial, fun h => by have := HVB.out j h.symm; omega⟩) (fun _ _ => trivial) HVq.out (Below.mono HBq.out hbase) (Nat.le_trans hbase HBq.out.size) (by omega) ?_; intro v3 w3 hs3 hb3 hg3 hat3; have HS3 := Aside0.mk hs3; have HB3 : Aside0 (Below w.heap.size w w3) := ⟨Below.grown HBq.out hg3 HBq.out.size (fun j hj => HVB.out j hj)⟩; have HVB3 : Aside0 (∀ j, own v3 j → w.heap.size ≤ j) := ⟨fun j hj => by rcases hat3 with h2 | ⟨b, h2, h3⟩; exact HVB.out j (h2.symm.trans hj); rw [show v3.ownBlock = some j from hj] at h2; injection h2 with h2; have := HBq.out.size; omega⟩; have HF3 : Aside0 (Fx w w3 (.slice U s.length cu) s) := ⟨Kd.R_mono (Kd.R_grown (Kd.R_tight rfl HFq.out) hg3 (fun j hj e => HNE.out j hj.symm e.symm)) (fun _ _ => trivial)⟩; have HNE3 : Aside0 (NeRow (.slice U s.length cu) v3) := ⟨fun j hj h => by rcases hat3 with h2 | ⟨b, h2, h3⟩; exact HNE.out j hj (h2.symm.trans h); rw [h2] at h; injection h with h; have := Kd.R_lt HFq.out j hj; omega⟩; clear hs3 hb3 hg3 hat3)
              go_roundw
              case rel => exact ⟨k + 1, _, by omega, by go_num, rfl, ⟨by rw [HT.out, if_pos (by first | exact HQT.out | exact rfl)]; exact HS3.out⟩, HVB3, HF3, HNE3, HB3⟩
              case measure => simp [intOf]; omega
            | true =>
              have HQT := Aside0.mk (show left2 3 can zO o = false by unfold left2; rw [if_neg (by decide), hd]; rfl)
              rw [hd] at hcm
              go_wp2
              have ha_e := fun s : Ext wr => cellE ha s
              have hb_e := fun s : Ext wr => cellE hb s
              have hc_e := fun s : Ext wr => cellE hc s
              have hcm_e := fun s : Ext wr => cellE hcm s
              clear ha hb hc hcm
              refine region_ext (W := wr) (Below.refl _ _) (by kernel_rfl) (by kernel_rfl) ?_
              repeat (first | go_big_quiet_step (fail) | quiet_step (fail))
              refine wpQuiet_nil ?_
              rintro _ ⟨sx, rfl⟩
              have HBq := Aside0.mk (below_then HB.out HB.out.size sx.2)
              have HVq := Aside0.mk (Kd.R_below HV.out sx.2)
              have HFq := Aside0.mk (Kd.R_below HFs.out sx.2)
              have ha := ha_e sx
              have hb := hb_e sx
              have hc := hc_e sx
              have hcm := hcm_e sx
              clear HB HV HFs ha_e hb_e hc_e hcm_e
              generalize sx.1 = wq at HBq HVq HFq ha hb hc hcm ⊢
              go_wp2
              go_roundw
              case rel => exact ⟨k + 1, _, by omega, by go_num, rfl, ⟨by rw [HT.out, if_neg (by rw [HQT.out]; decide)]; exact HVq.out⟩, HVB, HFq, HNE, HBq⟩
              case measure => simp [intOf]; omega
          · have hke : k = l.length := by omega
            subst hke
            have g1 : decide (l.length < l.length) = false := decide_eq_false (by omega)
            have hV := HV.out
            rw [List.take_length] at hV
            have HP := Aside0.mk (show PickOut w wr base (.slice (some ⟨gl0, 0, none⟩) l.length c) (pick mode l can) (.returned (.tuple #[.slice U s.length cu, v])) from ⟨U, s.length, cu, v, by rw [HPK.out, if_neg h0, if_neg m0, if_neg m1, if_neg m2], rfl, ⟨by rw [HPK.out, if_neg h0, if_neg m0, if_neg m1, if_neg m2]; exact (Fx.isL HFs.out HB.out).2, by rw [HPK.out, if_neg h0, if_neg m0, if_neg m1, if_neg m2]; exact hV, .inr HVB.out, HB.out⟩⟩)
            go_wp2
            go_ret2
            exact HP.out
end Go.Proofs.YtccenpmaooailaaGreat.Rd

/- What is found of some and of one: the reference's. -/
set_option linter.unusedVariables false
set_option linter.unusedSimpArgs false
namespace Go.Proofs.YtccenpmaooailaaGreat.Re
open Go.RowKit Go.Proofs.YtccenpmaooailaaGreatW.PrintWords Go.Proofs.YtccenpmaooailaaGreat.Wd Go.Proofs.YtccenpmaooailaaGreat.Pu Go.Proofs.YtccenpmaooailaaGreat.Pv Go.Proofs.YtccenpmaooailaaGreat.Ca Go.Proofs.YtccenpmaooailaaGreat.Cb Go.Proofs.YtccenpmaooailaaGreat.Cc Go.Proofs.YtccenpmaooailaaGreat.Cp Go.Proofs.YtccenpmaooailaaGreat.Cd Go.Proofs.YtccenpmaooailaaGreat.Ci Go.Proofs.YtccenpmaooailaaGreat.Ce Go.Proofs.YtccenpmaooailaaGreat.Cf Go.Proofs.YtccenpmaooailaaGreat.Cg Go.Proofs.YtccenpmaooailaaGreat.Sc Go.Proofs.YtccenpmaooailaaGreat.Se Go.Proofs.YtccenpmaooailaaGreat.Sh Go.Proofs.YtccenpmaooailaaGreat.Si Go.Proofs.YtccenpmaooailaaGreat.Sp Go.Proofs.YtccenpmaooailaaGreat.Ia Go.Proofs.YtccenpmaooailaaGreat.Ib Go.Proofs.YtccenpmaooailaaGreat.Ic Go.Proofs.YtccenpmaooailaaGreat.Id Go.Proofs.YtccenpmaooailaaGreat.If Go.Proofs.YtccenpmaooailaaGreat.Ij Go.Proofs.YtccenpmaooailaaGreat.Ra Go.Proofs.YtccenpmaooailaaGreat.Rb Go.Proofs.YtccenpmaooailaaGreat.Rc Go.Proofs.YtccenpmaooailaaGreat.Rd

def MakeOut (w w' : World) (l : List Occ) (e : Ending) : Prop := ∃ v, e = .returned v ∧ Rw w' w.heap.size v l ∧ Below w.heap.size w w'
set_option maxHeartbeats 4000000 in
set_option maxRecDepth 100000 in
theorem make_any (mode : Int) (U B : Option Addr) (cu cb : Nat) (s : List Occ) (o : Occ) (w : World) (hs : ∀ x ∈ s, IsOk x) (hok : IsOk o) (hl : s.length ≤ 1048576) (hU : IsL w s U cu) (ho : IsO w o B cb) :
    Calls Tryz.prog 91 #[.int .i64 mode, .slice U s.length cu, .agg #[.int .i64 o.f0, .int .i64 o.f1, .slice B o.f2.length cb]] w fun e w' => MakeOut w w' (make mode s o) e := by
  have bO := blk_alloc (blk_new w (.cells #[.int .i64 o.f0, .int .i64 o.f1, .slice B o.f2.length cb] 43)) (.cells #[] 43)
  have bE : ((w.alloc (.cells #[.int .i64 o.f0, .int .i64 o.f1, .slice B o.f2.length cb] 43)).alloc (.cells #[] 43)).heap[w.heap.size + 1]? = some (.cells #[] 43 (0, 0)) := by
    have := blk_new (w.alloc (.cells #[.int .i64 o.f0, .int .i64 o.f1, .slice B o.f2.length cb] 43)) (.cells #[] 43)
    simpa using this
  have HB0 := Aside0.mk (below_alloc (below_alloc (Below.refl w.heap.size w) (.cells #[.int .i64 o.f0, .int .i64 o.f1, .slice B o.f2.length cb] 43)) (.cells #[] 43))
  have HU := Aside0.mk hU
  have HO := Aside0.mk ho
  have HK := Aside0.mk hok
  have HS := Aside0.mk hs
  clear hU ho hok hs
  by_cases h0 : s.length = 0
  · have d0 : ((s.length : Int) == 0) = true := by simp [h0]
    have HE := Aside0.mk (show make mode s o = [] by unfold make; rw [if_pos h0])
    go_enter Tryz.func91, Tryz.ntmps91
    go_wp2
    go_ret
    exact ⟨_, rfl, by rw [HE.out]; exact R_empty kO bE (by omega), HB0.out⟩
  have d0 : ((s.length : Int) == 0) = false := by rw [beq_eq_false_iff_ne]; omega
  have d00 : ¬ ((s.length : Int) = 0) := by omega
  have HR0 : Aside0 (Rw ((w.alloc (.cells #[.int .i64 o.f0, .int .i64 o.f1, .slice B o.f2.length cb] 43)).alloc (.cells #[] 43)) (w.heap.size + 1) (.slice (some ⟨w.heap.size + 1, 0, none⟩) 0 0) []) := ⟨R_empty kO bE (Nat.le_refl _)⟩
  by_cases m4 : mode = 4
  · subst m4
    have HE := Aside0.mk (show make 4 s o = [s.foldl join o] by unfold make; rw [if_neg h0, if_pos rfl])
    go_enter Tryz.func91, Tryz.ntmps91
    go_upto_region 5 with fail
    generalize (w.alloc (.cells #[.int .i64 o.f0, .int .i64 o.f1, .slice B o.f2.length cb] 43)).alloc (.cells #[] 43) = W0 at bO bE HB0 HR0 ⊢
    have o0 := (blk_cell bO 0).trans rfl
    have o1 := (blk_cell bO 1).trans rfl
    have o2 := (blk_cell bO 2).trans rfl
    have bX0 := blk_new W0 (.cells #[.int .i64 o.f0, .int .i64 o.f1, .slice B o.f2.length cb] 43)
    have HB1 := Aside0.mk (below_then HB0.out HB0.out.size (below_alloc (Below.refl _ _) (.cells #[.int .i64 o.f0, .int .i64 o.f1, .slice B o.f2.length cb] 43)))
    have bE1 := blk_alloc bE (.cells #[.int .i64 o.f0, .int .i64 o.f1, .slice B o.f2.length cb] 43)
    have hWs : w.heap.size + 1 < W0.heap.size := blk_lt bE
    go_upto_region 6 with fail
    obtain ⟨X, hX⟩ : ∃ X, X = W0.heap.size := ⟨_, rfl⟩
    rw [← hX] at bX0 hWs ⊢
    generalize W0.alloc (.cells #[.int .i64 o.f0, .int .i64 o.f1, .slice B o.f2.length cb] 43) = W1 at bX0 HB1 bE1 ⊢
    clear hX o0 o1 o2 bO bE HB0 HR0
    go_wp2
    go_loopw [9] (fun vi wr => ∃ (k : Nat) (x : Occ) (Ax : Option Addr) (cx : Nat), k ≤ s.length ∧ vi = .int .i64 k ∧ Aside0 (x = (s.take k).foldl join o ∧ IsOk x) ∧ Aside0 (IsO wr x Ax cx ∧ (0 < k → ∃ v0, v0 = .slice Ax x.f2.length cx ∧ (Kd.int .i64).R 3 wr (w.heap.size + 1) (fun _ => True) v0 x.f2)) ∧ Aside0 (wr.heap[X]? = some (.cells #[.int .i64 x.f0, .int .i64 x.f1, .slice Ax x.f2.length cx] 43 (0, 0))) ∧ Aside0 (wr.heap[w.heap.size + 1]? = some (.cells #[] 43 (0, 0))) ∧ Aside0 (Below w.heap.size w wr)) (fun vi _ => s.length - (intOf vi).toNat)
    case atStart => exact ⟨0, o, B, cb, Nat.zero_le _, rfl, ⟨by simp, HK.out⟩, ⟨HO.out.below HB1.out, fun h => absurd h (Nat.lt_irrefl _)⟩, ⟨bX0⟩, ⟨bE1⟩, HB1⟩
    case round =>
      clear bX0 bE1 HB1
      obtain ⟨k, x, Ax, cx, hk, rfl, HX, HI, HBX, HEB, HB⟩ := hrel
      have bX := HBX.out
      by_cases hlt : k < s.length
      · have g1 : decide (k < s.length) = true := decide_eq_true hlt
        have i1 : (k : Int) < s.length := by omega
        obtain ⟨ad, A3, c3, rfl, pa, pb, pc, pl, pC⟩ := atO HU.out.rd k hlt
        have hIw : IsO w (s.getD k zO) A3 c3 := ⟨pl, pC⟩
        have hy := HS.out _ (getD_mem (l := s) (i := k) hlt)
        have hT := take_succ_getD s k zO hlt
        have hlo : (ad.add (k * 3)).block < w.heap.size := World.block_lt_of_cell? w _ pa
        have qa := pw_cell_below HB.out pa
        have qb := pw_cell_below HB.out pb
        have qc := pw_cell_below HB.out pc
        have hIy := hIw.below HB.out
        generalize s.getD k zO = y at qa qb qc hIy hy hT
        have HT := Aside0.mk hT
        have HY := Aside0.mk hy
        have HIy := Aside0.mk hIy
        clear pl pC hy hT pa pb pc hIw hIy
        have hXw : w.heap.size + 1 < X := hWs
        have F : ∀ w', Below wr.heap.size wr w' → w'.cell? ⟨X, 0, none⟩ = some (.int .i64 x.f0) ∧ w'.cell? ⟨X, 1, none⟩ = some (.int .i64 x.f1) ∧ w'.cell? ⟨X, 2, none⟩ = some (.slice Ax x.f2.length cx) ∧ w'.cell? (ad.add (k * 3)) = some (.int .i64 y.f0) ∧ w'.cell? ⟨(ad.add (k * 3)).block, (ad.add (k * 3)).off + 1, none⟩ = some (.int .i64 y.f1) ∧ w'.cell? ⟨(ad.add (k * 3)).block, (ad.add (k * 3)).off + 2, none⟩ = some (.slice A3 y.f2.length c3) :=
          fun w' h => ⟨pw_cell_below h ((blk_cell bX 0).trans rfl), pw_cell_below h ((blk_cell bX 1).trans rfl), pw_cell_below h ((blk_cell bX 2).trans rfl), pw_cell_below h qa, pw_cell_below h qb, pw_cell_below h qc⟩
        go_upto_region 9 with fail
        have hnX : (ad.add (k * 3)).block ≠ X := by omega
        have x0 := (blk_cell bX 0).trans rfl
        have x1 := (blk_cell bX 1).trans rfl
        have x2 := (blk_cell bX 2).trans rfl
        go_still_tail 5, (by kernel_rfl)
        change wpList _ _ _ _ _ wr.drew
        go_wp2_with (go_at_call 120; refine (sJoin_any x y Ax A3 cx c3 _ (HI.out.1.below (below_drew (Below.refl _ _))) (HIy.out.below (below_drew (Below.refl _ _))) (isOk_big HX.out.2) (isOk_big HY.out)).mono ?_; rintro e wj ⟨vj, rfl, hj, hbj⟩; obtain ⟨Aj, cj, rfl⟩ := Kd.R_slice hj; have HBj : Below wr.heap.size wr wj := keepD hbj; have bXj := blk_below bX HBj; have q0 := (blk_cell bXj 0).trans rfl; have q1 := (blk_cell bXj 1).trans rfl; have q2 := (blk_cell bXj 2).trans rfl; have z0 := blk_frozen bXj 0; have z1 := blk_frozen bXj 1; have z2 := blk_frozen bXj 2; have HJ := Aside0.mk hj; clear hj hbj)
        have r3 := set3_R HJ.out bXj (by decide) (.int .i64 (join x y).f0) (.int .i64 (join x y).f1) (.slice Aj (join x y).f2.length cj)
        have b3 := set3_blk (.int .i64 (join x y).f0) (.int .i64 (join x y).f1) (.slice Aj (join x y).f2.length cj) bXj
        have hq := Kd.R_reads' r3
        have HE4 := Aside0.mk (show (set3 wj X (.int .i64 (join x y).f0) (.int .i64 (join x y).f1) (.slice Aj (join x y).f2.length cj)).heap[w.heap.size + 1]? = some (.cells #[] 43 (0, 0)) from blk_far (blk_far (blk_far (blk_below HEB.out HBj) (p := ⟨X, 0, none⟩) (show w.heap.size + 1 ≠ X by omega) _) (p := ⟨X, 1, none⟩) (show w.heap.size + 1 ≠ X by omega) _) (p := ⟨X, 2, none⟩) (show w.heap.size + 1 ≠ X by omega) _)
        have HB4 := Aside0.mk (set3_below (below_then HB.out HB.out.size HBj) (show w.heap.size ≤ X by omega) (.int .i64 (join x y).f0) (.int .i64 (join x y).f1) (.slice Aj (join x y).f2.length cj))
        have hge : w.heap.size + 1 ≤ wr.heap.size := by have := blk_lt bX; omega
        go_roundw
        case rel => exact ⟨k + 1, join x y, Aj, cj, by omega, by go_num, ⟨by rw [HT.out, List.foldl_append, ← HX.out.1]; rfl, isOk_join HX.out.2 HY.out⟩, ⟨⟨hq.2.1, hq.2.2⟩, fun _ => ⟨_, rfl, Kd.R_lower r3 hge⟩⟩, ⟨b3⟩, HE4, HB4⟩
        case measure => simp [intOf]; omega
      · have hke : k = s.length := by omega
        subst hke
        have g1 : decide (s.length < s.length) = false := decide_eq_false (by omega)
        have hX := HX.out.1
        rw [List.take_length] at hX
        obtain ⟨v0, hv0, hr0⟩ := HI.out.2 (by omega)
        subst hv0
        have b0 := (blk_cell bX 0).trans rfl
        have b1 := (blk_cell bX 1).trans rfl
        have b2 := (blk_cell bX 2).trans rfl
        have HXE := Aside0.mk hX
        have HVT := Aside0.mk (Kd.R_mono (Kd.R_types hr0 HEB.out (by decide)) (fun j hj => Ne.symm hj.2))
        have hXs := blk_lt bX
        have hge : w.heap.size + 1 ≤ wr.heap.size := by omega
        clear hX hr0
        go_wp2_with ((with_reducible refine gate_dst (N := 34) rfl ?_); refine Kd.R_append kO (w0 := wr) (w.heap.size + 1) rfl _ _ 23 43 (.agg #[.int .i64 0, .int .i64 0, .slice none 0 0]) 40 rfl Tryz.underlying23 infoO rfl (by decide) (by decide) (.slice (some ⟨w.heap.size + 1, 0, none⟩) 0 0) [] x [.int .i64 x.f0, .int .i64 x.f1, .slice Ax x.f2.length cx] (fun _ => True) (fun j => w.heap.size + 1 ≠ j) rfl rfl (kO_mkM _ _ _ x HVT.out) (fun j hj => ⟨trivial, fun h => hj (by simpa [Value.ownBlock] using h.symm)⟩) (fun _ _ => trivial) (R_empty kO HEB.out (Nat.le_refl _)) (Below.refl _ _) hge (by simp) ?_; intro v4 w4 hr4 hb4 hg4 hat4; have HR4 := Aside0.mk hr4; have HB4 : Aside0 (Below w.heap.size w w4) := ⟨Below.grown HB.out hg4 HB.out.size (fun j hj => by simp [Value.ownBlock] at hj; omega)⟩; clear hr4 hb4 hg4 hat4)
        go_ret
        exact ⟨v4, rfl, by rw [HE.out, ← HXE.out]; exact Kd.R_lower HR4.out (by omega), HB4.out⟩
  have e4 : (mode == 4) = false := by rw [beq_eq_false_iff_ne]; omega
  have HE := Aside0.mk (show make mode s o = putAll [] (s.map (fun x => join x o)) by unfold make; rw [if_neg h0, if_neg m4])
  go_enter Tryz.func91, Tryz.ntmps91
  go_wp2
  generalize (w.alloc (.cells #[.int .i64 o.f0, .int .i64 o.f1, .slice B o.f2.length cb] 43)).alloc (.cells #[] 43) = W0 at bO bE HB0 HR0 ⊢
  clear bE
  go_loopw [7, 10] (fun v7 vi wr => ∃ (k : Nat) (v : Value), k ≤ s.length ∧ vi = .int .i64 k ∧ v = v7 ∧ Aside0 (Rw wr (w.heap.size + 1) v (putAll [] ((s.take k).map (fun x => join x o)))) ∧ Aside0 (wr.heap[w.heap.size]? = some (.cells #[.int .i64 o.f0, .int .i64 o.f1, .slice B o.f2.length cb] 43 (0, 0))) ∧ Aside0 (Below w.heap.size w wr)) (fun _ vi _ => s.length - (intOf vi).toNat)
  case atStart => exact ⟨0, _, Nat.zero_le _, rfl, rfl, by simpa [putAll] using HR0, ⟨bO⟩, HB0⟩
  case round =>
    clear HR0 bO HB0
    obtain ⟨k, v, hk, rfl, rfl, HR, HBO, HB⟩ := hrel
    by_cases hlt : k < s.length
    · have g1 : decide (k < s.length) = true := decide_eq_true hlt
      have i1 : (k : Int) < s.length := by omega
      obtain ⟨ad, A3, c3, rfl, pa, pb, pc, pl, pC⟩ := atO HU.out.rd k hlt
      have hIy : IsO wr (s.getD k zO) A3 c3 := IsO.below ⟨pl, pC⟩ HB.out
      have hy := HS.out _ (getD_mem (l := s) (i := k) hlt)
      have hT := take_succ_getD s k zO hlt
      have hln := len_putAll1 [] ((s.take k).map (fun x => join x o))
      rw [List.length_map, List.length_take] at hln
      have hall : ∀ x ∈ s.take k, IsOk x := fun x hx => HS.out x (List.mem_of_mem_take hx)
      have hsk : AreOk (putAll [] ((s.take k).map (fun x => join x o))) := AreOk.nil.putAll (fun x hx => by obtain ⟨z, hz, rfl⟩ := List.mem_map.1 hx; exact isOk_join (hall z hz) HK.out)
      generalize s.getD k zO = y at pa pb pc hIy hy hT
      have HT := Aside0.mk (show putAll [] ((s.take (k + 1)).map (fun x => join x o)) = put (putAll [] ((s.take k).map (fun x => join x o))) (join y o) by rw [hT, List.map_append, putAll_append]; rfl)
      have HY := Aside0.mk hy
      have HIy := Aside0.mk hIy
      have HSK := Aside0.mk hsk
      have HIo := Aside0.mk (HO.out.below HB.out)
      have b0 := (blk_cell HBO.out 0).trans rfl
      have b1 := (blk_cell HBO.out 1).trans rfl
      have b2 := (blk_cell HBO.out 2).trans rfl
      have hOs := blk_lt HBO.out
      clear pl pC hy hT hall hsk hIy
      generalize putAll [] ((s.take k).map (fun x => join x o)) = L at *
      go_upto_region 14 with fail
      have F : ∀ w' : World, Below w.heap.size w w' → w'.cell? (ad.add (k * 3)) = some (.int .i64 y.f0) ∧ w'.cell? ⟨(ad.add (k * 3)).block, (ad.add (k * 3)).off + 1, none⟩ = some (.int .i64 y.f1) ∧ w'.cell? ⟨(ad.add (k * 3)).block, (ad.add (k * 3)).off + 2, none⟩ = some (.slice A3 y.f2.length c3) := fun w' h => ⟨pw_cell_below h pa, pw_cell_below h pb, pw_cell_below h pc⟩
      have G : ∀ w' : World, w'.heap[w.heap.size]? = some (.cells #[.int .i64 o.f0, .int .i64 o.f1, .slice B o.f2.length cb] 43 (0, 0)) → w'.cell? ⟨w.heap.size, 0, none⟩ = some (.int .i64 o.f0) ∧ w'.cell? ⟨w.heap.size, 1, none⟩ = some (.int .i64 o.f1) ∧ w'.cell? ⟨w.heap.size, 2, none⟩ = some (.slice B o.f2.length cb) := fun w' h => ⟨(blk_cell h 0).trans rfl, (blk_cell h 1).trans rfl, (blk_cell h 2).trans rfl⟩
      have F0 : (wr.cell? (ad.add (k * 3)) = some (.int .i64 y.f0) ∧ wr.cell? ⟨(ad.add (k * 3)).block, (ad.add (k * 3)).off + 1, none⟩ = some (.int .i64 y.f1) ∧ wr.cell? ⟨(ad.add (k * 3)).block, (ad.add (k * 3)).off + 2, none⟩ = some (.slice A3 y.f2.length c3)) ∧ (wr.cell? ⟨w.heap.size, 0, none⟩ = some (.int .i64 o.f0) ∧ wr.cell? ⟨w.heap.size, 1, none⟩ = some (.int .i64 o.f1) ∧ wr.cell? ⟨w.heap.size, 2, none⟩ = some (.slice B o.f2.length cb)) := ⟨F _ HB.out, G _ HBO.out⟩
      have F1 : (wr.drew.cell? (ad.add (k * 3)) = some (.int .i64 y.f0) ∧ wr.drew.cell? ⟨(ad.add (k * 3)).block, (ad.add (k * 3)).off + 1, none⟩ = some (.int .i64 y.f1) ∧ wr.drew.cell? ⟨(ad.add (k * 3)).block, (ad.add (k * 3)).off + 2, none⟩ = some (.slice A3 y.f2.length c3)) ∧ (wr.drew.cell? ⟨w.heap.size, 0, none⟩ = some (.int .i64 o.f0) ∧ wr.drew.cell? ⟨w.heap.size, 1, none⟩ = some (.int .i64 o.f1) ∧ wr.drew.cell? ⟨w.heap.size, 2, none⟩ = some (.slice B o.f2.length cb)) := F0
      clear b0 b1 b2
      go_region_held3 (fun w' => (w'.cell? (ad.add (k * 3)) = some (.int .i64 y.f0) ∧ w'.cell? ⟨(ad.add (k * 3)).block, (ad.add (k * 3)).off + 1, none⟩ = some (.int .i64 y.f1) ∧ w'.cell? ⟨(ad.add (k * 3)).block, (ad.add (k * 3)).off + 2, none⟩ = some (.slice A3 y.f2.length c3)) ∧ (w'.cell? ⟨w.heap.size, 0, none⟩ = some (.int .i64 o.f0) ∧ w'.cell? ⟨w.heap.size, 1, none⟩ = some (.int .i64 o.f1) ∧ w'.cell? ⟨w.heap.size, 2, none⟩ = some (.slice B o.f2.length cb)))
        (first | (with_reducible exact F0) | (with_reducible exact F1) | (with_reducible exact ⟨F _ HBw.out, G _ HBOj.out⟩) | (with_reducible exact ⟨F _ HB3.out, G _ HBO3.out⟩))
        (first
        | (go_at_call 81; refine (oPut_any wr (w.heap.size + 1) (fun _ => True) v L Aj cj (join y o) _ HBj.out HSK.out.sorted (by simp at hln; omega) HRj.out HIj.out (isOk_big (isOk_join HY.out HK.out)) (Nat.le_trans (Nat.succ_le_of_lt hOs) HBj.out.size) (fun _ _ => trivial)).mono ?_; rintro e w3 ⟨v3, rfl, hr3, hg3, hat3⟩; have HR3 := Aside0.mk hr3; have hbv := Kd.R_base HRj.out; have HBO3 := Aside0.mk (blk_grown (blk_below HBO.out HBj.out) hg3 (fun h => by have := hbv _ h.symm; omega)); have HB3 : Aside0 (Below w.heap.size w w3) := ⟨Below.grown (below_then HB.out HB.out.size HBj.out) hg3 (Nat.le_trans HB.out.size HBj.out.size) (fun j hj => by have := hbv j hj; omega)⟩; clear hr3 hg3 hat3 hbv)
        | (go_at_call 120; refine (sJoin_any y o A3 B c3 cb _ (HIy.out.below (below_drew (Below.refl _ _))) (HIo.out.below (below_drew (Below.refl _ _))) (isOk_big HY.out) (isOk_big HK.out)).mono ?_; rintro e wj ⟨vj, rfl, hj, hbj⟩; obtain ⟨Aj, cj, rfl⟩ := Kd.R_slice hj; have HBj : Aside0 (Below wr.heap.size wr wj) := ⟨keepD hbj⟩; have hjq := Kd.R_reads' hj; have HBw := Aside0.mk (below_then HB.out HB.out.size HBj.out); have HBOj := Aside0.mk (blk_below HBO.out HBj.out); have HIj : Aside0 (IsO wj (join y o) Aj cj) := ⟨⟨hjq.2.1, hjq.2.2⟩⟩; have HRj := Aside0.mk (Kd.R_below HR.out HBj.out); clear hj hbj hjq))
      go_wp2
      go_roundw
      case rel => exact ⟨k + 1, v3, by omega, by go_num, rfl, ⟨by rw [HT.out]; exact HR3.out⟩, HBO3, HB3⟩
      case measure => simp [intOf]; omega
    · have hke : k = s.length := by omega
      subst hke
      have g1 : decide (s.length < s.length) = false := decide_eq_false (by omega)
      have hR := HR.out
      rw [List.take_length] at hR
      have HR2 := Aside0.mk hR
      clear hR
      go_wp2
      go_ret
      exact ⟨v, rfl, by rw [HE.out]; exact Kd.R_lower HR2.out (by omega), HB.out⟩
end Go.Proofs.YtccenpmaooailaaGreat.Re

/- The reference's own lists whose elements came in or were made. -/
set_option linter.unusedVariables false
set_option linter.unusedSimpArgs false
namespace Go.Proofs.YtccenpmaooailaaGreat.Ya
open Go.RowKit Go.Proofs.YtccenpmaooailaaGreatW.PrintWords Go.Proofs.YtccenpmaooailaaGreat.Wd Go.Proofs.YtccenpmaooailaaGreat.Pu Go.Proofs.YtccenpmaooailaaGreat.Pv Go.Proofs.YtccenpmaooailaaGreat.Ca Go.Proofs.YtccenpmaooailaaGreat.Cb Go.Proofs.YtccenpmaooailaaGreat.Cc Go.Proofs.YtccenpmaooailaaGreat.Cp Go.Proofs.YtccenpmaooailaaGreat.Cd Go.Proofs.YtccenpmaooailaaGreat.Ci Go.Proofs.YtccenpmaooailaaGreat.Ce Go.Proofs.YtccenpmaooailaaGreat.Cf Go.Proofs.YtccenpmaooailaaGreat.Cg Go.Proofs.YtccenpmaooailaaGreat.Sc Go.Proofs.YtccenpmaooailaaGreat.Sh Go.Proofs.YtccenpmaooailaaGreat.Si Go.Proofs.YtccenpmaooailaaGreat.Sp Go.Proofs.YtccenpmaooailaaGreat.Ia Go.Proofs.YtccenpmaooailaaGreat.Ib Go.Proofs.YtccenpmaooailaaGreat.Ic Go.Proofs.YtccenpmaooailaaGreat.Id Go.Proofs.YtccenpmaooailaaGreat.Ie Go.Proofs.YtccenpmaooailaaGreat.If Go.Proofs.YtccenpmaooailaaGreat.Ig Go.Proofs.YtccenpmaooailaaGreat.Ih Go.Proofs.YtccenpmaooailaaGreat.Ij Go.Proofs.YtccenpmaooailaaGreat.Ik Go.Proofs.YtccenpmaooailaaGreat.Ra Go.Proofs.YtccenpmaooailaaGreat.Rb Go.Proofs.YtccenpmaooailaaGreat.Rc Go.Proofs.YtccenpmaooailaaGreat.Sj

abbrev Xw (Wz w : World) (base : Nat) (v : Value) (l : List Occ) : Prop := (kX Wz).R 43 w base (fun _ => True) v l
variable {Wz : World}
theorem Xw.of {w : World} {base : Nat} {v : Value} {l : List Occ} (h : Rw w base v l) : Xw Wz w base v l :=
  Kd.R_imp (d := kO) (d' := kX Wz) rfl (fun w base ok x cs h => by obtain ⟨v, rfl, g⟩ := kO_openM h; exact kX_made x g) h
theorem Xw.keep {S : Nat → Prop} {w w' : World} {base : Nat} {v : Value} {l : List Occ} (h : Xw Wz w base v l) (hf : Fr S w w') (h1 : ∀ k, own v k → ¬ S k) (h2 : NotInt w S) : Xw Wz w' base v l := by
  have h3 : (kX Wz).R 43 w base (fun k => ¬ S k) v l := R_split h h1 (fun k q cells _ _ hlt hq hc hs => by
    obtain ⟨cs, t, ht, he⟩ := h2 k hs hlt
    rw [hc] at he
    injection he with he
    injection he with _ e2 _
    have hq2 : q = 3 := by simpa using (show q ∈ [3] from hq)
    exact ht (by rw [← e2, hq2]))
  exact Kd.R_mono (Kd.R_step h3 (fun k hk hlt => hf.block k hlt hk)) (fun _ _ => trivial)
theorem Xw.typed {w : World} {base : Nat} {v : Value} {l : List Occ} (h : Xw Wz w base v l) : NotInt w (own v) := fun k hk _ => by
  obtain ⟨cells, hc⟩ := Kd.R_typed h k hk
  exact ⟨cells, 43, by decide, hc⟩
theorem Xw.len {w : World} {base : Nat} {A : Option Addr} {n c : Nat} {l : List Occ} (h : Xw Wz w base (.slice A n c) l) : n = l.length := (Kd.R_reads' h).1
theorem Xw.isL {w : World} {base : Nat} {A : Option Addr} {n c : Nat} {l : List Occ} (hW : Below Wz.heap.size Wz w) (h : Xw Wz w base (.slice A n c) l) : IsL w l A c := by
  have hq := Kd.R_reads' h
  exact ⟨by have := hq.2.1; have := hq.1; omega, X_O hW hq.2.2⟩
theorem Xw.below {w w' : World} {base : Nat} {v : Value} {l : List Occ} (h : Xw Wz w base v l) (hb : Below w.heap.size w w') : Xw Wz w' base v l := Kd.R_below h hb
theorem Xw.lt {w : World} {base : Nat} {v : Value} {l : List Occ} (h : Xw Wz w base v l) : ∀ k, own v k → k < w.heap.size := Kd.R_lt h
theorem Xw.base {w : World} {base : Nat} {v : Value} {l : List Occ} (h : Xw Wz w base v l) : ∀ k, own v k → base ≤ k := Kd.R_base h
theorem Xw.slice {w : World} {base : Nat} {v : Value} {l : List Occ} (h : Xw Wz w base v l) : ∃ A c, v = .slice A l.length c := Kd.R_slice h
/-- two values' own blocks differ -/
def Nq (u v : Value) : Prop := ∀ k, own u k → ¬ own v k
theorem Nq.symm {u v : Value} (h : Nq u v) : Nq v u := fun k h1 h2 => h k h2 h1
theorem Nq.fresh {u v : Value} {n : Nat} (h : ∀ k, own u k → k < n) (g : ∀ k, own v k → n ≤ k) : Nq u v := fun k h1 h2 => by have := h k h1; have := g k h2; omega
theorem Nq.at_ {u v v' : Value} {n : Nat} (h : Nq u v) (hu : ∀ k, own u k → k < n) (ha : At' v v' n) : Nq u v' := fun k h1 h2 => by
  rcases ha with e | ⟨b, e, hb⟩
  · exact h k h1 (e.symm.trans h2)
  · have := hu k h1
    have h3 : some b = some k := e.symm.trans h2
    injection h3 with h3
    omega
/-- another list's growth keeps a list -/
theorem Xw.other {w w' : World} {base base2 : Nat} {u v : Value} {l m : List Occ} (h : Xw Wz w base u l) (g : Xw Wz w base2 v m) (hg : w.grownBy w' v.ownBlock) (hn : Nq u v) : Xw Wz w' base u l :=
  Xw.keep h (Fr.of_grown hg (S := own v) (fun k e => e.symm)) hn (Xw.typed g)
theorem Fr.bel {S : Nat → Prop} {w w' : World} (hW : Below Wz.heap.size Wz w) (hf : Fr S w w') (hS : ∀ k, S k → Wz.heap.size ≤ k) : Below Wz.heap.size Wz w' :=
  ⟨hf.os.trans hW.os, hf.tape.trans hW.tape, hf.output.trans hW.output, Nat.le_trans hW.size hf.size, fun k hk => (hf.block k (Nat.lt_of_lt_of_le hk hW.size) (fun hs => by have := hS k hs; omega)).trans (hW.block k hk)⟩
theorem Xw.read {w : World} {base base2 : Nat} {u : Value} {A : Option Addr} {n c : Nat} {l m : List Occ} (hW : Below Wz.heap.size Wz w) (hb2 : Wz.heap.size ≤ base) (h : Xw Wz w base u l) (g : Xw Wz w base2 (.slice A n c) m) (hn : Nq (.slice A n c) u) : ∀ W, Fr (own u) w W → IsL W m A c :=
  fun W hf => Xw.isL (Fr.bel hW hf (fun k hk => by have := Xw.base h k hk; omega)) (Xw.keep g hf hn (Xw.typed h))
theorem Xw.set {w : World} {base P : Nat} {u : Value} {l : List Occ} {cells : Array Value} {t : TypeId} (h : Xw Wz w base u l) (b : w.heap[P]? = some (.cells cells t (0, 0))) (ht : ∀ q, q ∈ 43 :: kO.E → q ≠ t) (j : Nat) (x : Value) : Xw Wz (w.setCell ⟨P, j, none⟩ x) base u l := Kd.R_set h b ht j x
def XGrow (Wz w w' : World) (base : Nat) (v : Value) (l : List Occ) (e : Ending) : Prop := ∃ v', e = .returned v' ∧ Xw Wz w' base v' l ∧ w.grownBy w' v.ownBlock ∧ At' v v' w.heap.size

set_option maxHeartbeats 1000000 in
set_option maxRecDepth 100000 in
theorem xmerge_any (Wz : World) (base : Nat) (v : Value) (a : List Occ) (B : Option Addr) (cb : Nat) (b : List Occ) (w : World) (ha : AreOk a) (hb : ∀ x ∈ b, IsOk x) (hl : a.length + b.length ≤ 1048576) (hW : Below Wz.heap.size Wz w) (hWb : Wz.heap.size ≤ base) (hR : Xw Wz w base v a) (hB : ∀ W, Fr (own v) w W → IsL W b B cb) (hbase : base ≤ w.heap.size) :
    Calls Tryz.prog 90 #[v, .slice B b.length cb] w fun e w' => XGrow Wz w w' base v (putAll a b) e := by
  have HBB := Aside0.mk hB
  clear hB
  go_enter Tryz.func90, Tryz.ntmps90
  go_wp2
  go_loopw [0, 5] (fun v0 vi wr => ∃ (k : Nat) (v1 : Value), k ≤ b.length ∧ vi = .int .i64 k ∧ v1 = v0 ∧ Aside0 (Xw Wz wr base v1 (putAll a (b.take k))) ∧ Aside0 (w.grownBy wr v.ownBlock) ∧ Aside0 (At' v v1 w.heap.size)) (fun _ vi _ => b.length - (intOf vi).toNat)
  case atStart => exact ⟨0, _, Nat.zero_le _, rfl, rfl, ⟨by simpa [putAll] using hR⟩, ⟨World.grownBy.refl _ _⟩, ⟨.inl rfl⟩⟩
  case round =>
    obtain ⟨k, v1, hk, rfl, rfl, HR, HG, HAT⟩ := hrel
    by_cases hlt : k < b.length
    · have g1 : decide (k < b.length) = true := decide_eq_true hlt
      have hI := HBB.out wr (Fr.of_grown HG.out (fun k e => e.symm))
      obtain ⟨ad, A2, c3, rfl, pa, pb, pc, pl, pC⟩ := atO hI.rd k hlt
      have hIo : IsO wr (b.getD k zO) A2 c3 := ⟨pl, pC⟩
      have hy := hb _ (getD_mem (l := b) (i := k) hlt)
      have hT := take_succ_getD b k zO hlt
      have hln := len_putAll1 a (b.take k)
      rw [List.length_take] at hln
      generalize b.getD k zO = o at pa pb pc hIo hy hT
      have HT := Aside0.mk (show putAll a (b.take (k + 1)) = put (putAll a (b.take k)) o by rw [hT, putAll_append]; rfl)
      have hsk : AreOk (putAll a (b.take k)) := ha.putAll (fun x hx => hb x (List.mem_of_mem_take hx))
      have HSK := Aside0.mk hsk
      have HBW : Aside0 (Below Wz.heap.size Wz wr) := ⟨Fr.bel hW (Fr.of_grown (S := own v) HG.out (fun k e => e.symm)) (fun k hk => by have := Xw.base hR k hk; omega)⟩
      have HIo := Aside0.mk hIo
      have HY := Aside0.mk hy
      clear pl pC hy hT hI hsk hIo
      generalize putAll a (b.take k) = L at *
      go_wp2_with (go_at_call 81; refine (sPut_any Wz base (fun _ => True) v1 L A2 c3 o _ HBW.out HSK.out.sorted (by omega) HR.out HIo.out (isOk_big HY.out) (Nat.le_trans hbase HG.out.size) (fun _ _ => trivial)).mono ?_; rintro e w2 ⟨v2, rfl, hr2, hg2, hat2⟩; have HR2 := Aside0.mk hr2; have HG2 := Aside0.mk hg2; have HAT2 := Aside0.mk (at_trans HAT.out hat2 HG.out.size); clear hr2 hg2 hat2)
      go_roundw
      case rel => exact ⟨k + 1, v2, by omega, by go_num, rfl, ⟨by rw [HT.out]; exact HR2.out⟩, ⟨grown_new HG.out HG2.out (fun j hj => by
        rcases HAT.out with h | ⟨b2, h1, h2⟩
        · rw [h] at hj; exact .inr hj.symm
        · rw [h1] at hj; injection hj with hj; exact .inl (by omega))⟩, HAT2⟩
      case measure => simp [intOf]; omega
    · have hke : k = b.length := by omega
      subst hke
      have g1 : decide (b.length < b.length) = false := decide_eq_false (by omega)
      have hR2 := HR.out
      rw [List.take_length] at hR2
      go_wp2
      go_ret
      exact ⟨v1, rfl, hR2, HG.out, HAT.out⟩
end Go.Proofs.YtccenpmaooailaaGreat.Ya

/- What of a list is paired, and what is left: the reference's, of lists whose elements came in or were made. -/
set_option linter.unusedVariables false
set_option linter.unusedSimpArgs false
namespace Go.Proofs.YtccenpmaooailaaGreat.Yd
open Go.RowKit Go.Proofs.YtccenpmaooailaaGreatW.PrintWords Go.Proofs.YtccenpmaooailaaGreat.Wd Go.Proofs.YtccenpmaooailaaGreat.Pu Go.Proofs.YtccenpmaooailaaGreat.Pv Go.Proofs.YtccenpmaooailaaGreat.Ca Go.Proofs.YtccenpmaooailaaGreat.Cb Go.Proofs.YtccenpmaooailaaGreat.Cc Go.Proofs.YtccenpmaooailaaGreat.Cp Go.Proofs.YtccenpmaooailaaGreat.Cd Go.Proofs.YtccenpmaooailaaGreat.Ci Go.Proofs.YtccenpmaooailaaGreat.Ce Go.Proofs.YtccenpmaooailaaGreat.Cf Go.Proofs.YtccenpmaooailaaGreat.Cg Go.Proofs.YtccenpmaooailaaGreat.Sc Go.Proofs.YtccenpmaooailaaGreat.Se Go.Proofs.YtccenpmaooailaaGreat.Sh Go.Proofs.YtccenpmaooailaaGreat.Si Go.Proofs.YtccenpmaooailaaGreat.Ia Go.Proofs.YtccenpmaooailaaGreat.Ib Go.Proofs.YtccenpmaooailaaGreat.Ic Go.Proofs.YtccenpmaooailaaGreat.If Go.Proofs.YtccenpmaooailaaGreat.Ij Go.Proofs.YtccenpmaooailaaGreat.Ra Go.Proofs.YtccenpmaooailaaGreat.Rb Go.Proofs.YtccenpmaooailaaGreat.Rc Go.Proofs.YtccenpmaooailaaGreat.Ra Go.Proofs.YtccenpmaooailaaGreat.Rb Go.Proofs.YtccenpmaooailaaGreat.Rc Go.Proofs.YtccenpmaooailaaGreat.Rd Go.Proofs.YtccenpmaooailaaGreat.Sj Go.Proofs.YtccenpmaooailaaGreat.Ya

structure XPickMem (Wz w w' : World) (base : Nat) (v : Value) (p : List Occ × List Occ) (U : Option Addr) (cu : Nat) (r : Value) : Prop where
  rd : IsL w' p.1 U cu
  rest : Xw Wz w' base r p.2
  at_ : r = v ∨ ∀ k, own r k → w.heap.size ≤ k
  bel : Below w.heap.size w w'
def XPickOut (Wz w w' : World) (base : Nat) (v : Value) (p : List Occ × List Occ) (e : Ending) : Prop := ∃ U nu cu r, nu = p.1.length ∧ e = .returned (.tuple #[.slice U nu cu, r]) ∧ XPickMem Wz w w' base v p U cu r

set_option maxHeartbeats 4000000 in
set_option maxRecDepth 100000 in
theorem xpick_any (Wz : World) (mode : Int) (hm : 0 ≤ mode ∧ mode ≤ 4) (base : Nat) (A M : Option Addr) (c cm : Nat) (l : List Occ) (can : Occ → Bool) (w : World) (hl : l.length ≤ 1048576) (hW : Below Wz.heap.size Wz w) (hR : Xw Wz w base (.slice A l.length c) l) (hM : Kd.bool.C w M l.length (l.map can)) (hbase : base ≤ w.heap.size) :
    Calls Tryz.prog 88 #[.int .i64 mode, .slice A l.length c, .slice M l.length cm] w fun e w' => XPickOut Wz w w' base (.slice A l.length c) (pick mode l can) e := by
  have hL : IsL w l A c := Xw.isL hW hR
  have HR := Aside0.mk hR
  have hE1 := blk_alloc (blk_new w (.cells #[] 43)) (.cells #[] 43)
  have hE2 : ((w.alloc (.cells #[] 43)).alloc (.cells #[] 43)).heap[w.heap.size + 1]? = some (.cells #[] 43 (0, 0)) := by have := blk_new (w.alloc (.cells #[] 43)) (.cells #[] 43); simpa using this
  have HB0 := Aside0.mk (below_alloc (below_alloc (Below.refl w.heap.size w) (.cells #[] 43)) (.cells #[] 43))
  have HF0 : Aside0 (Fx w ((w.alloc (.cells #[] 43)).alloc (.cells #[] 43)) (.slice (some ⟨w.heap.size, 0, none⟩) 0 0) []) := ⟨R_empty _ hE1 (Nat.le_refl _)⟩
  clear hR
  go_enter Tryz.func88, Tryz.ntmps88
  go_wp2
  generalize (w.alloc (.cells #[] 43)).alloc (.cells #[] 43) = W0 at hE2 HB0 HF0 ⊢
  clear hE1
  have bE0 : Aside0 (W0.heap[w.heap.size + 1]? = some (.cells #[] 43 (0, 0))) := ⟨hE2⟩
  clear hE2
  go_loopw [8, 10] (fun v8 vi wr => ∃ (k : Nat) (v : Value), k ≤ l.length ∧ vi = .int .i64 k ∧ v = v8 ∧ Aside0 (Fx w wr v ((l.take k).filter can)) ∧ Aside0 (NeRow (.slice (some ⟨w.heap.size + 1, 0, none⟩) 0 0) v) ∧ Aside0 (wr.heap[w.heap.size + 1]? = some (.cells #[] 43 (0, 0))) ∧ Aside0 (Below w.heap.size w wr)) (fun _ vi _ => l.length - (intOf vi).toNat)
  case atStart => exact ⟨0, _, Nat.zero_le _, rfl, rfl, HF0, ⟨fun k hk h => by simp [Value.ownBlock] at hk h; omega⟩, bE0, HB0⟩
  case round =>
    clear HF0 bE0 HB0
    obtain ⟨k, v, hk, rfl, rfl, HF, HNE, HE, HB⟩ := hrel
    by_cases hlt : k < l.length
    · have g1 : decide (k < l.length) = true := decide_eq_true hlt
      have i1 : (k : Int) < l.length := by omega
      obtain ⟨ad0, A20, c30, rfl, ha0, hb0, hc0, hl20, hC20⟩ := atO hL.rd k hlt
      obtain ⟨am, rfl, hcm⟩ := atB (Kd.C_below hM HB.out) k hlt
      rw [map_getD can l k hlt] at hcm
      have ha := pw_cell_below HB.out ha0
      have hb := pw_cell_below HB.out hb0
      have hc := pw_cell_below HB.out hc0
      have hT := take_succ_getD l k zO hlt
      have hIw : IsO w (l.getD k zO) A20 c30 := ⟨hl20, hC20⟩
      have hln : ((l.take k).filter can).length ≤ k := Nat.le_trans (List.length_filter_le _ _) (by rw [List.length_take]; omega)
      clear hl20 hC20 ha0 hb0 hc0
      generalize l.getD k zO = o at ha hb hc hcm hIw hT
      have HT := Aside0.mk (show (l.take (k + 1)).filter can = if can o then (l.take k).filter can ++ [o] else (l.take k).filter can by rw [hT]; exact filter_snoc _ _ _)
      clear hT
      cases hd : can o with
      | true =>
        rw [hd] at hcm
        go_wp2_with ((with_reducible refine gate_dst (N := 30) rfl ?_); refine Kd.R_append (Kd.fixed kO w) (w0 := w) w.heap.size rfl _ _ 23 43 (.agg #[.int .i64 0, .int .i64 0, .slice none 0 0]) 40 rfl Tryz.underlying23 infoO rfl (szO w) (by decide) v ((l.take k).filter can) o [.int .i64 o.f0, .int .i64 o.f1, .slice A20 o.f2.length c30] (fun _ => True) (fun _ => False) rfl rfl (kO_mk w o hIw.1 hIw.2) (fun _ h => h.elim) (fun _ _ => trivial) HF.out HB.out HB.out.size (by omega) ?_; intro v3 w3 hs3 hb3 hg3 hat3; have HS3 := Aside0.mk hs3; have HB3 := Aside0.mk hb3; have HE3 := Aside0.mk (blk_grown HE.out hg3 (fun h => HNE.out (w.heap.size + 1) rfl h.symm)); have HNE3 : Aside0 (NeRow (.slice (some ⟨w.heap.size + 1, 0, none⟩) 0 0) v3) := ⟨fun j hj h => by rcases hat3 with h2 | ⟨b, h2, h3⟩; exact HNE.out j hj (h2.symm.trans h); rw [h2] at h; injection h with h; simp [Value.ownBlock] at hj; have := blk_lt HE.out; omega⟩; clear hs3 hb3 hg3 hat3)
        go_roundw
        case rel => exact ⟨k + 1, _, by omega, by go_num, rfl, ⟨by rw [HT.out, hd]; exact HS3.out⟩, HNE3, HE3, HB3⟩
        case measure => simp [intOf]; omega
      | false =>
        rw [hd] at hcm
        go_wp2
        go_roundw
        case rel => exact ⟨k + 1, _, by omega, by go_num, rfl, ⟨by rw [HT.out, hd]; exact HF.out⟩, HNE, HE, HB⟩
        case measure => simp [intOf]; omega
    · have hke : k = l.length := by omega
      subst hke
      have g1 : decide (l.length < l.length) = false := decide_eq_false (by omega)
      have hF := HF.out
      rw [List.take_length] at hF
      obtain ⟨U, cu, rfl⟩ := Kd.R_slice hF
      have hUL := (Fx.isL hF HB.out).2
      obtain ⟨s, hs⟩ : ∃ s, s = l.filter can := ⟨_, rfl⟩
      have HPK := Aside0.mk (show pick mode l can = (if s.length = 0 then (s, l) else if mode = 0 then (s, l) else if mode = 1 then ([s.getD (s.length - 1) zO], l) else if mode = 2 then (s.take 1, l.filter (left2 2 can (s.getD 0 zO))) else (s, l.filter (left2 3 can zO))) by rw [hs]; unfold pick left2; simp only [if_true, show ¬ ((3 : Int) = 2) by decide, if_false])
      have hsl : s.length ≤ l.length := by rw [hs]; exact List.length_filter_le _ _
      have hF2 := hF
      rw [← hs] at hUL hF2 HNE ⊢
      have HU := Aside0.mk hUL
      have HR2 := Aside0.mk (Kd.R_below HR.out HB.out)
      have HFs := Aside0.mk hF2
      clear hs hF hUL HF hF2
      by_cases h0 : s.length = 0
      · have d0 : ((s.length : Int) == 0) = true := by simp [h0]
        have d00 : (s.length : Int) = 0 := by omega
        have HP := Aside0.mk (show XPickOut Wz w wr base (.slice A l.length c) (pick mode l can) (.returned (.tuple #[.slice U s.length cu, .slice A l.length c])) from ⟨U, s.length, cu, _, by rw [HPK.out, if_pos h0], rfl, ⟨by rw [HPK.out, if_pos h0]; exact HU.out, by rw [HPK.out, if_pos h0]; exact HR2.out, .inl rfl, HB.out⟩⟩)
        go_wp2
        go_ret2
        exact HP.out
      have d0 : ((s.length : Int) == 0) = false := by rw [beq_eq_false_iff_ne]; omega
      have d00 : ¬ ((s.length : Int) = 0) := by omega
      by_cases m0 : mode = 0
      · subst m0
        have HP := Aside0.mk (show XPickOut Wz w wr base (.slice A l.length c) (pick 0 l can) (.returned (.tuple #[.slice U s.length cu, .slice A l.length c])) from ⟨U, s.length, cu, _, by rw [HPK.out, if_neg h0]; rfl, rfl, ⟨by rw [HPK.out, if_neg h0]; exact HU.out, by rw [HPK.out, if_neg h0]; exact HR2.out, .inl rfl, HB.out⟩⟩)
        go_wp2
        go_ret2
        exact HP.out
      have e0 : (mode == 0) = false := by rw [beq_eq_false_iff_ne]; omega
      by_cases m1 : mode = 1
      · subst m1
        obtain ⟨gU, rfl⟩ : ∃ gU, U = some gU := by
          obtain ⟨ad, e, _⟩ := HU.out.rd.2.2 (by omega)
          exact ⟨ad, e⟩
        obtain ⟨n, hn⟩ : ∃ n, s.length = n + 1 := ⟨s.length - 1, by omega⟩
        obtain ⟨A', hcut, hA'⟩ := cutO (some gU) s.length cu n (by omega)
        have hcap := HU.out.cap
        have hAe : A' = some (gU.add (n * 3)) := hA' (by omega)
        have hdr := IsL.drop HU.out (m := n) (by omega)
        have hdl := drop_last (l := s) (by omega)
        rw [hn, Nat.add_sub_cancel] at hdl
        rw [hdl] at hdr
        have HP := Aside0.mk (show XPickOut Wz w wr base (.slice A l.length c) (pick 1 l can) (.returned (.tuple #[.slice A' 1 (cu - n), .slice A l.length c])) from ⟨A', 1, cu - n, _, by rw [HPK.out, if_neg h0]; rfl, rfl, ⟨by rw [HPK.out, if_neg h0, hn, Nat.add_sub_cancel, hAe]; exact hdr, by rw [HPK.out, if_neg h0]; exact HR2.out, .inl rfl, HB.out⟩⟩)
        have hcut2 : ∀ W, (Instr.slice 23 (.slice (some gU) (n + 1) cu) (some (.int .i64 (n : Int))) none none).run Tryz.prog W = .ok (.slice A' 1 (cu - n)) W := by
          intro W
          have h := hcut W
          rw [hn, Nat.add_sub_cancel_left] at h
          exact h
        have w1' : IntKind.i64.wrap (n : Int) = n := by rw [IntKind.wrap_i64]; omega
        have w2' : IntKind.i64.wrap ((n : Int) + 1 - 1) = n := by rw [IntKind.wrap_i64]; omega
        have w3' : IntKind.i64.wrap ((n : Int) + 1) = (n : Int) + 1 := by rw [IntKind.wrap_i64]; omega
        have z0 : (0 : Int) ≤ n := by omega
        have z1 : (n : Int) ≤ n + 1 := by omega
        rw [hn] at d0 d00 ⊢
        clear hcut hA' hAe hdr hdl hn hcap
        go_wp2
        go_ret2
        exact HP.out
      have e1 : (mode == 1) = false := by rw [beq_eq_false_iff_ne]; omega
      obtain ⟨gl0, capl0, hv0, hbl0, hgl0, hcl0⟩ := Kd.R_form HR.out (by omega)
      cases hv0
      clear hcl0
      by_cases m2 : mode = 2
      · subst m2
        have HPK2 := Aside0.mk (show pick 2 l can = (s.take 1, l.filter (left2 2 can (s.getD 0 zO))) by rw [HPK.out, if_neg h0, if_neg m0, if_neg m1, if_pos rfl])
        obtain ⟨gU, rfl⟩ : ∃ gU, U = some gU := by
          obtain ⟨ad, e, _⟩ := HU.out.rd.2.2 (by omega)
          exact ⟨ad, e⟩
        have htk : ∀ W, (Instr.slice 23 (.slice (some gU) s.length cu) none (some (.int .i64 1)) none).run Tryz.prog W = .ok (.slice (some gU) 1 cu) W := fun W => take_any gU s.length cu 1 (by have := HU.out.cap; omega) W
        have u1 : (1 : Int) ≤ cu := by have := HU.out.cap; omega
        go_wp2
        go_loopw [9, 11] (fun v9 vi wr2 => ∃ (k : Nat) (v : Value), k ≤ l.length ∧ vi = .int .i64 k ∧ v = v9 ∧ Aside0 (Xw Wz wr2 base v ((l.take k).filter (left2 2 can (s.getD 0 zO)))) ∧ Aside0 (∀ j, own v j → w.heap.size ≤ j) ∧ Aside0 (Fx w wr2 (.slice (some gU) s.length cu) s) ∧ Aside0 (NeRow (.slice (some gU) s.length cu) v) ∧ Aside0 (Below w.heap.size w wr2)) (fun _ vi _ => l.length - (intOf vi).toNat)
        case atStart => exact ⟨0, _, Nat.zero_le _, rfl, rfl, ⟨by simpa using (R_empty (kX Wz) HE.out (by omega) : Xw Wz wr base (.slice (some ⟨w.heap.size + 1, 0, none⟩) 0 0) [])⟩, ⟨fun j hj => by simp [own, Value.ownBlock] at hj; omega⟩, HFs, ⟨fun j hj h => HNE.out j h hj⟩, HB⟩
        case round =>
          clear HFs HE HNE HB HR2 HU
          obtain ⟨k, v, hk, rfl, rfl, HV, HVB, HFs, HNE, HB⟩ := hrel
          by_cases hlt : k < l.length
          · have g1 : decide (k < l.length) = true := decide_eq_true hlt
            have i1 : (k : Int) < l.length := by omega
            obtain ⟨cs, hcs, hMk, hcc, hfz⟩ := Kd.R_elem HR.out zO (k : Int) (by omega) (by omega)
            simp only [Int.toNat_natCast] at hMk hcc hfz
            obtain ⟨adz, A20, c30, e0x, haz, hbz, hcz, hl20, hC20⟩ := atO hL.rd k hlt
            cases e0x
            obtain ⟨vk, hcsk, hvk⟩ := kX_openM hMk
            have hvs : vk = .slice A20 (l.getD k zO).f2.length c30 := by
              have h1 := hcc 2 _ (by rw [hcsk]; rfl)
              have h2 : w.cell? ⟨gl0, k * 3 + 2, none⟩ = some (.slice A20 (l.getD k zO).f2.length c30) := by rw [add_plain] at hcz; simpa using hcz
              rw [show k * (kX Wz).sz + 2 = k * 3 + 2 from rfl, h2] at h1
              injection h1 with h1
              exact h1.symm
            rw [hvs] at hcsk
            rw [hcsk] at hMk hcc
            have ha0 : w.cell? ⟨gl0, k * 3, none⟩ = some (.int .i64 (l.getD k zO).f0) := hcc 0 _ rfl
            have hb0 : w.cell? ⟨gl0, k * 3 + 1, none⟩ = some (.int .i64 (l.getD k zO).f1) := hcc 1 _ rfl
            have hc0 : w.cell? ⟨gl0, k * 3 + 2, none⟩ = some (.slice A20 (l.getD k zO).f2.length c30) := hcc 2 _ rfl
            obtain ⟨am, rfl, hcm⟩ := atB (Kd.C_below hM HB.out) k hlt
            rw [map_getD can l k hlt] at hcm
            have ha := pw_cell_below HB.out ha0
            have hb := pw_cell_below HB.out hb0
            have hc := pw_cell_below HB.out hc0
            have hT := take_succ_getD l k zO hlt
            have hIo : IsO wr (l.getD k zO) A20 c30 := IsO.below ⟨hl20, hC20⟩ HB.out
            have hln : ((l.take k).filter (left2 2 can (s.getD 0 zO))).length ≤ k := Nat.le_trans (List.length_filter_le _ _) (by rw [List.length_take]; omega)
            have HM0 : Aside0 ((kX Wz).M w base (fun j => j < w.heap.size) (l.getD k zO) [.int .i64 (l.getD k zO).f0, .int .i64 (l.getD k zO).f1, .slice A20 (l.getD k zO).f2.length c30]) := ⟨(kX Wz).M_mono (fun j hj => hj.2.2.1) ((kX Wz).M_bound hMk)⟩
            clear hl20 hC20 ha0 hb0 hc0 hvk hcsk hvs hMk hcc hfz hcs haz hbz hcz
            generalize l.getD k zO = o at ha hb hc hcm hIo hT HM0
            have HT := Aside0.mk (show (l.take (k + 1)).filter (left2 2 can (s.getD 0 zO)) = if (left2 2 can (s.getD 0 zO)) o then (l.take k).filter (left2 2 can (s.getD 0 zO)) ++ [o] else (l.take k).filter (left2 2 can (s.getD 0 zO)) by rw [hT]; exact filter_snoc _ _ _)
            clear hT
            obtain ⟨bs, A4, c4, e4, sa, sb, sc, sl4, sC⟩ := atO (Fx.isL HFs.out HB.out).2.rd 0 (by omega)
            cases e4
            have hI4 : IsO wr (s.getD 0 zO) A4 c4 := ⟨sl4, sC⟩
            rw [Nat.zero_mul, add0] at sa sb sc
            clear sl4 sC
            cases hd : can o with
            | false =>
              have HQT := Aside0.mk (show left2 2 can (s.getD 0 zO) o = true by unfold left2; rw [if_pos rfl, hd]; rfl)
              rw [hd] at hcm
              clear sa sb sc hI4
              go_wp2
              have ha_e := fun s : Ext wr => cellE ha s
              have hb_e := fun s : Ext wr => cellE hb s
              have hc_e := fun s : Ext wr => cellE hc s
              have hcm_e := fun s : Ext wr => cellE hcm s
              clear ha hb hc hcm
              refine region_ext (W := wr) (Below.refl _ _) (by kernel_rfl) (by kernel_rfl) ?_
              repeat (first | go_big_quiet_step (fail) | quiet_step (fail))
              refine wpQuiet_nil ?_
              rintro _ ⟨sx, rfl⟩
              have HBq := Aside0.mk (below_then HB.out HB.out.size sx.2)
              have HVq := Aside0.mk (Kd.R_below HV.out sx.2)
              have HFq := Aside0.mk (Kd.R_below HFs.out sx.2)
              have ha := ha_e sx
              have hb := hb_e sx
              have hc := hc_e sx
              have hcm := hcm_e sx
              clear HB HV HFs ha_e hb_e hc_e hcm_e
              generalize sx.1 = wq at HBq HVq HFq ha hb hc hcm ⊢
              go_wp2_with ((with_reducible refine gate_dst (N := 85) rfl ?_); refine Kd.R_append (kX Wz) (w0 := w) base rfl _ _ 23 43 (.agg #[.int .i64 0, .int .i64 0, .slice none 0 0]) 40 rfl Tryz.underlying23 (infoX Wz) rfl (szX Wz) (by decide) v ((l.take k).filter (left2 2 can (s.getD 0 zO))) o [.int .i64 o.f0, .int .i64 o.f1, .slice A20 o.f2.length c30] (fun _ => True) (fun j => j < w.heap.size) rfl rfl (Kd.M_below HM0.out HBq.out) (fun j hj => ⟨trivial, fun h => by have := HVB.out j h.symm; omega⟩) (fun _ _ => trivial) HVq.out (Below.mono HBq.out hbase) (Nat.le_trans hbase HBq.out.size) (by omega) ?_; intro v3 w3 hs3 hb3 hg3 hat3; have HS3 := Aside0.mk hs3; have HB3 : Aside0 (Below w.heap.size w w3) := ⟨Below.grown HBq.out hg3 HBq.out.size (fun j hj => HVB.out j hj)⟩; have HVB3 : Aside0 (∀ j, own v3 j → w.heap.size ≤ j) := ⟨fun j hj => by rcases hat3 with h2 | ⟨b, h2, h3⟩; exact HVB.out j (h2.symm.trans hj); rw [show v3.ownBlock = some j from hj] at h2; injection h2 with h2; have := HBq.out.size; omega⟩; have HF3 : Aside0 (Fx w w3 (.slice (some gU) s.length cu) s) := ⟨Kd.R_mono (Kd.R_grown (Kd.R_tight rfl HFq.out) hg3 (fun j hj e => HNE.out j hj.symm e.symm)) (fun _ _ => trivial)⟩; have HNE3 : Aside0 (NeRow (.slice (some gU) s.length cu) v3) := ⟨fun j hj h => by rcases hat3 with h2 | ⟨b, h2, h3⟩; exact HNE.out j hj (h2.symm.trans h); rw [h2] at h; injection h with h; have := Kd.R_lt HFq.out j hj; omega⟩; clear hs3 hb3 hg3 hat3)
              go_roundw
              case rel => exact ⟨k + 1, _, by omega, by go_num, rfl, ⟨by rw [HT.out, if_pos (by first | exact HQT.out | exact rfl)]; exact HS3.out⟩, HVB3, HF3, HNE3, HB3⟩
              case measure => simp [intOf]; omega
            | true =>
              rw [hd] at hcm
              have hcl3 := fun sx : Ext wr => sSame_any o (s.getD 0 zO) A20 A4 c30 c4 sx.1 (hIo.ext sx) (hI4.ext sx)
              cases hs0 : decide (cmpO o (s.getD 0 zO) = 0) with
              | true =>
                have HQT := Aside0.mk (show left2 2 can (s.getD 0 zO) o = false by unfold left2; rw [if_pos rfl, hd, decide_eq_true ((cmpO_eq _ _).1 (of_decide_eq_true hs0))]; rfl)
                simp only [hs0] at hcl3
                clear hs0
                go_wp2
                have ha_e := fun s : Ext wr => cellE ha s
                have hb_e := fun s : Ext wr => cellE hb s
                have hc_e := fun s : Ext wr => cellE hc s
                have hcm_e := fun s : Ext wr => cellE hcm s
                have sa_e := fun s : Ext wr => cellE sa s
                have sb_e := fun s : Ext wr => cellE sb s
                have sc_e := fun s : Ext wr => cellE sc s
                clear ha hb hc hcm sa sb sc
                refine region_ext (W := wr) (Below.refl _ _) (by kernel_rfl) (by kernel_rfl) ?_
                repeat (first | go_big_quiet_step ((go_at_call 95; exact calls_ext (hcl3 _))) | quiet_step ((go_at_call 95; exact calls_ext (hcl3 _))))
                refine wpQuiet_nil ?_
                rintro _ ⟨sx, rfl⟩
                have HBq := Aside0.mk (below_then HB.out HB.out.size sx.2)
                have HVq := Aside0.mk (Kd.R_below HV.out sx.2)
                have HFq := Aside0.mk (Kd.R_below HFs.out sx.2)
                have ha := ha_e sx
                have hb := hb_e sx
                have hc := hc_e sx
                have hcm := hcm_e sx
                have sa := sa_e sx
                have sb := sb_e sx
                have sc := sc_e sx
                clear HB HV HFs ha_e hb_e hc_e hcm_e sa_e sb_e sc_e hcl3
                generalize sx.1 = wq at HBq HVq HFq ha hb hc hcm sa sb sc ⊢
                go_wp2
                go_roundw
                case rel => exact ⟨k + 1, _, by omega, by go_num, rfl, ⟨by rw [HT.out, if_neg (by rw [HQT.out]; decide)]; exact HVq.out⟩, HVB, HFq, HNE, HBq⟩
                case measure => simp [intOf]; omega
              | false =>
                have HQT := Aside0.mk (show left2 2 can (s.getD 0 zO) o = true by unfold left2; rw [if_pos rfl, hd, decide_eq_false (fun e => of_decide_eq_false hs0 ((cmpO_eq _ _).2 e))]; rfl)
                simp only [hs0] at hcl3
                clear hs0
                go_wp2
                have ha_e := fun s : Ext wr => cellE ha s
                have hb_e := fun s : Ext wr => cellE hb s
                have hc_e := fun s : Ext wr => cellE hc s
                have hcm_e := fun s : Ext wr => cellE hcm s
                have sa_e := fun s : Ext wr => cellE sa s
                have sb_e := fun s : Ext wr => cellE sb s
                have sc_e := fun s : Ext wr => cellE sc s
                clear ha hb hc hcm sa sb sc
                refine region_ext (W := wr) (Below.refl _ _) (by kernel_rfl) (by kernel_rfl) ?_
                repeat (first | go_big_quiet_step ((go_at_call 95; exact calls_ext (hcl3 _))) | quiet_step ((go_at_call 95; exact calls_ext (hcl3 _))))
                refine wpQuiet_nil ?_
                rintro _ ⟨sx, rfl⟩
                have HBq := Aside0.mk (below_then HB.out HB.out.size sx.2)
                have HVq := Aside0.mk (Kd.R_below HV.out sx.2)
                have HFq := Aside0.mk (Kd.R_below HFs.out sx.2)
                have ha := ha_e sx
                have hb := hb_e sx
                have hc := hc_e sx
                have hcm := hcm_e sx
                have sa := sa_e sx
                have sb := sb_e sx
                have sc := sc_e sx
                clear HB HV HFs ha_e hb_e hc_e hcm_e sa_e sb_e sc_e hcl3
                generalize sx.1 = wq at HBq HVq HFq ha hb hc hcm sa sb sc ⊢
                go_wp2_with ((with_reducible refine gate_dst (N := 85) rfl ?_); refine Kd.R_append (kX Wz) (w0 := w) base rfl _ _ 23 43 (.agg #[.int .i64 0, .int .i64 0, .slice none 0 0]) 40 rfl Tryz.underlying23 (infoX Wz) rfl (szX Wz) (by decide) v ((l.take k).filter (left2 2 can (s.getD 0 zO))) o [.int .i64 o.f0, .int .i64 o.f1, .slice A20 o.f2.length c30] (fun _ => True) (fun j => j < w.heap.size) rfl rfl (Kd.M_below HM0.out HBq.out) (fun j hj => ⟨trivial, fun h => by have := HVB.out j h.symm; omega⟩) (fun _ _ => trivial) HVq.out (Below.mono HBq.out hbase) (Nat.le_trans hbase HBq.out.size) (by omega) ?_; intro v3 w3 hs3 hb3 hg3 hat3; have HS3 := Aside0.mk hs3; have HB3 : Aside0 (Below w.heap.size w w3) := ⟨Below.grown HBq.out hg3 HBq.out.size (fun j hj => HVB.out j hj)⟩; have HVB3 : Aside0 (∀ j, own v3 j → w.heap.size ≤ j) := ⟨fun j hj => by rcases hat3 with h2 | ⟨b, h2, h3⟩; exact HVB.out j (h2.symm.trans hj); rw [show v3.ownBlock = some j from hj] at h2; injection h2 with h2; have := HBq.out.size; omega⟩; have HF3 : Aside0 (Fx w w3 (.slice (some gU) s.length cu) s) := ⟨Kd.R_mono (Kd.R_grown (Kd.R_tight rfl HFq.out) hg3 (fun j hj e => HNE.out j hj.symm e.symm)) (fun _ _ => trivial)⟩; have HNE3 : Aside0 (NeRow (.slice (some gU) s.length cu) v3) := ⟨fun j hj h => by rcases hat3 with h2 | ⟨b, h2, h3⟩; exact HNE.out j hj (h2.symm.trans h); rw [h2] at h; injection h with h; have := Kd.R_lt HFq.out j hj; omega⟩; clear hs3 hb3 hg3 hat3)
                go_roundw
                case rel => exact ⟨k + 1, _, by omega, by go_num, rfl, ⟨by rw [HT.out, if_pos (by first | exact HQT.out | exact rfl)]; exact HS3.out⟩, HVB3, HF3, HNE3, HB3⟩
                case measure => simp [intOf]; omega
          · have hke : k = l.length := by omega
            subst hke
            have g1 : decide (l.length < l.length) = false := decide_eq_false (by omega)
            have hV := HV.out
            rw [List.take_length] at hV
            have hls := IsL.take (Fx.isL HFs.out HB.out).2 (m := 1) (by omega)
            have HP := Aside0.mk (show XPickOut Wz w wr base (.slice (some ⟨gl0, 0, none⟩) l.length c) (pick 2 l can) (.returned (.tuple #[.slice (some gU) 1 cu, v])) from ⟨some gU, 1, cu, v, by rw [HPK2.out]; show 1 = (s.take 1).length; rw [List.length_take]; omega, rfl, ⟨by rw [HPK2.out]; exact hls, by rw [HPK2.out]; exact hV, .inr HVB.out, HB.out⟩⟩)
            clear hls
            go_wp2
            go_ret2
            exact HP.out
      · have e2 : (mode == 2) = false := by rw [beq_eq_false_iff_ne]; omega
        go_wp2
        go_loopw [9, 11] (fun v9 vi wr2 => ∃ (k : Nat) (v : Value), k ≤ l.length ∧ vi = .int .i64 k ∧ v = v9 ∧ Aside0 (Xw Wz wr2 base v ((l.take k).filter (left2 3 can zO))) ∧ Aside0 (∀ j, own v j → w.heap.size ≤ j) ∧ Aside0 (Fx w wr2 (.slice U s.length cu) s) ∧ Aside0 (NeRow (.slice U s.length cu) v) ∧ Aside0 (Below w.heap.size w wr2)) (fun _ vi _ => l.length - (intOf vi).toNat)
        case atStart => exact ⟨0, _, Nat.zero_le _, rfl, rfl, ⟨by simpa using (R_empty (kX Wz) HE.out (by omega) : Xw Wz wr base (.slice (some ⟨w.heap.size + 1, 0, none⟩) 0 0) [])⟩, ⟨fun j hj => by simp [own, Value.ownBlock] at hj; omega⟩, HFs, ⟨fun j hj h => HNE.out j h hj⟩, HB⟩
        case round =>
          clear HFs HE HNE HB HR2 HU
          obtain ⟨k, v, hk, rfl, rfl, HV, HVB, HFs, HNE, HB⟩ := hrel
          by_cases hlt : k < l.length
          · have g1 : decide (k < l.length) = true := decide_eq_true hlt
            have i1 : (k : Int) < l.length := by omega
            obtain ⟨cs, hcs, hMk, hcc, hfz⟩ := Kd.R_elem HR.out zO (k : Int) (by omega) (by omega)
            simp only [Int.toNat_natCast] at hMk hcc hfz
            obtain ⟨adz, A20, c30, e0x, haz, hbz, hcz, hl20, hC20⟩ := atO hL.rd k hlt
            cases e0x
            obtain ⟨vk, hcsk, hvk⟩ := kX_openM hMk
            have hvs : vk = .slice A20 (l.getD k zO).f2.length c30 := by
              have h1 := hcc 2 _ (by rw [hcsk]; rfl)
              have h2 : w.cell? ⟨gl0, k * 3 + 2, none⟩ = some (.slice A20 (l.getD k zO).f2.length c30) := by rw [add_plain] at hcz; simpa using hcz
              rw [show k * (kX Wz).sz + 2 = k * 3 + 2 from rfl, h2] at h1
              injection h1 with h1
              exact h1.symm
            rw [hvs] at hcsk
            rw [hcsk] at hMk hcc
            have ha0 : w.cell? ⟨gl0, k * 3, none⟩ = some (.int .i64 (l.getD k zO).f0) := hcc 0 _ rfl
            have hb0 : w.cell? ⟨gl0, k * 3 + 1, none⟩ = some (.int .i64 (l.getD k zO).f1) := hcc 1 _ rfl
            have hc0 : w.cell? ⟨gl0, k * 3 + 2, none⟩ = some (.slice A20 (l.getD k zO).f2.length c30) := hcc 2 _ rfl
            obtain ⟨am, rfl, hcm⟩ := atB (Kd.C_below hM HB.out) k hlt
            rw [map_getD can l k hlt] at hcm
            have ha := pw_cell_below HB.out ha0
            have hb := pw_cell_below HB.out hb0
            have hc := pw_cell_below HB.out hc0
            have hT := take_succ_getD l k zO hlt
            have hIo : IsO wr (l.getD k zO) A20 c30 := IsO.below ⟨hl20, hC20⟩ HB.out
            have hln : ((l.take k).filter (left2 3 can zO)).length ≤ k := Nat.le_trans (List.length_filter_le _ _) (by rw [List.length_take]; omega)
            have HM0 : Aside0 ((kX Wz).M w base (fun j => j < w.heap.size) (l.getD k zO) [.int .i64 (l.getD k zO).f0, .int .i64 (l.getD k zO).f1, .slice A20 (l.getD k zO).f2.length c30]) := ⟨(kX Wz).M_mono (fun j hj => hj.2.2.1) ((kX Wz).M_bound hMk)⟩
            clear hl20 hC20 ha0 hb0 hc0 hvk hcsk hvs hMk hcc hfz hcs haz hbz hcz
            generalize l.getD k zO = o at ha hb hc hcm hIo hT HM0
            have HT := Aside0.mk (show (l.take (k + 1)).filter (left2 3 can zO) = if (left2 3 can zO) o then (l.take k).filter (left2 3 can zO) ++ [o] else (l.take k).filter (left2 3 can zO) by rw [hT]; exact filter_snoc _ _ _)
            clear hT
            cases hd : can o with
            | false =>
              have HQT := Aside0.mk (show left2 3 can zO o = true by unfold left2; rw [if_neg (by decide), hd]; rfl)
              rw [hd] at hcm
              go_wp2
              have ha_e := fun s : Ext wr => cellE ha s
              have hb_e := fun s : Ext wr => cellE hb s
              have hc_e := fun s : Ext wr => cellE hc s
              have hcm_e := fun s : Ext wr => cellE hcm s
              clear ha hb hc hcm
              refine region_ext (W := wr) (Below.refl _ _) (by kernel_rfl) (by kernel_rfl) ?_
              repeat (first | go_big_quiet_step (fail) | quiet_step (fail))
              refine wpQuiet_nil ?_
              rintro _ ⟨sx, rfl⟩
              have HBq := Aside0.mk (below_then HB.out HB.out.size sx.2)
              have HVq := Aside0.mk (Kd.R_below HV.out sx.2)
              have HFq := Aside0.mk (Kd.R_below HFs.out sx.2)
              have ha := ha_e sx
              have hb := hb_e sx
              have hc := hc_e sx
              have hcm := hcm_e sx
              clear HB HV HFs ha_e hb_e hc_e hcm_e
              generalize sx.1 = wq at HBq HVq HFq ha hb hc hcm ⊢
              go_wp2_with ((with_reducible refine gate_dst (N := 85) rfl ?_); refine Kd.R_append (kX Wz) (w0 := w) base rfl _ _ 23 43 (.agg #[.int .i64 0, .int .i64 0, .slice none 0 0]) 40 rfl Tryz.underlying23 (infoX Wz) rfl (szX Wz) (by decide) v ((l.take k).filter (left2 3 can zO)) o [.int .i64 o.f0, .int .i64 o.f1, .slice A20 o.f2.length c30] (fun _ => True) (fun j => j < w.heap.size) rfl rfl (Kd.M_below HM0.out HBq.out) (fun j hj => ⟨trivial, fun h => by have := HVB.out j h.symm; omega⟩) (fun _ _ => trivial) HVq.out (Below.mono HBq.out hbase) (Nat.le_trans hbase HBq.out.size) (by omega) ?_; intro v3 w3 hs3 hb3 hg3 hat3; have HS3 := Aside0.mk hs3; have HB3 : Aside0 (Below w.heap.size w w3) := ⟨Below.grown HBq.out hg3 HBq.out.size (fun j hj => HVB.out j hj)⟩; have HVB3 : Aside0 (∀ j, own v3 j → w.heap.size ≤ j) := ⟨fun j hj => by rcases hat3 with h2 | ⟨b, h2, h3⟩; exact HVB.out j (h2.symm.trans hj); rw [show v3.ownBlock = some j from hj] at h2; injection h2 with h2; have := HBq.out.size; omega⟩; have HF3 : Aside0 (Fx w w3 (.slice U s.length cu) s) := ⟨Kd.R_mono (Kd.R_grown (Kd.R_tight rfl HFq.out) hg3 (fun j hj e => HNE.out j hj.symm e.symm)) (fun _ _ => trivial)⟩; have HNE3 : Aside0 (NeRow (.slice U s.length cu) v3) := ⟨fun j hj h => by rcases hat3 with h2 | ⟨b, h2, h3⟩; exact HNE.out j hj (h2.symm.trans h); rw [h2] at h; injection h with h; have := Kd.R_lt HFq.out j hj; omega⟩; clear hs3 hb3 hg3 hat3)
              go_roundw
              case rel => exact ⟨k + 1, _, by omega, by go_num, rfl, ⟨by rw [HT.out, if_pos (by first | exact HQT.out | exact rfl)]; exact HS3.out⟩, HVB3, HF3, HNE3, HB3⟩
              case measure => simp [intOf]; omega
            | true =>
              have HQT := Aside0.mk (show left2 3 can zO o = false by unfold left2; rw [if_neg (by decide), hd]; rfl)
              rw [hd] at hcm
              go_wp2
              have ha_e := fun s : Ext wr => cellE ha s
              have hb_e := fun s : Ext wr => cellE hb s
              have hc_e := fun s : Ext wr => cellE hc s
              have hcm_e := fun s : Ext wr => cellE hcm s
              clear ha hb hc hcm
              refine region_ext (W := wr) (Below.refl _ _) (by kernel_rfl) (by kernel_rfl) ?_
              repeat (first | go_big_quiet_step (fail) | quiet_step (fail))
              refine wpQuiet_nil ?_
              rintro _ ⟨sx, rfl⟩
              have HBq := Aside0.mk (below_then HB.out HB.out.size sx.2)
              have HVq := Aside0.mk (Kd.R_below HV.out sx.2)
              have HFq := Aside0.mk (Kd.R_below HFs.out sx.2)
              have ha := ha_e sx
              have hb := hb_e sx
              have hc := hc_e sx
              have hcm := hcm_e sx
              clear HB HV HFs ha_e hb_e hc_e hcm_e
              generalize sx.1 = wq at HBq HVq HFq ha hb hc hcm ⊢
              go_wp2
              go_roundw
              case rel => exact ⟨k + 1, _, by omega, by go_num, rfl, ⟨by rw [HT.out, if_neg (by rw [HQT.out]; decide)]; exact HVq.out⟩, HVB, HFq, HNE, HBq⟩
              case measure => simp [intOf]; omega
          · have hke : k = l.length := by omega
            subst hke
            have g1 : decide (l.length < l.length) = false := decide_eq_false (by omega)
            have hV := HV.out
            rw [List.take_length] at hV
            have HP := Aside0.mk (show XPickOut Wz w wr base (.slice (some ⟨gl0, 0, none⟩) l.length c) (pick mode l can) (.returned (.tuple #[.slice U s.length cu, v])) from ⟨U, s.length, cu, v, by rw [HPK.out, if_neg h0, if_neg m0, if_neg m1, if_neg m2], rfl, ⟨by rw [HPK.out, if_neg h0, if_neg m0, if_neg m1, if_neg m2]; exact (Fx.isL HFs.out HB.out).2, by rw [HPK.out, if_neg h0, if_neg m0, if_neg m1, if_neg m2]; exact hV, .inr HVB.out, HB.out⟩⟩)
            go_wp2
            go_ret2
            exact HP.out
end Go.Proofs.YtccenpmaooailaaGreat.Yd

/- A sequence at one point in time: the reference's. -/
set_option linter.unusedVariables false
set_option linter.unusedSimpArgs false
namespace Go.Proofs.YtccenpmaooailaaGreat.Yf
open Go.RowKit Go.Proofs.YtccenpmaooailaaGreatW.PrintWords Go.Proofs.YtccenpmaooailaaGreat.Wd Go.Proofs.YtccenpmaooailaaGreat.Pu Go.Proofs.YtccenpmaooailaaGreat.Pv Go.Proofs.YtccenpmaooailaaGreat.Ca Go.Proofs.YtccenpmaooailaaGreat.Cb Go.Proofs.YtccenpmaooailaaGreat.Cc Go.Proofs.YtccenpmaooailaaGreat.Cp Go.Proofs.YtccenpmaooailaaGreat.Cd Go.Proofs.YtccenpmaooailaaGreat.Ci Go.Proofs.YtccenpmaooailaaGreat.Ce Go.Proofs.YtccenpmaooailaaGreat.Cf Go.Proofs.YtccenpmaooailaaGreat.Cg Go.Proofs.YtccenpmaooailaaGreat.Sc Go.Proofs.YtccenpmaooailaaGreat.Se Go.Proofs.YtccenpmaooailaaGreat.Sh Go.Proofs.YtccenpmaooailaaGreat.Si Go.Proofs.YtccenpmaooailaaGreat.Sp Go.Proofs.YtccenpmaooailaaGreat.Ia Go.Proofs.YtccenpmaooailaaGreat.Ib Go.Proofs.YtccenpmaooailaaGreat.Ic Go.Proofs.YtccenpmaooailaaGreat.Id Go.Proofs.YtccenpmaooailaaGreat.Ie Go.Proofs.YtccenpmaooailaaGreat.If Go.Proofs.YtccenpmaooailaaGreat.Ig Go.Proofs.YtccenpmaooailaaGreat.Ih Go.Proofs.YtccenpmaooailaaGreat.Ij Go.Proofs.YtccenpmaooailaaGreat.Ik Go.Proofs.YtccenpmaooailaaGreat.Ra Go.Proofs.YtccenpmaooailaaGreat.Rb Go.Proofs.YtccenpmaooailaaGreat.Rc Go.Proofs.YtccenpmaooailaaGreat.Rd Go.Proofs.YtccenpmaooailaaGreat.Re Go.Proofs.YtccenpmaooailaaGreat.Sj Go.Proofs.YtccenpmaooailaaGreat.Ya Go.Proofs.YtccenpmaooailaaGreat.Yd

variable {Wz : World}
theorem made_ok' {mode : Int} (hm : 0 ≤ mode ∧ mode ≤ 4) {l : List Occ} (hl : AreOk l) {o : Occ} (ho : IsOk o) (can : Occ → Bool) : (∀ x ∈ make mode (pick mode l can).1 o, IsOk x) ∧ (make mode (pick mode l can).1 o).length ≤ l.length := by
  rw [← (comb_pick hm hl ho can).1]
  refine ⟨mem_combine ho (fun x hx => hl.all x (List.mem_filter.1 hx).1), Nat.le_trans (len_combine _ _ _) (List.length_filter_le _ _)⟩
theorem pick_len' {mode : Int} {l : List Occ} (can : Occ → Bool) : (pick mode l can).1.length ≤ l.length + 1 := by
  have h1 := List.length_filter_le can l
  unfold pick
  simp only
  repeat' split
  all_goals first | (simp only []; omega) | (simp; done) | (simp; omega)

end Go.Proofs.YtccenpmaooailaaGreat.Yf

/- One paired with all that waits on the other side: the reference's. -/
set_option linter.unusedVariables false
set_option linter.unusedSimpArgs false
namespace Go.Proofs.YtccenpmaooailaaGreat.Yg
open Go.RowKit Go.Proofs.YtccenpmaooailaaGreatW.PrintWords Go.Proofs.YtccenpmaooailaaGreat.Wd Go.Proofs.YtccenpmaooailaaGreat.Pu Go.Proofs.YtccenpmaooailaaGreat.Pv Go.Proofs.YtccenpmaooailaaGreat.Ca Go.Proofs.YtccenpmaooailaaGreat.Cb Go.Proofs.YtccenpmaooailaaGreat.Cc Go.Proofs.YtccenpmaooailaaGreat.Cp Go.Proofs.YtccenpmaooailaaGreat.Cd Go.Proofs.YtccenpmaooailaaGreat.Ci Go.Proofs.YtccenpmaooailaaGreat.Ce Go.Proofs.YtccenpmaooailaaGreat.Cf Go.Proofs.YtccenpmaooailaaGreat.Cg Go.Proofs.YtccenpmaooailaaGreat.Sc Go.Proofs.YtccenpmaooailaaGreat.Se Go.Proofs.YtccenpmaooailaaGreat.Sh Go.Proofs.YtccenpmaooailaaGreat.Si Go.Proofs.YtccenpmaooailaaGreat.Sp Go.Proofs.YtccenpmaooailaaGreat.Ia Go.Proofs.YtccenpmaooailaaGreat.Ib Go.Proofs.YtccenpmaooailaaGreat.Ic Go.Proofs.YtccenpmaooailaaGreat.Id Go.Proofs.YtccenpmaooailaaGreat.Ie Go.Proofs.YtccenpmaooailaaGreat.If Go.Proofs.YtccenpmaooailaaGreat.Ig Go.Proofs.YtccenpmaooailaaGreat.Ih Go.Proofs.YtccenpmaooailaaGreat.Ij Go.Proofs.YtccenpmaooailaaGreat.Ik Go.Proofs.YtccenpmaooailaaGreat.Ra Go.Proofs.YtccenpmaooailaaGreat.Rb Go.Proofs.YtccenpmaooailaaGreat.Rc Go.Proofs.YtccenpmaooailaaGreat.Rd Go.Proofs.YtccenpmaooailaaGreat.Re Go.Proofs.YtccenpmaooailaaGreat.Sj Go.Proofs.YtccenpmaooailaaGreat.Ya Go.Proofs.YtccenpmaooailaaGreat.Yd Go.Proofs.YtccenpmaooailaaGreat.Yf

variable {Wz : World}
structure OneMem (Wz w w' : World) (base : Nat) (vO vW r x u : Value) (oth own' out : List Occ) : Prop where
  rest : Xw Wz w' base r oth
  side : Xw Wz w' base x own'
  out : Xw Wz w' w.heap.size u out
  atr : r = vO ∨ ∀ k, own r k → w.heap.size ≤ k
  atx : ∀ k, own x k → own vW k ∨ w.heap.size ≤ k
  nrx : Nq r x
  nru : Nq r u
  nxu : Nq x u
  fr : Fr (own vW) w w'
/-- what is made, before one's own side changes -/
structure OneMid (Wz w w3 : World) (base : Nat) (vO vW r u : Value) (oth own' out : List Occ) : Prop where
  bel : Below Wz.heap.size Wz w3
  rest : Xw Wz w3 base r oth
  side : Xw Wz w3 base vW own'
  out : Xw Wz w3 w.heap.size u out
  atr : r = vO ∨ ∀ k, own r k → w.heap.size ≤ k
  nrx : Nq r vW
  nru : Nq r u
  lt : ∀ k, own vW k → k < w.heap.size
  fr : Below w.heap.size w w3
theorem OneMid.new {w w3 w4 : World} {base : Nat} {vO vW r u x : Value} {oth own' own2 out : List Occ} (h : OneMid Wz w w3 base vO vW r u oth own' out) (hb : Below w3.heap.size w3 w4) (hr : Xw Wz w4 base x own2) (hx : ∀ k, own x k → w3.heap.size ≤ k) : OneMem Wz w w4 base vO vW r x u oth own2 out := by
  have hul := Xw.lt h.out
  have hs := h.fr.size
  exact ⟨Xw.below h.rest hb, hr, Xw.below h.out hb, h.atr, fun k hk => .inr (by have := hx k hk; omega), fun k h1 h2 => by have := Xw.lt h.rest k h1; have := hx k h2; omega, h.nru, fun k h1 h2 => by have := hul k h2; have := hx k h1; omega, Fr.of_below (below_then h.fr hs hb)⟩

end Go.Proofs.YtccenpmaooailaaGreat.Yg

/- A conjunction at one point in time: the reference's. -/
set_option linter.unusedVariables false
set_option linter.unusedSimpArgs false
namespace Go.Proofs.YtccenpmaooailaaGreat.Yh
open Go.RowKit Go.Proofs.YtccenpmaooailaaGreatW.PrintWords Go.Proofs.YtccenpmaooailaaGreat.Wd Go.Proofs.YtccenpmaooailaaGreat.Pu Go.Proofs.YtccenpmaooailaaGreat.Pv Go.Proofs.YtccenpmaooailaaGreat.Ca Go.Proofs.YtccenpmaooailaaGreat.Cb Go.Proofs.YtccenpmaooailaaGreat.Cc Go.Proofs.YtccenpmaooailaaGreat.Cp Go.Proofs.YtccenpmaooailaaGreat.Cd Go.Proofs.YtccenpmaooailaaGreat.Ci Go.Proofs.YtccenpmaooailaaGreat.Ce Go.Proofs.YtccenpmaooailaaGreat.Cf Go.Proofs.YtccenpmaooailaaGreat.Cg Go.Proofs.YtccenpmaooailaaGreat.Sc Go.Proofs.YtccenpmaooailaaGreat.Se Go.Proofs.YtccenpmaooailaaGreat.Sh Go.Proofs.YtccenpmaooailaaGreat.Si Go.Proofs.YtccenpmaooailaaGreat.Sp Go.Proofs.YtccenpmaooailaaGreat.Ia Go.Proofs.YtccenpmaooailaaGreat.Ib Go.Proofs.YtccenpmaooailaaGreat.Ic Go.Proofs.YtccenpmaooailaaGreat.Id Go.Proofs.YtccenpmaooailaaGreat.Ie Go.Proofs.YtccenpmaooailaaGreat.If Go.Proofs.YtccenpmaooailaaGreat.Ig Go.Proofs.YtccenpmaooailaaGreat.Ih Go.Proofs.YtccenpmaooailaaGreat.Ij Go.Proofs.YtccenpmaooailaaGreat.Ik Go.Proofs.YtccenpmaooailaaGreat.Ra Go.Proofs.YtccenpmaooailaaGreat.Rb Go.Proofs.YtccenpmaooailaaGreat.Rc Go.Proofs.YtccenpmaooailaaGreat.Rd Go.Proofs.YtccenpmaooailaaGreat.Re Go.Proofs.YtccenpmaooailaaGreat.Sj Go.Proofs.YtccenpmaooailaaGreat.Ya Go.Proofs.YtccenpmaooailaaGreat.Yd Go.Proofs.YtccenpmaooailaaGreat.Yf Go.Proofs.YtccenpmaooailaaGreat.Yg Go.Proofs.YtccenpmaooailaaGreat.Ih

variable {Wz : World}
abbrev SO := Go.Proofs.YtccenpmaooailaaGreat.Pv.Sides
structure Core (Wz w wr : World) (base bo : Nat) (S : Nat → Prop) (vx vy vo : Value) (sx sy so : List Occ) : Prop where
  bel : Below Wz.heap.size Wz wr
  rX : Xw Wz wr base vx sx
  rY : Xw Wz wr base vy sy
  rO : Xw Wz wr bo vo so
  nXY : Nq vx vy
  nXO : Nq vx vo
  nYO : Nq vy vo
  fr : Fr S w wr
  atX : ∀ k, own vx k → S k ∨ w.heap.size ≤ k
  atY : ∀ k, own vy k → S k ∨ w.heap.size ≤ k
theorem Core.flip {w wr : World} {base bo : Nat} {S : Nat → Prop} {vx vy vo : Value} {sx sy so : List Occ} (h : Core Wz w wr base bo S vx vy vo sx sy so) : Core Wz w wr base bo S vy vx vo sy sx so :=
  ⟨h.bel, h.rY, h.rX, h.rO, h.nXY.symm, h.nYO, h.nXO, h.fr, h.atY, h.atX⟩
structure Mid (Wz w wr w3 : World) (base bo : Nat) (S : Nat → Prop) (x r vo u : Value) (sx sy so su : List Occ) : Prop where
  bel : Below Wz.heap.size Wz w3
  rX : Xw Wz w3 base x sx
  rY : Xw Wz w3 base r sy
  rO : Xw Wz w3 bo vo so
  rU : Xw Wz w3 wr.heap.size u su
  nXY : Nq x r
  nXO : Nq x vo
  nYO : Nq r vo
  nUO : Nq u vo
  fr : Fr S w w3
  atX : ∀ k, own x k → S k ∨ w.heap.size ≤ k
  atY : ∀ k, own r k → S k ∨ w.heap.size ≤ k
theorem nt {w : World} {base : Nat} {v : Value} {l : List Occ} (h : Xw Wz w base v l) {cells : Array Value} {g : Nat} (hg : w.heap[g]? = some (.cells cells 78 (0, 0))) : ¬ own v g := fun hk => by
  obtain ⟨c2, h2⟩ := Kd.R_typed h g hk
  rw [h2] at hg
  injection hg with hg
  injection hg with _ hg _
  exact absurd hg (by decide)
theorem fr_blk {S : Nat → Prop} {w w' : World} {o : Obj} {g : Nat} (hf : Fr S w w') (h : w.heap[g]? = some o) (hs : ¬ S g) : w'.heap[g]? = some o := (hf.block g (Array.getElem?_eq_some_iff.1 h).1 hs).trans h
theorem Core.step {w wr w2 : World} {base bo P : Nat} {S : Nat → Prop} {vx vy vo r x u : Value} {sx sy so oth own' found : List Occ} {cells : Array Value} (h : Core Wz w wr base bo S vx vy vo sx sy so) (g : OneMem Wz wr w2 base vy vx r x u oth own' found)
    (hP : wr.heap[P]? = some (.cells cells 78 (0, 0))) (hz : Wz.heap.size ≤ base) (hPz : Wz.heap.size ≤ P) (hPw : w.heap.size ≤ P) (u0 u1 : Value) :
    Mid Wz w wr (Id.set2 w2 P u0 u1) base bo S x r vo u own' oth so found := by
  have hP2 := fr_blk g.fr hP (nt h.rX hP)
  have hP3 := blk_set hP2 0 u0
  have hs := g.fr.size
  have hws := h.fr.size
  have hbx := Xw.base h.rX
  have k2 : Below Wz.heap.size Wz w2 := Fr.bel h.bel g.fr (fun k hk => by have := hbx k hk; omega)
  have e : ∀ {b : Nat} {v : Value} {l : List Occ}, Xw Wz w2 b v l → Xw Wz (Id.set2 w2 P u0 u1) b v l := fun hh => Xw.set (Xw.set hh hP2 (by decide) 0 u0) hP3 (by decide) 1 u1
  have rO2 : Xw Wz w2 bo vo so := Xw.keep h.rO g.fr h.nXO.symm (Xw.typed h.rX)
  have frx : Fr S w w2 := Fr.trans h.fr g.fr (fun k h1 h2 => by
    rcases h.atX k h1 with h3 | h3
    · exact h3
    · omega)
  refine ⟨(k2.setCell (p := ⟨P, 0, none⟩) hPz _).setCell (p := ⟨P, 1, none⟩) hPz _, e g.side, e g.rest, e rO2, e g.out, g.nrx.symm, ?_, ?_, ?_, Fr.set (Fr.set frx (fun hh => absurd hh (by omega))) (fun hh => absurd hh (by omega)), ?_, ?_⟩
  · intro k h1 h2
    rcases g.atx k h1 with h3 | h3
    · exact h.nXO k h3 h2
    · have := Xw.lt h.rO k h2; omega
  · rcases g.atr with h3 | h3
    · rw [h3]; exact h.nYO
    · intro k h1 h2; have := h3 k h1; have := Xw.lt h.rO k h2; omega
  · intro k h1 h2; have := Xw.base g.out k h1; have := Xw.lt h.rO k h2; omega
  · intro k h1
    rcases g.atx k h1 with h3 | h3
    · exact h.atX k h3
    · exact .inr (by omega)
  · intro k h1
    rcases g.atr with h3 | h3
    · rw [h3] at h1; exact h.atY k h1
    · have := h3 k h1; exact .inr (by omega)
theorem Mid.merge {w wr w3 w4 : World} {base bo : Nat} {S : Nat → Prop} {x r vo vo' u : Value} {sx sy so so' su : List Occ} (h : Mid Wz w wr w3 base bo S x r vo u sx sy so su) (hz : Wz.heap.size ≤ w.heap.size) (hbo : w.heap.size ≤ bo) (hr : Xw Wz w4 bo vo' so') (hg : w3.grownBy w4 vo.ownBlock) (hat : At' vo vo' w3.heap.size) :
    Core Wz w w4 base bo S x r vo' sx sy so' := by
  have hb := Xw.base h.rO
  have hf : Fr (own vo) w3 w4 := Fr.of_grown hg (fun k e => e.symm)
  refine ⟨Fr.bel h.bel hf (fun k hk => by have := hb k hk; omega), Xw.other h.rX h.rO hg h.nXO, Xw.other h.rY h.rO hg h.nYO, hr, h.nXY, Nq.at_ h.nXO (fun k hk => Xw.lt h.rX k hk) hat, Nq.at_ h.nYO (fun k hk => Xw.lt h.rY k hk) hat, Fr.trans h.fr hf (fun k h1 h2 => by have := hb k h1; omega), h.atX, h.atY⟩
theorem Core.pair {w wr : World} {base bo P : Nat} {S : Nat → Prop} {vx vy vo : Value} {sx sy so : List Occ} {cells : Array Value} (h : Core Wz w wr base bo S vx vy vo sx sy so) (hP : wr.heap[P]? = some (.cells cells 78 (0, 0))) (hz : Wz.heap.size ≤ P) (hw : w.heap.size ≤ P) (u0 u1 : Value) : Core Wz w (Id.set2 wr P u0 u1) base bo S vx vy vo sx sy so := by
  have hP3 := blk_set hP 0 u0
  have e : ∀ {b : Nat} {v : Value} {l : List Occ}, Xw Wz wr b v l → Xw Wz (Id.set2 wr P u0 u1) b v l := fun hh => Xw.set (Xw.set hh hP (by decide) 0 u0) hP3 (by decide) 1 u1
  exact ⟨(h.bel.setCell (p := ⟨P, 0, none⟩) hz _).setCell (p := ⟨P, 1, none⟩) hz _, e h.rX, e h.rY, e h.rO, h.nXY, h.nXO, h.nYO, Fr.set (Fr.set h.fr (fun hh => absurd hh (by omega))) (fun hh => absurd hh (by omega)), h.atX, h.atY⟩
def AndSOut (Wz w w' : World) (base : Nat) (S : Nat → Prop) (a : SO) (e : Ending) : Prop := ∃ vL vR vO, e = .returned (.tuple #[.agg #[vL, vR], vO]) ∧ Core Wz w w' base (w.heap.size + 2) S vL vR vO a.own a.oth a.out
end Go.Proofs.YtccenpmaooailaaGreat.Yh

/- Lists and pairs in new memory: the reference's. -/
set_option linter.unusedVariables false
set_option linter.unusedSimpArgs false
namespace Go.Proofs.YtccenpmaooailaaGreat.Yi
open Go.RowKit Go.Proofs.YtccenpmaooailaaGreatW.PrintWords Go.Proofs.YtccenpmaooailaaGreat.Wd Go.Proofs.YtccenpmaooailaaGreat.Pu Go.Proofs.YtccenpmaooailaaGreat.Pv Go.Proofs.YtccenpmaooailaaGreat.Ca Go.Proofs.YtccenpmaooailaaGreat.Cb Go.Proofs.YtccenpmaooailaaGreat.Cc Go.Proofs.YtccenpmaooailaaGreat.Cp Go.Proofs.YtccenpmaooailaaGreat.Cd Go.Proofs.YtccenpmaooailaaGreat.Ci Go.Proofs.YtccenpmaooailaaGreat.Ce Go.Proofs.YtccenpmaooailaaGreat.Cf Go.Proofs.YtccenpmaooailaaGreat.Cg Go.Proofs.YtccenpmaooailaaGreat.Sc Go.Proofs.YtccenpmaooailaaGreat.Se Go.Proofs.YtccenpmaooailaaGreat.Sh Go.Proofs.YtccenpmaooailaaGreat.Si Go.Proofs.YtccenpmaooailaaGreat.Sp Go.Proofs.YtccenpmaooailaaGreat.Ia Go.Proofs.YtccenpmaooailaaGreat.Ib Go.Proofs.YtccenpmaooailaaGreat.Ic Go.Proofs.YtccenpmaooailaaGreat.Id Go.Proofs.YtccenpmaooailaaGreat.Ie Go.Proofs.YtccenpmaooailaaGreat.If Go.Proofs.YtccenpmaooailaaGreat.Ig Go.Proofs.YtccenpmaooailaaGreat.Ih Go.Proofs.YtccenpmaooailaaGreat.Ij Go.Proofs.YtccenpmaooailaaGreat.Ik Go.Proofs.YtccenpmaooailaaGreat.Ra Go.Proofs.YtccenpmaooailaaGreat.Rb Go.Proofs.YtccenpmaooailaaGreat.Rc Go.Proofs.YtccenpmaooailaaGreat.Rd Go.Proofs.YtccenpmaooailaaGreat.Re Go.Proofs.YtccenpmaooailaaGreat.Sj Go.Proofs.YtccenpmaooailaaGreat.Ya Go.Proofs.YtccenpmaooailaaGreat.Yd Go.Proofs.YtccenpmaooailaaGreat.Yf Go.Proofs.YtccenpmaooailaaGreat.Yg Go.Proofs.YtccenpmaooailaaGreat.Ih Go.Proofs.YtccenpmaooailaaGreat.Yh

def ListOut (w w' : World) (l : List Occ) (e : Ending) : Prop := ∃ v, e = .returned v ∧ Rw w' w.heap.size v l ∧ Below w.heap.size w w'
set_option maxHeartbeats 1000000 in
set_option maxRecDepth 100000 in
theorem list_any (A : Option Addr) (c : Nat) (l : List Occ) (w : World) (hl : l.length ≤ 1048576) (hi : ∀ x ∈ l, x.f2.length ≤ 1048576) (hL : IsL w l A c) :
    Calls Tryz.prog 50 #[.slice A l.length c] w fun e w' => ListOut w w' l e := by
  have HI := Aside0.mk hi
  have HB0 := Aside0.mk (below_alloc (Below.refl w.heap.size w) (.cells #[] 43))
  have HR0 : Aside0 (Rw (w.alloc (.cells #[] 43)) w.heap.size (.slice (some ⟨w.heap.size, 0, none⟩) 0 0) []) := ⟨R_empty kO (blk_new _ _) (Nat.le_refl _)⟩
  clear hi
  go_enter Tryz.func50, Tryz.ntmps50
  go_wp2
  go_loopw [3, 4] (fun v3 vi wr => ∃ (k : Nat) (v : Value), k ≤ l.length ∧ vi = .int .i64 k ∧ v = v3 ∧ Aside0 (Rw wr w.heap.size v (l.take k)) ∧ Aside0 (Below w.heap.size w wr)) (fun _ vi _ => l.length - (intOf vi).toNat)
  case atStart => exact ⟨0, _, Nat.zero_le _, rfl, rfl, by simpa using HR0, HB0⟩
  case round =>
    clear HR0 HB0
    obtain ⟨k, v, hk, rfl, rfl, HR, HB⟩ := hrel
    by_cases hlt : k < l.length
    · have g1 : decide (k < l.length) = true := decide_eq_true hlt
      have i1 : (k : Int) < l.length := by omega
      obtain ⟨ad, A3, c3, rfl, pa, pb, pc, pl, pC⟩ := atO (hL.below HB.out).rd k hlt
      have hT := take_succ_getD l k zO hlt
      have hio := HI.out _ (getD_mem (l := l) (i := k) hlt)
      have hIo : IsO wr (l.getD k zO) A3 c3 := ⟨pl, pC⟩
      generalize l.getD k zO = o at pa pb pc hT hio hIo
      have HT := Aside0.mk hT
      have HIo := Aside0.mk hIo
      have hln : (l.take k).length = k := by rw [List.length_take]; omega
      have HLN := Aside0.mk hln
      have hws := HB.out.size
      clear pl pC hT hIo hln
      go_wp2_with (first
        | ((with_reducible refine gate_dst (N := 19) rfl ?_); refine Kd.R_append kO (w0 := w) w.heap.size rfl _ _ 23 43 (.agg #[.int .i64 0, .int .i64 0, .slice none 0 0]) 40 rfl Tryz.underlying23 infoO rfl (by decide) (by decide) v (l.take k) o [.int .i64 o.f0, .int .i64 o.f1, .slice Ac o.f2.length cc] (fun _ => True) (fun j => wr.heap.size ≤ j) rfl rfl (kO_mkM _ _ _ o (Kd.R_lower (Kd.R_mono (Kd.R_bound HC4.out) (fun j hj => hj.2.1)) hws)) (fun j hj => ⟨trivial, fun h => by have := Kd.R_lt HR.out j h.symm; omega⟩) (fun _ _ => trivial) HR4.out HB4.out HB4.out.size (by rw [HLN.out]; omega) ?_; intro v5 w5 hs5 hb5 hg5 hat5; have HS5 := Aside0.mk hs5; have HB5 := Aside0.mk hb5; clear hs5 hb5 hg5 hat5)
        | (go_at_call 92; refine (sCopy_any A3 c3 o _ HIo.out hio).mono ?_; rintro e w4 ⟨v4, rfl, hc4, hb4⟩; obtain ⟨Ac, cc, rfl⟩ := Kd.R_slice hc4; have HC4 := Aside0.mk hc4; have HR4 := Aside0.mk (Rw.below HR.out hb4); have HB4 := Aside0.mk (below_then HB.out HB.out.size hb4); clear hc4 hb4))
      go_roundw
      case rel => exact ⟨k + 1, v5, by omega, by go_num, rfl, ⟨by rw [HT.out]; exact HS5.out⟩, HB5⟩
      case measure => simp [intOf]; omega
    · have hke : k = l.length := by omega
      subst hke
      have g1 : decide (l.length < l.length) = false := decide_eq_false (by omega)
      have hF := HR.out
      rw [List.take_length] at hF
      have HF := Aside0.mk hF
      clear hF
      go_wp2
      go_ret
      exact ⟨v, rfl, HF.out, HB.out⟩
end Go.Proofs.YtccenpmaooailaaGreat.Yi

/- A pair in new memory: the reference's. -/
set_option linter.unusedVariables false
set_option linter.unusedSimpArgs false
namespace Go.Proofs.YtccenpmaooailaaGreat.Yj
open Go.RowKit Go.Proofs.YtccenpmaooailaaGreatW.PrintWords Go.Proofs.YtccenpmaooailaaGreat.Wd Go.Proofs.YtccenpmaooailaaGreat.Pu Go.Proofs.YtccenpmaooailaaGreat.Pv Go.Proofs.YtccenpmaooailaaGreat.Ca Go.Proofs.YtccenpmaooailaaGreat.Cb Go.Proofs.YtccenpmaooailaaGreat.Cc Go.Proofs.YtccenpmaooailaaGreat.Cp Go.Proofs.YtccenpmaooailaaGreat.Cd Go.Proofs.YtccenpmaooailaaGreat.Ci Go.Proofs.YtccenpmaooailaaGreat.Ce Go.Proofs.YtccenpmaooailaaGreat.Cf Go.Proofs.YtccenpmaooailaaGreat.Cg Go.Proofs.YtccenpmaooailaaGreat.Sc Go.Proofs.YtccenpmaooailaaGreat.Se Go.Proofs.YtccenpmaooailaaGreat.Sh Go.Proofs.YtccenpmaooailaaGreat.Si Go.Proofs.YtccenpmaooailaaGreat.Sp Go.Proofs.YtccenpmaooailaaGreat.Ia Go.Proofs.YtccenpmaooailaaGreat.Ib Go.Proofs.YtccenpmaooailaaGreat.Ic Go.Proofs.YtccenpmaooailaaGreat.Id Go.Proofs.YtccenpmaooailaaGreat.Ie Go.Proofs.YtccenpmaooailaaGreat.If Go.Proofs.YtccenpmaooailaaGreat.Ig Go.Proofs.YtccenpmaooailaaGreat.Ih Go.Proofs.YtccenpmaooailaaGreat.Ij Go.Proofs.YtccenpmaooailaaGreat.Ik Go.Proofs.YtccenpmaooailaaGreat.Ra Go.Proofs.YtccenpmaooailaaGreat.Rb Go.Proofs.YtccenpmaooailaaGreat.Rc Go.Proofs.YtccenpmaooailaaGreat.Rd Go.Proofs.YtccenpmaooailaaGreat.Re Go.Proofs.YtccenpmaooailaaGreat.Sj Go.Proofs.YtccenpmaooailaaGreat.Ya Go.Proofs.YtccenpmaooailaaGreat.Yd Go.Proofs.YtccenpmaooailaaGreat.Yf Go.Proofs.YtccenpmaooailaaGreat.Yg Go.Proofs.YtccenpmaooailaaGreat.Ih Go.Proofs.YtccenpmaooailaaGreat.Yh Go.Proofs.YtccenpmaooailaaGreat.Yi

theorem RR.two {W w1 w2 : World} {u v : Value} {l m : List Occ} (h : Rw w1 W.heap.size u l) (g : Rw w2 w1.heap.size v m) (hb : Below w1.heap.size w1 w2) (hs : W.heap.size ≤ w1.heap.size) : Rw w2 W.heap.size u l ∧ Rw w2 W.heap.size v m ∧ Nq u v :=
  ⟨Rw.below h hb, Kd.R_lower g hs, fun k h1 h2 => by have := Kd.R_lt h k h1; have := Kd.R_base g k h2; omega⟩
theorem RR.set2 {w : World} {base G : Nat} {v : Value} {xs : List Occ} {cs : Array Value} (h : Rw w base v xs) (b : w.heap[G]? = some (.cells cs 78 (0, 0))) (u0 u1 : Value) : Rw (Id.set2 w G u0 u1) base v xs :=
  Kd.R_set (Kd.R_set h b (by decide) 0 u0) (blk_set b 0 u0) (by decide) 1 u1
end Go.Proofs.YtccenpmaooailaaGreat.Yj

/- What waits, paired at one point in time: the reference's. -/
set_option linter.unusedVariables false
set_option linter.unusedSimpArgs false
namespace Go.Proofs.YtccenpmaooailaaGreat.Yk
open Go.RowKit Go.Proofs.YtccenpmaooailaaGreatW.PrintWords Go.Proofs.YtccenpmaooailaaGreat.Wd Go.Proofs.YtccenpmaooailaaGreat.Pu Go.Proofs.YtccenpmaooailaaGreat.Pv Go.Proofs.YtccenpmaooailaaGreat.Ca Go.Proofs.YtccenpmaooailaaGreat.Cb Go.Proofs.YtccenpmaooailaaGreat.Cc Go.Proofs.YtccenpmaooailaaGreat.Cp Go.Proofs.YtccenpmaooailaaGreat.Cd Go.Proofs.YtccenpmaooailaaGreat.Ci Go.Proofs.YtccenpmaooailaaGreat.Ce Go.Proofs.YtccenpmaooailaaGreat.Cf Go.Proofs.YtccenpmaooailaaGreat.Cg Go.Proofs.YtccenpmaooailaaGreat.Sc Go.Proofs.YtccenpmaooailaaGreat.Se Go.Proofs.YtccenpmaooailaaGreat.Sh Go.Proofs.YtccenpmaooailaaGreat.Si Go.Proofs.YtccenpmaooailaaGreat.Sp Go.Proofs.YtccenpmaooailaaGreat.Ia Go.Proofs.YtccenpmaooailaaGreat.Ib Go.Proofs.YtccenpmaooailaaGreat.Ic Go.Proofs.YtccenpmaooailaaGreat.Id Go.Proofs.YtccenpmaooailaaGreat.Ie Go.Proofs.YtccenpmaooailaaGreat.If Go.Proofs.YtccenpmaooailaaGreat.Ig Go.Proofs.YtccenpmaooailaaGreat.Ih Go.Proofs.YtccenpmaooailaaGreat.Ij Go.Proofs.YtccenpmaooailaaGreat.Ik Go.Proofs.YtccenpmaooailaaGreat.Ra Go.Proofs.YtccenpmaooailaaGreat.Rb Go.Proofs.YtccenpmaooailaaGreat.Rc Go.Proofs.YtccenpmaooailaaGreat.Rd Go.Proofs.YtccenpmaooailaaGreat.Re Go.Proofs.YtccenpmaooailaaGreat.Sj Go.Proofs.YtccenpmaooailaaGreat.Ya Go.Proofs.YtccenpmaooailaaGreat.Yd Go.Proofs.YtccenpmaooailaaGreat.Yf Go.Proofs.YtccenpmaooailaaGreat.Yg Go.Proofs.YtccenpmaooailaaGreat.Ih Go.Proofs.YtccenpmaooailaaGreat.Yh Go.Proofs.YtccenpmaooailaaGreat.Yi Go.Proofs.YtccenpmaooailaaGreat.Sg Go.Proofs.YtccenpmaooailaaGreat.Sf Go.Proofs.YtccenpmaooailaaGreat.Yj Go.Proofs.YtccenpmaooailaaGreat.Ig

theorem sMode_any (m : Int) (w : World) : Calls Tryz.prog 87 #[.int .i64 m] w fun e w' => e = .returned (.bool (inb m 0 4)) ∧ w' = w := by
  by_cases h0 : 0 ≤ m
  · have e1 : decide (m ≥ 0) = true := decide_eq_true h0
    have e2 : decide (m < 5) = decide (m ≤ 4) := by rw [decide_eq_decide]; omega
    have HE := Aside0.mk (show inb m 0 4 = decide (m < 5) by unfold inb; rw [e2]; simp [h0])
    clear e2
    go_enter Tryz.func87, Tryz.ntmps87
    go_wp2
    go_ret
    exact ⟨ret_bool HE.out.symm, rfl⟩
  · have e1 : decide (m ≥ 0) = false := decide_eq_false h0
    have HE := Aside0.mk (show inb m 0 4 = false by unfold inb; simp; omega)
    go_enter Tryz.func87, Tryz.ntmps87
    go_wp2
    go_ret
    exact ⟨ret_bool HE.out.symm, rfl⟩
theorem isL_nil (w : World) (A : Option Addr) (c : Nat) : IsL w [] A c := ⟨Nat.zero_le _, rfl, by decide, fun h => absurd h (by decide)⟩
theorem Rw.two {w : World} {base P : Nat} {v : Value} {l : List Occ} {cs : Array Value} (h : Rw w base v l) (b : w.heap[P]? = some (.cells cs 78 (0, 0))) (u0 u1 : Value) : Rw (Id.set2 w P u0 u1) base v l := RR.set2 h b u0 u1
structure AfterMem (w w6 : World) (p : P3) (AL AR Ao : Option Addr) (cL cR co : Nat) : Prop where
  la : IsL w6 p.a AL cL
  lb : IsL w6 p.b AR cR
  lc : IsL w6 p.c Ao co
  bel : Below w.heap.size w w6
  bR : w6.heap[w.heap.size + 1]? = some (.cells #[.slice none 0 0, .slice none 0 0] 78 (0, 0))
theorem AfterMem.below {w w6 w7 : World} {p : P3} {AL AR Ao : Option Addr} {cL cR co : Nat} (h : AfterMem w w6 p AL AR Ao cL cR co) (hb : Below w6.heap.size w6 w7) : AfterMem w w7 p AL AR Ao cL cR co :=
  ⟨h.la.below hb, h.lb.below hb, h.lc.below hb, below_then h.bel h.bel.size hb, blk_below h.bR hb⟩
end Go.Proofs.YtccenpmaooailaaGreat.Yk

/- What waits, paired at one point in time: the reference's. -/
set_option linter.unusedVariables false
set_option linter.unusedSimpArgs false
namespace Go.Proofs.YtccenpmaooailaaGreat.YkS
open Go.RowKit Go.Proofs.YtccenpmaooailaaGreatW.PrintWords Go.Proofs.YtccenpmaooailaaGreat.Wd Go.Proofs.YtccenpmaooailaaGreat.Pu Go.Proofs.YtccenpmaooailaaGreat.Pv Go.Proofs.YtccenpmaooailaaGreat.Ca Go.Proofs.YtccenpmaooailaaGreat.Cb Go.Proofs.YtccenpmaooailaaGreat.Cc Go.Proofs.YtccenpmaooailaaGreat.Cp Go.Proofs.YtccenpmaooailaaGreat.Cd Go.Proofs.YtccenpmaooailaaGreat.Ci Go.Proofs.YtccenpmaooailaaGreat.Ce Go.Proofs.YtccenpmaooailaaGreat.Cf Go.Proofs.YtccenpmaooailaaGreat.Cg Go.Proofs.YtccenpmaooailaaGreat.Sc Go.Proofs.YtccenpmaooailaaGreat.Se Go.Proofs.YtccenpmaooailaaGreat.Sh Go.Proofs.YtccenpmaooailaaGreat.Si Go.Proofs.YtccenpmaooailaaGreat.Sp Go.Proofs.YtccenpmaooailaaGreat.Ia Go.Proofs.YtccenpmaooailaaGreat.Ib Go.Proofs.YtccenpmaooailaaGreat.Ic Go.Proofs.YtccenpmaooailaaGreat.Id Go.Proofs.YtccenpmaooailaaGreat.Ie Go.Proofs.YtccenpmaooailaaGreat.If Go.Proofs.YtccenpmaooailaaGreat.Ig Go.Proofs.YtccenpmaooailaaGreat.Ih Go.Proofs.YtccenpmaooailaaGreat.Ij Go.Proofs.YtccenpmaooailaaGreat.Ik Go.Proofs.YtccenpmaooailaaGreat.Ra Go.Proofs.YtccenpmaooailaaGreat.Rb Go.Proofs.YtccenpmaooailaaGreat.Rc Go.Proofs.YtccenpmaooailaaGreat.Rd Go.Proofs.YtccenpmaooailaaGreat.Re Go.Proofs.YtccenpmaooailaaGreat.Sj Go.Proofs.YtccenpmaooailaaGreat.Ya Go.Proofs.YtccenpmaooailaaGreat.Yd Go.Proofs.YtccenpmaooailaaGreat.Yf Go.Proofs.YtccenpmaooailaaGreat.Yg Go.Proofs.YtccenpmaooailaaGreat.Ih Go.Proofs.YtccenpmaooailaaGreat.Yh Go.Proofs.YtccenpmaooailaaGreat.Yi Go.Proofs.YtccenpmaooailaaGreat.Sg Go.Proofs.YtccenpmaooailaaGreat.Sf Go.Proofs.YtccenpmaooailaaGreat.Yj Go.Proofs.YtccenpmaooailaaGreat.Ig Go.Proofs.YtccenpmaooailaaGreat.Yk


end Go.Proofs.YtccenpmaooailaaGreat.YkS

/- What is found at a time; what is told: the reference's. -/
set_option linter.unusedVariables false
set_option linter.unusedSimpArgs false
namespace Go.Proofs.YtccenpmaooailaaGreat.Yl
open Go.RowKit Go.Proofs.YtccenpmaooailaaGreatW.PrintWords Go.Proofs.YtccenpmaooailaaGreat.Wd Go.Proofs.YtccenpmaooailaaGreat.Pu Go.Proofs.YtccenpmaooailaaGreat.Pv Go.Proofs.YtccenpmaooailaaGreat.Ca Go.Proofs.YtccenpmaooailaaGreat.Cb Go.Proofs.YtccenpmaooailaaGreat.Cc Go.Proofs.YtccenpmaooailaaGreat.Cp Go.Proofs.YtccenpmaooailaaGreat.Cd Go.Proofs.YtccenpmaooailaaGreat.Ci Go.Proofs.YtccenpmaooailaaGreat.Ce Go.Proofs.YtccenpmaooailaaGreat.Cf Go.Proofs.YtccenpmaooailaaGreat.Cg Go.Proofs.YtccenpmaooailaaGreat.Sc Go.Proofs.YtccenpmaooailaaGreat.Se Go.Proofs.YtccenpmaooailaaGreat.Sh Go.Proofs.YtccenpmaooailaaGreat.Si Go.Proofs.YtccenpmaooailaaGreat.Sp Go.Proofs.YtccenpmaooailaaGreat.Ia Go.Proofs.YtccenpmaooailaaGreat.Ib Go.Proofs.YtccenpmaooailaaGreat.Ic Go.Proofs.YtccenpmaooailaaGreat.Id Go.Proofs.YtccenpmaooailaaGreat.Ie Go.Proofs.YtccenpmaooailaaGreat.If Go.Proofs.YtccenpmaooailaaGreat.Ig Go.Proofs.YtccenpmaooailaaGreat.Ih Go.Proofs.YtccenpmaooailaaGreat.Ij Go.Proofs.YtccenpmaooailaaGreat.Ik Go.Proofs.YtccenpmaooailaaGreat.Ra Go.Proofs.YtccenpmaooailaaGreat.Rb Go.Proofs.YtccenpmaooailaaGreat.Rc Go.Proofs.YtccenpmaooailaaGreat.Rd Go.Proofs.YtccenpmaooailaaGreat.Re Go.Proofs.YtccenpmaooailaaGreat.Sj Go.Proofs.YtccenpmaooailaaGreat.Ya Go.Proofs.YtccenpmaooailaaGreat.Yd Go.Proofs.YtccenpmaooailaaGreat.Yf Go.Proofs.YtccenpmaooailaaGreat.Yg Go.Proofs.YtccenpmaooailaaGreat.Ih Go.Proofs.YtccenpmaooailaaGreat.Yh Go.Proofs.YtccenpmaooailaaGreat.Yi Go.Proofs.YtccenpmaooailaaGreat.Sg Go.Proofs.YtccenpmaooailaaGreat.Sf Go.Proofs.YtccenpmaooailaaGreat.Yj Go.Proofs.YtccenpmaooailaaGreat.Ig Go.Proofs.YtccenpmaooailaaGreat.Yk Go.Proofs.YtccenpmaooailaaGreat.Ik

def SAtOut (Wz w w' : World) (l : List Occ) (e : Ending) : Prop := ∃ v, e = .returned v ∧ (Kd.fixed kO Wz).R 43 w' w.heap.size (fun _ => True) v l ∧ Below w.heap.size w w'
theorem filter_snoc' {α : Type} (p : α → Bool) (l : List α) (o : α) : (l ++ [o]).filter p = if p o then l.filter p ++ [o] else l.filter p := by
  rw [List.filter_append]; cases h : p o <;> simp [h]
set_option maxHeartbeats 1000000 in
set_option maxRecDepth 100000 in
theorem sAt_any (Wz : World) (A : Option Addr) (c : Nat) (l : List Occ) (t : Int) (w : World) (hl : l.length ≤ 1048576) (hW : Below Wz.heap.size Wz w) (hL : IsL Wz l A c) :
    Calls Tryz.prog 101 #[.slice A l.length c, .int .i64 t] w fun e w' => SAtOut Wz w w' (atT l t) e := by
  have HB0 := Aside0.mk (below_alloc (Below.refl w.heap.size w) (.cells #[] 43))
  have HR0 : Aside0 ((Kd.fixed kO Wz).R 43 (w.alloc (.cells #[] 43)) w.heap.size (fun _ => True) (.slice (some ⟨w.heap.size, 0, none⟩) 0 0) []) := ⟨R_empty (Kd.fixed kO Wz) (blk_new _ _) (Nat.le_refl _)⟩
  go_enter Tryz.func101, Tryz.ntmps101
  go_wp2
  go_loopw [5, 6] (fun v5 vi wr => ∃ (k : Nat) (v : Value), k ≤ l.length ∧ vi = .int .i64 k ∧ v = v5 ∧ Aside0 ((Kd.fixed kO Wz).R 43 wr w.heap.size (fun _ => True) v (atT (l.take k) t)) ∧ Aside0 (Below w.heap.size w wr)) (fun _ vi _ => l.length - (intOf vi).toNat)
  case atStart => exact ⟨0, _, Nat.zero_le _, rfl, rfl, by simpa [atT] using HR0, HB0⟩
  case round =>
    clear HR0 HB0
    obtain ⟨k, v, hk, rfl, rfl, HR, HB⟩ := hrel
    by_cases hlt : k < l.length
    · have g1 : decide (k < l.length) = true := decide_eq_true hlt
      have i1 : (k : Int) < l.length := by omega
      have hbz := below_then hW hW.size HB.out
      obtain ⟨ad, A3, c3, rfl, pa, pb, pc, pl, pC⟩ := atO hL.rd k hlt
      have hT := take_succ_getD l k zO hlt
      have hln : (atT (l.take k) t).length ≤ k := Nat.le_trans (List.length_filter_le _ _) (by rw [List.length_take]; omega)
      have hIo : IsO Wz (l.getD k zO) A3 c3 := ⟨pl, pC⟩
      have qa := pw_cell_below hbz pa
      have qb := pw_cell_below hbz pb
      have qc := pw_cell_below hbz pc
      generalize l.getD k zO = o at qa qb qc hT hIo
      have HT := Aside0.mk (show atT (l.take (k + 1)) t = if decide (o.f1 = t) then atT (l.take k) t ++ [o] else atT (l.take k) t by rw [hT]; exact filter_snoc' _ _ _)
      have HIo := Aside0.mk hIo
      have hws := HB.out.size
      clear pa pb pc pl pC hT hIo hbz
      by_cases hd : o.f1 = t
      · have HT2 := Aside0.mk (HT.out.trans (if_pos (decide_eq_true hd)))
        have e1 : (o.f1 == t) = true := by simp [hd]
        clear HT hd
        go_wp2_with ((with_reducible refine gate_dst (N := 27) rfl ?_); refine Kd.R_append (Kd.fixed kO Wz) (w0 := w) w.heap.size rfl _ _ 23 43 (.agg #[.int .i64 0, .int .i64 0, .slice none 0 0]) 40 rfl Tryz.underlying23 infoO rfl (szO Wz) (by decide) v (atT (l.take k) t) o [.int .i64 o.f0, .int .i64 o.f1, .slice A3 o.f2.length c3] (fun _ => True) (fun _ => False) rfl rfl (kO_mk Wz o HIo.out.1 HIo.out.2) (fun _ h => h.elim) (fun _ _ => trivial) HR.out HB.out HB.out.size (by omega) ?_; intro v5 w5 hs5 hb5 hg5 hat5; have HS5 := Aside0.mk hs5; have HB5 := Aside0.mk hb5; clear hs5 hb5 hg5 hat5)
        go_roundw
        case rel => exact ⟨k + 1, v5, by omega, by go_num, rfl, ⟨by rw [HT2.out]; exact HS5.out⟩, HB5⟩
        case measure => simp [intOf]; omega
      · have HT2 := Aside0.mk (HT.out.trans (if_neg (by simpa using hd)))
        have e1 : (o.f1 == t) = false := by simp [hd]
        clear HT hd
        go_wp2
        go_roundw
        case rel => exact ⟨k + 1, _, by omega, by go_num, rfl, ⟨by rw [HT2.out]; exact HR.out⟩, HB⟩
        case measure => simp [intOf]; omega
    · have hke : k = l.length := by omega
      subst hke
      have g1 : decide (l.length < l.length) = false := decide_eq_false (by omega)
      have hF := HR.out
      rw [List.take_length] at hF
      have HF := Aside0.mk hF
      clear hF
      go_wp2
      go_ret
      exact ⟨v, rfl, HF.out, HB.out⟩
def ToldL (w w' : World) (p : List Occ × Bool) (e : Ending) : Prop := ∃ A c, e = .returned (.tuple #[.slice A p.1.length c, .bool p.2]) ∧ IsL w' p.1 A c ∧ Below w.heap.size w w'
end Go.Proofs.YtccenpmaooailaaGreat.Yl

/- All times of lists: the reference's. -/
set_option linter.unusedVariables false
set_option linter.unusedSimpArgs false
namespace Go.Proofs.YtccenpmaooailaaGreat.Ym
open Go.RowKit Go.Proofs.YtccenpmaooailaaGreatW.PrintWords Go.Proofs.YtccenpmaooailaaGreat.Wd Go.Proofs.YtccenpmaooailaaGreat.Pu Go.Proofs.YtccenpmaooailaaGreat.Pv Go.Proofs.YtccenpmaooailaaGreat.Ca Go.Proofs.YtccenpmaooailaaGreat.Cb Go.Proofs.YtccenpmaooailaaGreat.Cc Go.Proofs.YtccenpmaooailaaGreat.Cp Go.Proofs.YtccenpmaooailaaGreat.Cd Go.Proofs.YtccenpmaooailaaGreat.Ci Go.Proofs.YtccenpmaooailaaGreat.Ce Go.Proofs.YtccenpmaooailaaGreat.Cf Go.Proofs.YtccenpmaooailaaGreat.Cg Go.Proofs.YtccenpmaooailaaGreat.Sc Go.Proofs.YtccenpmaooailaaGreat.Se Go.Proofs.YtccenpmaooailaaGreat.Sh Go.Proofs.YtccenpmaooailaaGreat.Si Go.Proofs.YtccenpmaooailaaGreat.Sp Go.Proofs.YtccenpmaooailaaGreat.Ia Go.Proofs.YtccenpmaooailaaGreat.Ib Go.Proofs.YtccenpmaooailaaGreat.Ic Go.Proofs.YtccenpmaooailaaGreat.Id Go.Proofs.YtccenpmaooailaaGreat.Ie Go.Proofs.YtccenpmaooailaaGreat.If Go.Proofs.YtccenpmaooailaaGreat.Ig Go.Proofs.YtccenpmaooailaaGreat.Ih Go.Proofs.YtccenpmaooailaaGreat.Ij Go.Proofs.YtccenpmaooailaaGreat.Ik Go.Proofs.YtccenpmaooailaaGreat.Ra Go.Proofs.YtccenpmaooailaaGreat.Rb Go.Proofs.YtccenpmaooailaaGreat.Rc Go.Proofs.YtccenpmaooailaaGreat.Rd Go.Proofs.YtccenpmaooailaaGreat.Re Go.Proofs.YtccenpmaooailaaGreat.Sj Go.Proofs.YtccenpmaooailaaGreat.Ya Go.Proofs.YtccenpmaooailaaGreat.Yd Go.Proofs.YtccenpmaooailaaGreat.Yf Go.Proofs.YtccenpmaooailaaGreat.Yg Go.Proofs.YtccenpmaooailaaGreat.Ih Go.Proofs.YtccenpmaooailaaGreat.Yh Go.Proofs.YtccenpmaooailaaGreat.Yi Go.Proofs.YtccenpmaooailaaGreat.Sg Go.Proofs.YtccenpmaooailaaGreat.Sf Go.Proofs.YtccenpmaooailaaGreat.Yj Go.Proofs.YtccenpmaooailaaGreat.Ig Go.Proofs.YtccenpmaooailaaGreat.Yk Go.Proofs.YtccenpmaooailaaGreat.Ik Go.Proofs.YtccenpmaooailaaGreat.Yl Go.Proofs.YtccenpmaooailaaGreat.Ij

def hit (l : List Occ) (t : Int) : Bool := l.any (fun o => decide (o.f1 = t))
def STimesOut (w w' : World) (r : List Int) (e : Ending) : Prop := ∃ A c, e = .returned (.slice A r.length c) ∧ RI w w' (.slice A r.length c) r ∧ Below w.heap.size w w'
theorem hit_snoc (l : List Occ) (o : Occ) (t : Int) : hit (l ++ [o]) t = (hit l t || decide (o.f1 = t)) := by unfold hit; rw [List.any_append]; simp
def tmsTo (n : Nat) (l : List Occ) : List Int := ((List.range n).map (fun n : Nat => (n : Int) + 1)).filter (fun t => hit l t)
theorem tmsTo_succ (n : Nat) (l : List Occ) : tmsTo (n + 1) l = if hit l ((n : Int) + 1) then tmsTo n l ++ [(n : Int) + 1] else tmsTo n l := by
  unfold tmsTo
  rw [List.range_succ, List.map_append, List.filter_append]
  cases h : hit l ((n : Int) + 1) <;> simp [h]
theorem tmsTo_len (n : Nat) (l : List Occ) : (tmsTo n l).length ≤ n := Nat.le_trans (List.length_filter_le _ _) (by simp)
theorem tmsTo_all (l : List Occ) : tmsTo 2000 l = tms l := rfl
set_option maxHeartbeats 4000000 in
set_option maxRecDepth 100000 in
theorem sTimes_any (G : Option Addr) (c : Nat) (ls : List (List Occ)) (w : World) (hl : ls.flatten.length ≤ 1048576) (hG : kL.C w G ls.length ls) :
    Calls Tryz.prog 100 #[.slice G ls.length c] w fun e w' => STimesOut w w' (tms ls.flatten) e := by
  have hll := (C_len hG).2
  have HB0 := Aside0.mk (below_alloc (Below.refl w.heap.size w) (.cells #[] 3))
  have HR0 : Aside0 (RI w (w.alloc (.cells #[] 3)) (.slice (some ⟨w.heap.size, 0, none⟩) 0 0) (tmsTo 0 ls.flatten)) := ⟨by simpa [tmsTo] using (R_empty (Kd.int .i64) (blk_new w (.cells #[] 3)) (Nat.le_refl _) : RI w (w.alloc (.cells #[] 3)) (.slice (some ⟨w.heap.size, 0, none⟩) 0 0) [])⟩
  go_enter Tryz.func100, Tryz.ntmps100
  go_wp2
  go_loopw [3, 4] (fun v3 vi wr => ∃ (k : Nat) (v : Value), k ≤ 2000 ∧ vi = .int .i64 ((k : Int) + 1) ∧ v = v3 ∧ Aside0 (RI w wr v (tmsTo k ls.flatten)) ∧ Aside0 (Below w.heap.size w wr)) (fun _ vi _ => 2001 - (intOf vi).toNat)
  case atStart => exact ⟨0, _, Nat.zero_le _, rfl, rfl, HR0, HB0⟩
  case round =>
    clear HR0 HB0
    obtain ⟨k, v, hk, rfl, rfl, HR, HB⟩ := hrel
    by_cases hlt : k < 2000
    · have g1 : decide ((k : Int) + 1 ≤ 2000) = true := decide_eq_true (by omega)
      obtain ⟨t, ht⟩ : ∃ t : Int, t = (k : Int) + 1 := ⟨_, rfl⟩
      have HT := Aside0.mk ht
      have hG2 := Kd.C_below hG HB.out
      go_wp2
      go_loopw [5, 6] (fun v5 vi wq => ∃ (i : Nat), i ≤ ls.length ∧ vi = .int .i64 i ∧ v5 = .bool (hit (ls.take i).flatten ((k : Int) + 1)) ∧ wq = wr) (fun _ vi _ => ls.length - (intOf vi).toNat)
      case atStart => exact ⟨0, Nat.zero_le _, rfl, by simp [hit], rfl⟩
      case round =>
        obtain ⟨i, hi, rfl, rfl, rfl⟩ := hrel
        by_cases hlt2 : i < ls.length
        · have g2 : decide (i < ls.length) = true := decide_eq_true hlt2
          have j1 : (i : Int) < ls.length := by omega
          obtain ⟨adg, A0, c0, rfl, qg, hI⟩ := atL hG2 i hlt2
          have hft := flat_take ls i hlt2
          have hLl := flat_len ls i hlt2
          have HI := Aside0.mk hI
          have HFT := Aside0.mk hft
          clear hI hft
          generalize hL : ls.getD i [] = L at qg HI HFT hLl
          generalize hP : (ls.take i).flatten = P at HFT hLl ⊢
          clear hL hP
          go_wp2
          go_loopw [5, 7] (fun v5 vi wq2 => ∃ (j : Nat), j ≤ L.length ∧ vi = .int .i64 j ∧ v5 = .bool (hit (P ++ L.take j) ((k : Int) + 1)) ∧ wq2 = wr) (fun _ vi _ => L.length - (intOf vi).toNat)
          case atStart => exact ⟨0, Nat.zero_le _, rfl, by simp, rfl⟩
          case round =>
            obtain ⟨j, hj, rfl, rfl, rfl⟩ := hrel
            by_cases hlt3 : j < L.length
            · have g3 : decide (j < L.length) = true := decide_eq_true hlt3
              have j2 : (j : Int) < L.length := by omega
              obtain ⟨ad, A3, c3, rfl, pa, pb, pc, pl, pC⟩ := atO HI.out.rd j hlt3
              have hS : P ++ L.take (j + 1) = (P ++ L.take j) ++ [L.getD j zO] := by rw [take_succ_getD _ j zO hlt3, List.append_assoc]
              have hS2 : hit (P ++ L.take (j + 1)) ((k : Int) + 1) = (hit (P ++ L.take j) ((k : Int) + 1) || decide ((L.getD j zO).f1 = (k : Int) + 1)) := by rw [hS, hit_snoc]
              clear hS pa pc pl pC
              generalize L.getD j zO = o at pb hS2
              generalize hit (P ++ L.take j) ((k : Int) + 1) = h0 at hS2 ⊢
              have HS2 := Aside0.mk hS2
              clear hS2
              cases h0 with
              | true =>
                go_wp2
                go_roundw
                case rel => exact ⟨j + 1, by omega, by go_num, by rw [HS2.out]; simp, trivial⟩
                case measure => simp [intOf]; omega
              | false =>
                have HS3 := Aside0.mk (show hit (P ++ L.take (j + 1)) ((k : Int) + 1) = (o.f1 == (k : Int) + 1) by rw [HS2.out]; rfl)
                go_wp2
                go_roundw
                case rel => exact ⟨j + 1, by omega, by go_num, by rw [HS3.out], trivial⟩
                case measure => simp [intOf]; omega
            · have hje : j = L.length := by omega
              subst hje
              have g3 : decide (L.length < L.length) = false := decide_eq_false (by omega)
              rw [List.take_length, ← HFT.out]
              go_wp2
              go_roundw
              case rel => exact ⟨i + 1, by omega, by go_num, rfl, trivial⟩
              case measure => simp [intOf]; omega
        · have hie : i = ls.length := by omega
          subst hie
          have g2 : decide (ls.length < ls.length) = false := decide_eq_false (by omega)
          rw [List.take_length]
          have hts := tmsTo_succ k ls.flatten
          have hln := tmsTo_len k ls.flatten
          have HTS := Aside0.mk hts
          clear hts
          cases hd : hit ls.flatten ((k : Int) + 1) with
          | true =>
            have HT2 := Aside0.mk (HTS.out.trans (if_pos hd))
            clear HTS hd
            go_wp2_with ((with_reducible refine gate_dst (N := 45) rfl ?_); refine Kd.R_append (Kd.int .i64) (w0 := w) w.heap.size rfl _ _ 41 3 (.int .i64 0) 8 rfl Tryz.underlying41 Cc.infoI rfl (by decide) (by decide) v (tmsTo k ls.flatten) ((k : Int) + 1) [.int .i64 ((k : Int) + 1)] (fun _ => True) (fun _ => False) rfl rfl rfl (fun _ h => h.elim) (fun _ _ => trivial) HR.out HB.out HB.out.size (by omega) ?_; intro v5 w5 hs5 hb5 hg5 hat5; have HS5 := Aside0.mk hs5; have HB5 := Aside0.mk hb5; clear hs5 hb5 hg5 hat5)
            go_roundw
            case rel => exact ⟨k + 1, v5, by omega, by go_num, rfl, ⟨by rw [HT2.out]; exact HS5.out⟩, HB5⟩
            case measure => simp [intOf]; omega
          | false =>
            have HT2 := Aside0.mk (HTS.out.trans (if_neg (by rw [hd]; simp)))
            clear HTS hd
            go_wp2
            go_roundw
            case rel => exact ⟨k + 1, v, by omega, by go_num, rfl, ⟨by rw [HT2.out]; exact HR.out⟩, HB⟩
            case measure => simp [intOf]; omega
    · obtain rfl : k = 2000 := by omega
      have g1 : decide (((2000 : Nat) : Int) + 1 ≤ 2000) = false := decide_eq_false (by omega)
      have hF := HR.out
      rw [tmsTo_all] at hF
      obtain ⟨A, c2, rfl⟩ := Kd.R_slice hF
      have HF := Aside0.mk hF
      clear hF
      go_wp2
      go_ret
      exact ⟨A, c2, rfl, HF.out, HB.out⟩
end Go.Proofs.YtccenpmaooailaaGreat.Ym

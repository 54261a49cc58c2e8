
/- The text of an expression: the program's function. -/
import Derived.Test.YtbbdkhffacoglaaDoorNe
import Derived.Test.YtbbdkhffacoglaaDoorLs
set_option linter.unusedVariables false
set_option linter.unusedSimpArgs false
namespace Go.Proofs.YtbbdkhffacoglaaDoor.Nf
open Go.RowKit Go.Proofs.YtbbdkhffacoglaaDoorW.PrintWords Go.Proofs.YtbbdkhffacoglaaDoor.Ja Go.Proofs.YtbbdkhffacoglaaDoor.Jb Go.Proofs.YtbbdkhffacoglaaDoor.Jc Go.Proofs.YtbbdkhffacoglaaDoor.Jd Go.Proofs.YtbbdkhffacoglaaDoor.Jg Go.Proofs.YtbbdkhffacoglaaDoor.Na Go.Proofs.YtbbdkhffacoglaaDoor.Nd Go.Proofs.YtbbdkhffacoglaaDoor.Ne

/-- new blocks and draws alone -/
structure Gw (w w' : World) : Prop where
  b : Below w.heap.size w w'
  d : w.drawn ≤ w'.drawn
theorem Gw.refl (w : World) : Gw w w := ⟨Below.refl _ _, Nat.le_refl _⟩
theorem Gw.then {a b c : World} (h : Gw a b) (g : Gw b c) : Gw a c := ⟨below_then h.b h.b.size g.b, Nat.le_trans h.d g.d⟩
theorem Gw.alloc {a b : World} (h : Gw a b) (o : Obj) : Gw a (b.alloc o) := ⟨below_then h.b h.b.size (below_alloc (Below.refl _ _) o), h.d⟩
theorem Gw.drew {a b : World} (h : Gw a b) : Gw a b.drew := ⟨below_drew h.b, Nat.le_trans h.d (Nat.le_succ _)⟩
theorem Gw.grows {w w' : World} (h : Gw w w') : ∃ q os, w' = Sort.grow (w.drewN q) os := by
  refine ⟨w'.drawn - w.drawn, w'.heap.extract w.heap.size w'.heap.size, ?_⟩
  have h1 : w'.heap = w.heap ++ w'.heap.extract w.heap.size w'.heap.size := by
    apply Array.ext_getElem?
    intro i
    by_cases hi : i < w.heap.size
    · rw [Array.getElem?_append_left hi]; exact h.b.block i hi
    · rw [Array.getElem?_append_right (by omega)]
      rw [Array.getElem?_extract]
      have e : w.heap.size + (i - w.heap.size) = i := by omega
      rw [e]
      by_cases hlt : i < w'.heap.size
      · rw [if_pos (by omega)]
      · rw [if_neg (by omega)]; exact Array.getElem?_eq_none (by omega)
  cases w' with
  | mk heap tape drawn os output =>
    have e1 : tape = w.tape := h.b.tape
    have e2 : os = w.os := h.b.os
    have e3 : output = w.output := h.b.output
    have e4 : w.drawn ≤ drawn := h.d
    unfold Sort.grow World.drewN
    simp only at h1 ⊢
    rw [← h1, e1, e2, e3]
    have e5 : w.drawn + (drawn - w.drawn) = drawn := by omega
    rw [e5]
/-- the program's words of kinds, in memory -/
def Words (w : World) : Prop := ∃ a c, w.cell? ⟨0, 0, none⟩ = some (.slice (some a) 8 c) ∧ ∀ k : Int, 2 ≤ k → k ≤ 7 → w.cell? (a.add k.toNat) = some (.string (bs (wordB k)))
theorem Words.below {w w' : World} (h : Words w) (hb : Below w.heap.size w w') : Words w' := by
  obtain ⟨a, c, h0, h1⟩ := h
  exact ⟨a, c, pw_cell_below hb h0, fun k h2 h3 => pw_cell_below hb (h1 k h2 h3)⟩
theorem itoa_any (n : Int) (h0 : 0 ≤ n) (h1 : n ≤ 20) (w : World) : Calls Tryd.prog 79 #[.int .i64 n] w fun e w' => e = .returned (.string (bs (numB n))) ∧ w' = w := by
  obtain ⟨m, rfl⟩ : ∃ m : Nat, n = m := ⟨n.toNat, by omega⟩
  unfold numB
  rw [Int.toNat_natCast]
  exact Any.strconv_Itoa_small Ls.itoa m (by omega) w
abbrev ICall (x : Ex) : Prop := ∀ A c w, Words w → IsEL 29 w x.f3 A c → Calls Tryd.prog 66 #[X x.f0 x.f1 x.f2 A x.f3.length c] w fun e w' => e = .returned (.string (bs (textB x))) ∧ Gw w w'
set_option maxHeartbeats 4000000 in
set_option maxRecDepth 100000 in
theorem text_of (x : Ex) (hf : formB x = true) (hc : cntL x.f3 ≤ 1048576) (hE : ∀ y, y ∈ x.f3 → ICall y) : ICall x := fun A c w hW0 hL => by
  obtain ⟨p, pl⟩ := form_head hf
  have pk1 := p.kind.1
  have pk2 := p.kind.2
  have ps := p.sym
  have hg0 := (Gw.refl w).alloc (.cells #[.int .i64 x.f0, .int .i64 x.f1, .int .i64 x.f2, .slice A x.f3.length c] 29)
  have bX := blk_new w (.cells #[.int .i64 x.f0, .int .i64 x.f1, .int .i64 x.f2, .slice A x.f3.length c] 29)
  obtain ⟨W, hW⟩ : ∃ W, W = w.alloc (.cells #[.int .i64 x.f0, .int .i64 x.f1, .int .i64 x.f2, .slice A x.f3.length c] 29) := ⟨_, rfl⟩
  rw [← hW] at hg0 bX
  have HW := Aside0.mk hW
  have HX := Aside0.mk hg0
  have HW0 := Aside0.mk (hW0.below hg0.b)
  have hn := hL.len
  have HL := Aside0.mk (hL.below hg0.b)
  have HE := Aside0.mk hE
  have p0 := (blk_cell bX 0).trans rfl
  have p1 := (blk_cell bX 1).trans rfl
  have p2 := (blk_cell bX 2).trans rfl
  have p3 := (blk_cell bX 3).trans rfl
  clear hL hE hg0 bX hW hW0
  by_cases h1 : x.f0 = 1
  · have d1 : (x.f0 == 1) = true := by simp [h1]
    have HT : Aside0 (textB x = letB x.f1) := ⟨by rw [textB_eq, if_pos h1]⟩
    clear h1
    go_enter Tryd.func66, Tryd.ntmps66
    go_upto_region 1 with fail
    rw [← HW.out]
    go_wp2_with (go_at_call 78; refine (letter_any x.f1 ps.1 ps.2 _).mono ?_; rintro e w2 ⟨rfl, rfl⟩)
    go_ret
    exact ⟨by (rw [HT.out]; try rfl), HX.out⟩
  have d1 : (x.f0 == 1) = false := by simp [h1]
  have hw2 : 2 ≤ x.f0 := by omega
  obtain ⟨aw, cw, hwg, hwk⟩ := HW0.out
  have hwc := hwk x.f0 hw2 pk2
  clear hwk
  have pk0 : 0 ≤ x.f0 := by omega
  have pk8 : x.f0 < 8 := by omega
  go_enter Tryd.func66, Tryd.ntmps66
  go_upto_region 1 with fail
  rw [← HW.out]
  by_cases h7 : x.f0 = 7
  · have d7 : (x.f0 == 7) = true := by simp [h7]
    have hp := p.plus h7
    have HU := Aside0.mk (show bs (wordB x.f0) ++ bs (32 :: numB x.f2) = bs (uptoB x 0) by
      rw [bs_app]; unfold uptoB headB; rw [if_neg h1, if_pos h7, List.take_zero, textL_nil]; simp)
    have hwl := head_len x.f0 x.f1
    have hwl2 : (wordB x.f0).length ≤ 4 := by unfold headB at hwl; rw [if_neg h1] at hwl; exact hwl
    have hnl := num_len x.f2 hp.2
    generalize hwd : wordB x.f0 = wd at HU hwl2 hwc ⊢
    have hA1 : ({ data := #[32] } : ByteArray) ++ bs (numB x.f2) = bs (32 :: numB x.f2) := bs_app [32] _
    have hz1 : ¬ (({ data := #[32] } : ByteArray).size + (bs (numB x.f2)).size > 9223372036854775807) := by rw [bs_size]; show ¬ (1 + (numB x.f2).length > _); omega
    have hz2 : ¬ ((bs wd).size + (bs (32 :: numB x.f2)).size > 9223372036854775807) := by rw [bs_size, bs_size, List.length_cons]; omega
    clear hwl hwl2 hnl hwd h7
    go_upto_region 6 with (go_at_call 79; refine (itoa_any x.f2 (by omega) (by omega) _).mono ?_; rintro e w3 ⟨rfl, he3⟩; have he4 := he3.symm; subst he4; clear he3)
    rw [HU.out]
    clear hA1 hz1 hz2 hwg hwc
    go_wp2
    clear p0 p1 p2 p3 d1 d7
    go_loopw [3, 29] (fun v3 vi wr => ∃ (k : Nat), k ≤ x.f3.length ∧ v3 = .string (bs (uptoB x k)) ∧ vi = .int .i64 k ∧ Aside0 (Gw W wr)) (fun _ vi _ => x.f3.length - (intOf vi).toNat)
    case atStart => exact ⟨0, Nat.zero_le _, by first | rfl | (rw [HU.out]), rfl, ⟨Gw.refl _⟩⟩
    case round =>
      obtain ⟨k, hk, rfl, rfl, HB⟩ := hrel
      by_cases hlt : k < x.f3.length
      · have g1 : decide (k < x.f3.length) = true := decide_eq_true hlt
        have i1 : (k : Int) < x.f3.length := by omega
        obtain ⟨ad, A3, c3, rfl, pa, pb, pc, pd, pL⟩ := atE (HL.out.below HB.out.b) k hlt
        have HQ := Aside0.mk (HE.out _ (getE_mem hlt))
        have HF := Aside0.mk (form_at pl k hlt)
        have hul := uptoB_len x hf k
        have hol := textB_len _ HF.out
        have hoc := cnt_getD x.f3 k hlt
        have HS2 := Aside0.mk (uptoB_snoc x k hlt)
        generalize x.f3.getD k zE = o at pa pb pc pd pL HQ HF hol hoc HS2
        have HG0 := Aside0.mk ((Gw.refl wr).alloc (.cells #[.int .i64 o.f0, .int .i64 o.f1, .int .i64 o.f2, .slice A3 o.f3.length c3] 29))
        have HPL := Aside0.mk (pL.below HG0.out.b)
        have HWD := Aside0.mk ((HW0.out.below HB.out.b).below HG0.out.b)
        have hA1 : ({ data := #[32] } : ByteArray) ++ bs (textB o) = bs (32 :: textB o) := bs_app [32] _
        have hA2 : bs (uptoB x k) ++ bs (32 :: textB o) = bs (uptoB x (k + 1)) := by rw [bs_app, HS2.out, List.append_assoc]; rfl
        have hz1 : ¬ (({ data := #[32] } : ByteArray).size + (bs (textB o)).size > 9223372036854775807) := by rw [bs_size]; show ¬ (1 + (textB o).length > _); omega
        have hz2 : ¬ ((bs (uptoB x k)).size + (bs (32 :: textB o)).size > 9223372036854775807) := by rw [bs_size, bs_size, List.length_cons]; omega
        clear hul hol hoc pL
        go_wp2_with (go_at_call 66; refine (HQ.out A3 c3 _ HWD.out HPL.out).mono ?_; rintro e w3 ⟨rfl, hb3⟩; have HB3 := Aside0.mk (HB.out.then (HG0.out.then hb3)); clear hb3)
        go_roundw
        case rel => exact ⟨k + 1, by omega, rfl, by go_num, HB3⟩
        case measure => simp [intOf]; omega
      · have hke : k = x.f3.length := by omega
        subst hke
        have g1 : decide (x.f3.length < x.f3.length) = false := decide_eq_false (by omega)
        have HT : Aside0 (uptoB x x.f3.length = textB x) := ⟨uptoB_end x h1 _ (Nat.le_refl _)⟩
        go_wp2
        go_ret
        exact ⟨by (rw [HT.out]; try rfl), HX.out.then HB.out⟩
  · have d7 : (x.f0 == 7) = false := by simp [h7]
    have HU := Aside0.mk (show bs (wordB x.f0) = bs (uptoB x 0) by
      unfold uptoB headB; rw [if_neg h1, if_neg h7, List.take_zero, textL_nil]; simp)
    rw [HU.out] at hwc
    go_upto_region 6 with fail
    clear hwg hwc
    go_wp2
    clear p0 p1 p2 p3 d1 d7
    go_loopw [3, 29] (fun v3 vi wr => ∃ (k : Nat), k ≤ x.f3.length ∧ v3 = .string (bs (uptoB x k)) ∧ vi = .int .i64 k ∧ Aside0 (Gw W wr)) (fun _ vi _ => x.f3.length - (intOf vi).toNat)
    case atStart => exact ⟨0, Nat.zero_le _, by first | rfl | (rw [HU.out]), rfl, ⟨Gw.refl _⟩⟩
    case round =>
      obtain ⟨k, hk, rfl, rfl, HB⟩ := hrel
      by_cases hlt : k < x.f3.length
      · have g1 : decide (k < x.f3.length) = true := decide_eq_true hlt
        have i1 : (k : Int) < x.f3.length := by omega
        obtain ⟨ad, A3, c3, rfl, pa, pb, pc, pd, pL⟩ := atE (HL.out.below HB.out.b) k hlt
        have HQ := Aside0.mk (HE.out _ (getE_mem hlt))
        have HF := Aside0.mk (form_at pl k hlt)
        have hul := uptoB_len x hf k
        have hol := textB_len _ HF.out
        have hoc := cnt_getD x.f3 k hlt
        have HS2 := Aside0.mk (uptoB_snoc x k hlt)
        generalize x.f3.getD k zE = o at pa pb pc pd pL HQ HF hol hoc HS2
        have HG0 := Aside0.mk ((Gw.refl wr).alloc (.cells #[.int .i64 o.f0, .int .i64 o.f1, .int .i64 o.f2, .slice A3 o.f3.length c3] 29))
        have HPL := Aside0.mk (pL.below HG0.out.b)
        have HWD := Aside0.mk ((HW0.out.below HB.out.b).below HG0.out.b)
        have hA1 : ({ data := #[32] } : ByteArray) ++ bs (textB o) = bs (32 :: textB o) := bs_app [32] _
        have hA2 : bs (uptoB x k) ++ bs (32 :: textB o) = bs (uptoB x (k + 1)) := by rw [bs_app, HS2.out, List.append_assoc]; rfl
        have hz1 : ¬ (({ data := #[32] } : ByteArray).size + (bs (textB o)).size > 9223372036854775807) := by rw [bs_size]; show ¬ (1 + (textB o).length > _); omega
        have hz2 : ¬ ((bs (uptoB x k)).size + (bs (32 :: textB o)).size > 9223372036854775807) := by rw [bs_size, bs_size, List.length_cons]; omega
        clear hul hol hoc pL
        go_wp2_with (go_at_call 66; refine (HQ.out A3 c3 _ HWD.out HPL.out).mono ?_; rintro e w3 ⟨rfl, hb3⟩; have HB3 := Aside0.mk (HB.out.then (HG0.out.then hb3)); clear hb3)
        go_roundw
        case rel => exact ⟨k + 1, by omega, rfl, by go_num, HB3⟩
        case measure => simp [intOf]; omega
      · have hke : k = x.f3.length := by omega
        subst hke
        have g1 : decide (x.f3.length < x.f3.length) = false := decide_eq_false (by omega)
        have HT : Aside0 (uptoB x x.f3.length = textB x) := ⟨uptoB_end x h1 _ (Nat.le_refl _)⟩
        go_wp2
        go_ret
        exact ⟨by (rw [HT.out]; try rfl), HX.out.then HB.out⟩
theorem text_any (x : Ex) (hf : formB x = true) (hc : cntL x.f3 ≤ 1048576) : ICall x := text_of x hf hc (fun y hy =>
  have := cnt_mem hy
  text_any y (by have h := (form_head hf).2; rw [formL_all, List.all_eq_true] at h; exact h y hy) (by omega))
termination_by cntL x.f3
end Go.Proofs.YtbbdkhffacoglaaDoor.Nf


/- Is a node there; is a text there. -/
import Derived.Test.YtckblabkapeigaaKi
import Derived.Test.YtckblabkapeigaaNd
set_option linter.unusedVariables false
set_option linter.unusedSimpArgs false
namespace Go.Proofs.Ytckblabkapeigaa.Eh8
open Go.RowKit Go.Proofs.YtckblabkapeigaaW.PrintWords Go.Proofs.Ytckblabkapeigaa.Ja Go.Proofs.Ytckblabkapeigaa.Jb Go.Proofs.Ytckblabkapeigaa.Jc Go.Proofs.Ytckblabkapeigaa.Jd Go.Proofs.Ytckblabkapeigaa.Jg Go.Proofs.Ytckblabkapeigaa.Ka Go.Proofs.Ytckblabkapeigaa.Ke Go.Proofs.Ytckblabkapeigaa.Ki Go.Proofs.Ytckblabkapeigaa.Nd

def likeN (a b c : Int) (k : List Int) (y : TNode) : Bool := y.f0 == a && (y.f1 == b && (y.f2 == c && eqQ sameI y.f3 k))
theorem anyN_snoc {l : List TNode} {k : Nat} (p : TNode → Bool) (h : k < l.length) : (l.take (k + 1)).any p = ((l.take k).any p || p (l.getD k zNode)) := by
  rw [take_snoc l k zNode h, List.any_append]; simp
/-- where a row holds the first that p likes, or -1 -/
def Found (l : List TNode) (p : TNode → Bool) (r : Int) : Prop := (r = -1 ∧ l.any p = false) ∨ ∃ k : Nat, r = k ∧ k < l.length ∧ p (l.getD k zNode) = true ∧ (l.take k).any p = false
/-- what the closure reads: the node sought, in a box -/
def Sought (w : World) (N : Nat) (a b c : Int) (K : Option Addr) (ck : Nat) (k : List Int) : Prop :=
  w.cell? ⟨N, 0, none⟩ = some (.int .i64 a) ∧ w.cell? ⟨N, 1, none⟩ = some (.int .i64 b) ∧ w.cell? ⟨N, 2, none⟩ = some (.int .i64 c) ∧ w.cell? ⟨N, 3, none⟩ = some (.slice K k.length ck) ∧ IsS (Kd.int .i64) w k K ck
theorem Sought.below {w w' : World} {N : Nat} {a b c : Int} {K : Option Addr} {ck : Nat} {k : List Int} (h : Sought w N a b c K ck k) (hb : Below w.heap.size w w') : Sought w' N a b c K ck k :=
  ⟨pw_cell_below hb h.1, pw_cell_below hb h.2.1, pw_cell_below hb h.2.2.1, pw_cell_below hb h.2.2.2.1, h.2.2.2.2.below hb⟩
set_option maxHeartbeats 2000000 in
set_option maxRecDepth 100000 in
theorem add1_any (y : TNode) (A3 : Option Addr) (c3 : Nat) (A4 : Option Addr) (c4 : Nat) (A5 : Option Addr) (c5 : Nat) (A6 : Option Addr) (c6 : Nat) (A7 : Option Addr) (c7 : Nat) (A8 : Option Addr) (c8 : Nat) (N : Nat) (a b c : Int) (K : Option Addr) (ck : Nat) (k : List Int) (w : World) (hy : IsS (Kd.int .i64) w y.f3 A3 c3) (hN : Sought w N a b c K ck k) :
    Calls Try.prog 72 #[.agg #[.int .i64 y.f0, .int .i64 y.f1, .int .i64 y.f2, .slice A3 y.f3.length c3, .slice A4 y.f4.f0.length c4, .slice A5 y.f4.f1.length c5, .slice A6 y.f5.f0.length c6, .slice A7 y.f5.f1.length c7, .slice A8 y.f6.length c8, .int .i64 y.f7], .pointer (some ⟨N, 0, none⟩)] w fun e w' => e = .returned (.bool (likeN a b c k y)) ∧ Below w.heap.size w w' := by
  have hb0 := below_alloc (Below.refl w.heap.size w) (.cells #[.int .i64 y.f0, .int .i64 y.f1, .int .i64 y.f2, .slice A3 y.f3.length c3, .slice A4 y.f4.f0.length c4, .slice A5 y.f4.f1.length c5, .slice A6 y.f5.f0.length c6, .slice A7 y.f5.f1.length c7, .slice A8 y.f6.length c8, .int .i64 y.f7] 103)
  obtain ⟨n0, n1, n2, n3, hK⟩ := hN.below hb0
  have bX := blk_new w (.cells #[.int .i64 y.f0, .int .i64 y.f1, .int .i64 y.f2, .slice A3 y.f3.length c3, .slice A4 y.f4.f0.length c4, .slice A5 y.f4.f1.length c5, .slice A6 y.f5.f0.length c6, .slice A7 y.f5.f1.length c7, .slice A8 y.f6.length c8, .int .i64 y.f7] 103)
  have HX := Aside0.mk hb0
  have HK := Aside0.mk hK
  have HY := Aside0.mk (hy.below hb0)
  obtain ⟨W, hW⟩ : ∃ W, W = w.alloc (.cells #[.int .i64 y.f0, .int .i64 y.f1, .int .i64 y.f2, .slice A3 y.f3.length c3, .slice A4 y.f4.f0.length c4, .slice A5 y.f4.f1.length c5, .slice A6 y.f5.f0.length c6, .slice A7 y.f5.f1.length c7, .slice A8 y.f6.length c8, .int .i64 y.f7] 103) := ⟨_, rfl⟩
  rw [← hW] at n0 n1 n2 n3 bX HX HK HY
  have HW := Aside0.mk hW
  have p0 := (blk_cell bX 0).trans rfl
  have p1 := (blk_cell bX 1).trans rfl
  have p2 := (blk_cell bX 2).trans rfl
  have p3 := (blk_cell bX 3).trans rfl
  clear hb0 hK hy hN hW bX
  cases h0 : (y.f0 == a) with
  | false =>
    have HE : Aside0 (likeN a b c k y = false) := ⟨by unfold likeN; rw [h0]; rfl⟩
    go_enter Try.func72, Try.ntmps72
    go_upto_region 1 with fail
    rw [← HW.out]
    go_wp2
    go_ret
    exact ⟨by rw [HE.out]; rfl, HX.out⟩
  | true =>
  cases h1 : (y.f1 == b) with
  | false =>
    have HE : Aside0 (likeN a b c k y = false) := ⟨by unfold likeN; rw [h1]; simp⟩
    go_enter Try.func72, Try.ntmps72
    go_upto_region 1 with fail
    rw [← HW.out]
    go_wp2
    go_ret
    exact ⟨by rw [HE.out]; rfl, HX.out⟩
  | true =>
  cases h2 : (y.f2 == c) with
  | false =>
    have HE : Aside0 (likeN a b c k y = false) := ⟨by unfold likeN; rw [h2]; simp⟩
    go_enter Try.func72, Try.ntmps72
    go_upto_region 1 with fail
    rw [← HW.out]
    go_wp2
    go_ret
    exact ⟨by rw [HE.out]; rfl, HX.out⟩
  | true =>
  have HE : Aside0 (likeN a b c k y = eqQ sameI y.f3 k) := ⟨by unfold likeN; rw [h0, h1, h2]; rfl⟩
  go_enter Try.func72, Try.ntmps72
  go_upto_region 1 with fail
  rw [← HW.out]
  go_wp2_with (go_at_call 73; refine (intsEqual_any A3 K c3 ck y.f3 k _ HY.out HK.out).mono ?_; rintro e w2 ⟨rfl, hb2⟩; have HB2 := Aside0.mk (below_then HX.out HX.out.size hb2); clear hb2)
  go_ret
  exact ⟨by rw [HE.out]; rfl, HB2.out⟩
set_option maxHeartbeats 2000000 in
set_option maxRecDepth 100000 in
theorem idxNode_any (A : Option Addr) (cA : Nat) (l : List TNode) (N : Nat) (a b c : Int) (K : Option Addr) (ck : Nat) (k : List Int) (w : World) (hL : IsS kNode w l A cA) (hN : Sought w N a b c K ck k) :
    Calls Try.prog 71 #[.slice A l.length cA, .func (.func 72) #[] #[.pointer (some ⟨N, 0, none⟩)]] w fun e w' => (∃ r : Int, e = .returned (.int .i64 r) ∧ Found l (likeN a b c k) r) ∧ Below w.heap.size w w' := by
  have hn := hL.2.2.1
  have HL := Aside0.mk hL
  have HN := Aside0.mk hN
  clear hL hN
  go_enter Try.func71, Try.ntmps71
  go_wp2
  go_loopw [8] (fun vi wr => ∃ (j : Nat), j ≤ l.length ∧ vi = .int .i64 j ∧ Aside0 ((l.take j).any (likeN a b c k) = false) ∧ Aside0 (Below w.heap.size w wr)) (fun vi _ => l.length - (intOf vi).toNat)
  case atStart => exact ⟨0, Nat.zero_le _, rfl, ⟨by simp⟩, ⟨Below.refl _ _⟩⟩
  case round =>
    obtain ⟨j, hj, rfl, HA, HB⟩ := hrel
    by_cases hlt : j < l.length
    · have g1 : decide (j < l.length) = true := decide_eq_true hlt
      have i1 : (j : Int) < l.length := by omega
      obtain ⟨ad, A3, c3, A4, c4, A5, c5, A6, c6, A7, c7, A8, c8, rfl, y0, y1, y2, y3, y4, y5, y6, y7, y8, y9, j3, j4, j5, j6, j7, j8⟩ := atNode (HL.out.below HB.out) j hlt
      have HS := Aside0.mk (anyN_snoc (likeN a b c k) hlt)
      have hcl := add1_any (l.getD j zNode) A3 c3 A4 c4 A5 c5 A6 c6 A7 c7 A8 c8 N a b c K ck k wr j3 (HN.out.below HB.out)
      have HF : Aside0 (likeN a b c k (l.getD j zNode) = true → Found l (likeN a b c k) j) := ⟨fun h => .inr ⟨j, rfl, hlt, h, HA.out⟩⟩
      clear j3 j4 j5 j6 j7 j8
      generalize l.getD j zNode = y at y0 y1 y2 y3 y4 y5 y6 y7 y8 y9 HS hcl HF
      cases hd : likeN a b c k y with
      | false =>
        have HE2 : Aside0 ((l.take (j + 1)).any (likeN a b c k) = false) := ⟨by rw [HS.out, HA.out, hd]; rfl⟩
        rw [hd] at hcl
        clear hd
        go_wp2_with (go_at_call 72; refine hcl.mono ?_; rintro e w1 ⟨rfl, hb1⟩; have HB1 := Aside0.mk (below_then HB.out HB.out.size hb1); clear hb1)
        go_roundw
        case rel => exact ⟨j + 1, by omega, by go_num, HE2, HB1⟩
        case measure => simp [intOf]; omega
      | true =>
        have HF2 := Aside0.mk (HF.out hd)
        rw [hd] at hcl
        clear hd
        go_wp2_with (go_at_call 72; refine hcl.mono ?_; rintro e w1 ⟨rfl, hb1⟩; have HB1 := Aside0.mk (below_then HB.out HB.out.size hb1); clear hb1)
        go_ret
        exact ⟨⟨(j : Int), rfl, HF2.out⟩, HB1.out⟩
    · have hke : j = l.length := by omega
      subst hke
      have g1 : decide (l.length < l.length) = false := decide_eq_false (by omega)
      have HF : Aside0 (Found l (likeN a b c k) (-1)) := ⟨.inl ⟨rfl, by have h := HA.out; rwa [List.take_length] at h⟩⟩
      go_wp2
      go_ret
      exact ⟨⟨-1, rfl, HF.out⟩, HB.out⟩
/-- where a row of texts holds the first that is s, or -1 -/
def FoundS (l : List (List UInt8)) (s : List UInt8) (r : Int) : Prop := (r = -1 ∧ ¬ s ∈ l) ∨ ∃ k : Nat, r = k ∧ l[k]? = some s
/-- a row of texts, read -/
def Texts (w : World) (A : Option Addr) (l : List (List UInt8)) : Prop := ∀ k s, l[k]? = some s → ∃ ad, A = some ad ∧ w.cell? (ad.add k) = some (.string (bs s))
theorem Texts.below {w w' : World} {A : Option Addr} {l : List (List UInt8)} (h : Texts w A l) (hb : Below w.heap.size w w') : Texts w' A l := fun k s hk => by
  obtain ⟨ad, e, hc⟩ := h k s hk
  exact ⟨ad, e, pw_cell_below hb hc⟩
set_option maxRecDepth 100000 in
theorem l7At_any (A : Option Addr) (c : Nat) (l : List (List UInt8)) (s : List UInt8) (w : World) (hl : l.length ≤ 1048576) (hT : Texts w A l) :
    Calls Try.prog 63 #[.slice A l.length c, .string (bs s)] w fun e w' => (∃ r : Int, e = .returned (.int .i64 r) ∧ FoundS l s r) ∧ w' = w := by
  go_enter Try.func63, Try.ntmps63
  go_upto_region 2 with fail
  go_loop [5] (fun vi => ∃ (j : Nat), j ≤ l.length ∧ vi = .int .i64 j ∧ Aside0 (∀ i, i < j → l[i]? ≠ some s)) (fun vi => l.length - (intOf vi).toNat)
  case atStart => exact ⟨0, Nat.zero_le _, rfl, ⟨fun i h => absurd h (Nat.not_lt_zero _)⟩⟩
  case round =>
    obtain ⟨j, hj, rfl, HA⟩ := hrel
    by_cases hlt : j < l.length
    · have g1 : decide (j < l.length) = true := decide_eq_true hlt
      have i1 : (j : Int) < l.length := by omega
      obtain ⟨ad, rfl, hc⟩ := hT j l[j] (List.getElem?_eq_getElem hlt)
      have HJ := Aside0.mk (List.getElem?_eq_getElem hlt)
      generalize l[j] = t at hc HJ
      by_cases he : t = s
      · have q1 : ((bs t).toList == (bs s).toList) = true := by rw [he]; simp
        have HF : Aside0 (FoundS l s j) := ⟨.inr ⟨j, rfl, by rw [HJ.out, he]⟩⟩
        clear he
        go_wp2
        go_ret
        exact ⟨⟨_, rfl, HF.out⟩, rfl⟩
      · have q1 : ((bs t).toList == (bs s).toList) = false := by rw [bs_list, bs_list]; simp [he]
        have HA2 : Aside0 (∀ i, i < j + 1 → l[i]? ≠ some s) := ⟨fun i hi => by
          by_cases hij : i = j
          · subst hij; rw [HJ.out]; exact fun e => he (Option.some.inj e)
          · exact HA.out i (by omega)⟩
        clear he
        go_wp2
        go_round
        case rel => exact ⟨j + 1, by omega, by go_num, HA2⟩
        case measure => simp [intOf]; omega
    · have hke : j = l.length := by omega
      subst hke
      have g1 : decide (l.length < l.length) = false := decide_eq_false (by omega)
      have HF : Aside0 (FoundS l s (-1)) := ⟨.inl ⟨rfl, fun h => by
        obtain ⟨i, hi⟩ := List.mem_iff_getElem?.1 h
        exact HA.out i (List.getElem?_eq_some_iff.1 hi).1 hi⟩⟩
      go_wp2
      go_ret
      exact ⟨⟨_, rfl, HF.out⟩, rfl⟩
end Go.Proofs.Ytckblabkapeigaa.Eh8

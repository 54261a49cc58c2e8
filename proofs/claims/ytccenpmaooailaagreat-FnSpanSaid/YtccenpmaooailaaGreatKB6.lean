
import Derived.Test.YtccenpmaooailaaGreatKB2
import Derived.Test.YtccenpmaooailaaGreatKB4
import Derived.Test.YtccenpmaooailaaGreatKB3
import Derived.OwnWalk
/- What is drawn for pairs: the reference's. -/
set_option linter.unusedVariables false
set_option linter.unusedSimpArgs false
namespace Go.Proofs.YtccenpmaooailaaGreat.Da
open Go.RowKit Go.Proofs.YtccenpmaooailaaGreatW.PrintWords Go.Proofs.YtccenpmaooailaaGreat.Wd Go.Proofs.YtccenpmaooailaaGreat.Pu Go.Proofs.YtccenpmaooailaaGreat.Ca Go.Proofs.YtccenpmaooailaaGreat.Cg Go.Proofs.YtccenpmaooailaaGreat.Cf Go.Proofs.YtccenpmaooailaaGreat.Ce Go.Proofs.YtccenpmaooailaaGreat.Cp Go.Proofs.YtccenpmaooailaaGreat.Sa Go.Proofs.YtccenpmaooailaaGreat.Sb Go.Proofs.YtccenpmaooailaaGreat.Sc Go.Proofs.YtccenpmaooailaaGreat.Sh Go.Proofs.YtccenpmaooailaaGreat.Si Go.Proofs.YtccenpmaooailaaGreat.Sj Go.Proofs.YtccenpmaooailaaGreat.Sk Go.Proofs.YtccenpmaooailaaGreat.Sl Go.Proofs.YtccenpmaooailaaGreat.Sm Go.Proofs.YtccenpmaooailaaGreat.Rb Go.Proofs.YtccenpmaooailaaGreat.Id

/-- a drawn list: its row, what lies in it came in or was made -/
abbrev Dw (w0 w : World) (base : Nat) (v : Value) (l : List Occ) : Prop := (kX w0).R 43 w base (fun _ => True) v l
theorem Dw.isL {w0 w : World} {base : Nat} {A : Option Addr} {n c : Nat} {l : List Occ} (hb : Below w0.heap.size w0 w) (h : Dw w0 w base (.slice A n c) l) : IsL w l A c := by
  have hq := Kd.R_reads' h
  exact ⟨by have := hq.2.1; have := hq.1; omega, X_O hb hq.2.2⟩
theorem Dw.set {w0 w : World} {base P : Nat} {u : Value} {l : List Occ} {cells : Array Value} {t : TypeId} (h : Dw w0 w base u l) (b : w.heap[P]? = some (.cells cells t (0, 0))) (ht : ∀ q, q ∈ 43 :: kO.E → q ≠ t) (j : Nat) (x : Value) : Dw w0 (w.setCell ⟨P, j, none⟩ x) base u l := Kd.R_set h b ht j x
theorem grown_two {w1 w2 w3 : World} {g : Nat} (h : w1.grownBy w2 (some g)) (k : w2.grownBy w3 (some g)) : w1.grownBy w3 (some g) := grown_new h k (fun j hj => .inr hj.symm)
theorem lits_C {w : World} {B : Nat} {e : TypeId} {xs : List Int} (hB : w.heap[B]? = some (.cells (xs.map (Value.int .i64)).toArray e (0, 0))) (hl : xs.length ≤ 1000 := by decide) : (Kd.int .i64).C w (some ⟨B, 0, none⟩) xs.length xs := (Kd.R_reads' (R_lits (base := 0) hB (Nat.zero_le _) hl)).2.2
def DrawOut (w0 w w' : World) (g : Nat) (bs : List Int) (p : Nat) (e : Ending) : Prop := ∃ x : Int, e = .returned (.int .i64 x) ∧ Rd w0 w' g bs (p + 1) ∧ w.grownBy w' (some g)
set_option maxHeartbeats 1000000 in
set_option maxRecDepth 100000 in
theorem draw_any (w0 : World) (g : Nat) (bs : List Int) (p : Nat) (w : World) (h : Rd w0 w g bs p) (hp : p < 100000) :
    Calls Tryz.prog 39 #[.pointer (some ⟨g, 0, none⟩)] w fun e w' => DrawOut w0 w w' g bs p e := by
  have hgw := rd_lt h
  go_enter Tryz.func39, Tryz.ntmps39
  go_wp2_with (go_at_call 77; refine (num_any w0 g bs p (some ⟨w.heap.size, 0, none⟩) 17 [0, 1, 2, 3, 4, 0, 1, 2, 3, 4, 0, 1, 2, 3, 4, -1, 5] _ (h.grown (below_alloc (Below.refl _ _) _)) hp (by decide) (by decide) (fun w' hg => lits_C (blk_grown (blk_new w _) hg (by simp; omega)))).mono ?_; rintro e w1 ⟨x, rfl, _, hr, hg⟩; have HR := Aside0.mk hr; have HG := Aside0.mk (World.grownBy.trans (grown_alloc _ (some g)) hg); clear hr hg)
  go_ret
  exact ⟨x, rfl, HR.out, HG.out⟩
structure PairMem (w0 w w' : World) (g : Nat) (bs : List Int) (v0 v1 : Value) (l r : List Occ) : Prop where
  r0 : Dw w0 w' w.heap.size v0 l
  r1 : Dw w0 w' w.heap.size v1 r
  rd : ∃ p, p ≤ 3000 ∧ Rd w0 w' g bs p
  gr : w.grownBy w' (some g)
  len0 : l.length ≤ 7
  len1 : r.length ≤ 7
  ids0 : ∀ x ∈ l, x.f2.length ≤ 24
  ids1 : ∀ x ∈ r, x.f2.length ≤ 24
theorem PairMem.grow {w0 w w1 w2 : World} {g : Nat} {bs : List Int} {v0 v1 : Value} {l r : List Occ} (h : PairMem w0 w w1 g bs v0 v1 l r) (hg : w1.grownBy w2 (some g)) (hgw : g < w.heap.size) (hr : ∃ p, p ≤ 3000 ∧ Rd w0 w2 g bs p) : PairMem w0 w w2 g bs v0 v1 l r :=
  ⟨own_step h.r0 hg hgw, own_step h.r1 hg hgw, hr, grown_two h.gr hg, h.len0, h.len1, h.ids0, h.ids1⟩
theorem PairMem.set {w0 w w1 : World} {g P : Nat} {bs : List Int} {v0 v1 : Value} {l r : List Occ} {cells : Array Value} (h : PairMem w0 w w1 g bs v0 v1 l r) (hb : w1.heap[P]? = some (.cells cells 78 (0, 0))) (hP : w.heap.size ≤ P) (hgw : g < w.heap.size) (j : Nat) (u : Value) : PairMem w0 w (w1.setCell ⟨P, j, none⟩ u) g bs v0 v1 l r := by
  obtain ⟨p, hp, hr⟩ := h.rd
  exact ⟨Dw.set h.r0 hb (by decide) j u, Dw.set h.r1 hb (by decide) j u, ⟨p, hp, rd_far hr (by have := hr.base; omega) (by omega) _ _⟩, grown_set (n := j) h.gr hP, h.len0, h.len1, h.ids0, h.ids1⟩
def PairOut (w0 w w' : World) (g : Nat) (bs : List Int) (e : Ending) : Prop := ∃ v0 v1 l r, e = .returned (.agg #[v0, v1]) ∧ PairMem w0 w w' g bs v0 v1 l r
structure NowMem (w0 w wr : World) (g : Nat) (bs : List Int) (q : Nat) (v : Value) (l : List Occ) : Prop where
  own : Dw w0 wr w.heap.size v l
  rd : ∃ p, p ≤ q ∧ Rd w0 wr g bs p
  gr : w.grownBy wr (some g)
  srt : Sorted l
def NowOut (w0 w w' : World) (g : Nat) (bs : List Int) (q : Nat) (e : Ending) : Prop := ∃ (v : Value) (l : List Occ), e = .returned v ∧ l.length ≤ 2 ∧ NowMem w0 w w' g bs q v l
set_option maxHeartbeats 2000000 in
set_option maxRecDepth 100000 in
theorem now_any (w0 : World) (g : Nat) (bs : List Int) (p : Nat) (at_ : Int) (w : World) (h : Rd w0 w g bs p) (hp : p < 50000) :
    Calls Tryz.prog 42 #[.pointer (some ⟨g, 0, none⟩), .int .i64 at_] w fun e w' => NowOut w0 w w' g bs (p + 21) e := by
  have hgw := rd_lt h
  have hw0 := h.base
  go_enter Tryz.func42, Tryz.ntmps42
  go_wp2_with (go_at_call 41; refine (pick_any w0 g bs p 3 _ (h.grown (below_alloc (Below.refl _ _) _)) (by omega) (by omega)).mono ?_; rintro e w1 ⟨x, rfl, hx, hr, hg⟩; have hx0 := hx.1; have hx1 := hx.2.1 (by omega); have bE := blk_grown (blk_new w (.cells #[] 43)) hg (by simp; omega); have HM : Aside0 (NowMem w0 w w1 g bs (p + 1) (.slice (some ⟨w.heap.size, 0, none⟩) 0 0) []) := ⟨⟨R_empty (kX w0) bE (Nat.le_refl _), ⟨p + 1, Nat.le_refl _, hr⟩, World.grownBy.trans (grown_alloc _ _) hg, List.Pairwise.nil⟩⟩; clear hx hr hg bE)
  obtain ⟨n, hn⟩ : ∃ n : Nat, (n : Int) = x := ⟨x.toNat, by omega⟩
  have hnm : n ≤ 2 := by omega
  subst hn
  clear hx0 hx1
  go_loopw [5, 6] (fun v5 v6 wr => ∃ (v : Value) (m : Nat) (l : List Occ), v = v5 ∧ v6 = .int .i64 m ∧ m ≤ n ∧ l.length ≤ n - m ∧ Aside0 (NowMem w0 w wr g bs (p + 1 + 10 * (n - m)) v l)) (fun _ v6 _ => (intOf v6).toNat)
  case atStart => exact ⟨_, n, [], rfl, rfl, Nat.le_refl _, by simp, by simpa using HM⟩
  case round =>
    obtain ⟨v, m, l, rfl, rfl, hmn, hlm, HS⟩ := hrel
    by_cases h0 : m = 0
    · subst h0
      have HP := Aside0.mk (show NowOut w0 w _ g bs (p + 21) (.returned v) from ⟨v, l, rfl, by omega, ⟨HS.out.own, by obtain ⟨q, hq, hr⟩ := HS.out.rd; exact ⟨q, by omega, hr⟩, HS.out.gr, HS.out.srt⟩⟩)
      go_wp2
      go_ret
      exact HP.out
    · have hm0b : decide (0 < m) = true := by rw [decide_eq_true_eq]; omega
      have hm0 : decide ((m : Int) > 0) = true := by rw [decide_eq_true_eq]; omega
      have hm1 : (0 : Int) < m := by omega
      obtain ⟨q, hq, hrd⟩ := HS.out.rd
      have HRD := Aside0.mk hrd
      clear hrd
      go_wp2_with (first
        | (go_at_call 81; refine (sPut_any w0 w.heap.size (fun _ => True) v l A2 c2 ⟨min o.f0 at_, at_, o.f2⟩ _ (below_then HR2.out.below HR2.out.below.size (HBX.out _ _)) HS.out.srt (by omega) (Kd.R_below HO2.out (HBX.out _ _)) (IsO.below HI2.out (HBX.out _ _)) HL2.out (Nat.le_trans HG2.out.size (HBX.out _ _).size) (fun _ _ => trivial)).mono ?_; rintro e w3 ⟨v3, rfl, hr3, hg3, hat3⟩; have hb3 : ∀ j, v.ownBlock = some j → w.heap.size ≤ j := Kd.R_base HO2.out; have HM3 : Aside0 (NowMem w0 w w3 g bs (q + 10) v3 (put l ⟨min o.f0 at_, at_, o.f2⟩)) := ⟨⟨hr3, by { obtain ⟨q2, hq2, hr2⟩ := HQ2.out; exact ⟨q2, hq2, rd_keep (hr2.grown (HBX.out _ _)) hg3 (fun j hj => by have := hb3 j hj; omega)⟩ }, grown_new (World.grownBy.trans HG2.out (grown_of_below (HBX.out _ _) _)) hg3 (fun j hj => .inl (hb3 j hj)), sorted_put HS.out.srt⟩⟩; have hlp := len_put l ⟨min o.f0 at_, at_, o.f2⟩; clear hr3 hg3 hat3)
        | (go_at_call 80; refine (min_any o.f0 at_ _).mono ?_; rintro e w' ⟨rfl, rfl⟩)
        | (go_at_call 79; refine (any_any w0 g bs q _ HRD.out (by omega)).mono ?_; rintro e w2 ⟨o, v2, rfl, hk2, ho2, hq2, hg2⟩; obtain ⟨A2, c2, rfl⟩ := Kd.R_slice ho2; have HL2 := Aside0.mk (isOk_len hk2); have HQ2 := Aside0.mk hq2; have HR2 : Aside0 (∃ q2, Rd w0 w2 g bs q2) := ⟨by { obtain ⟨q2, _, hr2⟩ := hq2; exact ⟨q2, hr2⟩ }⟩; obtain ⟨q3, hr3⟩ := HR2.out; have HR2 := Aside0.mk hr3; have HI2 : Aside0 (IsO w2 ⟨min o.f0 at_, at_, o.f2⟩ A2 c2) := ⟨⟨(Kd.R_reads' ho2).2.1, (Kd.R_reads' ho2).2.2⟩⟩; have HO2 := Aside0.mk (own_step HS.out.own hg2 hgw); have HG2 := Aside0.mk (grown_new HS.out.gr hg2 (fun j hj => .inr hj.symm)); have HBX : Aside0 (∀ cs : Array Value, ∀ t, Below w2.heap.size w2 (w2.alloc (.cells cs t))) := ⟨fun cs t => below_alloc (Below.refl _ _) _⟩; clear hk2 ho2 hq2 hg2 hr3))
      go_roundw
      case rel => exact ⟨_, m - 1, put l ⟨min o.f0 at_, at_, o.f2⟩, rfl, by go_num, by omega, by omega, ⟨⟨HM3.out.own, by obtain ⟨q2, hq2, hr2⟩ := HM3.out.rd; exact ⟨q2, by omega, hr2⟩, HM3.out.gr, HM3.out.srt⟩⟩⟩
      case measure => simp [intOf]; omega
end Go.Proofs.YtccenpmaooailaaGreat.Da

/- What is drawn for pairs and sequences: the reference's. -/
set_option linter.unusedVariables false
set_option linter.unusedSimpArgs false
namespace Go.Proofs.YtccenpmaooailaaGreat.Db
open Go.RowKit Go.Proofs.YtccenpmaooailaaGreatW.PrintWords Go.Proofs.YtccenpmaooailaaGreat.Wd Go.Proofs.YtccenpmaooailaaGreat.Pu Go.Proofs.YtccenpmaooailaaGreat.Ca Go.Proofs.YtccenpmaooailaaGreat.Cg Go.Proofs.YtccenpmaooailaaGreat.Cf Go.Proofs.YtccenpmaooailaaGreat.Ce Go.Proofs.YtccenpmaooailaaGreat.Cp Go.Proofs.YtccenpmaooailaaGreat.Sa Go.Proofs.YtccenpmaooailaaGreat.Sb Go.Proofs.YtccenpmaooailaaGreat.Sc Go.Proofs.YtccenpmaooailaaGreat.Sh Go.Proofs.YtccenpmaooailaaGreat.Si Go.Proofs.YtccenpmaooailaaGreat.Sj Go.Proofs.YtccenpmaooailaaGreat.Sk Go.Proofs.YtccenpmaooailaaGreat.Sl Go.Proofs.YtccenpmaooailaaGreat.Sm Go.Proofs.YtccenpmaooailaaGreat.Rb Go.Proofs.YtccenpmaooailaaGreat.Id Go.Proofs.YtccenpmaooailaaGreat.Da

structure PR (w0 w w' : World) (g : Nat) (v0 v1 : Value) (l r : List Occ) : Prop where
  r0 : Dw w0 w' w.heap.size v0 l
  r1 : Dw w0 w' w.heap.size v1 r
  gr : w.grownBy w' (some g)
theorem PR.grow {w0 w w1 w2 : World} {g : Nat} {v0 v1 : Value} {l r : List Occ} (h : PR w0 w w1 g v0 v1 l r) (hg : w1.grownBy w2 (some g)) (hgw : g < w.heap.size) : PR w0 w w2 g v0 v1 l r :=
  ⟨own_step h.r0 hg hgw, own_step h.r1 hg hgw, grown_two h.gr hg⟩
end Go.Proofs.YtccenpmaooailaaGreat.Db

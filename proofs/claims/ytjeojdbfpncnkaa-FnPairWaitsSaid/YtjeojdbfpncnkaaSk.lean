/- The reference's draws of lists of occurrences. -/
import Derived.Test.YtjeojdbfpncnkaaSj
set_option linter.unusedVariables false
set_option linter.unusedSimpArgs false
namespace Go.Proofs.Ytjeojdbfpncnkaa.Sk
open Go.RowKit Go.Proofs.YtjeojdbfpncnkaaW.PrintWords Go.Proofs.Ytjeojdbfpncnkaa.Wd Go.Proofs.Ytjeojdbfpncnkaa.Pu Go.Proofs.Ytjeojdbfpncnkaa.Ca Go.Proofs.Ytjeojdbfpncnkaa.Cg Go.Proofs.Ytjeojdbfpncnkaa.Cf Go.Proofs.Ytjeojdbfpncnkaa.Ce Go.Proofs.Ytjeojdbfpncnkaa.Sa Go.Proofs.Ytjeojdbfpncnkaa.Sb Go.Proofs.Ytjeojdbfpncnkaa.Sc Go.Proofs.Ytjeojdbfpncnkaa.Sh Go.Proofs.Ytjeojdbfpncnkaa.Si Go.Proofs.Ytjeojdbfpncnkaa.Sj

structure SomeMem (w0 w wr : World) (g : Nat) (bs : List Int) (q : Nat) (v : Value) (l : List Occ) : Prop where
  own : (kX w0).R 25 wr w.heap.size (fun _ => True) v l
  rd : ∃ p, p ≤ q ∧ Rd w0 wr g bs p
  gr : w.grownBy wr (some g)
  ok : AreOk l
def SomeOut (w0 w w' : World) (g : Nat) (bs : List Int) (q n : Nat) (e : Ending) : Prop := ∃ (v : Value) (l : List Occ), e = .returned v ∧ l.length ≤ n ∧ SomeMem w0 w w' g bs q v l
theorem isOk_len {o : Occ} (h : IsOk o) : o.f2.length ≤ 1048576 := by
  have h2 := okO_iff.2 h
  unfold okO at h2
  simp only [Bool.and_eq_true] at h2
  have := Sf.okIds_len (by omega) h2.1
  omega

set_option maxHeartbeats 1000000 in
set_option maxRecDepth 100000 in
theorem some_any (w0 : World) (g : Nat) (bs : List Int) (p most : Nat) (w : World) (h : Rd w0 w g bs p) (hp : p < 50000) (hm : most ≤ 100) :
    Calls Try.prog 70 #[.pointer (some ⟨g, 0, none⟩), .int .i64 most] w fun e w' => SomeOut w0 w w' g bs (p + 1 + 10 * most) most e := by
  have hgw := rd_lt h
  have hw0 := h.base
  go_enter Try.func70, Try.ntmps70
  go_wp2_with (go_at_call 36; refine (pick_any w0 g bs p ((most : Int) + 1) _ (h.grown (below_alloc (Below.refl _ _) _)) (by omega) (by omega)).mono ?_; rintro e w1 ⟨x, rfl, hx, hr, hg⟩; have hx0 := hx.1; have hx1 := hx.2.1 (by omega); have bE := blk_grown (blk_new w (.cells #[] 25)) hg (by simp; omega); have HM : Aside0 (SomeMem w0 w w1 g bs (p + 1) (.slice (some ⟨w.heap.size, 0, none⟩) 0 0) []) := ⟨⟨R_empty (kX w0) bE (Nat.le_refl _), ⟨p + 1, Nat.le_refl _, hr⟩, World.grownBy.trans (grown_alloc _ _) hg, AreOk.nil⟩⟩; clear hx hr hg bE)
  obtain ⟨n, hn⟩ : ∃ n : Nat, (n : Int) = x := ⟨x.toNat, by omega⟩
  have hnm : n ≤ most := by omega
  subst hn
  clear hx0 hx1
  go_loopw [5, 6] (fun v5 v6 wr => ∃ (v : Value) (m : Nat) (l : List Occ), v = v5 ∧ v6 = .int .i64 m ∧ m ≤ n ∧ l.length ≤ n - m ∧ Aside0 (SomeMem w0 w wr g bs (p + 1 + 10 * (n - m)) v l)) (fun _ v6 _ => (intOf v6).toNat)
  case atStart => exact ⟨_, n, [], rfl, rfl, Nat.le_refl _, by simp, by simpa using HM⟩
  case round =>
    obtain ⟨v, m, l, rfl, rfl, hmn, hlm, HS⟩ := hrel
    by_cases h0 : m = 0
    · subst h0
      have HP := Aside0.mk (show SomeOut w0 w _ g bs (p + 1 + 10 * most) most (.returned v) from ⟨v, l, rfl, by omega, ⟨HS.out.own, by obtain ⟨q, hq, hr⟩ := HS.out.rd; exact ⟨q, by omega, hr⟩, HS.out.gr, HS.out.ok⟩⟩)
      go_wp2
      go_ret
      exact HP.out
    · have hm0b : decide (0 < m) = true := by rw [decide_eq_true_eq]; omega
      have hm0 : decide ((m : Int) > 0) = true := by rw [decide_eq_true_eq]; omega
      have hm1 : (0 : Int) < m := by omega
      obtain ⟨q, hq, hrd⟩ := HS.out.rd
      have HRD := Aside0.mk hrd
      clear hrd
      go_wp2_with (first
        | (go_at_call 106; refine (sPut_any w0 w.heap.size (fun _ => True) v l A2 c2 o _ HR2.out.below HS.out.ok.sorted (by omega) HO2.out HI2.out (isOk_len HK2.out) HG2.out.size (fun _ _ => trivial)).mono ?_; rintro e w3 ⟨v3, rfl, hr3, hg3, hat3⟩; have hb3 : ∀ j, v.ownBlock = some j → w.heap.size ≤ j := Kd.R_base HO2.out; have HM3 : Aside0 (SomeMem w0 w w3 g bs (q + 10) v3 (put l o)) := ⟨⟨hr3, by { obtain ⟨q2, hq2, hr2⟩ := HQ2.out; exact ⟨q2, hq2, rd_keep hr2 hg3 (fun j hj => by have := hb3 j hj; omega)⟩ }, grown_new HG2.out hg3 (fun j hj => .inl (hb3 j hj)), HS.out.ok.put HK2.out⟩⟩; have hlp := len_put l o; clear hr3 hg3 hat3)
        | (go_at_call 35; refine (any_any w0 g bs q _ HRD.out (by omega)).mono ?_; rintro e w2 ⟨o, v2, rfl, hk2, ho2, hq2, hg2⟩; obtain ⟨A2, c2, rfl⟩ := Kd.R_slice ho2; have HK2 := Aside0.mk hk2; have HQ2 := Aside0.mk hq2; have HR2 : Aside0 (∃ q2, Rd w0 w2 g bs q2) := ⟨by { obtain ⟨q2, _, hr2⟩ := hq2; exact ⟨q2, hr2⟩ }⟩; obtain ⟨q3, hr3⟩ := HR2.out; have HR2 := Aside0.mk hr3; have HI2 : Aside0 (IsO w2 o A2 c2) := ⟨⟨(Kd.R_reads' ho2).2.1, (Kd.R_reads' ho2).2.2⟩⟩; have HO2 := Aside0.mk (own_step HS.out.own hg2 hgw); have HG2 := Aside0.mk (grown_new HS.out.gr hg2 (fun j hj => .inr hj.symm)); clear hk2 ho2 hq2 hg2 hr3))
      go_roundw
      case rel => exact ⟨_, m - 1, put l o, rfl, by go_num, by omega, by omega, ⟨⟨HM3.out.own, by obtain ⟨q2, hq2, hr2⟩ := HM3.out.rd; exact ⟨q2, by omega, hr2⟩, HM3.out.gr, HM3.out.ok⟩⟩⟩
      case measure => simp [intOf]; omega
end Go.Proofs.Ytjeojdbfpncnkaa.Sk

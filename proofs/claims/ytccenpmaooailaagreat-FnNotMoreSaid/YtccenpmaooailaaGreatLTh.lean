
/- Absence at one time: the reference's memory. -/
import Derived.Test.YtccenpmaooailaaGreatLB7
import Derived.Test.YtccenpmaooailaaGreatLB6
import Derived.Test.YtccenpmaooailaaGreatLTd
set_option linter.unusedVariables false
set_option linter.unusedSimpArgs false
namespace Go.Proofs.YtccenpmaooailaaGreat.Th
open Go.RowKit Go.Proofs.YtccenpmaooailaaGreatW.PrintWords Go.Proofs.YtccenpmaooailaaGreat.Wd Go.Proofs.YtccenpmaooailaaGreat.Pu Go.Proofs.YtccenpmaooailaaGreat.Pv Go.Proofs.YtccenpmaooailaaGreat.Ca Go.Proofs.YtccenpmaooailaaGreat.Cb Go.Proofs.YtccenpmaooailaaGreat.Cc Go.Proofs.YtccenpmaooailaaGreat.Cp Go.Proofs.YtccenpmaooailaaGreat.Cd Go.Proofs.YtccenpmaooailaaGreat.Ci Go.Proofs.YtccenpmaooailaaGreat.Ce Go.Proofs.YtccenpmaooailaaGreat.Cf Go.Proofs.YtccenpmaooailaaGreat.Cg Go.Proofs.YtccenpmaooailaaGreat.Sc Go.Proofs.YtccenpmaooailaaGreat.Se Go.Proofs.YtccenpmaooailaaGreat.Sh Go.Proofs.YtccenpmaooailaaGreat.Si Go.Proofs.YtccenpmaooailaaGreat.Sp Go.Proofs.YtccenpmaooailaaGreat.Ia Go.Proofs.YtccenpmaooailaaGreat.Ib Go.Proofs.YtccenpmaooailaaGreat.Ic Go.Proofs.YtccenpmaooailaaGreat.Id Go.Proofs.YtccenpmaooailaaGreat.Ie Go.Proofs.YtccenpmaooailaaGreat.If Go.Proofs.YtccenpmaooailaaGreat.Ig Go.Proofs.YtccenpmaooailaaGreat.Ih Go.Proofs.YtccenpmaooailaaGreat.Ij Go.Proofs.YtccenpmaooailaaGreat.Ik Go.Proofs.YtccenpmaooailaaGreat.Ra Go.Proofs.YtccenpmaooailaaGreat.Rb Go.Proofs.YtccenpmaooailaaGreat.Rc Go.Proofs.YtccenpmaooailaaGreat.Rd Go.Proofs.YtccenpmaooailaaGreat.Re Go.Proofs.YtccenpmaooailaaGreat.Sj Go.Proofs.YtccenpmaooailaaGreat.Ya Go.Proofs.YtccenpmaooailaaGreat.Yd Go.Proofs.YtccenpmaooailaaGreat.Yf Go.Proofs.YtccenpmaooailaaGreat.Yg Go.Proofs.YtccenpmaooailaaGreat.Ih Go.Proofs.YtccenpmaooailaaGreat.Yh Go.Proofs.YtccenpmaooailaaGreat.Yi Go.Proofs.YtccenpmaooailaaGreat.Sg Go.Proofs.YtccenpmaooailaaGreat.Sf Go.Proofs.YtccenpmaooailaaGreat.Yj Go.Proofs.YtccenpmaooailaaGreat.Ig Go.Proofs.YtccenpmaooailaaGreat.Yk Go.Proofs.YtccenpmaooailaaGreat.Ik Go.Proofs.YtccenpmaooailaaGreat.Yl Go.Proofs.YtccenpmaooailaaGreat.Ij Go.Proofs.YtccenpmaooailaaGreat.Ym Go.Proofs.YtccenpmaooailaaGreat.Il Go.Proofs.YtccenpmaooailaaGreat.Yn Go.Proofs.YtccenpmaooailaaGreat.Yo Go.Proofs.YtccenpmaooailaaGreat.In Go.Proofs.YtccenpmaooailaaGreat.Yq Go.Proofs.YtccenpmaooailaaGreat.Pw Go.Proofs.YtccenpmaooailaaGreat.Px Go.Proofs.YtccenpmaooailaaGreat.La Go.Proofs.YtccenpmaooailaaGreat.Db Go.Proofs.YtccenpmaooailaaGreat.Ta Go.Proofs.YtccenpmaooailaaGreat.Tb Go.Proofs.YtccenpmaooailaaGreat.Tc Go.Proofs.YtccenpmaooailaaGreat.Td Go.Proofs.YtccenpmaooailaaGreat.Sh Go.Proofs.YtccenpmaooailaaGreat.Id Go.Proofs.YtccenpmaooailaaGreat.Yf

variable {Wz : World}
/-- two rows of one's own and what is found, beside the reference's span -/
structure SpSMem (Wz w wr : World) (base : Nat) (vL vM vO : Value) (A : Option Addr) (n c : Nat) (R : Option Addr) (nr cr : Nat) (st : List Occ × List Occ) (mid : List Occ) : Prop where
  bel : Below Wz.heap.size Wz wr
  bP : wr.heap[w.heap.size]? = some (.cells #[.slice A n c, .slice R nr cr] 25 (0, 0))
  bR : wr.heap[w.heap.size + 1]? = some (.cells #[.slice none 0 0, .slice none 0 0] 25 (0, 0))
  rL : Xw Wz wr base (.slice A n c) st.1
  rM : Xw Wz wr base (.slice R nr cr) mid
  rO : Xw Wz wr (w.heap.size + 2) vO st.2
  ne : Nq (.slice A n c) vO
  nm : Nq (.slice A n c) (.slice R nr cr)
  no : Nq (.slice R nr cr) vO
  fr : Fr (fun k => own vL k ∨ own vM k) w wr
  atL : ∀ k, own (.slice A n c) k → own vL k ∨ w.heap.size ≤ k
  atM : ∀ k, own (.slice R nr cr) k → own vM k ∨ w.heap.size ≤ k
theorem not_own {w : World} {base : Nat} {v : Value} {l : List Occ} {g : Nat} {cells : Array Value} (h : Xw Wz w base v l) (hg : w.heap[g]? = some (.cells cells 25 (0, 0))) : ¬ own v g := fun hk => by
  obtain ⟨c2, h2⟩ := Kd.R_typed h g hk
  rw [h2] at hg
  injection hg with hg
  injection hg with _ hg _
  exact absurd hg (by decide)
theorem Nq.at2 {u v v' : Value} {n : Nat} (h : Nq v u) (hu : ∀ k, own u k → k < n) (ha : At' v v' n) : Nq v' u := (Nq.at_ h.symm hu ha).symm
theorem own_at {v v' v0 : Value} {n m : Nat} (h : ∀ k, own v k → own v0 k ∨ m ≤ k) (ha : At' v v' n) (hm : m ≤ n) : ∀ k, own v' k → own v0 k ∨ m ≤ k := fun k hk => by
  rcases ha with e | ⟨b, e, hb⟩
  · exact h k (e.symm.trans hk)
  · have h3 : some b = some k := e.symm.trans hk
    injection h3 with h3
    exact .inr (by omega)
/-- a round of absence: some are picked, the made ones are merged into what is found, the rest is stored -/
theorem SpSMem.round {w wr w1 w2 w3 w4 : World} {base : Nat} {vL vM vo vo' : Value} {Al Ar R : Option Addr} {nl cl nr2 cr2 nr cr : Nat} {st : List Occ × List Occ} {mid p2 o' : List Occ}
    (hz : Wz.heap.size ≤ w.heap.size) (HM : SpSMem Wz w wr base vL vM vo Al nl cl R nr cr st mid) (b1 : wr.heap.size ≤ w1.heap.size) (b2 : Below wr.heap.size wr w2) (rest : Xw Wz w2 base (.slice Ar nr2 cr2) p2)
    (at_ : Value.slice Ar nr2 cr2 = .slice Al nl cl ∨ ∀ k, own (.slice Ar nr2 cr2) k → w1.heap.size ≤ k) (b3 : Below w2.heap.size w2 w3) (hr4 : Xw Wz w4 (w.heap.size + 2) vo' o') (hg4 : w3.grownBy w4 vo.ownBlock) (hat : At' vo vo' w3.heap.size) :
    SpSMem Wz w (w4.setCell ⟨w.heap.size, 0, none⟩ (.slice Ar nr2 cr2)) base vL vM vo' Ar nr2 cr2 R nr cr (p2, o') mid := by
  have hb := Xw.base HM.rO
  have b23 := below_then b2 b2.size b3
  have hP := blk_lt HM.bP
  have bP4 := blk_grown (blk_below HM.bP b23) hg4 (fun h => by have := hb _ h.symm; omega)
  have bR4 := blk_grown (blk_below HM.bR b23) hg4 (fun h => by have := hb _ h.symm; omega)
  have hne : Nq (.slice Ar nr2 cr2) vo := by
    rcases at_ with e | h
    · rw [e]; exact HM.ne
    · intro k h1 h2
      have := h k h1
      have := Xw.lt HM.rO k h2
      omega
  have hnm : Nq (.slice Ar nr2 cr2) (.slice R nr cr) := by
    rcases at_ with e | h
    · rw [e]; exact HM.nm
    · intro k h1 h2
      have := h k h1
      have := Xw.lt HM.rM k h2
      omega
  have hlt3 : ∀ k, own (.slice Ar nr2 cr2) k → k < w3.heap.size := fun k h => Nat.lt_of_lt_of_le (Xw.lt rest k h) b3.size
  have hlm3 : ∀ k, own (.slice R nr cr) k → k < w3.heap.size := fun k h => Nat.lt_of_lt_of_le (Xw.lt HM.rM k h) b23.size
  have r4 : Xw Wz w4 base (.slice Ar nr2 cr2) p2 := Xw.other (Xw.below rest b3) (Xw.below HM.rO b23) hg4 hne
  have m4 : Xw Wz w4 base (.slice R nr cr) mid := Xw.other (Xw.below HM.rM b23) (Xw.below HM.rO b23) hg4 HM.no
  refine ⟨(Fr.bel (below_then HM.bel HM.bel.size b23) (Fr.of_grown (S := own vo) hg4 (fun k e => e.symm)) (fun k hk => by have := hb k hk; omega)).setCell (p := ⟨w.heap.size, 0, none⟩) hz _, blk_put bP4 0 _ rfl, (Below.heap_setCell w4 ⟨w.heap.size, 0, none⟩ _ (w.heap.size + 1) (by simp)).trans bR4, Xw.set r4 bP4 (by decide) 0 _, Xw.set m4 bP4 (by decide) 0 _, Xw.set hr4 bP4 (by decide) 0 _, Nq.at_ hne hlt3 hat, hnm, Nq.at_ HM.no hlm3 hat, ?_, ?_, HM.atM⟩
  · refine Fr.set (Fr.trans HM.fr (Fr.trans (S := own vo) (T := own vo) (Fr.of_below b23) (Fr.of_grown hg4 (fun k e => e.symm)) (fun k h _ => h)) ?_) (fun h => absurd h (by omega))
    intro k h1 h2
    have := hb k h1
    omega
  · intro k h
    rcases at_ with e | h2
    · rw [e] at h
      exact HM.atL k h
    · have := h2 k h
      exact .inr (by omega)
/-- the first row grows and is stored -/
theorem SpSMem.left {w wr w5 : World} {base : Nat} {vL vM vo : Value} {Al A5 R : Option Addr} {nl cl n5 c5 nr cr : Nat} {st : List Occ × List Occ} {mid l' : List Occ} (hz : Wz.heap.size ≤ w.heap.size) (hzb : Wz.heap.size ≤ base)
    (HM : SpSMem Wz w wr base vL vM vo Al nl cl R nr cr st mid) (h5 : Xw Wz w5 base (.slice A5 n5 c5) l') (hg5 : wr.grownBy w5 (Value.slice Al nl cl).ownBlock) (hat : At' (.slice Al nl cl) (.slice A5 n5 c5) wr.heap.size) :
    w5.heap[w.heap.size]? = some (.cells #[.slice Al nl cl, .slice R nr cr] 25 (0, 0)) ∧ SpSMem Wz w (w5.setCell ⟨w.heap.size, 0, none⟩ (.slice A5 n5 c5)) base vL vM vo A5 n5 c5 R nr cr (l', st.2) mid := by
  have hP := blk_lt HM.bP
  have bP5 := blk_grown HM.bP hg5 (fun h => not_own HM.rL HM.bP h.symm)
  have bR5 := blk_grown HM.bR hg5 (fun h => not_own HM.rL HM.bR h.symm)
  have m5 : Xw Wz w5 base (.slice R nr cr) mid := Xw.other HM.rM HM.rL hg5 HM.nm.symm
  have o5 : Xw Wz w5 (w.heap.size + 2) vo st.2 := Xw.other HM.rO HM.rL hg5 HM.ne.symm
  refine ⟨bP5, (Fr.bel HM.bel (Fr.of_grown (S := own (.slice Al nl cl)) hg5 (fun k e => e.symm)) (fun k hk => by have := Xw.base HM.rL k hk; omega)).setCell (p := ⟨w.heap.size, 0, none⟩) hz _, blk_put bP5 0 _ rfl, (Below.heap_setCell w5 ⟨w.heap.size, 0, none⟩ _ (w.heap.size + 1) (by simp)).trans bR5, Xw.set h5 bP5 (by decide) 0 _, Xw.set m5 bP5 (by decide) 0 _, Xw.set o5 bP5 (by decide) 0 _, Nq.at2 HM.ne (fun k h => Xw.lt HM.rO k h) hat, Nq.at2 HM.nm (fun k h => Xw.lt HM.rM k h) hat, HM.no, ?_, own_at HM.atL hat (by omega), HM.atM⟩
  refine Fr.set (Fr.trans HM.fr (Fr.of_grown (S := own (.slice Al nl cl)) hg5 (fun k e => e.symm)) ?_) (fun h => absurd h (by omega))
  intro k h1 h2
  rcases HM.atL k h1 with h | h
  · exact .inl h
  · omega
/-- the middle grows and is stored -/
theorem SpSMem.middle {w wr w5 : World} {base : Nat} {vL vM vo : Value} {Al A5 R : Option Addr} {nl cl n5 c5 nr cr : Nat} {st : List Occ × List Occ} {mid m' : List Occ} (hz : Wz.heap.size ≤ w.heap.size) (hzb : Wz.heap.size ≤ base)
    (HM : SpSMem Wz w wr base vL vM vo Al nl cl R nr cr st mid) (h5 : Xw Wz w5 base (.slice A5 n5 c5) m') (hg5 : wr.grownBy w5 (Value.slice R nr cr).ownBlock) (hat : At' (.slice R nr cr) (.slice A5 n5 c5) wr.heap.size) :
    w5.heap[w.heap.size]? = some (.cells #[.slice Al nl cl, .slice R nr cr] 25 (0, 0)) ∧ SpSMem Wz w (w5.setCell ⟨w.heap.size, 1, none⟩ (.slice A5 n5 c5)) base vL vM vo Al nl cl A5 n5 c5 st m' := by
  have hP := blk_lt HM.bP
  have bP5 := blk_grown HM.bP hg5 (fun h => not_own HM.rM HM.bP h.symm)
  have bR5 := blk_grown HM.bR hg5 (fun h => not_own HM.rM HM.bR h.symm)
  have l5 : Xw Wz w5 base (.slice Al nl cl) st.1 := Xw.other HM.rL HM.rM hg5 HM.nm
  have o5 : Xw Wz w5 (w.heap.size + 2) vo st.2 := Xw.other HM.rO HM.rM hg5 HM.no.symm
  refine ⟨bP5, (Fr.bel HM.bel (Fr.of_grown (S := own (.slice R nr cr)) hg5 (fun k e => e.symm)) (fun k hk => by have := Xw.base HM.rM k hk; omega)).setCell (p := ⟨w.heap.size, 1, none⟩) hz _, blk_put bP5 1 _ rfl, (Below.heap_setCell w5 ⟨w.heap.size, 1, none⟩ _ (w.heap.size + 1) (by simp)).trans bR5, Xw.set l5 bP5 (by decide) 1 _, Xw.set h5 bP5 (by decide) 1 _, Xw.set o5 bP5 (by decide) 1 _, HM.ne, Nq.at_ HM.nm (fun k h => Xw.lt HM.rL k h) hat, Nq.at2 HM.no (fun k h => Xw.lt HM.rO k h) hat, ?_, HM.atL, own_at HM.atM hat (by omega)⟩
  refine Fr.set (Fr.trans HM.fr (Fr.of_grown (S := own (.slice R nr cr)) hg5 (fun k e => e.symm)) ?_) (fun h => absurd h (by omega))
  intro k h1 h2
  rcases HM.atM k h1 with h | h
  · exact .inr h
  · omega
def SpSOut (Wz w w' : World) (base : Nat) (vL vM : Value) (p : P3) (e : Ending) : Prop :=
  ∃ vL' vM' vO, e = .returned (.tuple #[.agg #[vL', vM'], vO]) ∧ Xw Wz w' base vL' p.a ∧ Xw Wz w' base vM' p.b ∧ Xw Wz w' w.heap.size vO p.c ∧ Nq vL' vM' ∧ Nq vL' vO ∧ Nq vM' vO ∧ Fr (fun k => own vL k ∨ own vM k) w w' ∧ (∀ k, own vL' k → own vL k ∨ w.heap.size ≤ k) ∧ (∀ k, own vM' k → own vM k ∨ w.heap.size ≤ k)
/-- what is told at the end -/
theorem SpSMem.done {w wr : World} {base : Nat} {vL vM vo : Value} {Al R : Option Addr} {nl cl nr cr : Nat} {st : List Occ × List Occ} {mid : List Occ} (HM : SpSMem Wz w wr base vL vM vo Al nl cl R nr cr st mid) :
    SpSOut Wz w (Id.set2 wr (w.heap.size + 1) (.slice Al nl cl) (.slice R nr cr)) base vL vM ⟨st.1, mid, st.2⟩ (.returned (.tuple #[.agg #[.slice Al nl cl, .slice R nr cr], vo])) := by
  have S : ∀ {b : Nat} {u : Value} {l : List Occ}, Xw Wz wr b u l → Xw Wz (Id.set2 wr (w.heap.size + 1) (.slice Al nl cl) (.slice R nr cr)) b u l := fun h => Xw.set (Xw.set h HM.bR (by decide) 0 _) (blk_put HM.bR 0 _ rfl) (by decide) 1 _
  refine ⟨_, _, _, rfl, S HM.rL, S HM.rM, Kd.R_lower (S HM.rO) (by omega), HM.nm, HM.ne, HM.no, ?_, HM.atL, HM.atM⟩
  refine Fr.set (Fr.set HM.fr ?_) ?_
  · intro h; exact absurd h (by omega)
  · intro h; exact absurd h (by omega)
end Go.Proofs.YtccenpmaooailaaGreat.Th

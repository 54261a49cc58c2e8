
/- All that was found, over and over: the reference's. -/
import Derived.Test.YtccenpmaooailaaGreatMB7
import Derived.Test.YtccenpmaooailaaGreatMB6
import Derived.Test.YtccenpmaooailaaGreatMTl
import Derived.Test.YtccenpmaooailaaGreatMGa
set_option linter.unusedVariables false
set_option linter.unusedSimpArgs false
namespace Go.Proofs.YtccenpmaooailaaGreat.Gc
open Go.RowKit Go.Proofs.YtccenpmaooailaaGreatW.PrintWords Go.Proofs.YtccenpmaooailaaGreat.Wd Go.Proofs.YtccenpmaooailaaGreat.Pu Go.Proofs.YtccenpmaooailaaGreat.Pv Go.Proofs.YtccenpmaooailaaGreat.Ca Go.Proofs.YtccenpmaooailaaGreat.Cb Go.Proofs.YtccenpmaooailaaGreat.Cc Go.Proofs.YtccenpmaooailaaGreat.Cp Go.Proofs.YtccenpmaooailaaGreat.Cd Go.Proofs.YtccenpmaooailaaGreat.Ci Go.Proofs.YtccenpmaooailaaGreat.Ce Go.Proofs.YtccenpmaooailaaGreat.Cf Go.Proofs.YtccenpmaooailaaGreat.Cg Go.Proofs.YtccenpmaooailaaGreat.Sc Go.Proofs.YtccenpmaooailaaGreat.Se Go.Proofs.YtccenpmaooailaaGreat.Sh Go.Proofs.YtccenpmaooailaaGreat.Si Go.Proofs.YtccenpmaooailaaGreat.Sp Go.Proofs.YtccenpmaooailaaGreat.Ia Go.Proofs.YtccenpmaooailaaGreat.Ib Go.Proofs.YtccenpmaooailaaGreat.Ic Go.Proofs.YtccenpmaooailaaGreat.Id Go.Proofs.YtccenpmaooailaaGreat.Ie Go.Proofs.YtccenpmaooailaaGreat.If Go.Proofs.YtccenpmaooailaaGreat.Ig Go.Proofs.YtccenpmaooailaaGreat.Ih Go.Proofs.YtccenpmaooailaaGreat.Ij Go.Proofs.YtccenpmaooailaaGreat.Ik Go.Proofs.YtccenpmaooailaaGreat.Ra Go.Proofs.YtccenpmaooailaaGreat.Rb Go.Proofs.YtccenpmaooailaaGreat.Rc Go.Proofs.YtccenpmaooailaaGreat.Rd Go.Proofs.YtccenpmaooailaaGreat.Re Go.Proofs.YtccenpmaooailaaGreat.Sj Go.Proofs.YtccenpmaooailaaGreat.Ya Go.Proofs.YtccenpmaooailaaGreat.Yd Go.Proofs.YtccenpmaooailaaGreat.Yf Go.Proofs.YtccenpmaooailaaGreat.Yg Go.Proofs.YtccenpmaooailaaGreat.Ih Go.Proofs.YtccenpmaooailaaGreat.Yh Go.Proofs.YtccenpmaooailaaGreat.Yi Go.Proofs.YtccenpmaooailaaGreat.Sg Go.Proofs.YtccenpmaooailaaGreat.Sf Go.Proofs.YtccenpmaooailaaGreat.Yj Go.Proofs.YtccenpmaooailaaGreat.Ig Go.Proofs.YtccenpmaooailaaGreat.Yk Go.Proofs.YtccenpmaooailaaGreat.Ik Go.Proofs.YtccenpmaooailaaGreat.Yl Go.Proofs.YtccenpmaooailaaGreat.Ij Go.Proofs.YtccenpmaooailaaGreat.Ym Go.Proofs.YtccenpmaooailaaGreat.Il Go.Proofs.YtccenpmaooailaaGreat.Yn Go.Proofs.YtccenpmaooailaaGreat.Yo Go.Proofs.YtccenpmaooailaaGreat.In Go.Proofs.YtccenpmaooailaaGreat.Yq Go.Proofs.YtccenpmaooailaaGreat.Pw Go.Proofs.YtccenpmaooailaaGreat.Px Go.Proofs.YtccenpmaooailaaGreat.La Go.Proofs.YtccenpmaooailaaGreat.Db Go.Proofs.YtccenpmaooailaaGreat.Ta Go.Proofs.YtccenpmaooailaaGreat.Tb Go.Proofs.YtccenpmaooailaaGreat.Tc Go.Proofs.YtccenpmaooailaaGreat.Td Go.Proofs.YtccenpmaooailaaGreat.Te Go.Proofs.YtccenpmaooailaaGreat.Th Go.Proofs.YtccenpmaooailaaGreat.Ti Go.Proofs.YtccenpmaooailaaGreat.Tj Go.Proofs.YtccenpmaooailaaGreat.Tl Go.Proofs.YtccenpmaooailaaGreat.Sh Go.Proofs.YtccenpmaooailaaGreat.Id Go.Proofs.YtccenpmaooailaaGreat.Ik Go.Proofs.YtccenpmaooailaaGreat.Ij Go.Proofs.YtccenpmaooailaaGreat.Il Go.Proofs.YtccenpmaooailaaGreat.If Go.Proofs.YtccenpmaooailaaGreat.Ga Go.Proofs.YtccenpmaooailaaGreat.Yh Go.Proofs.YtccenpmaooailaaGreat.Yf Go.Proofs.YtccenpmaooailaaGreat.Ya Go.Proofs.YtccenpmaooailaaGreat.Yl Go.Proofs.YtccenpmaooailaaGreat.Ym Go.Proofs.YtccenpmaooailaaGreat.Yn Go.Proofs.YtccenpmaooailaaGreat.Yo Go.Proofs.YtccenpmaooailaaGreat.Yq Go.Proofs.YtccenpmaooailaaGreat.Za

theorem Core.span {Wz w wr w2 w4 : World} {base bo P : Nat} {S : Nat → Prop} {Al Ar : Option Addr} {cl cr : Nat} {vo : Value} {st p q : P3} {cells : Array Value} {e : Ending} (h : Core Wz w wr base bo S (.slice Al st.a.length cl) (.slice Ar st.b.length cr) vo st.a st.b st.c) (hb : Below wr.heap.size wr w2)
    (g : SpSOut Wz w2 w4 base (.slice Al st.a.length cl) (.slice Ar st.b.length cr) q e) (hp : p = q)
    (hP : wr.heap[P]? = some (.cells cells 25 (0, 0))) (hz : Wz.heap.size ≤ base) (hPz : Wz.heap.size ≤ P) (hPw : w.heap.size ≤ P) :
    ∃ A1 c1 A2 c2 U cu, e = .returned (.tuple #[.agg #[.slice A1 p.a.length c1, .slice A2 p.b.length c2], .slice U p.c.length cu]) ∧ Fr (fun k => own (.slice Al st.a.length cl) k ∨ own (.slice Ar st.b.length cr) k) w2 w4 ∧ (w4.heap[P]? = some (.cells cells 25 (0, 0))) ∧ ∀ u0 u1, Mid Wz w wr (Id.set2 w4 P u0 u1) base bo S (.slice A1 p.a.length c1) (.slice A2 p.b.length c2) vo (.slice U p.c.length cu) p.a p.b st.c p.c := by
  obtain ⟨vL, vR, vO, rfl, gX, gY, gO, gxy, gxo, gyo, hfr, gaX, gaY⟩ := g
  subst hp
  obtain ⟨A1, c1, rfl⟩ := Xw.slice gX
  obtain ⟨A2, c2, rfl⟩ := Xw.slice gY
  obtain ⟨U, cu, rfl⟩ := Xw.slice gO
  have hP2 := blk_below hP hb
  have hP4 := fr_blk hfr hP2 (fun hh => hh.elim (not_own (Xw.below h.rX hb) hP2) (not_own (Xw.below h.rY hb) hP2))
  have hP5 := fun u0 => blk_set hP4 0 u0
  have s2 := hb.size
  have sw := h.fr.size
  have lo := Xw.lt h.rO
  have lx := Xw.lt h.rX
  have ly := Xw.lt h.rY
  have bx := Xw.base h.rX
  have by' := Xw.base h.rY
  have bU := Xw.base gO
  have ntx : NotInt w2 (fun k => own (.slice Al st.a.length cl) k ∨ own (.slice Ar st.b.length cr) k) := fun k hk hl => hk.elim (fun hk => Xw.typed (Xw.below h.rX hb) k hk hl) (fun hk => Xw.typed (Xw.below h.rY hb) k hk hl)
  have rO4 := Xw.keep (Xw.below h.rO hb) hfr (fun k hk hh => hh.elim (fun h1 => h.nXO k h1 hk) (fun h1 => h.nYO k h1 hk)) ntx
  have k4 : Below Wz.heap.size Wz w4 := Fr.bel (below_then h.bel h.bel.size hb) hfr (fun k hk => hk.elim (fun hk => by have := bx k hk; omega) (fun hk => by have := by' k hk; omega))
  refine ⟨A1, c1, A2, c2, U, cu, rfl, hfr, hP4, fun u0 u1 => ?_⟩
  have ee : ∀ {b : Nat} {v : Value} {l : List Occ}, Xw Wz w4 b v l → Xw Wz (Id.set2 w4 P u0 u1) b v l := fun hh => Xw.set (Xw.set hh hP4 (by decide) 0 u0) (hP5 u0) (by decide) 1 u1
  have hS : ∀ k, (own (.slice Al st.a.length cl) k ∨ own (.slice Ar st.b.length cr) k) → S k ∨ w.heap.size ≤ k := fun k hk => hk.elim (h.atX k) (h.atY k)
  refine ⟨(k4.setCell (p := ⟨P, 0, none⟩) hPz _).setCell (p := ⟨P, 1, none⟩) hPz _, ee gX, ee gY, ee rO4, ee (Kd.R_lower gO (by omega)), gxy, ?_, ?_, Nq.low (n := wr.heap.size) (fun k hk => by have := bU k hk; omega) lo, ?_, ?_, ?_⟩
  · intro k h1 h2
    rcases gaX k h1 with h3 | h3
    · exact h.nXO k h3 h2
    · have := lo k h2; omega
  · intro k h1 h2
    rcases gaY k h1 with h3 | h3
    · exact h.nYO k h3 h2
    · have := lo k h2; omega
  · exact Fr.set (Fr.set (Fr.trans h.fr (Fr.trans (S := fun k => own (.slice Al st.a.length cl) k ∨ own (.slice Ar st.b.length cr) k) (T := fun k => own (.slice Al st.a.length cl) k ∨ own (.slice Ar st.b.length cr) k) (Fr.of_below hb) hfr (fun k hk _ => hk)) (fun k h1 h2 => by rcases hS k h1 with h3 | h3; exact h3; omega)) (fun hh => absurd hh (by omega))) (fun hh => absurd hh (by omega))
  · intro k h1
    rcases gaX k h1 with h3 | h3
    · exact hS k (.inl h3)
    · exact .inr (by omega)
  · intro k h1
    rcases gaY k h1 with h3 | h3
    · exact hS k (.inr h3)
    · exact .inr (by omega)
set_option maxHeartbeats 8000000 in
set_option maxRecDepth 100000 in
theorem sAllNot_any (mode : Int) (hm : 0 ≤ mode ∧ mode ≤ 4) (A B C : Option Addr) (ca cb cc : Nat) (a b c : List Occ) (w : World) (ha : AreOk a) (hb : AreOk b) (hcc : AreOk c) (na : a.length ≤ 40) (nb : b.length ≤ 40) (nc : c.length ≤ 40) (hA : IsL w a A ca) (hB : IsL w b B cb) (hC : IsL w c C cc) :
    Calls Tryz.prog 63 #[.bool true, .int .i64 mode, .slice A a.length ca, .slice B b.length cb, .slice C c.length cc] w fun e w' => SBothOut w w' (all3 (not3 mode) a b c (tms (a ++ (b ++ c)))).c e := by
  have hfl : ([a, b, c] : List (List Occ)).flatten = a ++ (b ++ c) := by simp
  have hfn : ([a, b, c] : List (List Occ)).flatten.length ≤ 1048576 := by rw [hfl, List.length_append, List.length_append]; omega
  have HFL := Aside0.mk hfl
  have HFN := Aside0.mk hfn
  have HA := Aside0.mk hA
  have HB := Aside0.mk hB
  have HC := Aside0.mk hC
  have HKA := Aside0.mk ha
  have HKB := Aside0.mk hb
  have HKC := Aside0.mk hcc
  have HASC := Aside0.mk (asc_tms (a ++ (b ++ c)))
  have HSTEP := Aside0.mk (not3_step hm)
  clear hfl hfn hA hB hC ha hb hcc
  go_enter Tryz.func63, Tryz.ntmps63
  go_upto_region 3 with fail
  obtain ⟨hb1, b0, b1⟩ : Below w.heap.size w ((w.alloc (.cells #[.slice none 0 0, .slice none 0 0] 25)).alloc (.cells #[] 43)) ∧ ((w.alloc (.cells #[.slice none 0 0, .slice none 0 0] 25)).alloc (.cells #[] 43)).heap[w.heap.size]? = some (.cells #[.slice none 0 0, .slice none 0 0] 25 (0, 0)) ∧ ((w.alloc (.cells #[.slice none 0 0, .slice none 0 0] 25)).alloc (.cells #[] 43)).heap[w.heap.size + 1]? = some (.cells #[] 43 (0, 0)) :=
    ⟨below_alloc (below_alloc (Below.refl _ _) _) _, blk_alloc (blk_new _ _) _, by have := blk_new (w.alloc (.cells #[.slice none 0 0, .slice none 0 0] 25)) (.cells #[] 43); simpa using this⟩
  generalize (w.alloc (.cells #[.slice none 0 0, .slice none 0 0] 25)).alloc (.cells #[] 43) = W1 at hb1 b0 b1 ⊢
  have hs1 := blk_lt b1
  have bg := blk_new W1 (.cells #[.slice A a.length ca, .slice B b.length cb, .slice C c.length cc] 23)
  have HW2 := Aside0.mk (below_then hb1 hb1.size (below_alloc (Below.refl W1.heap.size W1) (.cells #[.slice A a.length ca, .slice B b.length cb, .slice C c.length cc] 23)))
  have hts := sTimes_any (some ⟨W1.heap.size, 0, none⟩) 3 [a, b, c] _ HFN.out (three_L bg (HA.out.below HW2.out) (HB.out.below HW2.out) (HC.out.below HW2.out))
  rw [HFL.out] at hts
  have c0 := blk_alloc b0 (.cells #[.slice A a.length ca, .slice B b.length cb, .slice C c.length cc] 23)
  have c1 := blk_alloc b1 (.cells #[.slice A a.length ca, .slice B b.length cb, .slice C c.length cc] 23)
  have htl : (tms (a ++ (b ++ c))).length ≤ 2000 := by unfold tms; exact Nat.le_trans (List.length_filter_le _ _) (by simp)
  generalize htd : tms (a ++ (b ++ c)) = ts at *
  have HTD := Aside0.mk htd
  clear htd
  have hW12 : W1.heap.size ≤ (W1.alloc (.cells #[.slice A a.length ca, .slice B b.length cb, .slice C c.length cc] 23)).heap.size := by simp
  go_wp2_with (go_at_call 100; refine hts.mono ?_; rintro e w3 ⟨At, ct, rfl, hrt, hb3⟩; have P3 := Aside0.mk (blk_below c0 hb3); have HB3 := Aside0.mk (below_then HW2.out HW2.out.size hb3); have HRT := Aside0.mk (Kd.R_lower hrt (Nat.le_trans (Nat.le_of_lt hs1) hW12)); have O3 := blk_below c1 hb3; clear hrt hb3)
  have HM : Aside0 (Core w w w3 w.heap.size (w.heap.size + 1) (fun _ => False) (.slice none 0 0) (.slice none 0 0) (.slice (some ⟨w.heap.size + 1, 0, none⟩) 0 0) (all3 (not3 mode) a b c (ts.take 0)).a (all3 (not3 mode) a b c (ts.take 0)).b (all3 (not3 mode) a b c (ts.take 0)).c) :=
    ⟨⟨HB3.out, Kd.R_nil _ _ _ _ _, Kd.R_nil _ _ _ _ _, R_empty (kX w) O3 (Nat.le_refl _), fun k h => by simp [own, Value.ownBlock] at h, fun k h => by simp [own, Value.ownBlock] at h, fun k h => by simp [own, Value.ownBlock] at h, Fr.of_below HB3.out, fun k h => by simp [own, Value.ownBlock] at h, fun k h => by simp [own, Value.ownBlock] at h⟩⟩
  clear b0 b1 bg hts c0 c1 hb1 hs1 hW12 HB3 O3
  go_loopw [12, 14] (fun vo vi wr => ∃ (k : Nat) (v : Value) (Al Ar : Option Addr) (nl nr cl cr : Nat), k ≤ ts.length ∧ vi = .int .i64 k ∧ v = vo ∧ Aside0 (Core w w wr w.heap.size (w.heap.size + 1) (fun _ => False) (.slice Al nl cl) (.slice Ar nr cr) v (all3 (not3 mode) a b c (ts.take k)).a (all3 (not3 mode) a b c (ts.take k)).b (all3 (not3 mode) a b c (ts.take k)).c) ∧ Aside0 (wr.heap[w.heap.size]? = some (.cells #[.slice Al nl cl, .slice Ar nr cr] 25 (0, 0))) ∧ Aside0 ((Kd.int .i64).R 3 wr (w.heap.size + 1) (fun _ => True) (.slice At ts.length ct) ts)) (fun _ vi _ => ts.length - (intOf vi).toNat)
  case atStart => exact ⟨0, _, _, _, _, _, _, _, Nat.zero_le _, rfl, rfl, HM, P3, HRT⟩
  case round =>
    clear HM P3 HRT
    obtain ⟨k, vo, Al, Ar, nl, nr, cl, cr, hk, rfl, rfl, HM, HP, HRT⟩ := hrel
    have HBO := Aside0.mk (all3_ok HSTEP.out HKA.out HKB.out HKC.out na nb nc HASC.out k hk)
    obtain rfl := Xw.len HM.out.rX
    obtain rfl := Xw.len HM.out.rY
    have hPs := blk_lt HP.out
    have hws := HM.out.fr.size
    by_cases hlt : k < ts.length
    · have g1 : decide (k < ts.length) = true := decide_eq_true hlt
      have i1 : (k : Int) < ts.length := by omega
      have HT := Aside0.mk (all3_take (stp := not3 mode) (a := a) (b := b) (c := c) hlt)
      obtain ⟨hNX, hl1, hl2⟩ := all3Ok_step HSTEP.out HKA.out HKB.out HKC.out na nb nc HASC.out hlt HBO.out
      have HNX := Aside0.mk hNX
      have hta : AreOk (atT a (ts.getD k 0)) := HKA.out.filter _
      have htb : AreOk (atT b (ts.getD k 0)) := HKB.out.filter _
      have htc : AreOk (atT c (ts.getD k 0)) := HKC.out.filter _
      obtain ⟨ad, hAt, hcell⟩ := at1 (Kd.R_reads' HRT.out).2.2 k hlt
      subst hAt
      have HCELL : Aside0 (∀ W, (Kd.int .i64).R 3 W (w.heap.size + 1) (fun _ => True) (.slice (some ad) ts.length ct) ts → W.cell? (ad.add k) = some (.int .i64 (ts.getD k 0))) := ⟨fun W h => by obtain ⟨ad2, e2, h2⟩ := at1 (Kd.R_reads' h).2.2 k hlt; injection e2 with e2; rw [e2]; exact h2⟩
      generalize all3 (not3 mode) a b c (ts.take k) = st at *
      generalize ts.getD k 0 = T at *
      have HTA := Aside0.mk hta
      have HTB := Aside0.mk htb
      have HTC := Aside0.mk htc
      have la : (atT a T).length ≤ 40 := Nat.le_trans (List.length_filter_le _ _) na
      have lb : (atT b T).length ≤ 40 := Nat.le_trans (List.length_filter_le _ _) nb
      have lc : (atT c T).length ≤ 40 := Nat.le_trans (List.length_filter_le _ _) nc
      obtain ⟨p, hp⟩ : ∃ p, p = not3 mode st.a st.b (atT a T) (atT b T) (atT c T) := ⟨_, rfl⟩
      have HPP := Aside0.mk hp
      have hok : Ok3 p := by rw [hp]; exact HSTEP.out.ok HBO.out.ka HBO.out.kb hta htb htc (by omega) (by omega) (by omega)
      have hlc : p.c.length ≤ 40 * ((atT b T).length + (atT c T).length) := by rw [hp]; exact HSTEP.out.lc HBO.out.ka HBO.out.kb hta htb htc (by omega)
      have HOK := Aside0.mk hok
      have HEQ := Aside0.mk (hp.trans (not3_eq hm HBO.out.ka htc.all))
      have hlo := HBO.out.lc
      have hsa := sumAt_le' (l := a) HASC.out k
      have hsb := sumAt_le' (l := b) HASC.out k
      have hsc := sumAt_le' (l := c) HASC.out k
      clear hta htb htc hNX hp hok
      go_upto_region 10 with fail
      have hba := below_alloc (Below.refl wr.heap.size wr) (.cells #[] 43)
      have HMb := Aside0.mk (Core.below HM.out hba)
      have HPb := Aside0.mk (blk_below HP.out hba)
      have HRb := Aside0.mk (Kd.R_below HRT.out hba)
      have hwb := Nat.le_trans hws hba.size
      have hPb := blk_lt HPb.out
      generalize wr.alloc (.cells #[] 43) = wr at HMb HPb HRb hwb hPb ⊢
      clear hba HM HP HRT hws hcell hPs
      have F : ∀ w' : World, Below wr.heap.size wr w' → w'.cell? ⟨w.heap.size, 0, none⟩ = some (.slice Al st.a.length cl) ∧ w'.cell? ⟨w.heap.size, 1, none⟩ = some (.slice Ar st.b.length cr) := fun w' h => ⟨(blk_cell (blk_below HPb.out h) 0).trans rfl, (blk_cell (blk_below HPb.out h) 1).trans rfl⟩
      refine Za.regionL (fun w' => w'.cell? ⟨w.heap.size, 0, none⟩ = some (.slice Al st.a.length cl) ∧ w'.cell? ⟨w.heap.size, 1, none⟩ = some (.slice Ar st.b.length cr)) [13, 14, 15, 16] (by kernel_rfl) ?_
      have HB0 : Below wr.heap.size wr wr.drew := below_drew (Below.refl _ _)
      have HS : (fun w' => w'.cell? ⟨w.heap.size, 0, none⟩ = some (.slice Al st.a.length cl) ∧ w'.cell? ⟨w.heap.size, 1, none⟩ = some (.slice Ar st.b.length cr)) wr.drew := F _ HB0
      refine Za.takeL 0 (v := ?v0) rfl (by kernel_rfl) (by kernel_rfl) (by kernel_rfl) (by kernel_rfl) (fun _ _ _ h => h) (Or.inl ⟨by rfl, ?hy0⟩) HS ?rest0
      case hy0 => (intro w hSw; (try dsimp only at hSw); go_simp; try with_reducible rfl)
      (try simp only [Act.put, List.setIfInBounds_toArray, List.set_cons_zero, List.set_cons_succ])
      refine Za.takeL 1 (v := ?v1) rfl (by kernel_rfl) (by kernel_rfl) (by kernel_rfl) (by kernel_rfl) (fun _ _ _ h => h) (Or.inl ⟨by rfl, ?hy1⟩) HS ?rest1
      case hy1 => (intro w hSw; (try dsimp only at hSw); go_simp; try with_reducible rfl)
      (try simp only [Act.put, List.setIfInBounds_toArray, List.set_cons_zero, List.set_cons_succ])
      refine Za.takeL 2 (v := ?v2) rfl (by kernel_rfl) (by kernel_rfl) (by kernel_rfl) (by kernel_rfl) (fun _ _ _ h => h) (Or.inl ⟨by rfl, ?hy2⟩) HS ?rest2
      case hy2 => (intro w hSw; (try dsimp only at hSw); go_simp; try with_reducible rfl)
      (try simp only [Act.put, List.setIfInBounds_toArray, List.set_cons_zero, List.set_cons_succ])
      refine Za.takeL 3 (v := ?v3) rfl (by kernel_rfl) (by kernel_rfl) (by kernel_rfl) (by kernel_rfl) (fun _ _ _ h => h) (Or.inl ⟨by rfl, ?hy3⟩) HS ?rest3
      case hy3 => (intro w hSw; (try dsimp only at hSw); go_simp; try with_reducible rfl)
      (try simp only [Act.put, List.setIfInBounds_toArray, List.set_cons_zero, List.set_cons_succ])
      refine Za.takeL 5 (v := ?v5) rfl (by kernel_rfl) (by kernel_rfl) (by kernel_rfl) (by kernel_rfl) (fun _ _ _ h => h) (Or.inl ⟨by rfl, ?hy5⟩) HS ?rest5
      case hy5 => (intro w hSw; (try dsimp only at hSw); go_simp; try with_reducible rfl)
      (try simp only [Act.put, List.setIfInBounds_toArray, List.set_cons_zero, List.set_cons_succ])
      refine Za.takeL 6 (v := ?v6) rfl (by kernel_rfl) (by kernel_rfl) (by kernel_rfl) (by kernel_rfl) (fun _ _ _ h => h) (Or.inl ⟨by rfl, ?hy6⟩) HS ?rest6
      case hy6 => (intro w hSw; (try dsimp only at hSw); go_simp; try with_reducible rfl)
      (try simp only [Act.put, List.setIfInBounds_toArray, List.set_cons_zero, List.set_cons_succ])
      refine Za.takeL 8 (v := ?v8) rfl (by kernel_rfl) (by kernel_rfl) (by kernel_rfl) (by kernel_rfl) (fun _ _ _ h => h) (Or.inl ⟨by rfl, ?hy8⟩) HS ?rest8
      case hy8 => (intro w hSw; (try dsimp only at hSw); go_simp; try with_reducible rfl)
      (try simp only [Act.put, List.setIfInBounds_toArray, List.set_cons_zero, List.set_cons_succ])
      refine Za.takeL 9 (v := ?v9) rfl (by kernel_rfl) (by kernel_rfl) (by kernel_rfl) (by kernel_rfl) (fun _ _ _ h => h) (Or.inl ⟨by rfl, ?hy9⟩) HS ?rest9
      case hy9 => (intro w hSw; (try dsimp only at hSw); go_simp; try with_reducible rfl)
      (try simp only [Act.put, List.setIfInBounds_toArray, List.set_cons_zero, List.set_cons_succ])
      clear HS
      refine Za.nextL 4 (by kernel_rfl) rfl (fun K' hK => ?_)
      go_simp
      go_wp2_with (go_at_call 101; refine (sAt_any w A ca a T _ (by omega) (below_then HMb.out.bel HMb.out.bel.size HB0) HA.out).mono ?_; rintro e w1 ⟨va, rfl, hxa, hb1⟩; obtain ⟨Xa, cxa, rfl⟩ := Kd.R_slice hxa; have HB1 : Below wr.heap.size wr w1 := keepD hb1; have HXA1 := Aside0.mk (Kd.R_lower hxa HB0.size); clear hxa hb1)
      refine hK.out _ _ ⟨fun _ => F _ HB1, ?_⟩
      clear hK K'
      refine Za.nextL 7 (by kernel_rfl) rfl (fun K' hK => ?_)
      go_simp
      go_wp2_with (go_at_call 101; refine (sAt_any w B cb b T _ (by omega) (below_then HMb.out.bel HMb.out.bel.size HB1) HB.out).mono ?_; rintro e w2 ⟨vb, rfl, hxb, hb2⟩; obtain ⟨Xb, cxb, rfl⟩ := Kd.R_slice hxb; have HB2 : Below wr.heap.size wr w2 := below_then HB1 HB1.size hb2; have HXB2 := Aside0.mk (Kd.R_lower hxb HB1.size); have HXA2 := Aside0.mk (Kd.R_below HXA1.out hb2); clear hxb hb2)
      refine hK.out _ _ ⟨fun _ => F _ HB2, ?_⟩
      clear hK K'
      refine Za.nextL 10 (by kernel_rfl) rfl (fun K' hK => ?_)
      go_simp
      go_wp2_with (go_at_call 101; refine (sAt_any w C cc c T _ (by omega) (below_then HMb.out.bel HMb.out.bel.size HB2) HC.out).mono ?_; rintro e w3 ⟨vc, rfl, hxc, hb3⟩; obtain ⟨Xc, cxc, rfl⟩ := Kd.R_slice hxc; have HB3 : Below wr.heap.size wr w3 := below_then HB2 HB2.size hb3; have HXC := Aside0.mk (Kd.R_lower hxc HB2.size); have HXB := Aside0.mk (Kd.R_below HXB2.out hb3); have HXA := Aside0.mk (Kd.R_below HXA2.out hb3); have HNT := Aside0.mk (two_nt HMb.out HB3); clear hxc hb3)
      refine hK.out _ _ ⟨fun _ => F _ HB3, ?_⟩
      clear hK K'
      refine Za.nextL 11 (by kernel_rfl) rfl (fun K' hK => ?_)
      go_simp
      go_wp2_with (go_at_call 48; refine (xNot_any w mode hm w.heap.size Al Xa Xb Xc Ar cl cxa cxb cxc cr st.a st.b (atT a T) (atT b T) (atT c T) _ HBO.out.ka HBO.out.kb HTA.out.all HTB.out.all HTC.out.all (by omega) (by omega) (by omega) (below_then HMb.out.bel HMb.out.bel.size HB3) (Nat.le_refl _) (Xw.below HMb.out.rX HB3) (Xw.below HMb.out.rY HB3) HMb.out.nXY (Nat.le_trans hwb HB3.size) (fun W hf => both_rd HMb.out HB3 HXA.out hf) (fun W hf => both_rd HMb.out HB3 HXB.out hf) (fun W hf => both_rd HMb.out HB3 HXC.out hf)).mono ?_; rintro e w4 hout; obtain ⟨A1, c1, A2, c2, U, cu, rfl, hfr4, hP4, hmid⟩ := Core.span HMb.out HB3 hout HEQ.out HPb.out (Nat.le_refl _) (Nat.le_refl _) (Nat.le_refl _); have hrt4 := ri_keep (Kd.R_below HRb.out HB3) hfr4 HNT.out; have HRT5 : Aside0 (∀ u0 u1, (Kd.int .i64).R 3 ((w4.setCell ⟨w.heap.size, 0, none⟩ u0).setCell ⟨w.heap.size, 1, none⟩ u1) (w.heap.size + 1) (fun _ => True) (.slice (some ad) ts.length ct) ts) := ⟨fun u0 u1 => Kd.R_set (Kd.R_set hrt4 hP4 (by decide) 0 u0) (blk_set hP4 0 u0) (by decide) 1 u1⟩; have HMID := Aside0.mk hmid; have q0 := (blk_cell hP4 0).trans rfl; have q1 := (blk_cell hP4 1).trans rfl; have y0 := blk_frozen hP4 0; have y1 := blk_frozen hP4 1; have HP5 : Aside0 (∀ u0 u1, ((w4.setCell ⟨w.heap.size, 0, none⟩ u0).setCell ⟨w.heap.size, 1, none⟩ u1).heap[w.heap.size]? = some (.cells #[u0, u1] 25 (0, 0))) := ⟨fun u0 u1 => Id.set2_blk u0 u1 hP4⟩; clear hout hfr4 hmid hrt4 hP4)
      refine hK.out _ _ ⟨fun _ => ⟨q0, q1⟩, ?_⟩
      clear hK K'
      have HS : (fun w' => w'.cell? ⟨w.heap.size, 0, none⟩ = some (.slice Al st.a.length cl) ∧ w'.cell? ⟨w.heap.size, 1, none⟩ = some (.slice Ar st.b.length cr)) w4 := ⟨q0, q1⟩
      refine Za.takeL 12 (v := ?v12) rfl (by kernel_rfl) (by kernel_rfl) (by kernel_rfl) (by kernel_rfl) (fun _ _ _ h => h) (Or.inl ⟨by rfl, ?hy12⟩) HS ?rest12
      case hy12 => (intro w hSw; (try dsimp only at hSw); go_simp; try with_reducible rfl)
      (try simp only [Act.put, List.setIfInBounds_toArray, List.set_cons_zero, List.set_cons_succ])
      refine Za.pureL 13 (v := ?v13) rfl (by kernel_rfl) (by kernel_rfl) (by kernel_rfl) (by kernel_rfl) (fun _ _ _ h => h) (Or.inl ⟨by rfl, ?hy13⟩) ?rest13
      case hy13 => (intro w _; go_simp; try with_reducible rfl)
      (try simp only [Act.put, List.setIfInBounds_toArray, List.set_cons_zero, List.set_cons_succ])
      refine Za.pureL 14 (v := ?v14) rfl (by kernel_rfl) (by kernel_rfl) (by kernel_rfl) (by kernel_rfl) (fun _ _ _ h => h) (Or.inl ⟨by rfl, ?hy14⟩) ?rest14
      case hy14 => (intro w _; go_simp; try with_reducible rfl)
      (try simp only [Act.put, List.setIfInBounds_toArray, List.set_cons_zero, List.set_cons_succ])
      clear HS
      refine Za.nextL 15 (by kernel_rfl) rfl (fun K' hK => ?_)
      go_simp
      refine hK.out _ _ ⟨fun h => absurd (by simp) h, ?_⟩
      clear hK K'
      (try simp only [Act.put, List.setIfInBounds_toArray, List.set_cons_zero, List.set_cons_succ])
      refine Za.nextL 16 (by kernel_rfl) rfl (fun K' hK => ?_)
      go_simp
      refine hK.out _ _ ⟨fun h => absurd (by simp) h, ?_⟩
      clear hK K'
      (try simp only [Act.put, List.setIfInBounds_toArray, List.set_cons_zero, List.set_cons_succ])
      refine Za.Walk.done (by kernel_rfl) ?_
      have HM5 := Aside0.mk (HMID.out (.slice A1 p.a.length c1) (.slice A2 p.b.length c2))
      have HPa := Aside0.mk (HP5.out (.slice A1 p.a.length c1) (.slice A2 p.b.length c2))
      have HRa := Aside0.mk (HRT5.out (.slice A1 p.a.length c1) (.slice A2 p.b.length c2))
      clear HMID HP5 HRT5 F q0 q1 y0 y1
      have hz5 := HM5.out.fr.size
      have hP5l := blk_lt HPa.out
      go_wp2_with (go_at_call 90; refine (xmerge_any w (w.heap.size + 1) vo st.c U cu p.c _ HBO.out.kc HOK.out.c.all (by omega) HM5.out.bel (by omega) HM5.out.rO (Xw.read HM5.out.bel (by omega) HM5.out.rO HM5.out.rU HM5.out.nUO) (by have := blk_lt HPa.out; exact this)).mono ?_; rintro e w6 ⟨vo6, rfl, hr6, hg6, hat6⟩; have HN6 := Aside0.mk (HM5.out.merge (Nat.le_refl _) (by omega) hr6 hg6 hat6); have HP6 := Aside0.mk (blk_grown HPa.out hg6 (fun h => by have := Xw.base HM5.out.rO _ h.symm; omega)); have HR6 := Aside0.mk (ri_keep HRa.out (Fr.of_grown (S := own vo) hg6 (fun k e => e.symm)) (Xw.typed HM5.out.rO)); clear hr6 hg6 hat6)
      go_roundw
      case rel => exact ⟨k + 1, vo6, _, _, _, _, _, _, by omega, by go_num, rfl, ⟨by rw [HT.out]; unfold all3Step; rw [← HPP.out]; exact HN6.out⟩, HP6, HR6⟩
      case measure => simp [intOf]; omega
    · have hke : k = ts.length := by omega
      subst hke
      have g1 : decide (ts.length < ts.length) = false := decide_eq_false (by omega)
      have hM := HM.out
      rw [List.take_length] at hM
      obtain ⟨Ao, co, rfl⟩ := Xw.slice hM.rO
      have HF := Aside0.mk (Xw.isL hM.bel hM.rO)
      have HBL := Aside0.mk (Fr.below hM.fr (Nat.le_refl _) (fun k h => h.elim))
      clear hM
      go_wp2
      go_ret
      rw [HTD.out]
      exact ⟨Ao, co, rfl, HF.out, HBL.out⟩
set_option maxHeartbeats 8000000 in
set_option maxRecDepth 100000 in
theorem sAllEach_any (mode : Int) (hm : 0 ≤ mode ∧ mode ≤ 4) (A B C : Option Addr) (ca cb cc : Nat) (a b c : List Occ) (w : World) (ha : AreOk a) (hb : AreOk b) (hcc : AreOk c) (na : a.length ≤ 40) (nb : b.length ≤ 40) (nc : c.length ≤ 40) (hA : IsL w a A ca) (hB : IsL w b B cb) (hC : IsL w c C cc) :
    Calls Tryz.prog 63 #[.bool false, .int .i64 mode, .slice A a.length ca, .slice B b.length cb, .slice C c.length cc] w fun e w' => SBothOut w w' (all3 (each3 mode) a b c (tms (a ++ (b ++ c)))).c e := by
  have hfl : ([a, b, c] : List (List Occ)).flatten = a ++ (b ++ c) := by simp
  have hfn : ([a, b, c] : List (List Occ)).flatten.length ≤ 1048576 := by rw [hfl, List.length_append, List.length_append]; omega
  have HFL := Aside0.mk hfl
  have HFN := Aside0.mk hfn
  have HA := Aside0.mk hA
  have HB := Aside0.mk hB
  have HC := Aside0.mk hC
  have HKA := Aside0.mk ha
  have HKB := Aside0.mk hb
  have HKC := Aside0.mk hcc
  have HASC := Aside0.mk (asc_tms (a ++ (b ++ c)))
  have HSTEP := Aside0.mk (each3_step hm)
  clear hfl hfn hA hB hC ha hb hcc
  go_enter Tryz.func63, Tryz.ntmps63
  go_upto_region 3 with fail
  obtain ⟨hb1, b0, b1⟩ : Below w.heap.size w ((w.alloc (.cells #[.slice none 0 0, .slice none 0 0] 25)).alloc (.cells #[] 43)) ∧ ((w.alloc (.cells #[.slice none 0 0, .slice none 0 0] 25)).alloc (.cells #[] 43)).heap[w.heap.size]? = some (.cells #[.slice none 0 0, .slice none 0 0] 25 (0, 0)) ∧ ((w.alloc (.cells #[.slice none 0 0, .slice none 0 0] 25)).alloc (.cells #[] 43)).heap[w.heap.size + 1]? = some (.cells #[] 43 (0, 0)) :=
    ⟨below_alloc (below_alloc (Below.refl _ _) _) _, blk_alloc (blk_new _ _) _, by have := blk_new (w.alloc (.cells #[.slice none 0 0, .slice none 0 0] 25)) (.cells #[] 43); simpa using this⟩
  generalize (w.alloc (.cells #[.slice none 0 0, .slice none 0 0] 25)).alloc (.cells #[] 43) = W1 at hb1 b0 b1 ⊢
  have hs1 := blk_lt b1
  have bg := blk_new W1 (.cells #[.slice A a.length ca, .slice B b.length cb, .slice C c.length cc] 23)
  have HW2 := Aside0.mk (below_then hb1 hb1.size (below_alloc (Below.refl W1.heap.size W1) (.cells #[.slice A a.length ca, .slice B b.length cb, .slice C c.length cc] 23)))
  have hts := sTimes_any (some ⟨W1.heap.size, 0, none⟩) 3 [a, b, c] _ HFN.out (three_L bg (HA.out.below HW2.out) (HB.out.below HW2.out) (HC.out.below HW2.out))
  rw [HFL.out] at hts
  have c0 := blk_alloc b0 (.cells #[.slice A a.length ca, .slice B b.length cb, .slice C c.length cc] 23)
  have c1 := blk_alloc b1 (.cells #[.slice A a.length ca, .slice B b.length cb, .slice C c.length cc] 23)
  have htl : (tms (a ++ (b ++ c))).length ≤ 2000 := by unfold tms; exact Nat.le_trans (List.length_filter_le _ _) (by simp)
  generalize htd : tms (a ++ (b ++ c)) = ts at *
  have HTD := Aside0.mk htd
  clear htd
  have hW12 : W1.heap.size ≤ (W1.alloc (.cells #[.slice A a.length ca, .slice B b.length cb, .slice C c.length cc] 23)).heap.size := by simp
  go_wp2_with (go_at_call 100; refine hts.mono ?_; rintro e w3 ⟨At, ct, rfl, hrt, hb3⟩; have P3 := Aside0.mk (blk_below c0 hb3); have HB3 := Aside0.mk (below_then HW2.out HW2.out.size hb3); have HRT := Aside0.mk (Kd.R_lower hrt (Nat.le_trans (Nat.le_of_lt hs1) hW12)); have O3 := blk_below c1 hb3; clear hrt hb3)
  have HM : Aside0 (Core w w w3 w.heap.size (w.heap.size + 1) (fun _ => False) (.slice none 0 0) (.slice none 0 0) (.slice (some ⟨w.heap.size + 1, 0, none⟩) 0 0) (all3 (each3 mode) a b c (ts.take 0)).a (all3 (each3 mode) a b c (ts.take 0)).b (all3 (each3 mode) a b c (ts.take 0)).c) :=
    ⟨⟨HB3.out, Kd.R_nil _ _ _ _ _, Kd.R_nil _ _ _ _ _, R_empty (kX w) O3 (Nat.le_refl _), fun k h => by simp [own, Value.ownBlock] at h, fun k h => by simp [own, Value.ownBlock] at h, fun k h => by simp [own, Value.ownBlock] at h, Fr.of_below HB3.out, fun k h => by simp [own, Value.ownBlock] at h, fun k h => by simp [own, Value.ownBlock] at h⟩⟩
  clear b0 b1 bg hts c0 c1 hb1 hs1 hW12 HB3 O3
  go_loopw [12, 14] (fun vo vi wr => ∃ (k : Nat) (v : Value) (Al Ar : Option Addr) (nl nr cl cr : Nat), k ≤ ts.length ∧ vi = .int .i64 k ∧ v = vo ∧ Aside0 (Core w w wr w.heap.size (w.heap.size + 1) (fun _ => False) (.slice Al nl cl) (.slice Ar nr cr) v (all3 (each3 mode) a b c (ts.take k)).a (all3 (each3 mode) a b c (ts.take k)).b (all3 (each3 mode) a b c (ts.take k)).c) ∧ Aside0 (wr.heap[w.heap.size]? = some (.cells #[.slice Al nl cl, .slice Ar nr cr] 25 (0, 0))) ∧ Aside0 ((Kd.int .i64).R 3 wr (w.heap.size + 1) (fun _ => True) (.slice At ts.length ct) ts)) (fun _ vi _ => ts.length - (intOf vi).toNat)
  case atStart => exact ⟨0, _, _, _, _, _, _, _, Nat.zero_le _, rfl, rfl, HM, P3, HRT⟩
  case round =>
    clear HM P3 HRT
    obtain ⟨k, vo, Al, Ar, nl, nr, cl, cr, hk, rfl, rfl, HM, HP, HRT⟩ := hrel
    have HBO := Aside0.mk (all3_ok HSTEP.out HKA.out HKB.out HKC.out na nb nc HASC.out k hk)
    obtain rfl := Xw.len HM.out.rX
    obtain rfl := Xw.len HM.out.rY
    have hPs := blk_lt HP.out
    have hws := HM.out.fr.size
    by_cases hlt : k < ts.length
    · have g1 : decide (k < ts.length) = true := decide_eq_true hlt
      have i1 : (k : Int) < ts.length := by omega
      have HT := Aside0.mk (all3_take (stp := each3 mode) (a := a) (b := b) (c := c) hlt)
      obtain ⟨hNX, hl1, hl2⟩ := all3Ok_step HSTEP.out HKA.out HKB.out HKC.out na nb nc HASC.out hlt HBO.out
      have HNX := Aside0.mk hNX
      have hta : AreOk (atT a (ts.getD k 0)) := HKA.out.filter _
      have htb : AreOk (atT b (ts.getD k 0)) := HKB.out.filter _
      have htc : AreOk (atT c (ts.getD k 0)) := HKC.out.filter _
      obtain ⟨ad, hAt, hcell⟩ := at1 (Kd.R_reads' HRT.out).2.2 k hlt
      subst hAt
      have HCELL : Aside0 (∀ W, (Kd.int .i64).R 3 W (w.heap.size + 1) (fun _ => True) (.slice (some ad) ts.length ct) ts → W.cell? (ad.add k) = some (.int .i64 (ts.getD k 0))) := ⟨fun W h => by obtain ⟨ad2, e2, h2⟩ := at1 (Kd.R_reads' h).2.2 k hlt; injection e2 with e2; rw [e2]; exact h2⟩
      generalize all3 (each3 mode) a b c (ts.take k) = st at *
      generalize ts.getD k 0 = T at *
      have HTA := Aside0.mk hta
      have HTB := Aside0.mk htb
      have HTC := Aside0.mk htc
      have la : (atT a T).length ≤ 40 := Nat.le_trans (List.length_filter_le _ _) na
      have lb : (atT b T).length ≤ 40 := Nat.le_trans (List.length_filter_le _ _) nb
      have lc : (atT c T).length ≤ 40 := Nat.le_trans (List.length_filter_le _ _) nc
      obtain ⟨p, hp⟩ : ∃ p, p = each3 mode st.a st.b (atT a T) (atT b T) (atT c T) := ⟨_, rfl⟩
      have HPP := Aside0.mk hp
      have hok : Ok3 p := by rw [hp]; exact HSTEP.out.ok HBO.out.ka HBO.out.kb hta htb htc (by omega) (by omega) (by omega)
      have hlc : p.c.length ≤ 40 * ((atT b T).length + (atT c T).length) := by rw [hp]; exact HSTEP.out.lc HBO.out.ka HBO.out.kb hta htb htc (by omega)
      have HOK := Aside0.mk hok
      have HEQ := Aside0.mk (hp.trans (each3_eq hm HBO.out.ka htb.all))
      have hlo := HBO.out.lc
      have hsa := sumAt_le' (l := a) HASC.out k
      have hsb := sumAt_le' (l := b) HASC.out k
      have hsc := sumAt_le' (l := c) HASC.out k
      clear hta htb htc hNX hp hok
      go_upto_region 11 with fail
      have hba := below_alloc (Below.refl wr.heap.size wr) (.cells #[] 43)
      have HMb := Aside0.mk (Core.below HM.out hba)
      have HPb := Aside0.mk (blk_below HP.out hba)
      have HRb := Aside0.mk (Kd.R_below HRT.out hba)
      have hwb := Nat.le_trans hws hba.size
      have hPb := blk_lt HPb.out
      generalize wr.alloc (.cells #[] 43) = wr at HMb HPb HRb hwb hPb ⊢
      clear hba HM HP HRT hws hcell hPs
      have F : ∀ w' : World, Below wr.heap.size wr w' → w'.cell? ⟨w.heap.size, 0, none⟩ = some (.slice Al st.a.length cl) ∧ w'.cell? ⟨w.heap.size, 1, none⟩ = some (.slice Ar st.b.length cr) := fun w' h => ⟨(blk_cell (blk_below HPb.out h) 0).trans rfl, (blk_cell (blk_below HPb.out h) 1).trans rfl⟩
      refine Za.regionL (fun w' => w'.cell? ⟨w.heap.size, 0, none⟩ = some (.slice Al st.a.length cl) ∧ w'.cell? ⟨w.heap.size, 1, none⟩ = some (.slice Ar st.b.length cr)) [13, 14, 15, 16] (by kernel_rfl) ?_
      have HB0 : Below wr.heap.size wr wr.drew := below_drew (Below.refl _ _)
      have HS : (fun w' => w'.cell? ⟨w.heap.size, 0, none⟩ = some (.slice Al st.a.length cl) ∧ w'.cell? ⟨w.heap.size, 1, none⟩ = some (.slice Ar st.b.length cr)) wr.drew := F _ HB0
      refine Za.takeL 0 (v := ?v0) rfl (by kernel_rfl) (by kernel_rfl) (by kernel_rfl) (by kernel_rfl) (fun _ _ _ h => h) (Or.inl ⟨by rfl, ?hy0⟩) HS ?rest0
      case hy0 => (intro w hSw; (try dsimp only at hSw); go_simp; try with_reducible rfl)
      (try simp only [Act.put, List.setIfInBounds_toArray, List.set_cons_zero, List.set_cons_succ])
      refine Za.takeL 1 (v := ?v1) rfl (by kernel_rfl) (by kernel_rfl) (by kernel_rfl) (by kernel_rfl) (fun _ _ _ h => h) (Or.inl ⟨by rfl, ?hy1⟩) HS ?rest1
      case hy1 => (intro w hSw; (try dsimp only at hSw); go_simp; try with_reducible rfl)
      (try simp only [Act.put, List.setIfInBounds_toArray, List.set_cons_zero, List.set_cons_succ])
      refine Za.takeL 2 (v := ?v2) rfl (by kernel_rfl) (by kernel_rfl) (by kernel_rfl) (by kernel_rfl) (fun _ _ _ h => h) (Or.inl ⟨by rfl, ?hy2⟩) HS ?rest2
      case hy2 => (intro w hSw; (try dsimp only at hSw); go_simp; try with_reducible rfl)
      (try simp only [Act.put, List.setIfInBounds_toArray, List.set_cons_zero, List.set_cons_succ])
      refine Za.takeL 3 (v := ?v3) rfl (by kernel_rfl) (by kernel_rfl) (by kernel_rfl) (by kernel_rfl) (fun _ _ _ h => h) (Or.inl ⟨by rfl, ?hy3⟩) HS ?rest3
      case hy3 => (intro w hSw; (try dsimp only at hSw); go_simp; try with_reducible rfl)
      (try simp only [Act.put, List.setIfInBounds_toArray, List.set_cons_zero, List.set_cons_succ])
      refine Za.takeL 5 (v := ?v5) rfl (by kernel_rfl) (by kernel_rfl) (by kernel_rfl) (by kernel_rfl) (fun _ _ _ h => h) (Or.inl ⟨by rfl, ?hy5⟩) HS ?rest5
      case hy5 => (intro w hSw; (try dsimp only at hSw); go_simp; try with_reducible rfl)
      (try simp only [Act.put, List.setIfInBounds_toArray, List.set_cons_zero, List.set_cons_succ])
      refine Za.takeL 6 (v := ?v6) rfl (by kernel_rfl) (by kernel_rfl) (by kernel_rfl) (by kernel_rfl) (fun _ _ _ h => h) (Or.inl ⟨by rfl, ?hy6⟩) HS ?rest6
      case hy6 => (intro w hSw; (try dsimp only at hSw); go_simp; try with_reducible rfl)
      (try simp only [Act.put, List.setIfInBounds_toArray, List.set_cons_zero, List.set_cons_succ])
      refine Za.takeL 8 (v := ?v8) rfl (by kernel_rfl) (by kernel_rfl) (by kernel_rfl) (by kernel_rfl) (fun _ _ _ h => h) (Or.inl ⟨by rfl, ?hy8⟩) HS ?rest8
      case hy8 => (intro w hSw; (try dsimp only at hSw); go_simp; try with_reducible rfl)
      (try simp only [Act.put, List.setIfInBounds_toArray, List.set_cons_zero, List.set_cons_succ])
      refine Za.takeL 9 (v := ?v9) rfl (by kernel_rfl) (by kernel_rfl) (by kernel_rfl) (by kernel_rfl) (fun _ _ _ h => h) (Or.inl ⟨by rfl, ?hy9⟩) HS ?rest9
      case hy9 => (intro w hSw; (try dsimp only at hSw); go_simp; try with_reducible rfl)
      (try simp only [Act.put, List.setIfInBounds_toArray, List.set_cons_zero, List.set_cons_succ])
      clear HS
      refine Za.nextL 4 (by kernel_rfl) rfl (fun K' hK => ?_)
      go_simp
      go_wp2_with (go_at_call 101; refine (sAt_any w A ca a T _ (by omega) (below_then HMb.out.bel HMb.out.bel.size HB0) HA.out).mono ?_; rintro e w1 ⟨va, rfl, hxa, hb1⟩; obtain ⟨Xa, cxa, rfl⟩ := Kd.R_slice hxa; have HB1 : Below wr.heap.size wr w1 := keepD hb1; have HXA1 := Aside0.mk (Kd.R_lower hxa HB0.size); clear hxa hb1)
      refine hK.out _ _ ⟨fun _ => F _ HB1, ?_⟩
      clear hK K'
      refine Za.nextL 7 (by kernel_rfl) rfl (fun K' hK => ?_)
      go_simp
      go_wp2_with (go_at_call 101; refine (sAt_any w B cb b T _ (by omega) (below_then HMb.out.bel HMb.out.bel.size HB1) HB.out).mono ?_; rintro e w2 ⟨vb, rfl, hxb, hb2⟩; obtain ⟨Xb, cxb, rfl⟩ := Kd.R_slice hxb; have HB2 : Below wr.heap.size wr w2 := below_then HB1 HB1.size hb2; have HXB2 := Aside0.mk (Kd.R_lower hxb HB1.size); have HXA2 := Aside0.mk (Kd.R_below HXA1.out hb2); clear hxb hb2)
      refine hK.out _ _ ⟨fun _ => F _ HB2, ?_⟩
      clear hK K'
      refine Za.nextL 10 (by kernel_rfl) rfl (fun K' hK => ?_)
      go_simp
      go_wp2_with (go_at_call 101; refine (sAt_any w C cc c T _ (by omega) (below_then HMb.out.bel HMb.out.bel.size HB2) HC.out).mono ?_; rintro e w3 ⟨vc, rfl, hxc, hb3⟩; obtain ⟨Xc, cxc, rfl⟩ := Kd.R_slice hxc; have HB3 : Below wr.heap.size wr w3 := below_then HB2 HB2.size hb3; have HXC := Aside0.mk (Kd.R_lower hxc HB2.size); have HXB := Aside0.mk (Kd.R_below HXB2.out hb3); have HXA := Aside0.mk (Kd.R_below HXA2.out hb3); have HNT := Aside0.mk (two_nt HMb.out HB3); clear hxc hb3)
      refine hK.out _ _ ⟨fun _ => F _ HB3, ?_⟩
      clear hK K'
      refine Za.nextL 11 (by kernel_rfl) rfl (fun K' hK => ?_)
      go_simp
      go_wp2_with (go_at_call 52; refine (xEach_any w mode hm w.heap.size Al Xa Xc Xb Ar cl cxa cxc cxb cr st.a st.b (atT a T) (atT c T) (atT b T) _ HBO.out.ka HBO.out.kb HTA.out.all HTC.out.all HTB.out.all (by omega) (by omega) (by omega) (below_then HMb.out.bel HMb.out.bel.size HB3) (Nat.le_refl _) (Xw.below HMb.out.rX HB3) (Xw.below HMb.out.rY HB3) HMb.out.nXY (Nat.le_trans hwb HB3.size) (fun W hf => both_rd HMb.out HB3 HXA.out hf) (fun W hf => both_rd HMb.out HB3 HXC.out hf) (fun W hf => both_rd HMb.out HB3 HXB.out hf)).mono ?_; rintro e w4 hout; obtain ⟨A1, c1, A2, c2, U, cu, rfl, hfr4, hP4, hmid⟩ := Core.span HMb.out HB3 hout HEQ.out HPb.out (Nat.le_refl _) (Nat.le_refl _) (Nat.le_refl _); have hrt4 := ri_keep (Kd.R_below HRb.out HB3) hfr4 HNT.out; have HRT5 : Aside0 (∀ u0 u1, (Kd.int .i64).R 3 ((w4.setCell ⟨w.heap.size, 0, none⟩ u0).setCell ⟨w.heap.size, 1, none⟩ u1) (w.heap.size + 1) (fun _ => True) (.slice (some ad) ts.length ct) ts) := ⟨fun u0 u1 => Kd.R_set (Kd.R_set hrt4 hP4 (by decide) 0 u0) (blk_set hP4 0 u0) (by decide) 1 u1⟩; have HMID := Aside0.mk hmid; have q0 := (blk_cell hP4 0).trans rfl; have q1 := (blk_cell hP4 1).trans rfl; have y0 := blk_frozen hP4 0; have y1 := blk_frozen hP4 1; have HP5 : Aside0 (∀ u0 u1, ((w4.setCell ⟨w.heap.size, 0, none⟩ u0).setCell ⟨w.heap.size, 1, none⟩ u1).heap[w.heap.size]? = some (.cells #[u0, u1] 25 (0, 0))) := ⟨fun u0 u1 => Id.set2_blk u0 u1 hP4⟩; clear hout hfr4 hmid hrt4 hP4)
      refine hK.out _ _ ⟨fun _ => ⟨q0, q1⟩, ?_⟩
      clear hK K'
      have HS : (fun w' => w'.cell? ⟨w.heap.size, 0, none⟩ = some (.slice Al st.a.length cl) ∧ w'.cell? ⟨w.heap.size, 1, none⟩ = some (.slice Ar st.b.length cr)) w4 := ⟨q0, q1⟩
      refine Za.takeL 12 (v := ?v12) rfl (by kernel_rfl) (by kernel_rfl) (by kernel_rfl) (by kernel_rfl) (fun _ _ _ h => h) (Or.inl ⟨by rfl, ?hy12⟩) HS ?rest12
      case hy12 => (intro w hSw; (try dsimp only at hSw); go_simp; try with_reducible rfl)
      (try simp only [Act.put, List.setIfInBounds_toArray, List.set_cons_zero, List.set_cons_succ])
      refine Za.pureL 13 (v := ?v13) rfl (by kernel_rfl) (by kernel_rfl) (by kernel_rfl) (by kernel_rfl) (fun _ _ _ h => h) (Or.inl ⟨by rfl, ?hy13⟩) ?rest13
      case hy13 => (intro w _; go_simp; try with_reducible rfl)
      (try simp only [Act.put, List.setIfInBounds_toArray, List.set_cons_zero, List.set_cons_succ])
      refine Za.pureL 14 (v := ?v14) rfl (by kernel_rfl) (by kernel_rfl) (by kernel_rfl) (by kernel_rfl) (fun _ _ _ h => h) (Or.inl ⟨by rfl, ?hy14⟩) ?rest14
      case hy14 => (intro w _; go_simp; try with_reducible rfl)
      (try simp only [Act.put, List.setIfInBounds_toArray, List.set_cons_zero, List.set_cons_succ])
      clear HS
      refine Za.nextL 15 (by kernel_rfl) rfl (fun K' hK => ?_)
      go_simp
      refine hK.out _ _ ⟨fun h => absurd (by simp) h, ?_⟩
      clear hK K'
      (try simp only [Act.put, List.setIfInBounds_toArray, List.set_cons_zero, List.set_cons_succ])
      refine Za.nextL 16 (by kernel_rfl) rfl (fun K' hK => ?_)
      go_simp
      refine hK.out _ _ ⟨fun h => absurd (by simp) h, ?_⟩
      clear hK K'
      (try simp only [Act.put, List.setIfInBounds_toArray, List.set_cons_zero, List.set_cons_succ])
      refine Za.Walk.done (by kernel_rfl) ?_
      have HM5 := Aside0.mk (HMID.out (.slice A1 p.a.length c1) (.slice A2 p.b.length c2))
      have HPa := Aside0.mk (HP5.out (.slice A1 p.a.length c1) (.slice A2 p.b.length c2))
      have HRa := Aside0.mk (HRT5.out (.slice A1 p.a.length c1) (.slice A2 p.b.length c2))
      clear HMID HP5 HRT5 F q0 q1 y0 y1
      have hz5 := HM5.out.fr.size
      have hP5l := blk_lt HPa.out
      go_wp2_with (go_at_call 90; refine (xmerge_any w (w.heap.size + 1) vo st.c U cu p.c _ HBO.out.kc HOK.out.c.all (by omega) HM5.out.bel (by omega) HM5.out.rO (Xw.read HM5.out.bel (by omega) HM5.out.rO HM5.out.rU HM5.out.nUO) (by have := blk_lt HPa.out; exact this)).mono ?_; rintro e w6 ⟨vo6, rfl, hr6, hg6, hat6⟩; have HN6 := Aside0.mk (HM5.out.merge (Nat.le_refl _) (by omega) hr6 hg6 hat6); have HP6 := Aside0.mk (blk_grown HPa.out hg6 (fun h => by have := Xw.base HM5.out.rO _ h.symm; omega)); have HR6 := Aside0.mk (ri_keep HRa.out (Fr.of_grown (S := own vo) hg6 (fun k e => e.symm)) (Xw.typed HM5.out.rO)); clear hr6 hg6 hat6)
      go_roundw
      case rel => exact ⟨k + 1, vo6, _, _, _, _, _, _, by omega, by go_num, rfl, ⟨by rw [HT.out]; unfold all3Step; rw [← HPP.out]; exact HN6.out⟩, HP6, HR6⟩
      case measure => simp [intOf]; omega
    · have hke : k = ts.length := by omega
      subst hke
      have g1 : decide (ts.length < ts.length) = false := decide_eq_false (by omega)
      have hM := HM.out
      rw [List.take_length] at hM
      obtain ⟨Ao, co, rfl⟩ := Xw.slice hM.rO
      have HF := Aside0.mk (Xw.isL hM.bel hM.rO)
      have HBL := Aside0.mk (Fr.below hM.fr (Nat.le_refl _) (fun k h => h.elim))
      clear hM
      go_wp2
      go_ret
      rw [HTD.out]
      exact ⟨Ao, co, rfl, HF.out, HBL.out⟩

set_option maxHeartbeats 2000000 in
set_option maxRecDepth 100000 in
theorem sNotOf_any (mode : Int) (A B C : Option Addr) (ca cb cc : Nat) (a b c : List Occ) (w : World) (hA : IsL w a A ca) (hB : IsL w b B cb) (hC : IsL w c C cc) :
    Calls Tryz.prog 29 #[.int .i64 mode, .slice A a.length ca, .slice B b.length cb, .slice C c.length cc] w fun e w' => SToldOut w w' (ofN not3 mode a b c) e := by
  have hf := sSpanFits_any mode none none A B C 0 0 ca cb cc [] [] a b c w (IsL.nil _) (IsL.nil _) hA hB hC
  have HA := Aside0.mk hA
  have HB := Aside0.mk hB
  have HC := Aside0.mk hC
  clear hA hB hC
  cases hq : fits5 mode [] [] a b c with
  | false =>
    have HE := Aside0.mk (show ofN not3 mode a b c = ([], false) by unfold ofN; rw [hq]; rfl)
    rw [hq] at hf
    clear hq
    go_enter Tryz.func29, Tryz.ntmps29
    go_wp2_with (go_at_call 47; refine hf.mono ?_; rintro e w2 ⟨rfl, hb2⟩; have HB2 := Aside0.mk hb2; clear hb2)
    go_ret2
    rw [HE.out]
    exact SToldOut.lower (told_nil _) HB2.out
  | true =>
    have HE := Aside0.mk (show ofN not3 mode a b c = told (all3 (not3 mode) a b c (tms (a ++ (b ++ c)))).c by unfold ofN; rw [hq]; rfl)
    rw [hq] at hf
    obtain ⟨hm, -, -, ⟨ha, na⟩, ⟨hb, nb⟩, ⟨hcc, nc⟩⟩ := fits5_iff.1 hq
    clear hq
    have HKA := Aside0.mk ha
    have HKB := Aside0.mk hb
    have HKC := Aside0.mk hcc
    have HKO := Aside0.mk (show ∀ x ∈ (all3 (not3 mode) a b c (tms (a ++ (b ++ c)))).c, IsOk x by
      have h := all3_ok (not3_step hm) ha hb hcc na nb nc (asc_tms (a ++ (b ++ c))) (tms (a ++ (b ++ c))).length (Nat.le_refl _)
      rw [List.take_length] at h
      exact h.kc.all)
    clear ha hb hcc
    go_enter Tryz.func29, Tryz.ntmps29
    go_wp2_with (first
      | (have hh := HB4.out; clear hh; go_at_call 62; refine (sToldR_any A4 c4 (all3 (not3 mode) a b c (tms (a ++ (b ++ c)))).c _ (fun x hx => isOk_big (HKO.out x hx)) HL4.out).mono ?_; rintro e w5 ⟨v5, rfl, hr5, hb5⟩; have HR5 := Aside0.mk hr5; have HB5 := Aside0.mk (below_then HB4.out HB4.out.size hb5); clear hr5 hb5)
      | (have hh := HB2.out; clear hh; go_at_call 63; refine (sAllNot_any mode hm A B C ca cb cc a b c _ HKA.out HKB.out HKC.out na nb nc (HA.out.below HB2.out) (HB.out.below HB2.out) (HC.out.below HB2.out)).mono ?_; rintro e w4 ⟨A4, c4, rfl, hl4, hb4⟩; have HL4 := Aside0.mk hl4; have HB4 := Aside0.mk (below_then HB2.out HB2.out.size hb4); clear hl4 hb4)
      | (go_at_call 47; refine hf.mono ?_; rintro e w2 ⟨rfl, hb2⟩; have HB2 := Aside0.mk hb2; clear hb2))
    go_ret2
    rw [HE.out]
    exact ⟨v5, rfl, Kd.R_lower HR5.out HB4.out.size, HB5.out⟩

set_option maxHeartbeats 2000000 in
set_option maxRecDepth 100000 in
theorem sEachOf_any (mode : Int) (A B C : Option Addr) (ca cb cc : Nat) (a b c : List Occ) (w : World) (hA : IsL w a A ca) (hB : IsL w b B cb) (hC : IsL w c C cc) :
    Calls Tryz.prog 24 #[.int .i64 mode, .slice A a.length ca, .slice B b.length cb, .slice C c.length cc] w fun e w' => SToldOut w w' (ofN each3 mode a b c) e := by
  have hf := sSpanFits_any mode none none A B C 0 0 ca cb cc [] [] a b c w (IsL.nil _) (IsL.nil _) hA hB hC
  have HA := Aside0.mk hA
  have HB := Aside0.mk hB
  have HC := Aside0.mk hC
  clear hA hB hC
  cases hq : fits5 mode [] [] a b c with
  | false =>
    have HE := Aside0.mk (show ofN each3 mode a b c = ([], false) by unfold ofN; rw [hq]; rfl)
    rw [hq] at hf
    clear hq
    go_enter Tryz.func24, Tryz.ntmps24
    go_wp2_with (go_at_call 47; refine hf.mono ?_; rintro e w2 ⟨rfl, hb2⟩; have HB2 := Aside0.mk hb2; clear hb2)
    go_ret2
    rw [HE.out]
    exact SToldOut.lower (told_nil _) HB2.out
  | true =>
    have HE := Aside0.mk (show ofN each3 mode a b c = told (all3 (each3 mode) a b c (tms (a ++ (b ++ c)))).c by unfold ofN; rw [hq]; rfl)
    rw [hq] at hf
    obtain ⟨hm, -, -, ⟨ha, na⟩, ⟨hb, nb⟩, ⟨hcc, nc⟩⟩ := fits5_iff.1 hq
    clear hq
    have HKA := Aside0.mk ha
    have HKB := Aside0.mk hb
    have HKC := Aside0.mk hcc
    have HKO := Aside0.mk (show ∀ x ∈ (all3 (each3 mode) a b c (tms (a ++ (b ++ c)))).c, IsOk x by
      have h := all3_ok (each3_step hm) ha hb hcc na nb nc (asc_tms (a ++ (b ++ c))) (tms (a ++ (b ++ c))).length (Nat.le_refl _)
      rw [List.take_length] at h
      exact h.kc.all)
    clear ha hb hcc
    go_enter Tryz.func24, Tryz.ntmps24
    go_wp2_with (first
      | (have hh := HB4.out; clear hh; go_at_call 62; refine (sToldR_any A4 c4 (all3 (each3 mode) a b c (tms (a ++ (b ++ c)))).c _ (fun x hx => isOk_big (HKO.out x hx)) HL4.out).mono ?_; rintro e w5 ⟨v5, rfl, hr5, hb5⟩; have HR5 := Aside0.mk hr5; have HB5 := Aside0.mk (below_then HB4.out HB4.out.size hb5); clear hr5 hb5)
      | (have hh := HB2.out; clear hh; go_at_call 63; refine (sAllEach_any mode hm A B C ca cb cc a b c _ HKA.out HKB.out HKC.out na nb nc (HA.out.below HB2.out) (HB.out.below HB2.out) (HC.out.below HB2.out)).mono ?_; rintro e w4 ⟨A4, c4, rfl, hl4, hb4⟩; have HL4 := Aside0.mk hl4; have HB4 := Aside0.mk (below_then HB2.out HB2.out.size hb4); clear hl4 hb4)
      | (go_at_call 47; refine hf.mono ?_; rintro e w2 ⟨rfl, hb2⟩; have HB2 := Aside0.mk hb2; clear hb2))
    go_ret2
    rw [HE.out]
    exact ⟨v5, rfl, Kd.R_lower HR5.out HB4.out.size, HB5.out⟩
end Go.Proofs.YtccenpmaooailaaGreat.Gc


/- A chain of ors: in memory; the reference's. -/
import Derived.Test.YtbbdkhffacoglaaDoorNj
import Derived.Test.YtbbdkhffacoglaaDoorNn
import Derived.Test.YtbbdkhffacoglaaDoorNs
import Derived.Test.YtbbdkhffacoglaaDoorJk
import Derived.Test.YtbbdkhffacoglaaDoorZa
set_option linter.unusedVariables false
set_option linter.unusedSimpArgs false
namespace Go.Proofs.YtbbdkhffacoglaaDoor.Nt
open Go.RowKit Go.Proofs.YtbbdkhffacoglaaDoorW.PrintWords Go.Proofs.YtbbdkhffacoglaaDoor.Ja Go.Proofs.YtbbdkhffacoglaaDoor.Jb Go.Proofs.YtbbdkhffacoglaaDoor.Jc Go.Proofs.YtbbdkhffacoglaaDoor.Jd Go.Proofs.YtbbdkhffacoglaaDoor.Jg Go.Proofs.YtbbdkhffacoglaaDoor.Jk Go.Proofs.YtbbdkhffacoglaaDoor.Ka Go.Proofs.YtbbdkhffacoglaaDoor.Kf Go.Proofs.YtbbdkhffacoglaaDoor.Na Go.Proofs.YtbbdkhffacoglaaDoor.Nb Go.Proofs.YtbbdkhffacoglaaDoor.Nc Go.Proofs.YtbbdkhffacoglaaDoor.Nd Go.Proofs.YtbbdkhffacoglaaDoor.Nf Go.Proofs.YtbbdkhffacoglaaDoor.Nh Go.Proofs.YtbbdkhffacoglaaDoor.Ni Go.Proofs.YtbbdkhffacoglaaDoor.Nj Go.Proofs.YtbbdkhffacoglaaDoor.Nn Go.Proofs.YtbbdkhffacoglaaDoor.Ns

theorem set4_R {w : World} {base G : Nat} {ok : Nat → Prop} {v : Value} {xs : List Ex} (h : RE w base ok v xs) (hok : ∀ k, ok k → k ≠ G) (u0 u1 u2 u3 : Value) : RE (set4 w G u0 u1 u2 u3) base ok v xs :=
  Kd.R_far (p := ⟨G, 3, none⟩) (Kd.R_far (p := ⟨G, 2, none⟩) (Kd.R_far (p := ⟨G, 1, none⟩) (Kd.R_far (p := ⟨G, 0, none⟩) h hok u0) hok u1) hok u2) hok u3
theorem R_two {w : World} {B g : Nat} {ok : Nat → Prop} {x y : Ex} {a0 a1 a2 a3 b0 b1 b2 b3 : Value} (hg : w.heap[g]? = some (.cells #[a0, a1, a2, a3, b0, b1, b2, b3] 29 (0, 0))) (hB : B ≤ g) (hok : ok g)
    (hx : (kR 29).M w B (fun k => ok k ∧ k ≠ g) x [a0, a1, a2, a3]) (hy : (kR 29).M w B (fun k => ok k ∧ k ≠ g) y [b0, b1, b2, b3]) : RE w B ok (.slice (some ⟨g, 0, none⟩) 2 2) [x, y] :=
  ⟨fun k hk => by simp [Value.ownBlock] at hk; rw [← hk]; exact hok, [a0, a1, a2, a3, b0, b1, b2, b3], ⟨rfl, .inr ⟨g, 2, #[a0, a1, a2, a3, b0, b1, b2, b3], rfl, hB, hg, Nat.le_refl _, by unfold maxLen; omega, rfl, rfl⟩⟩, ⟨rfl, fun j p hp => by
    have e : ∀ z cs, (kR 29).M w B (fun k => ok k ∧ k ≠ g) z cs → (kR 29).M w B (fun k => ok k ∧ some k ≠ (Value.slice (some ⟨g, 0, none⟩) 2 2).ownBlock) z cs := fun z cs h => (kR 29).M_mono (fun k hk => ⟨hk.1, fun he => hk.2 (by simpa [Value.ownBlock] using he)⟩) h
    rcases j with _ | _ | j
    · obtain rfl : x = p := by simpa using hp
      exact e _ _ hx
    · obtain rfl : y = p := by simpa using hp
      exact e _ _ hy
    · simp at hp⟩⟩
theorem chain_cons {L : List Ex} {k : Nat} (h : k + 1 < L.length) : chain (L.drop k) = .mk 2 0 0 [L.getD k zE, chain (L.drop (k + 1))] := by
  rw [List.drop_eq_getElem_cons (by omega), List.drop_eq_getElem_cons h]
  have e : L.getD k zE = L[k]'(by omega) := by rw [List.getD_eq_getElem?_getD, List.getElem?_eq_getElem (by omega)]; rfl
  rw [chain, e]
theorem chain_last {L : List Ex} {m : Nat} (h : L.length = m + 1) : chain (L.drop m) = L.getD m zE := by
  rw [List.drop_eq_getElem_cons (by omega), List.drop_eq_nil_of_le (by omega)]
  rw [List.getD_eq_getElem?_getD, List.getElem?_eq_getElem (by omega)]; rfl
/-- while a chain is built in a box G (G2: another box that nothing of it lies in) -/
structure ChMem (w0 wr : World) (B G G2 : Nat) (y : Ex) (u : Value) : Prop where
  box : wr.heap[G]? = some (.cells #[.int .i64 y.f0, .int .i64 y.f1, .int .i64 y.f2, u] 29 (0, 0))
  row : RE wr B (fun j => j ≠ G ∧ j ≠ G2) u y.f3
  bel : Below w0.heap.size w0 wr
  hG : w0.heap.size ≤ G
  hB : B ≤ wr.heap.size
theorem ChMem.step {w0 wr wd : World} {B G G2 : Nat} {x y : Ex} {u : Value} {A2 : Option Addr} {c2 : Nat} (h : ChMem w0 wr B G G2 y u) (hd : Below wr.heap.size wr wd) (hl : G < wr.heap.size) (hl2 : G2 < wr.heap.size)
    (hx : (kR 29).M wr B (fun j => j ≠ G ∧ j ≠ G2) x [.int .i64 x.f0, .int .i64 x.f1, .int .i64 x.f2, .slice A2 x.f3.length c2]) :
    ChMem w0 (set4 (wd.alloc (.cells #[.int .i64 x.f0, .int .i64 x.f1, .int .i64 x.f2, .slice A2 x.f3.length c2, .int .i64 y.f0, .int .i64 y.f1, .int .i64 y.f2, u] 29)) G (.int .i64 2) (.int .i64 0) (.int .i64 0) (.slice (some ⟨wd.heap.size, 0, none⟩) 2 2)) B G G2 (.mk 2 0 0 [x, y]) (.slice (some ⟨wd.heap.size, 0, none⟩) 2 2) := by
  have hs := hd.size
  have hb := below_alloc (Below.refl wd.heap.size wd) (.cells #[.int .i64 x.f0, .int .i64 x.f1, .int .i64 x.f2, .slice A2 x.f3.length c2, .int .i64 y.f0, .int .i64 y.f1, .int .i64 y.f2, u] 29)
  have hb2 := below_then hd hd.size hb
  have hw := below_then h.bel h.bel.size hb2
  refine ⟨set4_blk _ _ _ _ (blk_below h.box hb2), set4_R (R_two (blk_new _ _) (Nat.le_trans h.hB hs) ⟨by omega, by omega⟩ ?_ ?_) (fun k hk => hk.1) _ _ _ _, set4_below hw h.hG _ _ _ _, h.hG, ?_⟩
  · refine (kR 29).M_mono (fun k hk => ⟨hk.1, ?_⟩) (Kd.M_below ((kR 29).M_bound hx) hb2)
    have := hk.2.2.1
    omega
  · refine (kR 29).M_mono (fun k hk => ⟨hk.1, ?_⟩) (Kd.M_below ((kR 29).M_bound (kR_mkM y h.row)) hb2)
    have := hk.2.2.1
    omega
  · have := h.hB
    simp [set4, World.setCell]
    omega
/-- a new box, an element in it -/
theorem ChMem.first {w0 : World} {B G2 : Nat} {x : Ex} {A2 : Option Addr} {c2 : Nat} (hB : B ≤ w0.heap.size) (hx : (kR 29).M w0 B (fun j => j ≠ G2) x [.int .i64 x.f0, .int .i64 x.f1, .int .i64 x.f2, .slice A2 x.f3.length c2]) :
    ChMem w0 (w0.alloc (.cells #[.int .i64 x.f0, .int .i64 x.f1, .int .i64 x.f2, .slice A2 x.f3.length c2] 29)) B w0.heap.size G2 x (.slice A2 x.f3.length c2) := by
  have hb := below_alloc (Below.refl w0.heap.size w0) (.cells #[.int .i64 x.f0, .int .i64 x.f1, .int .i64 x.f2, .slice A2 x.f3.length c2] 29)
  obtain ⟨v, e, g⟩ := kR_openM (Kd.M_below ((kR 29).M_bound hx) hb)
  simp only [List.cons.injEq, and_true] at e
  obtain ⟨_, _, _, rfl⟩ := e
  exact ⟨blk_new _ _, Kd.R_mono g (fun k hk => ⟨by have := hk.2.2.1; omega, hk.1⟩), hb, Nat.le_refl _, by simp; omega⟩
def ToOutR (w' : World) (B : Nat) (x : Ex) (e : Ending) : Prop := ∃ v, e = .returned (.agg #[.int .i64 x.f0, .int .i64 x.f1, .int .i64 x.f2, v]) ∧ RE w' B (fun _ => True) v x.f3
set_option maxHeartbeats 4000000 in
set_option maxRecDepth 100000 in
theorem l11Chain_any (Wz : World) (B base : Nat) (L : List Ex) (v : Value) (w : World) (hBz : B ≤ Wz.heap.size) (hz : Below Wz.heap.size Wz w) (hb : Wz.heap.size ≤ base) (h1 : 1 ≤ L.length) (hn : L.length ≤ 1048576) (hR : RowC (wqO Wz B) w base v L) :
    Calls Tryd.prog 69 #[v] w fun e w' => ToOutR w' B (chain L) e ∧ Below w.heap.size w w' := by
  obtain ⟨g, cap, rfl, hgb, hgl, -⟩ := Kd.R_form hR h1
  obtain ⟨m, hm⟩ : ∃ m, L.length = m + 1 := ⟨L.length - 1, by omega⟩
  have hb0 := below_alloc (Below.refl w.heap.size w) (.cells #[.int .i64 0, .int .i64 0, .int .i64 0, .slice none 0 0] 29)
  have b0 := blk_new w (.cells #[.int .i64 0, .int .i64 0, .int .i64 0, .slice none 0 0] 29)
  have hsz : (w.alloc (.cells #[.int .i64 0, .int .i64 0, .int .i64 0, .slice none 0 0] 29)).heap.size = w.heap.size + 1 := by simp
  obtain ⟨W, hW⟩ : ∃ W, W = w.alloc (.cells #[.int .i64 0, .int .i64 0, .int .i64 0, .slice none 0 0] 29) := ⟨_, rfl⟩
  rw [← hW] at hb0 b0 hsz
  have HW := Aside0.mk hW
  have HB0 := Aside0.mk hb0
  have BB := Aside0.mk b0
  have HSZ := Aside0.mk hsz
  have HZ := Aside0.mk (below_then hz hz.size hb0)
  have HR := Aside0.mk (Kd.R_below hR hb0)
  have HGL := Aside0.mk hgl
  have HZS := Aside0.mk hz.size
  have HCH := Aside0.mk (chain_last hm)
  -- an element's own memory, at a later world
  have HEM : Aside0 (∀ wr k A2 c2, Below W.heap.size W wr → (kC (wqO Wz B)).K (wqO Wz B) (L.getD k zE) [.int .i64 (L.getD k zE).f0, .int .i64 (L.getD k zE).f1, .int .i64 (L.getD k zE).f2, .slice A2 (L.getD k zE).f3.length c2] → (kR 29).M wr B (fun j => j ≠ W.heap.size ∧ j ≠ w.heap.size) (L.getD k zE) [.int .i64 (L.getD k zE).f0, .int .i64 (L.getD k zE).f1, .int .i64 (L.getD k zE).f2, .slice A2 (L.getD k zE).f3.length c2]) := ⟨fun wr k A2 c2 hw h => by
    have h2 : (kR 29).M Wz B (fun _ => True) (L.getD k zE) _ := h.2
    have h3 := Kd.M_below ((kR 29).M_bound h2) (below_then HZ.out HZ.out.size hw)
    refine (kR 29).M_mono (fun j hj => ?_) h3
    have h4 := hj.2.2.1
    have h5 := HZS.out
    have h6 := HSZ.out
    exact ⟨by omega, by omega⟩⟩
  obtain ⟨A2, c2, ha, hb', hc, hd, -, hK⟩ := elemC HR.out HZ.out m (by omega)
  have HM0 := Aside0.mk (ChMem.first (w0 := W) (B := B) (G2 := w.heap.size) (Nat.le_trans hBz (Nat.le_trans hz.size HB0.out.size)) ((kR 29).M_mono (fun j hj => hj.2) (HEM.out W m A2 c2 (Below.refl _ _) hK)))
  rw [← HCH.out] at HM0 ha hb' hc hd
  have i1 : (L.length : Int) - 1 = m := by omega
  have i2 : (m : Int) < L.length := by omega
  have HBZ := Aside0.mk hBz
  clear hb0 b0 hsz hW hR hz hb hK hBz
  go_enter Tryd.func69, Tryd.ntmps69
  go_upto_region 1 with fail
  rw [← HW.out]
  rw [hm] at i1 i2 ⊢
  go_upto_region 3 with fail
  clear ha hb' hc hd i1 i2
  have HH0 := Aside0.mk (show W.heap.size < (W.alloc (.cells #[.int .i64 (chain (L.drop m)).f0, .int .i64 (chain (L.drop m)).f1, .int .i64 (chain (L.drop m)).f2, .slice A2 (chain (L.drop m)).f3.length c2] 29)).heap.size by simp)
  generalize W.alloc (.cells #[.int .i64 (chain (L.drop m)).f0, .int .i64 (chain (L.drop m)).f1, .int .i64 (chain (L.drop m)).f2, .slice A2 (chain (L.drop m)).f3.length c2] 29) = W2 at HM0 HH0 ⊢
  obtain ⟨G, hG⟩ : ∃ G, G = W.heap.size := ⟨_, rfl⟩
  rw [← hG] at HM0 HH0 ⊢
  have HGE := Aside0.mk hG
  clear hG
  go_loopw [4] (fun vi wr => ∃ (k : Nat) (i : Int) (u : Value), k ≤ m ∧ vi = .int .i64 i ∧ i = (k : Int) - 1 ∧ Aside0 (ChMem W wr B G w.heap.size (chain (L.drop k)) u) ∧ Aside0 (G < wr.heap.size)) (fun vi _ => (intOf vi + 1).toNat)
  case atStart => exact ⟨m, _, _, Nat.le_refl _, rfl, by omega, HM0, HH0⟩
  case round =>
    clear HM0 HH0
    obtain ⟨k, i, u, hk, rfl, hi, HM, HH⟩ := hrel
    have HG2L : Aside0 (w.heap.size < wr.heap.size) := ⟨by have h1 := HH.out; have h2 := HGE.out; have h3 := HSZ.out; omega⟩
    have HGL2 := HH
    rcases k with _ | k
    · have g1 : decide (i ≥ 0) = false := decide_eq_false (by omega)
      have hy0 : chain (L.drop 0) = chain L := rfl
      rw [hy0] at HM
      obtain ⟨U, cu, rfl⟩ := Kd.R_slice HM.out.row
      have HI := Aside0.mk hi
      clear hi hy0
      have g2' := HM.out.box
      have g1' := blk_below BB.out HM.out.bel
      have r0 := (blk_cell g2' 0).trans rfl
      have r1 := (blk_cell g2' 1).trans rfl
      have r2 := (blk_cell g2' 2).trans rfl
      have r3 := (blk_cell g2' 3).trans rfl
      have s0 := (blk_cell g1' 0).trans rfl
      have s1 := (blk_cell g1' 1).trans rfl
      have s2 := (blk_cell g1' 2).trans rfl
      have s3 := (blk_cell g1' 3).trans rfl
      have t0 := blk_frozen g1' 0
      have t1 := blk_frozen g1' 1
      have t2 := blk_frozen g1' 2
      have t3 := blk_frozen g1' 3
      go_wp2
      refine bodyPost_ret (results_cell_row rfl _ _ w.heap.size 29 #[.int .i64 (chain L).f0, .int .i64 (chain L).f1, .int .i64 (chain L).f2, .slice U (chain L).f3.length cu] (0, 0) _ rfl (set4_blk _ _ _ _ g1') Tryd.underlying29 rfl (by kernel_rfl)) rfl ?_
      exact ⟨⟨_, rfl, Kd.R_mono (set4_R (G := w.heap.size) HM.out.row (fun k hk => hk.2) _ _ _ _) (fun _ _ => trivial)⟩, set4_below (below_then HB0.out HB0.out.size HM.out.bel) (Nat.le_refl _) _ _ _ _⟩
    · obtain rfl : i = (k : Int) := by omega
      have g1 : decide ((k : Int) ≥ 0) = true := decide_eq_true (by omega)
      have i2 : (k : Int) < m + 1 := by omega
      obtain ⟨A2, c2, ha, hb, hc, hd, -, hK⟩ := elemC (Kd.R_below HR.out HM.out.bel) (below_then HZ.out HZ.out.size HM.out.bel) k (by omega)
      have hXM := HEM.out wr k A2 c2 HM.out.bel hK
      rw [← HGE.out] at hXM
      have HXM := Aside0.mk hXM
      have HCC := Aside0.mk (chain_cons (L := L) (k := k) (by omega))
      generalize chain (L.drop (k + 1)) = y at HM HCC
      obtain ⟨U, cu, rfl⟩ := Kd.R_slice HM.out.row
      generalize L.getD k zE = x at ha hb hc hd HXM HCC
      have HGL := HGL2
      clear hXM hK hi HGL2
      go_upto_region 5 with fail
      have F : ∀ w', Below wr.heap.size wr w' → (fun w' => (w'.cell? ⟨g, k * 4, none⟩ = some (.int .i64 x.f0) ∧ w'.cell? ⟨g, k * 4 + 1, none⟩ = some (.int .i64 x.f1) ∧ w'.cell? ⟨g, k * 4 + 2, none⟩ = some (.int .i64 x.f2) ∧ w'.cell? ⟨g, k * 4 + 3, none⟩ = some (.slice A2 x.f3.length c2)) ∧ (w'.cell? ⟨G, 0, none⟩ = some (.int .i64 y.f0) ∧ w'.cell? ⟨G, 1, none⟩ = some (.int .i64 y.f1) ∧ w'.cell? ⟨G, 2, none⟩ = some (.int .i64 y.f2) ∧ w'.cell? ⟨G, 3, none⟩ = some (.slice U y.f3.length cu))) w' := fun w' h => ⟨⟨pw_cell_below h ha, pw_cell_below h hb, pw_cell_below h hc, pw_cell_below h hd⟩, ⟨(blk_cell (blk_below HM.out.box h) 0).trans rfl, (blk_cell (blk_below HM.out.box h) 1).trans rfl, (blk_cell (blk_below HM.out.box h) 2).trans rfl, (blk_cell (blk_below HM.out.box h) 3).trans rfl⟩⟩
      have HF := Aside0.mk F
      have HD : Below wr.heap.size wr wr.drew := below_drew (Below.refl _ _)
      clear ha hb hc hd F
      refine Za.regionL (fun w' => (w'.cell? ⟨g, k * 4, none⟩ = some (.int .i64 x.f0) ∧ w'.cell? ⟨g, k * 4 + 1, none⟩ = some (.int .i64 x.f1) ∧ w'.cell? ⟨g, k * 4 + 2, none⟩ = some (.int .i64 x.f2) ∧ w'.cell? ⟨g, k * 4 + 3, none⟩ = some (.slice A2 x.f3.length c2)) ∧ (w'.cell? ⟨G, 0, none⟩ = some (.int .i64 y.f0) ∧ w'.cell? ⟨G, 1, none⟩ = some (.int .i64 y.f1) ∧ w'.cell? ⟨G, 2, none⟩ = some (.int .i64 y.f2) ∧ w'.cell? ⟨G, 3, none⟩ = some (.slice U y.f3.length cu))) [7] (by kernel_rfl) ?_
      generalize wr.drew = wd at HD ⊢
      have HS : (fun w' => (w'.cell? ⟨g, k * 4, none⟩ = some (.int .i64 x.f0) ∧ w'.cell? ⟨g, k * 4 + 1, none⟩ = some (.int .i64 x.f1) ∧ w'.cell? ⟨g, k * 4 + 2, none⟩ = some (.int .i64 x.f2) ∧ w'.cell? ⟨g, k * 4 + 3, none⟩ = some (.slice A2 x.f3.length c2)) ∧ (w'.cell? ⟨G, 0, none⟩ = some (.int .i64 y.f0) ∧ w'.cell? ⟨G, 1, none⟩ = some (.int .i64 y.f1) ∧ w'.cell? ⟨G, 2, none⟩ = some (.int .i64 y.f2) ∧ w'.cell? ⟨G, 3, none⟩ = some (.slice U y.f3.length cu))) wd := HF.out _ HD
      refine Za.takeL 0 (v := ?vc0) rfl (by kernel_rfl) (by kernel_rfl) (by kernel_rfl) (by kernel_rfl) (fun _ _ _ h => h) (Or.inl ⟨by rfl, ?hyc0⟩) HS ?restc0
      case hyc0 => (intro w hSw; (try dsimp only at hSw); go_simp; try with_reducible rfl)
      (try simp only [Act.put, List.setIfInBounds_toArray, List.set_cons_zero, List.set_cons_succ])
      refine Za.takeL 1 (v := ?vc1) rfl (by kernel_rfl) (by kernel_rfl) (by kernel_rfl) (by kernel_rfl) (fun _ _ _ h => h) (Or.inl ⟨by rfl, ?hyc1⟩) HS ?restc1
      case hyc1 => (intro w hSw; (try dsimp only at hSw); go_simp; try with_reducible rfl)
      (try simp only [Act.put, List.setIfInBounds_toArray, List.set_cons_zero, List.set_cons_succ])
      refine Za.takeL 2 (v := ?vc2) rfl (by kernel_rfl) (by kernel_rfl) (by kernel_rfl) (by kernel_rfl) (fun _ _ _ h => h) (Or.inl ⟨by rfl, ?hyc2⟩) HS ?restc2
      case hyc2 => (intro w hSw; (try dsimp only at hSw); go_simp; try with_reducible rfl)
      (try simp only [Act.put, List.setIfInBounds_toArray, List.set_cons_zero, List.set_cons_succ])
      refine Za.takeL 3 (v := ?vc3) rfl (by kernel_rfl) (by kernel_rfl) (by kernel_rfl) (by kernel_rfl) (fun _ _ _ h => h) (Or.inl ⟨by rfl, ?hyc3⟩) HS ?restc3
      case hyc3 => (intro w hSw; (try dsimp only at hSw); go_simp; try with_reducible rfl)
      (try simp only [Act.put, List.setIfInBounds_toArray, List.set_cons_zero, List.set_cons_succ])
      refine Za.takeL 4 (v := ?vc4) rfl (by kernel_rfl) (by kernel_rfl) (by kernel_rfl) (by kernel_rfl) (fun _ _ _ h => h) (Or.inl ⟨by rfl, ?hyc4⟩) HS ?restc4
      case hyc4 => (intro w hSw; (try dsimp only at hSw); go_simp; try with_reducible rfl)
      (try simp only [Act.put, List.setIfInBounds_toArray, List.set_cons_zero, List.set_cons_succ])
      clear HS
      refine Za.nextL 5 (by kernel_rfl) rfl (fun K' hK => ?_)
      go_simp
      refine hK.out _ _ ⟨fun _ => HF.out _ (below_alloc HD _), ?_⟩
      clear hK K'
      (try simp only [Act.put, List.setIfInBounds_toArray, List.set_cons_zero, List.set_cons_succ])
      refine Za.nextL 6 (by kernel_rfl) rfl (fun K' hK => ?_)
      go_simp
      refine hK.out _ _ ⟨fun _ => HF.out _ (below_alloc HD _), ?_⟩
      clear hK K'
      (try simp only [Act.put, List.setIfInBounds_toArray, List.set_cons_zero, List.set_cons_succ])
      have HM6 := Aside0.mk (HM.out.step HD HGL.out HG2L.out HXM.out)
      have bz := blk_below HM.out.box (below_alloc HD (.cells #[.int .i64 x.f0, .int .i64 x.f1, .int .i64 x.f2, .slice A2 x.f3.length c2, .int .i64 y.f0, .int .i64 y.f1, .int .i64 y.f2, .slice U y.f3.length cu] 29))
      have HS5 := Aside0.mk (show G < (wd.alloc (.cells #[.int .i64 x.f0, .int .i64 x.f1, .int .i64 x.f2, .slice A2 x.f3.length c2, .int .i64 y.f0, .int .i64 y.f1, .int .i64 y.f2, .slice U y.f3.length cu] 29)).heap.size from Nat.lt_of_lt_of_le HGL.out (below_alloc HD (.cells #[.int .i64 x.f0, .int .i64 x.f1, .int .i64 x.f2, .slice A2 x.f3.length c2, .int .i64 y.f0, .int .i64 y.f1, .int .i64 y.f2, .slice U y.f3.length cu] 29)).size)
      generalize wd.alloc (.cells #[.int .i64 x.f0, .int .i64 x.f1, .int .i64 x.f2, .slice A2 x.f3.length c2, .int .i64 y.f0, .int .i64 y.f1, .int .i64 y.f2, .slice U y.f3.length cu] 29) = W5 at HM6 bz HS5 ⊢
      have z0 := (blk_cell bz 0).trans rfl
      have z1 := (blk_cell bz 1).trans rfl
      have z2 := (blk_cell bz 2).trans rfl
      have z3 := (blk_cell bz 3).trans rfl
      have f0 := blk_frozen bz 0
      have f1 := blk_frozen bz 1
      have f2 := blk_frozen bz 2
      have f3 := blk_frozen bz 3
      refine Za.nextL 7 (by kernel_rfl) rfl (fun K' hK => ?_)
      go_simp
      refine hK.out _ _ ⟨fun h => absurd (by simp) h, ?_⟩
      clear hK K'
      (try simp only [Act.put, List.setIfInBounds_toArray, List.set_cons_zero, List.set_cons_succ])
      refine Za.Walk.done (by kernel_rfl) ?_
      clear z0 z1 z2 z3 f0 f1 f2 f3 bz
      have HS6 := Aside0.mk (show G < (set4 W5 G (.int .i64 2) (.int .i64 0) (.int .i64 0) (.slice (some ⟨wd.heap.size, 0, none⟩) 2 2)).heap.size by have := HS5.out; simp [set4, World.setCell]; omega)
      clear HS5
      have HM7 : Aside0 (ChMem W (set4 W5 G (.int .i64 2) (.int .i64 0) (.int .i64 0) (.slice (some ⟨wd.heap.size, 0, none⟩) 2 2)) B G w.heap.size (.mk 2 0 0 [x, y]) (.slice (some ⟨wd.heap.size, 0, none⟩) 2 2)) := HM6
      clear HM6
      have HM6 := HM7
      clear HM7
      unfold set4 at HM6 HS6
      generalize (((W5.setCell ⟨G, 0, none⟩ (.int .i64 2)).setCell ⟨G, 1, none⟩ (.int .i64 0)).setCell ⟨G, 2, none⟩ (.int .i64 0)).setCell ⟨G, 3, none⟩ (.slice (some ⟨wd.heap.size, 0, none⟩) 2 2) = W6 at HM6 HS6 ⊢
      go_wp2
      go_roundw
      case rel => exact ⟨k, _, _, by omega, rfl, by omega, ⟨by rw [HCC.out]; exact HM6.out⟩, HS6⟩
      case measure => simp [intOf]
end Go.Proofs.YtbbdkhffacoglaaDoor.Nt

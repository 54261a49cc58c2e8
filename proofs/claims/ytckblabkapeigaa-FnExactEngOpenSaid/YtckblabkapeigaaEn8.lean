
/- A part put into a graph: the program's add. -/
import Derived.Test.YtckblabkapeigaaEm8
import Derived.Test.YtckblabkapeigaaZa
set_option linter.unusedVariables false
set_option linter.unusedSimpArgs false
namespace Go.Proofs.Ytckblabkapeigaa.En8
open Go.RowKit Go.Proofs.YtckblabkapeigaaW.PrintWords Go.Proofs.Ytckblabkapeigaa.Ja Go.Proofs.Ytckblabkapeigaa.Jb Go.Proofs.Ytckblabkapeigaa.Jc Go.Proofs.Ytckblabkapeigaa.Jd Go.Proofs.Ytckblabkapeigaa.Jg Go.Proofs.Ytckblabkapeigaa.Ka Go.Proofs.Ytckblabkapeigaa.Kd2 Go.Proofs.Ytckblabkapeigaa.Kf Go.Proofs.Ytckblabkapeigaa.Nb Go.Proofs.Ytckblabkapeigaa.Eg8 Go.Proofs.Ytckblabkapeigaa.Eh8 Go.Proofs.Ytckblabkapeigaa.El8 Go.Proofs.Ytckblabkapeigaa.Em8

abbrev AddCall (x : Ex) : Prop := ∀ (Wz : World) G base P m v es A c (w : World), Below Wz.heap.size Wz w → Wz.heap.size ≤ G → G < base → base ≤ w.heap.size → Closed es → es.Nodup → (aiX x es).length ≤ 1000 → GMem w G base P m v es → IsEL 52 Wz x.f3 A c →
    Calls Try.prog 50 #[.pointer (some ⟨G, 0, none⟩), X x.f0 x.f1 x.f2 A x.f3.length c] w fun e w' => AddOut w w' G base P m v (aiX x es) (at_ (aiX x es) x) e
theorem at_new {es : List Ex} {x : Ex} (h : ¬ x ∈ es) : at_ (es ++ [x]) x = es.length := by
  have h1 : x ∈ es ++ [x] := by simp
  have h2 := at_get h1
  have h3 := at_lt h1
  rw [List.length_append, List.length_singleton] at h3
  by_cases h4 : at_ (es ++ [x]) x < es.length
  · rw [List.getElem?_append_left h4] at h2
    exact absurd (List.mem_of_getElem? h2) h
  · omega
theorem below_mono2 {B C : Nat} {w w' : World} (h : Below B w w') (hc : C ≤ B) : Below C w w' := ⟨h.os, h.tape, h.output, h.size, fun k hk => h.block k (by omega)⟩
theorem aiX_closed {x : Ex} {es : List Ex} (h : Closed es) : Closed (aiX x es) := by rw [ad_ai x es h]; exact adX_closed x es h
theorem aiL_closed {l : List Ex} {es : List Ex} (h : Closed es) : Closed (aiL l es) := by rw [adL_aiL l es h]; exact adL_closed l es h
theorem aiL_nodup {l : List Ex} {es : List Ex} (h : Closed es) (hd : es.Nodup) : (aiL l es).Nodup := by rw [adL_aiL l es h]; exact adL_nodup l es hd
theorem aiL_le {l : List Ex} {es : List Ex} (h : Closed es) (j : Nat) : (aiL (l.take j) es).length ≤ (aiL l es).length := by
  have e : aiL l es = aiL (l.drop j) (aiL (l.take j) es) := by rw [← aiL_append, List.take_append_drop]
  rw [e, adL_aiL _ _ (aiL_closed h)]
  obtain ⟨t, h1, _⟩ := adL_pre (l.drop j) (aiL (l.take j) es)
  rw [h1, List.length_append]; omega
theorem aiL_le_X {x : Ex} {es : List Ex} : (aiL x.f3 es).length ≤ (aiX x es).length := by
  rw [aiX_eq]; split
  · exact Nat.le_refl _
  · simp
/-- x's own memory stands still -/
theorem addZ {Wz w wr : World} {x : Ex} {G base : Nat} {m : Int} {v v' u : Value} {P P' : Nat → Prop} {es es' : List Ex} {ks : List Int} (h : AddMem w wr x G base m v v' P P' es' u ks) (hg : GMem w G base P m v es) (hz : Below Wz.heap.size Wz w) (hG : Wz.heap.size ≤ G) (hb : G < base) : Below Wz.heap.size Wz wr := by
  have h1 : Below Wz.heap.size w wr := h.fr.below hz.size (fun k hk => by
    rcases hk with h2 | h2
    · omega
    · have := Kd.R_base (Kd.S_R hg.row) k h2.symm; omega)
  exact ⟨h1.os.trans hz.os, h1.tape.trans hz.tape, h1.output.trans hz.output, Nat.le_trans hz.size h1.size, fun k hk => (h1.block k hk).trans (hz.block k hk)⟩
set_option maxHeartbeats 8000000 in
set_option maxRecDepth 100000 in
theorem add_of (x : Ex) (hE : ∀ y, y ∈ x.f3 → AddCall y) (hl : x.f3.length ≤ 1000) : AddCall x := fun Wz G base P m v es A c w hz hGz hGb hbw hcl hnd hln hg hL => by
  have hb0 := below_alloc (Below.refl w.heap.size w) (.cells #[.int .i64 x.f0, .int .i64 x.f1, .int .i64 x.f2, .slice A x.f3.length c] 52)
  have hs1 : (w.alloc (.cells #[.int .i64 x.f0, .int .i64 x.f1, .int .i64 x.f2, .slice A x.f3.length c] 52)).heap.size = w.heap.size + 1 := by simp
  have HM0 := Aside0.mk (AddMem.start (x := x) hg hb0 hs1)
  have bX := blk_new w (.cells #[.int .i64 x.f0, .int .i64 x.f1, .int .i64 x.f2, .slice A x.f3.length c] 52)
  obtain ⟨W1, hW1⟩ : ∃ W1, W1 = w.alloc (.cells #[.int .i64 x.f0, .int .i64 x.f1, .int .i64 x.f2, .slice A x.f3.length c] 52) := ⟨_, rfl⟩
  rw [← hW1] at hb0 HM0 bX hs1
  have HW1 := Aside0.mk hW1
  have HS1 := Aside0.mk hs1
  have HZ := Aside0.mk hz
  have HG := Aside0.mk hg
  have HL := Aside0.mk hL
  have HE := Aside0.mk hE
  have HCL := Aside0.mk hcl
  have HND := Aside0.mk hnd
  have HLN := Aside0.mk (Nat.le_trans aiL_le_X hln)
  have HGZ := Aside0.mk hGz
  have HGB := Aside0.mk hGb
  have HBW := Aside0.mk hbw
  have p0 := (blk_cell bX 0).trans rfl
  have p1 := (blk_cell bX 1).trans rfl
  have p2 := (blk_cell bX 2).trans rfl
  have p3 := (blk_cell bX 3).trans rfl
  have HXB := Aside0.mk (blk_below bX (below_alloc (Below.refl W1.heap.size W1) (.cells (nC x (.slice none 0 0)) 103)))
  clear hb0 hW1 hs1 hz hg hL hE hcl hnd hln hGz hGb hbw bX
  go_enter Try.func50, Try.ntmps50
  go_upto_region 1 with fail
  rw [← HW1.out]
  go_upto_region 2 with fail
  unfold nC at HM0 HXB
  have HWW : Aside0 (Below W1.heap.size W1 (W1.alloc (.cells #[.int .i64 x.f0, .int .i64 x.f1, .int .i64 x.f2, .slice none 0 0, .slice none 0 0, .slice none 0 0, .slice none 0 0, .slice none 0 0, .slice none 0 0, .int .i64 0] 103))) := ⟨below_alloc (Below.refl _ _) _⟩
  generalize W1.alloc (.cells #[.int .i64 x.f0, .int .i64 x.f1, .int .i64 x.f2, .slice none 0 0, .slice none 0 0, .slice none 0 0, .slice none 0 0, .slice none 0 0, .slice none 0 0, .int .i64 0] 103) = W at HM0 HXB HWW ⊢
  rw [HS1.out]
  clear p0 p1 p2 p3
  have p3 := (blk_cell HXB.out 3).trans rfl
  go_upto_region 3 with fail
  clear p3
  go_loopw [19] (fun vi wr => ∃ (j : Nat) (v' u : Value) (P' : Nat → Prop), j ≤ x.f3.length ∧ vi = .int .i64 j ∧ Aside0 (AddMem w wr x G base m v v' P P' (aiL (x.f3.take j) es) u ((x.f3.take j).map (fun y => (at_ (aiL (x.f3.take j) es) y : Int)))) ∧ Aside0 (∀ i, P' i → i < wr.heap.size)) (fun vi _ => x.f3.length - (intOf vi).toNat)
  case atStart => exact ⟨0, _, _, _, Nat.zero_le _, rfl, ⟨by simpa [aiL] using HM0.out⟩, ⟨fun i hi => by have h1 := hi.2; have h2 := HM0.out.size; omega⟩⟩
  case round =>
    clear HM0 HWW HXB
    obtain ⟨j, v', u, P', hj, rfl, HM, HPL⟩ := hrel
    by_cases hlt : j < x.f3.length
    · have g1 : decide (j < x.f3.length) = true := decide_eq_true hlt
      have i1 : (j : Int) < x.f3.length := by omega
      have HZR := Aside0.mk (addZ HM.out HG.out HZ.out HGZ.out HGB.out)
      obtain ⟨ad, A2, c3, rfl, ha, hb, hc, hd, hIs⟩ := atE HL.out j hlt
      have hmem : x.f3.getD j zE ∈ x.f3 := getE_mem hlt
      have HQ := Aside0.mk (HE.out _ hmem)
      have HSN := Aside0.mk (aiL_snoc x.f3 j hlt es)
      have HAT := Aside0.mk (at_snoc x.f3 j hlt HCL.out)
      have HLE := Aside0.mk (show (aiX (x.f3.getD j zE) (aiL (x.f3.take j) es)).length ≤ 1000 by rw [← HSN.out]; exact Nat.le_trans (aiL_le HCL.out (j + 1)) HLN.out)
      generalize x.f3.getD j zE = o at ha hb hc hd hIs HQ HSN HAT HLE
      have HIS := Aside0.mk hIs
      replace ha := pw_cell_below HZR.out ha
      replace hb := pw_cell_below HZR.out hb
      replace hc := pw_cell_below HZR.out hc
      replace hd := pw_cell_below HZR.out hd
      obtain ⟨U, uc, rfl⟩ := Kd.R_slice HM.out.kid
      have hkl : ((x.f3.take j).map (fun y => (at_ (aiL (x.f3.take j) es) y : Int))).length = j := by rw [List.length_map, List.length_take]; omega
      have HKL := Aside0.mk hkl
      generalize ((x.f3.take j).map (fun y => (at_ (aiL (x.f3.take j) es) y : Int))) = ks at HM HAT HKL ⊢
      clear hIs hmem hkl
      have HBX := Aside0.mk (below_alloc (Below.refl wr.heap.size wr) (.cells #[.int .i64 o.f0, .int .i64 o.f1, .int .i64 o.f2, .slice A2 o.f3.length c3] 52))
      have BXN := Aside0.mk (blk_new wr (.cells #[.int .i64 o.f0, .int .i64 o.f1, .int .i64 o.f2, .slice A2 o.f3.length c3] 52))
      have HXS : Aside0 (wr.heap.size < (wr.alloc (.cells #[.int .i64 o.f0, .int .i64 o.f1, .int .i64 o.f2, .slice A2 o.f3.length c3] 52)).heap.size) := ⟨by simp⟩
      have HWR := Aside0.mk HM.out.size
      go_upto_region 5 with fail
      obtain ⟨W5, hW5⟩ : ∃ W5, W5 = wr.alloc (.cells #[.int .i64 o.f0, .int .i64 o.f1, .int .i64 o.f2, .slice A2 o.f3.length c3] 52) := ⟨_, rfl⟩
      rw [← hW5] at HBX BXN HXS ⊢
      clear hW5 ha hb hc hd g1 i1
      obtain ⟨K, hKK⟩ : ∃ K, K = wr.heap.size := ⟨_, rfl⟩
      have HKU0 : Aside0 (∀ i, (Value.slice U ks.length uc).ownBlock = some i → i ≠ K) := ⟨fun i hi => by have := Kd.R_lt HM.out.kid i hi; omega⟩
      rw [← hKK] at BXN HXS HPL ⊢
      have HK := Aside0.mk hKK
      have HDD : Below W5.heap.size W5 W5.drew := below_drew (Below.refl _ _)
      refine Za.regionL (fun w' => w'.cell? ⟨w.heap.size + 1, 3, none⟩ = some (.slice U ks.length uc) ∧ (w'.cell? ⟨K, 0, none⟩ = some (.int .i64 o.f0) ∧ w'.cell? ⟨K, 1, none⟩ = some (.int .i64 o.f1) ∧ w'.cell? ⟨K, 2, none⟩ = some (.int .i64 o.f2) ∧ w'.cell? ⟨K, 3, none⟩ = some (.slice A2 o.f3.length c3))) [8] (by kernel_rfl) ?_
      have HMD := Aside0.mk ((HM.out.below HBX.out).below HDD)
      have BXD := Aside0.mk (blk_below BXN.out HDD)
      have HKW : Aside0 (K < W5.drew.heap.size) := ⟨Nat.lt_of_lt_of_le HXS.out HDD.size⟩
      have HISD := HIS
      clear HM HBX BXN HXS
      clear HDD
      generalize W5.drew = wd at HMD BXD HKW ⊢
      have FS : ∀ w' : World, w'.heap[w.heap.size + 1]? = some (.cells (nC x (.slice U ks.length uc)) 103 (0, 0)) → w'.heap[K]? = some (.cells #[.int .i64 o.f0, .int .i64 o.f1, .int .i64 o.f2, .slice A2 o.f3.length c3] 52 (0, 0)) → (fun w' => w'.cell? ⟨w.heap.size + 1, 3, none⟩ = some (.slice U ks.length uc) ∧ (w'.cell? ⟨K, 0, none⟩ = some (.int .i64 o.f0) ∧ w'.cell? ⟨K, 1, none⟩ = some (.int .i64 o.f1) ∧ w'.cell? ⟨K, 2, none⟩ = some (.int .i64 o.f2) ∧ w'.cell? ⟨K, 3, none⟩ = some (.slice A2 o.f3.length c3))) w' := fun w' h1 h2 => ⟨(blk_cell h1 3).trans rfl, (blk_cell h2 0).trans rfl, (blk_cell h2 1).trans rfl, (blk_cell h2 2).trans rfl, (blk_cell h2 3).trans rfl⟩
      have HFS := Aside0.mk FS
      have HKU : Aside0 (∀ i, (Value.slice U ks.length uc).ownBlock = some i → i ≠ K) := HKU0
      clear FS hKK
      have HS : (fun w' => w'.cell? ⟨w.heap.size + 1, 3, none⟩ = some (.slice U ks.length uc) ∧ (w'.cell? ⟨K, 0, none⟩ = some (.int .i64 o.f0) ∧ w'.cell? ⟨K, 1, none⟩ = some (.int .i64 o.f1) ∧ w'.cell? ⟨K, 2, none⟩ = some (.int .i64 o.f2) ∧ w'.cell? ⟨K, 3, none⟩ = some (.slice A2 o.f3.length c3))) wd := HFS.out _ HMD.out.nb BXD.out
      refine Za.takeL 0 (v := ?va0) rfl (by kernel_rfl) (by kernel_rfl) (by kernel_rfl) (by kernel_rfl) (fun _ _ _ h => h) (Or.inl ⟨by rfl, ?hya0⟩) HS ?resta0
      case hya0 => (intro w hSw; (try dsimp only at hSw); go_simp; try with_reducible rfl)
      (try simp only [Act.put, List.setIfInBounds_toArray, List.set_cons_zero, List.set_cons_succ])
      refine Za.takeL 1 (v := ?va1) rfl (by kernel_rfl) (by kernel_rfl) (by kernel_rfl) (by kernel_rfl) (fun _ _ _ h => h) (Or.inl ⟨by rfl, ?hya1⟩) HS ?resta1
      case hya1 => (intro w hSw; (try dsimp only at hSw); go_simp; try with_reducible rfl)
      (try simp only [Act.put, List.setIfInBounds_toArray, List.set_cons_zero, List.set_cons_succ])
      refine Za.takeL 2 (v := ?va2) rfl (by kernel_rfl) (by kernel_rfl) (by kernel_rfl) (by kernel_rfl) (fun _ _ _ h => h) (Or.inl ⟨by rfl, ?hya2⟩) HS ?resta2
      case hya2 => (intro w hSw; (try dsimp only at hSw); go_simp; try with_reducible rfl)
      (try simp only [Act.put, List.setIfInBounds_toArray, List.set_cons_zero, List.set_cons_succ])
      refine Za.takeL 3 (v := ?va3) rfl (by kernel_rfl) (by kernel_rfl) (by kernel_rfl) (by kernel_rfl) (fun _ _ _ h => h) (Or.inl ⟨by rfl, ?hya3⟩) HS ?resta3
      case hya3 => (intro w hSw; (try dsimp only at hSw); go_simp; try with_reducible rfl)
      (try simp only [Act.put, List.setIfInBounds_toArray, List.set_cons_zero, List.set_cons_succ])
      clear HS
      have HSZD := Aside0.mk HMD.out.size
      have HCALL := Aside0.mk (HQ.out Wz G base P' m v' (aiL (x.f3.take j) es) A2 c3 wd (addZ HMD.out HG.out HZ.out HGZ.out HGB.out) HGZ.out HGB.out (by have h1 := HBW.out; have h2 := HSZD.out; omega) (aiL_closed HCL.out) (aiL_nodup HCL.out HND.out) HLE.out HMD.out.g HISD.out)
      have hGw : G < w.heap.size := by have h1 := HBW.out; have h2 := HGB.out; omega
      have HGW := Aside0.mk hGw
      clear hGw
      refine Za.nextL 4 (by kernel_rfl) rfl (fun K' hK => ?_)
      go_simp
      (go_at_call 50; refine HCALL.out.mono ?_; rintro e w6 ho)
      have HBK : Aside0 (w6.heap[K]? = some (.cells #[.int .i64 o.f0, .int .i64 o.f1, .int .i64 o.f2, .slice A2 o.f3.length c3] 52 (0, 0))) := ⟨by
        obtain ⟨-, v9, -, hf, -⟩ := ho
        refine (hf.block K HKW.out ?_).trans BXD.out
        rintro (h1 | h1)
        · have h2 := HGW.out; have h3 := HSZD.out; have h4 := HK.out; have h5 := HWR.out; omega
        · have h2 := HPL.out K ((Kd.S_R HMD.out.g.row).1 K h1.symm); omega⟩
      obtain ⟨rfl, v2, P2, hm6, hp6⟩ := AddMem.call HMD.out HGW.out ho
      have HM6 := Aside0.mk hm6
      have HP6 := Aside0.mk hp6
      clear ho hm6 hp6
      go_wp2_with fail
      refine hK.out _ _ ⟨fun _ => HFS.out _ HM6.out.nb HBK.out, ?_⟩
      clear hK K'
      (try simp only [Act.put, List.setIfInBounds_toArray, List.set_cons_zero, List.set_cons_succ])
      have HLK6 := Aside0.mk (Kd.R_lt HM6.out.kid)
      have HBK6 := Aside0.mk (Kd.R_base HM6.out.kid)
      have HSZ6 := Aside0.mk HM6.out.size
      have hb6 := below_alloc (Below.refl w6.heap.size w6) (.cells #[.int .i64 (at_ (aiX o (aiL (x.f3.take j) es)) o : Int)] 3)
      refine Za.nextL 5 (by kernel_rfl) rfl (fun K' hK => ?_)
      go_simp
      refine hK.out _ _ ⟨fun _ => HFS.out _ (blk_below HM6.out.nb hb6) (blk_below HBK.out hb6), ?_⟩
      clear hK K' hb6
      (try simp only [Act.put, List.setIfInBounds_toArray, List.set_cons_zero, List.set_cons_succ])
      refine Za.nextL 6 (by kernel_rfl) rfl (fun K' hK => ?_)
      refine Kd.R_append_step (Kd.int .i64) (w0 := w6) (W := w6) (w.heap.size + 2) (by rfl) _ _ 27 3 (.int .i64 0) 8 rfl Try.underlying27 infoI rfl (by decide) (by decide) (.slice U ks.length uc) ks (at_ (aiX o (aiL (x.f3.take j) es)) o : Int) [.int .i64 (at_ (aiX o (aiL (x.f3.take j) es)) o : Int)] (fun _ => True) (fun _ => False) rfl rfl rfl (fun _ h => h.elim) (fun _ _ => trivial) HM6.out.kid (below_mono2 (Below.refl _ _) HSZ6.out) HSZ6.out (by rw [HKL.out]; omega) ?_
      intro v7 w7 hr7 hb7 hg7 hat7
      obtain ⟨U7, c7, rfl⟩ := Kd.R_slice hr7
      have hk1 : (ks ++ [(at_ (aiX o (aiL (x.f3.take j) es)) o : Int)]).length = ks.length + 1 := by simp
      rw [hk1] at hr7 hat7
      try rw [hk1]
      have nb7 := blk_grown HM6.out.nb hg7 (fun h => by have := HBK6.out _ h.symm; omega)
      have kb7 := blk_grown HBK.out hg7 (fun h => HKU.out _ h.symm rfl)
      have HM8 := Aside0.mk (AddMem.store HM6.out HGW.out HP6.out hr7 hg7 hat7)
      have HP8 : Aside0 (∀ i, P2 i → i < (w7.setCell ⟨w.heap.size + 1, 3, none⟩ (.slice U7 (ks.length + 1) c7)).heap.size) := ⟨fun i hi => by have h1 := HP6.out i hi; have h2 := hg7.size; simp [World.setCell]; omega⟩
      have q3 := (blk_cell nb7 3).trans rfl
      have z3 := blk_frozen nb7 3
      refine hK.out _ _ ⟨fun _ => HFS.out _ nb7 kb7, ?_⟩
      clear hK K'
      (try simp only [Act.put, List.setIfInBounds_toArray, List.set_cons_zero, List.set_cons_succ])
      have HS : (fun w' => w'.cell? ⟨w.heap.size + 1, 3, none⟩ = some (.slice U ks.length uc) ∧ (w'.cell? ⟨K, 0, none⟩ = some (.int .i64 o.f0) ∧ w'.cell? ⟨K, 1, none⟩ = some (.int .i64 o.f1) ∧ w'.cell? ⟨K, 2, none⟩ = some (.int .i64 o.f2) ∧ w'.cell? ⟨K, 3, none⟩ = some (.slice A2 o.f3.length c3))) w7 := HFS.out _ nb7 kb7
      refine Za.takeL 7 (v := ?vb7) rfl (by kernel_rfl) (by kernel_rfl) (by kernel_rfl) (by kernel_rfl) (fun _ _ _ h => h) (Or.inl ⟨by rfl, ?hyb7⟩) HS ?restb7
      case hyb7 => (intro w hSw; (try dsimp only at hSw); go_simp; try with_reducible rfl)
      (try simp only [Act.put, List.setIfInBounds_toArray, List.set_cons_zero, List.set_cons_succ])
      clear HS
      refine Za.nextL 8 (by kernel_rfl) rfl (fun K' hK => ?_)
      go_simp
      refine hK.out _ _ ⟨fun h => absurd (by simp) h, ?_⟩
      clear hK K'
      (try simp only [Act.put, List.setIfInBounds_toArray, List.set_cons_zero, List.set_cons_succ])
      refine Za.Walk.done (by kernel_rfl) ?_
      clear q3 z3 nb7 kb7 hr7 hb7 hg7 hat7 hk1
      go_wp2
      go_roundw
      case rel => exact ⟨j + 1, v2, _, P2, by omega, by go_num, ⟨by rw [HAT.out, HSN.out]; exact HM8.out⟩, HP8⟩
      case measure => simp [intOf]; omega
    · have hje : j = x.f3.length := by omega
      subst hje
      have g1 : decide (x.f3.length < x.f3.length) = false := decide_eq_false (by omega)
      rw [List.take_length] at HM
      have HC2 := Aside0.mk (aiL_closed (l := x.f3) HCL.out)
      have HD2 := Aside0.mk (aiL_nodup (l := x.f3) HCL.out HND.out)
      have HK2 : Aside0 (∀ z ∈ x.f3, z ∈ aiL x.f3 es) := ⟨fun z hz => by rw [adL_aiL _ _ HCL.out]; exact adL_all _ _ z hz⟩
      have HAX := Aside0.mk (aiX_eq x es)
      have HLE := HLN
      generalize aiL x.f3 es = es2 at HM HC2 HD2 HK2 HAX HLE
      have hkl : (x.f3.map (fun y => (at_ es2 y : Int))).length = x.f3.length := List.length_map _
      obtain ⟨V, vc, rfl⟩ := Kd.S_slice HM.out.g.row
      obtain ⟨U, uc, rfl⟩ := Kd.R_slice HM.out.kid
      obtain ⟨ks, hks⟩ : ∃ ks, ks = x.f3.map (fun y => (at_ es2 y : Int)) := ⟨_, rfl⟩
      have HKQ := Aside0.mk hks
      rw [← hks] at HM hkl
      clear hks hkl
      have HGW : Aside0 (G < w.heap.size) := ⟨by have h1 := HBW.out; have h2 := HGB.out; omega⟩
      have HIN := Aside0.mk (S_isS HM.out.g.row).2
      have HSO : Aside0 (Sought wr (w.heap.size + 1) x.f0 x.f1 x.f2 U uc ks) := ⟨(blk_cell HM.out.nb 0).trans rfl, (blk_cell HM.out.nb 1).trans rfl, (blk_cell HM.out.nb 2).trans rfl, (blk_cell HM.out.nb 3).trans rfl, (Kd.R_reads' HM.out.kid).2.1, (Kd.R_reads' HM.out.kid).2.2⟩
      have HFA : Aside0 (∀ r, Go.Proofs.Ytckblabkapeigaa.Eh8.Found (ndsT es2) (likeN x.f0 x.f1 x.f2 ks) r → (x ∈ es2 ∧ r = at_ es2 x) ∨ (¬ x ∈ es2 ∧ r = -1)) := ⟨fun r h => found_at HC2.out HD2.out HK2.out (by rw [← HKQ.out]; exact h)⟩
      have b1 := (blk_cell HM.out.g.box 1).trans rfl
      by_cases hx : x ∈ es2
      · have HE2 : Aside0 (aiX x es = es2) := ⟨by rw [HAX.out, if_pos (has_iff.2 hx)]⟩
        have HX2 := Aside0.mk hx
        clear hx
        obtain ⟨a, hat⟩ : ∃ a : Nat, a = at_ es2 x := ⟨_, rfl⟩
        have HATX := Aside0.mk hat
        clear hat
        have d0 : decide ((a : Int) < 0) = false := decide_eq_false (by omega)
        go_wp2_with (go_at_call 71; refine (idxNode_any V vc (ndsT es2) (w.heap.size + 1) x.f0 x.f1 x.f2 U uc ks wr HIN.out HSO.out).mono ?_; rintro e w7 ⟨⟨r, rfl, hr⟩, hb7⟩; obtain ⟨_, rfl⟩ := (HFA.out r hr).resolve_right (fun h => h.1 HX2.out); rw [← HATX.out]; have HM7 := Aside0.mk (HM.out.below hb7); clear hr hb7)
        go_ret
        rw [HE2.out, ← HATX.out]
        exact HM7.out.old
      · have HE2 : Aside0 (aiX x es = es2 ++ [x]) := ⟨by rw [HAX.out, if_neg (fun h => hx (has_iff.1 h))]⟩
        have HX2 := Aside0.mk hx
        clear hx
        go_upto_region 9 with (go_at_call 71; refine (idxNode_any V vc (ndsT es2) (w.heap.size + 1) x.f0 x.f1 x.f2 U uc ks wr HIN.out HSO.out).mono ?_; rintro e w7 ⟨⟨r, rfl, hr⟩, hb7⟩; obtain ⟨_, rfl⟩ := (HFA.out r hr).resolve_left (fun h => HX2.out h.1); have HM7 := Aside0.mk (HM.out.below hb7); have c1 := (blk_cell HM7.out.g.box 1).trans rfl; clear hr hb7)
        clear b1
        go_upto_region 10 with fail
        clear c1
        have HMD := Aside0.mk (HM7.out.below (below_drew (Below.refl _ _)))
        refine Za.regionL (fun w' => w'.cell? ⟨G, 1, none⟩ = some (.slice V (ndsT es2).length vc) ∧ w'.cell? ⟨w.heap.size + 1, 0, none⟩ = some (.int .i64 x.f0) ∧ w'.cell? ⟨w.heap.size + 1, 1, none⟩ = some (.int .i64 x.f1) ∧ w'.cell? ⟨w.heap.size + 1, 2, none⟩ = some (.int .i64 x.f2) ∧ w'.cell? ⟨w.heap.size + 1, 3, none⟩ = some (.slice U ks.length uc) ∧ w'.cell? ⟨w.heap.size + 1, 4, none⟩ = some (.slice none 0 0) ∧ w'.cell? ⟨w.heap.size + 1, 5, none⟩ = some (.slice none 0 0) ∧ w'.cell? ⟨w.heap.size + 1, 6, none⟩ = some (.slice none 0 0) ∧ w'.cell? ⟨w.heap.size + 1, 7, none⟩ = some (.slice none 0 0) ∧ w'.cell? ⟨w.heap.size + 1, 8, none⟩ = some (.slice none 0 0) ∧ w'.cell? ⟨w.heap.size + 1, 9, none⟩ = some (.int .i64 0)) [10] (by kernel_rfl) ?_
        generalize w7.drew = wd at HMD ⊢
        have HS : (fun w' => w'.cell? ⟨G, 1, none⟩ = some (.slice V (ndsT es2).length vc) ∧ w'.cell? ⟨w.heap.size + 1, 0, none⟩ = some (.int .i64 x.f0) ∧ w'.cell? ⟨w.heap.size + 1, 1, none⟩ = some (.int .i64 x.f1) ∧ w'.cell? ⟨w.heap.size + 1, 2, none⟩ = some (.int .i64 x.f2) ∧ w'.cell? ⟨w.heap.size + 1, 3, none⟩ = some (.slice U ks.length uc) ∧ w'.cell? ⟨w.heap.size + 1, 4, none⟩ = some (.slice none 0 0) ∧ w'.cell? ⟨w.heap.size + 1, 5, none⟩ = some (.slice none 0 0) ∧ w'.cell? ⟨w.heap.size + 1, 6, none⟩ = some (.slice none 0 0) ∧ w'.cell? ⟨w.heap.size + 1, 7, none⟩ = some (.slice none 0 0) ∧ w'.cell? ⟨w.heap.size + 1, 8, none⟩ = some (.slice none 0 0) ∧ w'.cell? ⟨w.heap.size + 1, 9, none⟩ = some (.int .i64 0)) wd := ⟨(blk_cell HMD.out.g.box 1).trans rfl, (blk_cell HMD.out.nb 0).trans rfl, (blk_cell HMD.out.nb 1).trans rfl, (blk_cell HMD.out.nb 2).trans rfl, (blk_cell HMD.out.nb 3).trans rfl, (blk_cell HMD.out.nb 4).trans rfl, (blk_cell HMD.out.nb 5).trans rfl, (blk_cell HMD.out.nb 6).trans rfl, (blk_cell HMD.out.nb 7).trans rfl, (blk_cell HMD.out.nb 8).trans rfl, (blk_cell HMD.out.nb 9).trans rfl⟩
        refine Za.takeL 0 (v := ?vc0) rfl (by kernel_rfl) (by kernel_rfl) (by kernel_rfl) (by kernel_rfl) (fun _ _ _ h => h) (Or.inl ⟨by rfl, ?hyc0⟩) HS ?restc0
        case hyc0 => (intro w hSw; (try dsimp only at hSw); go_simp; try with_reducible rfl)
        (try simp only [Act.put, List.setIfInBounds_toArray, List.set_cons_zero, List.set_cons_succ])
        refine Za.takeL 1 (v := ?vc1) rfl (by kernel_rfl) (by kernel_rfl) (by kernel_rfl) (by kernel_rfl) (fun _ _ _ h => h) (Or.inl ⟨by rfl, ?hyc1⟩) HS ?restc1
        case hyc1 => (intro w hSw; (try dsimp only at hSw); go_simp; try with_reducible rfl)
        (try simp only [Act.put, List.setIfInBounds_toArray, List.set_cons_zero, List.set_cons_succ])
        refine Za.takeL 2 (v := ?vc2) rfl (by kernel_rfl) (by kernel_rfl) (by kernel_rfl) (by kernel_rfl) (fun _ _ _ h => h) (Or.inl ⟨by rfl, ?hyc2⟩) HS ?restc2
        case hyc2 => (intro w hSw; (try dsimp only at hSw); go_simp; try with_reducible rfl)
        (try simp only [Act.put, List.setIfInBounds_toArray, List.set_cons_zero, List.set_cons_succ])
        refine Za.takeL 3 (v := ?vc3) rfl (by kernel_rfl) (by kernel_rfl) (by kernel_rfl) (by kernel_rfl) (fun _ _ _ h => h) (Or.inl ⟨by rfl, ?hyc3⟩) HS ?restc3
        case hyc3 => (intro w hSw; (try dsimp only at hSw); go_simp; try with_reducible rfl)
        (try simp only [Act.put, List.setIfInBounds_toArray, List.set_cons_zero, List.set_cons_succ])
        refine Za.takeL 4 (v := ?vc4) rfl (by kernel_rfl) (by kernel_rfl) (by kernel_rfl) (by kernel_rfl) (fun _ _ _ h => h) (Or.inl ⟨by rfl, ?hyc4⟩) HS ?restc4
        case hyc4 => (intro w hSw; (try dsimp only at hSw); go_simp; try with_reducible rfl)
        (try simp only [Act.put, List.setIfInBounds_toArray, List.set_cons_zero, List.set_cons_succ])
        refine Za.takeL 5 (v := ?vc5) rfl (by kernel_rfl) (by kernel_rfl) (by kernel_rfl) (by kernel_rfl) (fun _ _ _ h => h) (Or.inl ⟨by rfl, ?hyc5⟩) HS ?restc5
        case hyc5 => (intro w hSw; (try dsimp only at hSw); go_simp; try with_reducible rfl)
        (try simp only [Act.put, List.setIfInBounds_toArray, List.set_cons_zero, List.set_cons_succ])
        clear HS
        have hb6 := below_alloc (Below.refl wd.heap.size wd) (.cells #[.int .i64 x.f0, .int .i64 x.f1, .int .i64 x.f2, .slice U ks.length uc, .slice none 0 0, .slice none 0 0, .slice none 0 0, .slice none 0 0, .slice none 0 0, .int .i64 0] 103)
        refine Za.nextL 6 (by kernel_rfl) rfl (fun K' hK => ?_)
        go_simp
        refine hK.out _ _ ⟨fun _ => ⟨(blk_cell (blk_below HMD.out.g.box hb6) 1).trans rfl, (blk_cell (blk_below HMD.out.nb hb6) 0).trans rfl, (blk_cell (blk_below HMD.out.nb hb6) 1).trans rfl, (blk_cell (blk_below HMD.out.nb hb6) 2).trans rfl, (blk_cell (blk_below HMD.out.nb hb6) 3).trans rfl, (blk_cell (blk_below HMD.out.nb hb6) 4).trans rfl, (blk_cell (blk_below HMD.out.nb hb6) 5).trans rfl, (blk_cell (blk_below HMD.out.nb hb6) 6).trans rfl, (blk_cell (blk_below HMD.out.nb hb6) 7).trans rfl, (blk_cell (blk_below HMD.out.nb hb6) 8).trans rfl, (blk_cell (blk_below HMD.out.nb hb6) 9).trans rfl⟩, ?_⟩
        clear hK K' hb6
        (try simp only [Act.put, List.setIfInBounds_toArray, List.set_cons_zero, List.set_cons_succ])
        have HSZD := Aside0.mk HMD.out.size
        have HOV := Aside0.mk ((Kd.S_R HMD.out.g.row).1)
        have HBV := Aside0.mk (Kd.R_base (Kd.S_R HMD.out.g.row))
        have HBU := Aside0.mk (Kd.R_base HMD.out.kid)
        have HKI : Aside0 (Kd.S (Kd.int .i64) 3 wd base (fun i => some i = (Value.slice U ks.length uc).ownBlock) (.slice U ks.length uc) ks) := ⟨Kd.S_lower (S_ints (Kd.R_tight rfl HMD.out.kid)) (by have := HBW.out; omega)⟩
        have HLE2 : Aside0 ((ndsT es2).length ≤ 1000) := ⟨by rw [ndsT_len]; exact HLE.out⟩
        have HSNT : Aside0 (ndsT es2 ++ [mkN ⟨x.f0, x.f1, x.f2, ks⟩] = ndsT (es2 ++ [x])) := ⟨by rw [ndsT_snoc HC2.out HK2.out]; unfold ndOf; rw [HKQ.out]⟩
        refine Za.nextL 7 (by kernel_rfl) rfl (fun K' hK => ?_)
        refine Kd.S_append_step kNode (w0 := wd) (W := wd) base (by rfl) _ _ 46 103 (.agg #[.int .i64 0, .int .i64 0, .int .i64 0, .slice none 0 0, .slice none 0 0, .slice none 0 0, .slice none 0 0, .slice none 0 0, .slice none 0 0, .int .i64 0]) 176 rfl Try.underlying46 infoNode rfl (by decide) (by decide) (.slice V (ndsT es2).length vc) (ndsT es2) (mkN ⟨x.f0, x.f1, x.f2, ks⟩) [.int .i64 x.f0, .int .i64 x.f1, .int .i64 x.f2, .slice U ks.length uc, .slice none 0 0, .slice none 0 0, .slice none 0 0, .slice none 0 0, .slice none 0 0, .int .i64 0] (fun i => P' i ∨ some i = (Value.slice U ks.length uc).ownBlock ∨ wd.heap.size ≤ i) (fun i => some i = (Value.slice U ks.length uc).ownBlock) rfl rfl (mkN_M wd base _ ⟨x.f0, x.f1, x.f2, ks⟩ HKI.out) (fun i hi => ⟨.inr (.inl hi), fun h => HMD.out.kP i hi.symm (HOV.out i h.symm)⟩) (fun i hi => .inr (.inr hi)) (Kd.S_mono HMD.out.g.row (fun i hi => ⟨.inl hi, fun h => HMD.out.kP i h.symm hi⟩)) (below_mono2 (Below.refl _ _) (by have h1 := HBW.out; have h2 := HSZD.out; omega)) (by have h1 := HBW.out; have h2 := HSZD.out; omega) (by have := HLE2.out; omega) ?_
        intro v9 w9 hs9 hb9 hg9 hat9
        obtain ⟨V9, c9, rfl⟩ := Kd.S_slice hs9
        have hk1 : (ndsT es2 ++ [mkN ⟨x.f0, x.f1, x.f2, ks⟩]).length = (ndsT es2).length + 1 := by simp
        rw [hk1] at hs9 hat9
        try rw [hk1]
        rw [HSNT.out] at hs9
        have gb9 := blk_grown HMD.out.g.box hg9 (fun h => by have := HBV.out _ h.symm; have := HGB.out; omega)
        have nb9 := blk_grown HMD.out.nb hg9 (fun h => by rcases HMD.out.pP _ (HOV.out _ h.symm) with h2 | h2 <;> omega)
        have HAO := Aside0.mk (AddMem.fin (r := ((ndsT es2).length : Int)) HMD.out HGW.out HGB.out hs9 hg9 hat9)
        refine hK.out _ _ ⟨fun _ => ⟨(blk_cell gb9 1).trans rfl, (blk_cell nb9 0).trans rfl, (blk_cell nb9 1).trans rfl, (blk_cell nb9 2).trans rfl, (blk_cell nb9 3).trans rfl, (blk_cell nb9 4).trans rfl, (blk_cell nb9 5).trans rfl, (blk_cell nb9 6).trans rfl, (blk_cell nb9 7).trans rfl, (blk_cell nb9 8).trans rfl, (blk_cell nb9 9).trans rfl⟩, ?_⟩
        have q1 := (blk_cell gb9 1).trans rfl
        have z1 := blk_frozen gb9 1
        clear hK K'
        (try simp only [Act.put, List.setIfInBounds_toArray, List.set_cons_zero, List.set_cons_succ])
        have HS : (fun w' => w'.cell? ⟨G, 1, none⟩ = some (.slice V (ndsT es2).length vc) ∧ w'.cell? ⟨w.heap.size + 1, 0, none⟩ = some (.int .i64 x.f0) ∧ w'.cell? ⟨w.heap.size + 1, 1, none⟩ = some (.int .i64 x.f1) ∧ w'.cell? ⟨w.heap.size + 1, 2, none⟩ = some (.int .i64 x.f2) ∧ w'.cell? ⟨w.heap.size + 1, 3, none⟩ = some (.slice U ks.length uc) ∧ w'.cell? ⟨w.heap.size + 1, 4, none⟩ = some (.slice none 0 0) ∧ w'.cell? ⟨w.heap.size + 1, 5, none⟩ = some (.slice none 0 0) ∧ w'.cell? ⟨w.heap.size + 1, 6, none⟩ = some (.slice none 0 0) ∧ w'.cell? ⟨w.heap.size + 1, 7, none⟩ = some (.slice none 0 0) ∧ w'.cell? ⟨w.heap.size + 1, 8, none⟩ = some (.slice none 0 0) ∧ w'.cell? ⟨w.heap.size + 1, 9, none⟩ = some (.int .i64 0)) w9 := ⟨(blk_cell gb9 1).trans rfl, (blk_cell nb9 0).trans rfl, (blk_cell nb9 1).trans rfl, (blk_cell nb9 2).trans rfl, (blk_cell nb9 3).trans rfl, (blk_cell nb9 4).trans rfl, (blk_cell nb9 5).trans rfl, (blk_cell nb9 6).trans rfl, (blk_cell nb9 7).trans rfl, (blk_cell nb9 8).trans rfl, (blk_cell nb9 9).trans rfl⟩
        refine Za.takeL 8 (v := ?vd8) rfl (by kernel_rfl) (by kernel_rfl) (by kernel_rfl) (by kernel_rfl) (fun _ _ _ h => h) (Or.inl ⟨by rfl, ?hyd8⟩) HS ?restd8
        case hyd8 => (intro w hSw; (try dsimp only at hSw); go_simp; try with_reducible rfl)
        (try simp only [Act.put, List.setIfInBounds_toArray, List.set_cons_zero, List.set_cons_succ])
        refine Za.takeL 9 (v := ?vd9) rfl (by kernel_rfl) (by kernel_rfl) (by kernel_rfl) (by kernel_rfl) (fun _ _ _ h => h) (Or.inl ⟨by rfl, ?hyd9⟩) HS ?restd9
        case hyd9 => (intro w hSw; (try dsimp only at hSw); go_simp; try with_reducible rfl)
        (try simp only [Act.put, List.setIfInBounds_toArray, List.set_cons_zero, List.set_cons_succ])
        clear HS
        refine Za.nextL 10 (by kernel_rfl) rfl (fun K' hK => ?_)
        go_simp
        refine hK.out _ _ ⟨fun h => absurd (by simp) h, ?_⟩
        clear hK K'
        (try simp only [Act.put, List.setIfInBounds_toArray, List.set_cons_zero, List.set_cons_succ])
        refine Za.Walk.done (by kernel_rfl) ?_
        clear q1 z1 gb9 nb9 hs9 hb9 hg9 hat9 hk1
        have HAT2 : Aside0 (at_ (aiX x es) x = (ndsT es2).length) := ⟨by rw [HE2.out, ndsT_len]; exact at_new HX2.out⟩
        go_wp2
        go_ret
        rw [HAT2.out, HE2.out]
        exact HAO.out
theorem add_any (x : Ex) (hc : cntL x.f3 ≤ 1000) : AddCall x := add_of x (fun y hy =>
  have := cnt_mem hy
  add_any y (by omega)) (by have := len_le_cnt x.f3; omega)
termination_by cntL x.f3
end Go.Proofs.Ytckblabkapeigaa.En8

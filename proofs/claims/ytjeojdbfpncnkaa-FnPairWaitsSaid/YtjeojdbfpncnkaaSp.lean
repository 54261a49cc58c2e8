/- l3Put: what is put into a list of one's own, in place. -/
import Derived.Test.YtjeojdbfpncnkaaSi
set_option linter.unusedVariables false
set_option linter.unusedSimpArgs false
namespace Go.Proofs.Ytjeojdbfpncnkaa.Sp
open Go.RowKit Go.Proofs.YtjeojdbfpncnkaaW.PrintWords Go.Proofs.Ytjeojdbfpncnkaa.Wd Go.Proofs.Ytjeojdbfpncnkaa.Pu Go.Proofs.Ytjeojdbfpncnkaa.Ca Go.Proofs.Ytjeojdbfpncnkaa.Cb Go.Proofs.Ytjeojdbfpncnkaa.Cd Go.Proofs.Ytjeojdbfpncnkaa.Ci Go.Proofs.Ytjeojdbfpncnkaa.Cp Go.Proofs.Ytjeojdbfpncnkaa.Ce Go.Proofs.Ytjeojdbfpncnkaa.Cg Go.Proofs.Ytjeojdbfpncnkaa.Cf Go.Proofs.Ytjeojdbfpncnkaa.Sd Go.Proofs.Ytjeojdbfpncnkaa.Se Go.Proofs.Ytjeojdbfpncnkaa.Sf Go.Proofs.Ytjeojdbfpncnkaa.Sh Go.Proofs.Ytjeojdbfpncnkaa.Sc Go.Proofs.Ytjeojdbfpncnkaa.Si

def PutOut (w0 w w' : World) (base : Nat) (ok : Nat → Prop) (v : Value) (l' : List Occ) (e : Ending) : Prop :=
  ∃ v', e = .returned v' ∧ kO.R 25 w' base ok v' l' ∧ w.grownBy w' v.ownBlock ∧ (v'.ownBlock = v.ownBlock ∨ ∃ b, v'.ownBlock = some b ∧ w.heap.size ≤ b)

theorem at_step' {l : List Occ} {o : Occ} (hs : Sorted l) {k : Nat} (hk : k ≤ l.length) (hlo : ∀ j, j < k → lt (l.getD j zO) o) (hst : k < l.length → ¬ lt (l.getD k zO) o) : At l o k :=
  ⟨hk, hlo, fun j hj hjl => by
    by_cases e : j = k
    · rw [e]; exact hst (by omega)
    · intro h
      exact hst (by omega) (lt_trans (sorted_getD hs (by omega) hjl) h)⟩

set_option maxHeartbeats 2000000 in
set_option maxRecDepth 100000 in
theorem oPut_any (w0 : World) (base : Nat) (ok : Nat → Prop) (v : Value) (l : List Occ) (B : Option Addr) (c2 : Nat) (o : Occ) (w : World) (hw : Below w0.heap.size w0 w) (hs : Sorted l) (hl : l.length ≤ 1048576) (hR : kO.R 25 w base ok v l)
    (ho : IsO w o B c2) (lo : o.f2.length ≤ 1048576) (hbase : base ≤ w.heap.size) (hfresh : ∀ k, w.heap.size ≤ k → ok k) :
    Calls Try.prog 106 #[v, .agg #[.int .i64 o.f0, .int .i64 o.f1, .slice B o.f2.length c2]] w fun e w' => PutOut w0 w w' base ok v (put l o) e := by
  obtain ⟨A, c, rfl, hlc, hC⟩ := Kd.R_reads hR
  obtain ⟨hb, k0, k1, k2⟩ := box3 w (.int .i64 o.f0) (.int .i64 o.f1) (.slice B o.f2.length c2) 25
  have bx := box1 w (.int .i64 o.f0) (.int .i64 o.f1) (.slice B o.f2.length c2) 25
  have hC0 := Kd.C_below (hC) hb
  have hI0 := ho.below hb
  have hR0 := Kd.R_below hR hb
  have HB0 := Aside0.mk hb
  have HF := Aside0.mk hfresh
  go_enter Try.func106, Try.ntmps106
  go_wp2
  generalize w.alloc (.cells #[.int .i64 o.f0, .int .i64 o.f1, .slice B o.f2.length c2] 25) = W at k0 k1 k2 bx hC0 hI0 hR0 HB0 ⊢
  clear hb hC
  go_loopw [5] (fun vi wr => ∃ k : Nat, k ≤ l.length ∧ vi = .int .i64 k ∧ Aside0 (∀ j, j < k → lt (l.getD j zO) o) ∧ Aside0 (Below W.heap.size W wr)) (fun vi _ => l.length - (intOf vi).toNat)
  case atStart => exact ⟨0, Nat.zero_le _, rfl, ⟨fun j hj => absurd hj (Nat.not_lt_zero _)⟩, ⟨Below.refl _ _⟩⟩
  case round =>
    obtain ⟨k, hk, rfl, HL, HB⟩ := hrel
    have e0 := cellE (pw_cell_below HB.out k0)
    have e1 := cellE (pw_cell_below HB.out k1)
    have e2 := cellE (pw_cell_below HB.out k2)
    by_cases hlt : k < l.length
    · have g1 : decide (k < l.length) = true := decide_eq_true hlt
      have i1 : (k : Int) < l.length := by omega
      obtain ⟨ad, A2, c3, rfl, ha, hb, hc, hl2, hC2⟩ := atO (Kd.C_below hC0 HB.out) k hlt
      have hIs : IsO wr (l.getD k zO) A2 c3 := ⟨hl2, hC2⟩
      have HG : Aside0 (l.getD k zO = l.getD k zO) := ⟨rfl⟩
      clear hl2 hC2
      generalize hy : l.getD k zO = y at ha hb hc hIs
      have HY := Aside0.mk hy
      clear hy HG
      replace ha := cellE ha
      replace hb := cellE hb
      replace hc := cellE hc
      have hIo := hI0.below HB.out
      have hcl := fun s : Ext wr => sLess_any y o A2 B c3 c2 s.1 (hIs.ext s) (hIo.ext s)
      by_cases hcm : cmpO y o < 0
      · have hd : decide (cmpO y o < 0) = true := decide_eq_true hcm
        have HS := Aside0.mk (show ∀ j, j < k + 1 → lt (l.getD j zO) o from fun j hj => by
          by_cases e : j = k
          · rw [e, HY.out]; exact hcm
          · exact HL.out j (by omega))
        rw [hd] at hcl
        clear hcm hd
        go_wp2
        refine region_ext (W := wr) (Below.refl _ _) (by kernel_rfl) (by kernel_rfl) ?_
        repeat (first | go_big_quiet_step ((first | (go_at_call 39; exact calls_ext (hcl _)))) | quiet_step ((first | (go_at_call 39; exact calls_ext (hcl _)))))
        refine wpQuiet_nil ?_
        rintro _ ⟨s, rfl⟩
        have HB3 := Aside0.mk (below_then HB.out HB.out.size s.2)
        generalize s.1 = W2 at HB3
        go_wp2
        go_roundw
        case rel => exact ⟨k + 1, by omega, by go_num, HS, HB3⟩
        case measure => simp [intOf]; omega
      · have hd : decide (cmpO y o < 0) = false := decide_eq_false hcm
        have HA := Aside0.mk (at_step' hs hk HL.out (fun _ h => hcm (by rw [← HY.out]; exact h)))
        rw [hd] at hcl
        clear hcm hd
        go_wp2
        refine region_ext (W := wr) (Below.refl _ _) (by kernel_rfl) (by kernel_rfl) ?_
        repeat (first | go_big_quiet_step ((first | (go_at_call 39; exact calls_ext (hcl _)))) | quiet_step ((first | (go_at_call 39; exact calls_ext (hcl _)))))
        refine wpQuiet_nil ?_
        rintro _ ⟨s, rfl⟩
        have HB3 := Aside0.mk (below_then HB.out HB.out.size s.2)
        have a1 := fun s2 : Ext s.1 => ha ⟨s2.1, below_then s.2 s.2.size s2.2⟩
        have a2 := fun s2 : Ext s.1 => hb ⟨s2.1, below_then s.2 s.2.size s2.2⟩
        have a3 := fun s2 : Ext s.1 => hc ⟨s2.1, below_then s.2 s.2.size s2.2⟩
        have b1 := fun s2 : Ext s.1 => e0 ⟨s2.1, below_then s.2 s.2.size s2.2⟩
        have b2 := fun s2 : Ext s.1 => e1 ⟨s2.1, below_then s.2 s.2.size s2.2⟩
        have b3 := fun s2 : Ext s.1 => e2 ⟨s2.1, below_then s.2 s.2.size s2.2⟩
        have hIs2 := hIs.below s.2
        simp only [] at a1 a2 a3 b1 b2 b3
        generalize s.1 = W2 at HB3 a1 a2 a3 b1 b2 b3 hIs2 ⊢
        have hIo2 := hI0.below HB3.out
        have hcl3 := fun s : Ext W2 => sSame_any y o A2 B c3 c2 s.1 (hIs2.ext s) (hIo2.ext s)
        clear hcl ha hb hc e0 e1 e2
        by_cases hsm : cmpO y o = 0
        · have hd : decide (cmpO y o = 0) = true := decide_eq_true hsm
          have HE := Aside0.mk (at_hit hs HA.out (show hit l o k = true by unfold hit; rw [decide_eq_true hlt, HY.out, hd]; rfl))
          rw [hd] at hcl3
          clear hsm hd
          go_wp2
          refine region_ext (W := W2) (Below.refl _ _) (by kernel_rfl) (by kernel_rfl) ?_
          repeat (first | go_big_quiet_step ((first | (go_at_call 120; exact calls_ext (hcl3 _)))) | quiet_step ((first | (go_at_call 120; exact calls_ext (hcl3 _)))))
          refine wpQuiet_nil ?_
          rintro _ ⟨s, rfl⟩
          have HB4 := Aside0.mk (below_then HB0.out HB0.out.size (below_then HB3.out HB3.out.size s.2))
          generalize s.1 = W3 at HB4
          go_wp2
          go_ret
          exact ⟨_, rfl, by rw [HE.out]; exact Kd.R_below hR HB4.out, grown_of_below HB4.out _, .inl rfl⟩
        · have hd : decide (cmpO y o = 0) = false := decide_eq_false hsm
          have HE := Aside0.mk (at_ins hs HA.out (show hit l o k = false by unfold hit; rw [HY.out, hd]; simp))
          rw [hd] at hcl3
          clear hsm hd
          go_wp2
          refine region_ext (W := W2) (Below.refl _ _) (by kernel_rfl) (by kernel_rfl) ?_
          repeat (first | go_big_quiet_step ((first | (go_at_call 120; exact calls_ext (hcl3 _)))) | quiet_step ((first | (go_at_call 120; exact calls_ext (hcl3 _)))))
          refine wpQuiet_nil ?_
          rintro _ ⟨s, rfl⟩
          have HB4 := Aside0.mk (below_then HB3.out HB3.out.size s.2)
          generalize s.1 = W3 at HB4
          have hR3 := Kd.R_below hR0 HB4.out
          have hR3b := Kd.R_mono (Kd.R_bound hR3) (ok' := fun j => ok j ∧ j < W3.heap.size) (fun j hj => ⟨hj.1, hj.2.2.1⟩)
          have hown : ∀ j, (Value.slice (some ad) l.length c).ownBlock = some j → j < w.heap.size := Kd.R_lt hR
          have hsz : w.heap.size < W3.heap.size := Nat.lt_of_lt_of_le (World.block_lt_of_cell? W _ k0) HB4.out.size
          have hbs : base ≤ W3.heap.size := Nat.le_trans hbase (Nat.le_of_lt hsz)
          have p0 := pw_cell_below HB4.out k0
          have p1 := pw_cell_below HB4.out k1
          have p2 := pw_cell_below HB4.out k2
          obtain ⟨A', hcut, hA'⟩ := cutO (some ad) l.length c k hk
          have htk := fun W => takeX (some ad) (R_head' hR3) l.length c k (by omega) W
          have hld : (l.drop k).length = l.length - k := List.length_drop
          clear hR0
          go_wp2_with ((with_reducible refine gate_dst (N := 38) rfl ?_); refine Kd.R_append_rows kO (w0 := W3.alloc (.cells #[] 25)) base rfl _ _ 27 25 (.agg #[.int .i64 0, .int .i64 0, .slice none 0 0]) 40 rfl Try.underlying27 (infoO) rfl (by decide) (by decide) (.slice (some ⟨W3.heap.size, 0, none⟩) 0 0) [] (l.drop k) A' (l.length - k) (c - k) (fun j => ok j ∧ some j ≠ (Value.slice (some ad) l.length c).ownBlock) (fun j => (ok j ∧ j < W3.heap.size) ∧ some j ≠ (Value.slice (some ad) l.length c).ownBlock) rfl rfl (R_empty2 kO (blk_new _ _) hbs ⟨HF.out _ (Nat.le_of_lt hsz), fun h => by have := hown _ h.symm; omega⟩) (R_src_drop (Kd.R_alloc hR3b _) hk hA') (fun _ _ h => h) (fun j hj => ⟨⟨hj.1.1, hj.2⟩, fun h => by simp [Value.ownBlock] at h; have := hj.1.2; omega⟩) (fun j hj => ⟨HF.out _ (by simp at hj; omega), fun h => by simp at hj; have := hown _ h.symm; omega⟩) (Below.refl _ _) (by simp; omega) (by simp; omega) ?_; intro v6 w6 hr6 _ hg6 _; obtain ⟨A6, c6, rfl⟩ := Kd.R_slice hr6; simp only [List.nil_append] at hr6; rw [hld] at hr6; have HB6 : Aside0 (Below W3.heap.size W3 w6) := ⟨Below.grown (below_alloc (Below.refl _ _) _) hg6 (by simp) (fun j hj => by simp [Value.ownBlock] at hj; omega)⟩; have HR6 := Aside0.mk hr6; clear hr6 hg6)
          have bx6 := blk_below bx (below_then HB4.out HB4.out.size HB6.out)
          have HBW := Aside0.mk (below_then HB0.out HB0.out.size (below_then HB4.out HB4.out.size HB6.out))
          have hI6 := ho.below HBW.out
          have hR6 := Kd.R_below hR HBW.out
          have hws : w.heap.size < w6.heap.size := Nat.lt_of_lt_of_le hsz HB6.out.size
          have hkl : (l.take k).length = k := by rw [List.length_take]; omega
          clear hcut hA' hR3 hR3b p0 p1 p2 hIs hIs2 hIo hIo2 hcl3 a1 a2 a3 b1 b2 b3 hI0 hC0
          have F : ∀ w', Below w6.heap.size w6 w' → w'.cell? ⟨w.heap.size, 0, none⟩ = some (.int .i64 o.f0) ∧ w'.cell? ⟨w.heap.size, 1, none⟩ = some (.int .i64 o.f1) ∧ w'.cell? ⟨w.heap.size, 2, none⟩ = some (.slice B o.f2.length c2) :=
            fun w' h => ⟨pw_cell_below h ((blk_cell bx6 0).trans rfl), pw_cell_below h ((blk_cell bx6 1).trans rfl), pw_cell_below h ((blk_cell bx6 2).trans rfl)⟩
          go_region_held3 (fun w' => w'.cell? ⟨w.heap.size, 0, none⟩ = some (.int .i64 o.f0) ∧ w'.cell? ⟨w.heap.size, 1, none⟩ = some (.int .i64 o.f1) ∧ w'.cell? ⟨w.heap.size, 2, none⟩ = some (.slice B o.f2.length c2))
            (first | (with_reducible exact F _ (Below.refl _ _)) | (with_reducible exact F _ (below_drew (Below.refl _ _))) | (with_reducible exact ⟨m0, m1, m2⟩) | (with_reducible exact ⟨n0, n1, n2⟩) | (with_reducible exact F _ hk7) | (with_reducible exact F _ (below_alloc hk7 _)) | (with_reducible exact F _ (below_drew (below_alloc hk7 _))) | (with_reducible exact F _ (below_drew hk7)))
            (first
              | (go_at_call 54; refine (sCopy_any B c2 o _ (by first | exact hI6 | exact hI6.below (below_drew (Below.refl _ _))) lo).mono ?_; rintro e w7 ⟨v7, rfl, ho7, h7⟩; obtain ⟨A7, c7, rfl⟩ := Kd.R_slice ho7; have hk7 : Below w6.heap.size w6 w7 := ⟨h7.os, h7.tape, h7.output, h7.size, h7.block⟩; have HO7 : Aside0 ((Kd.int .i64).R 3 w7 w6.heap.size (fun _ => True) (.slice A7 o.f2.length c7) o.f2) := ⟨ho7⟩)
              | (refine Kd.R_append_step kO (w0 := w7) base (by rfl) _ _ 27 25 (.agg #[.int .i64 0, .int .i64 0, .slice none 0 0]) 40 rfl Try.underlying27 (infoO) rfl (by decide) (by decide) (.slice (some ad) k c) (l.take k) o [.int .i64 o.f0, .int .i64 o.f1, .slice A7 o.f2.length c7] ok (fun j => w6.heap.size ≤ j) rfl rfl (kO_mkM _ _ _ o (Kd.R_lower (Kd.R_mono (Kd.R_bound HO7.out) (fun j hj => hj.2.1)) (by omega))) (fun j hj => ⟨HF.out _ (by omega), fun h => by have := hown _ h.symm; omega⟩) (fun j hj => HF.out _ (by have := hk7.size; omega)) (Kd.R_take (Kd.R_below hR6 hk7) hk) (Below.refl _ _) (by have := hk7.size; omega) (by rw [hkl]; omega) ?_; intro v8 w8 hr8 _ hg8 hat8; obtain ⟨A8, c8, rfl⟩ := Kd.R_slice hr8; have hne8 : some w.heap.size ≠ (Value.slice (some ad) k c).ownBlock := fun h => by { have := hown _ h.symm; omega }; have bx8 := blk_grown (blk_below bx6 hk7) hg8 hne8; have m0 : w8.cell? ⟨w.heap.size, 0, none⟩ = some (.int .i64 o.f0) := (blk_cell bx8 0).trans rfl; have m1 : w8.cell? ⟨w.heap.size, 1, none⟩ = some (.int .i64 o.f1) := (blk_cell bx8 1).trans rfl; have m2 : w8.cell? ⟨w.heap.size, 2, none⟩ = some (.slice B o.f2.length c2) := (blk_cell bx8 2).trans rfl; have HR8 := Aside0.mk hr8; have HG8 := Aside0.mk hg8; have HAT8 := Aside0.mk hat8; clear hr8 hg8 hat8)
              | (refine Kd.R_append_rows_step kO (w0 := w8) base (by rfl) _ _ 27 25 (.agg #[.int .i64 0, .int .i64 0, .slice none 0 0]) 40 rfl Try.underlying27 (infoO) rfl (by decide) (by decide) (.slice A8 (l.take k ++ [o]).length c8) (l.take k ++ [o]) (l.drop k) A6 (l.length - k) c6 ok (fun j => ((ok j ∧ some j ≠ (Value.slice (some ad) l.length c).ownBlock) ∧ j < w7.heap.size) ∧ some j ≠ (Value.slice A6 (l.length - k) c6).ownBlock) rfl rfl HR8.out (R_src (Kd.R_grown (Kd.R_mono (Kd.R_bound (Kd.R_below HR6.out hk7)) (ok' := fun j => (ok j ∧ some j ≠ (Value.slice (some ad) l.length c).ownBlock) ∧ j < w7.heap.size) (fun j hj => ⟨hj.1, hj.2.2.1⟩)) HG8.out (fun j hj => hj.1.2))) (fun _ _ h => h) (fun j hj => ⟨hj.1.1.1, fun h => by rcases HAT8.out with h2 | ⟨b, h2, h3⟩ <;> rw [h2] at h; exact hj.1.1.2 h; injection h with h; have := hj.1.2; omega⟩) (fun j hj => HF.out _ (by have := HG8.out.size; have := hk7.size; omega)) (Below.refl _ _) (by have := HG8.out.size; have := hk7.size; omega) (by rw [List.length_append, hkl]; simp; omega) ?_; intro v9 w9 hr9 _ hg9 hat9; obtain ⟨A9, c9, rfl⟩ := Kd.R_slice hr9; have bx9 := blk_grown bx8 hg9 (fun h => by rcases HAT8.out with h2 | ⟨b, h2, h3⟩ <;> rw [h2] at h; exact hne8 h; injection h with h; have := hk7.size; omega); have n0 : w9.cell? ⟨w.heap.size, 0, none⟩ = some (.int .i64 o.f0) := (blk_cell bx9 0).trans rfl; have n1 : w9.cell? ⟨w.heap.size, 1, none⟩ = some (.int .i64 o.f1) := (blk_cell bx9 1).trans rfl; have n2 : w9.cell? ⟨w.heap.size, 2, none⟩ = some (.slice B o.f2.length c2) := (blk_cell bx9 2).trans rfl; have HR9 := Aside0.mk hr9; have HG9 := Aside0.mk hg9; have HAT9 := Aside0.mk hat9; clear hr9 hg9 hat9))
          all_goals
            have hln : (l.take k ++ [o] ++ l.drop k).length = k + (l.length - k + 1) := by simp; omega
            have hE9 : l.take k ++ [o] ++ l.drop k = put l o := by rw [← HE.out]; simp [insO]
            have r9 := HR9.out
            have t9 := HAT9.out
            rw [hln] at r9 t9
            rw [hE9] at r9
            have HB7 := below_then HBW.out HBW.out.size hk7
            have G9 : w.grownBy w9 (Value.slice (some ad) l.length c).ownBlock := grown_new (grown_new (grown_of_below HB7 _) HG8.out (fun j hj => .inr hj.symm)) HG9.out (fun j hj => by
              rcases HAT8.out with h2 | ⟨b, h2, h3⟩
              · rw [h2] at hj; exact .inr hj.symm
              · rw [h2] at hj; injection hj with hj; have := HB7.size; exact .inl (by omega))
            have T9 : (Value.slice A9 (k + (l.length - k + 1)) c9).ownBlock = (Value.slice (some ad) l.length c).ownBlock ∨ ∃ b, (Value.slice A9 (k + (l.length - k + 1)) c9).ownBlock = some b ∧ w.heap.size ≤ b := by
              rcases t9 with h1 | ⟨b, h1, h2⟩
              · rcases HAT8.out with h3 | ⟨b, h3, h4⟩
                · exact .inl (h1.trans h3)
                · exact .inr ⟨b, h1.trans h3, by have := HB7.size; omega⟩
              · exact .inr ⟨b, h1, by have := HB7.size; have := HG8.out.size; omega⟩
            have HP := Aside0.mk (show PutOut w0 w w9 base ok (Value.slice (some ad) l.length c) (put l o) (.returned (Value.slice A9 (k + (l.length - k + 1)) c9)) from ⟨_, rfl, r9, G9, T9⟩)
            clear r9 t9 hE9 hln G9 T9
            go_wp2
            go_ret
            exact HP.out
    · have hke : k = l.length := by omega
      have g1 : decide (k < l.length) = false := decide_eq_false hlt
      have i1 : ¬ (k : Int) < l.length := by omega
      have HA := Aside0.mk (at_step' hs hk HL.out (fun h => absurd h hlt))
      have HE := Aside0.mk (at_ins hs HA.out (show hit l o k = false by unfold hit; rw [decide_eq_false hlt]; rfl))
      clear hke
      go_wp2
      refine region_ext (W := wr) (Below.refl _ _) (by kernel_rfl) (by kernel_rfl) ?_
      repeat (first | go_big_quiet_step (fail) | quiet_step (fail))
      refine wpQuiet_nil ?_
      rintro _ ⟨s, rfl⟩
      have HB3 := Aside0.mk (below_then HB.out HB.out.size s.2)
      have b1 := fun s2 : Ext s.1 => e0 ⟨s2.1, below_then s.2 s.2.size s2.2⟩
      have b2 := fun s2 : Ext s.1 => e1 ⟨s2.1, below_then s.2 s.2.size s2.2⟩
      have b3 := fun s2 : Ext s.1 => e2 ⟨s2.1, below_then s.2 s.2.size s2.2⟩
      simp only [] at b1 b2 b3
      generalize s.1 = W2 at HB3 b1 b2 b3 ⊢
      clear e0 e1 e2
      go_wp2
      refine region_ext (W := W2) (Below.refl _ _) (by kernel_rfl) (by kernel_rfl) ?_
      repeat (first | go_big_quiet_step (fail) | quiet_step (fail))
      refine wpQuiet_nil ?_
      rintro _ ⟨s, rfl⟩
      have HB4 := Aside0.mk (below_then HB3.out HB3.out.size s.2)
      generalize s.1 = W3 at HB4
      have hR3 := Kd.R_below hR0 HB4.out
      have hR3b := Kd.R_mono (Kd.R_bound hR3) (ok' := fun j => ok j ∧ j < W3.heap.size) (fun j hj => ⟨hj.1, hj.2.2.1⟩)
      have hown : ∀ j, (Value.slice A l.length c).ownBlock = some j → j < w.heap.size := Kd.R_lt hR
      have hsz : w.heap.size < W3.heap.size := Nat.lt_of_lt_of_le (World.block_lt_of_cell? W _ k0) HB4.out.size
      have hbs : base ≤ W3.heap.size := Nat.le_trans hbase (Nat.le_of_lt hsz)
      have p0 := pw_cell_below HB4.out k0
      have p1 := pw_cell_below HB4.out k1
      have p2 := pw_cell_below HB4.out k2
      obtain ⟨A', hcut, hA'⟩ := cutO A l.length c k hk
      have htk := fun W => takeX A (R_head' hR3) l.length c k (by omega) W
      have hld : (l.drop k).length = l.length - k := List.length_drop
      clear hR0
      go_wp2_with ((with_reducible refine gate_dst (N := 38) rfl ?_); refine Kd.R_append_rows kO (w0 := W3.alloc (.cells #[] 25)) base rfl _ _ 27 25 (.agg #[.int .i64 0, .int .i64 0, .slice none 0 0]) 40 rfl Try.underlying27 (infoO) rfl (by decide) (by decide) (.slice (some ⟨W3.heap.size, 0, none⟩) 0 0) [] (l.drop k) A' (l.length - k) (c - k) (fun j => ok j ∧ some j ≠ (Value.slice A l.length c).ownBlock) (fun j => (ok j ∧ j < W3.heap.size) ∧ some j ≠ (Value.slice A l.length c).ownBlock) rfl rfl (R_empty2 kO (blk_new _ _) hbs ⟨HF.out _ (Nat.le_of_lt hsz), fun h => by have := hown _ h.symm; omega⟩) (R_src_drop (Kd.R_alloc hR3b _) hk hA') (fun _ _ h => h) (fun j hj => ⟨⟨hj.1.1, hj.2⟩, fun h => by simp [Value.ownBlock] at h; have := hj.1.2; omega⟩) (fun j hj => ⟨HF.out _ (by simp at hj; omega), fun h => by simp at hj; have := hown _ h.symm; omega⟩) (Below.refl _ _) (by simp; omega) (by simp; omega) ?_; intro v6 w6 hr6 _ hg6 _; obtain ⟨A6, c6, rfl⟩ := Kd.R_slice hr6; simp only [List.nil_append] at hr6; rw [hld] at hr6; have HB6 : Aside0 (Below W3.heap.size W3 w6) := ⟨Below.grown (below_alloc (Below.refl _ _) _) hg6 (by simp) (fun j hj => by simp [Value.ownBlock] at hj; omega)⟩; have HR6 := Aside0.mk hr6; clear hr6 hg6)
      have hOwn : (Value.slice A k c).ownBlock = (Value.slice A l.length c).ownBlock := by cases A <;> rfl
      have bx6 := blk_below bx (below_then HB4.out HB4.out.size HB6.out)
      have HBW := Aside0.mk (below_then HB0.out HB0.out.size (below_then HB4.out HB4.out.size HB6.out))
      have hI6 := ho.below HBW.out
      have hR6 := Kd.R_below hR HBW.out
      have hws : w.heap.size < w6.heap.size := Nat.lt_of_lt_of_le hsz HB6.out.size
      have hkl : (l.take k).length = k := by rw [List.length_take]; omega
      clear hcut hA' hR3 hR3b p0 p1 p2 hI0 hC0 b1 b2 b3
      have F : ∀ w', Below w6.heap.size w6 w' → w'.cell? ⟨w.heap.size, 0, none⟩ = some (.int .i64 o.f0) ∧ w'.cell? ⟨w.heap.size, 1, none⟩ = some (.int .i64 o.f1) ∧ w'.cell? ⟨w.heap.size, 2, none⟩ = some (.slice B o.f2.length c2) :=
        fun w' h => ⟨pw_cell_below h ((blk_cell bx6 0).trans rfl), pw_cell_below h ((blk_cell bx6 1).trans rfl), pw_cell_below h ((blk_cell bx6 2).trans rfl)⟩
      go_region_held3 (fun w' => w'.cell? ⟨w.heap.size, 0, none⟩ = some (.int .i64 o.f0) ∧ w'.cell? ⟨w.heap.size, 1, none⟩ = some (.int .i64 o.f1) ∧ w'.cell? ⟨w.heap.size, 2, none⟩ = some (.slice B o.f2.length c2))
        (first | (with_reducible exact F _ (Below.refl _ _)) | (with_reducible exact F _ (below_drew (Below.refl _ _))) | (with_reducible exact ⟨m0, m1, m2⟩) | (with_reducible exact ⟨n0, n1, n2⟩) | (with_reducible exact F _ hk7) | (with_reducible exact F _ (below_alloc hk7 _)) | (with_reducible exact F _ (below_drew (below_alloc hk7 _))) | (with_reducible exact F _ (below_drew hk7)))
        (first
          | (go_at_call 54; refine (sCopy_any B c2 o _ (by first | exact hI6 | exact hI6.below (below_drew (Below.refl _ _))) lo).mono ?_; rintro e w7 ⟨v7, rfl, ho7, h7⟩; obtain ⟨A7, c7, rfl⟩ := Kd.R_slice ho7; have hk7 : Below w6.heap.size w6 w7 := ⟨h7.os, h7.tape, h7.output, h7.size, h7.block⟩; have HO7 : Aside0 ((Kd.int .i64).R 3 w7 w6.heap.size (fun _ => True) (.slice A7 o.f2.length c7) o.f2) := ⟨ho7⟩)
          | (refine Kd.R_append_step kO (w0 := w7) base (by rfl) _ _ 27 25 (.agg #[.int .i64 0, .int .i64 0, .slice none 0 0]) 40 rfl Try.underlying27 (infoO) rfl (by decide) (by decide) (.slice A k c) (l.take k) o [.int .i64 o.f0, .int .i64 o.f1, .slice A7 o.f2.length c7] ok (fun j => w6.heap.size ≤ j) rfl rfl (kO_mkM _ _ _ o (Kd.R_lower (Kd.R_mono (Kd.R_bound HO7.out) (fun j hj => hj.2.1)) (by omega))) (fun j hj => ⟨HF.out _ (by omega), fun h => by have := hown _ (hOwn.symm.trans h.symm); omega⟩) (fun j hj => HF.out _ (by have := hk7.size; omega)) (Kd.R_take (Kd.R_below hR6 hk7) hk) (Below.refl _ _) (by have := hk7.size; omega) (by rw [hkl]; omega) ?_; intro v8 w8 hr8 _ hg8 hat8; rw [hOwn] at hg8 hat8; obtain ⟨A8, c8, rfl⟩ := Kd.R_slice hr8; have hne8 : some w.heap.size ≠ (Value.slice A l.length c).ownBlock := fun h => by { have := hown _ h.symm; omega }; have bx8 := blk_grown (blk_below bx6 hk7) hg8 hne8; have m0 : w8.cell? ⟨w.heap.size, 0, none⟩ = some (.int .i64 o.f0) := (blk_cell bx8 0).trans rfl; have m1 : w8.cell? ⟨w.heap.size, 1, none⟩ = some (.int .i64 o.f1) := (blk_cell bx8 1).trans rfl; have m2 : w8.cell? ⟨w.heap.size, 2, none⟩ = some (.slice B o.f2.length c2) := (blk_cell bx8 2).trans rfl; have HR8 := Aside0.mk hr8; have HG8 := Aside0.mk hg8; have HAT8 := Aside0.mk hat8; clear hr8 hg8 hat8)
          | (refine Kd.R_append_rows_step kO (w0 := w8) base (by rfl) _ _ 27 25 (.agg #[.int .i64 0, .int .i64 0, .slice none 0 0]) 40 rfl Try.underlying27 (infoO) rfl (by decide) (by decide) (.slice A8 (l.take k ++ [o]).length c8) (l.take k ++ [o]) (l.drop k) A6 (l.length - k) c6 ok (fun j => ((ok j ∧ some j ≠ (Value.slice A l.length c).ownBlock) ∧ j < w7.heap.size) ∧ some j ≠ (Value.slice A6 (l.length - k) c6).ownBlock) rfl rfl HR8.out (R_src (Kd.R_grown (Kd.R_mono (Kd.R_bound (Kd.R_below HR6.out hk7)) (ok' := fun j => (ok j ∧ some j ≠ (Value.slice A l.length c).ownBlock) ∧ j < w7.heap.size) (fun j hj => ⟨hj.1, hj.2.2.1⟩)) HG8.out (fun j hj => hj.1.2))) (fun _ _ h => h) (fun j hj => ⟨hj.1.1.1, fun h => by rcases HAT8.out with h2 | ⟨b, h2, h3⟩ <;> rw [h2] at h; exact hj.1.1.2 h; injection h with h; have := hj.1.2; omega⟩) (fun j hj => HF.out _ (by have := HG8.out.size; have := hk7.size; omega)) (Below.refl _ _) (by have := HG8.out.size; have := hk7.size; omega) (by rw [List.length_append, hkl]; simp; omega) ?_; intro v9 w9 hr9 _ hg9 hat9; obtain ⟨A9, c9, rfl⟩ := Kd.R_slice hr9; have bx9 := blk_grown bx8 hg9 (fun h => by rcases HAT8.out with h2 | ⟨b, h2, h3⟩ <;> rw [h2] at h; exact hne8 h; injection h with h; have := hk7.size; omega); have n0 : w9.cell? ⟨w.heap.size, 0, none⟩ = some (.int .i64 o.f0) := (blk_cell bx9 0).trans rfl; have n1 : w9.cell? ⟨w.heap.size, 1, none⟩ = some (.int .i64 o.f1) := (blk_cell bx9 1).trans rfl; have n2 : w9.cell? ⟨w.heap.size, 2, none⟩ = some (.slice B o.f2.length c2) := (blk_cell bx9 2).trans rfl; have HR9 := Aside0.mk hr9; have HG9 := Aside0.mk hg9; have HAT9 := Aside0.mk hat9; clear hr9 hg9 hat9))
      all_goals
        have hln : (l.take k ++ [o] ++ l.drop k).length = k + (l.length - k + 1) := by simp; omega
        have hE9 : l.take k ++ [o] ++ l.drop k = put l o := by rw [← HE.out]; simp [insO]
        have r9 := HR9.out
        have t9 := HAT9.out
        rw [hln] at r9 t9
        rw [hE9] at r9
        have HB7 := below_then HBW.out HBW.out.size hk7
        have G9 : w.grownBy w9 (Value.slice A l.length c).ownBlock := grown_new (grown_new (grown_of_below HB7 _) HG8.out (fun j hj => .inr hj.symm)) HG9.out (fun j hj => by
          rcases HAT8.out with h2 | ⟨b, h2, h3⟩
          · rw [h2] at hj; exact .inr hj.symm
          · rw [h2] at hj; injection hj with hj; have := HB7.size; exact .inl (by omega))
        have T9 : (Value.slice A9 (k + (l.length - k + 1)) c9).ownBlock = (Value.slice A l.length c).ownBlock ∨ ∃ b, (Value.slice A9 (k + (l.length - k + 1)) c9).ownBlock = some b ∧ w.heap.size ≤ b := by
          rcases t9 with h1 | ⟨b, h1, h2⟩
          · rcases HAT8.out with h3 | ⟨b, h3, h4⟩
            · exact .inl (h1.trans h3)
            · exact .inr ⟨b, h1.trans h3, by have := HB7.size; omega⟩
          · exact .inr ⟨b, h1, by have := HB7.size; have := HG8.out.size; omega⟩
        have HP := Aside0.mk (show PutOut w0 w w9 base ok (Value.slice A l.length c) (put l o) (.returned (Value.slice A9 (k + (l.length - k + 1)) c9)) from ⟨_, rfl, r9, G9, T9⟩)
        clear r9 t9 hE9 hln G9 T9
        go_wp2
        go_ret
        exact HP.out
end Go.Proofs.Ytjeojdbfpncnkaa.Sp

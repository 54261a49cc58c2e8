
/- slices.CompactFunc at expressions: the walk. -/
import Derived.Test.YtbbdkhffacoglaaDoorNj
set_option linter.unusedVariables false
set_option linter.unusedSimpArgs false
namespace Go.Proofs.YtbbdkhffacoglaaDoor.Nk
open Go.RowKit Go.Proofs.YtbbdkhffacoglaaDoorW.PrintWords Go.Proofs.YtbbdkhffacoglaaDoor.Ja Go.Proofs.YtbbdkhffacoglaaDoor.Jb Go.Proofs.YtbbdkhffacoglaaDoor.Jc Go.Proofs.YtbbdkhffacoglaaDoor.Jd Go.Proofs.YtbbdkhffacoglaaDoor.Jg Go.Proofs.YtbbdkhffacoglaaDoor.Ka Go.Proofs.YtbbdkhffacoglaaDoor.Kf Go.Proofs.YtbbdkhffacoglaaDoor.Na Go.Proofs.YtbbdkhffacoglaaDoor.Nb Go.Proofs.YtbbdkhffacoglaaDoor.Nd Go.Proofs.YtbbdkhffacoglaaDoor.Ne Go.Proofs.YtbbdkhffacoglaaDoor.Nf Go.Proofs.YtbbdkhffacoglaaDoor.Ng Go.Proofs.YtbbdkhffacoglaaDoor.Nh Go.Proofs.YtbbdkhffacoglaaDoor.Ni Go.Proofs.YtbbdkhffacoglaaDoor.Nj

theorem tail_get (D l : List Ex) (d j : Nat) (hD : D.length = d) (hj : d ≤ j) : (D ++ l.drop d).getD j zE = l.getD j zE := by
  rw [List.getD_eq_getElem?_getD, List.getD_eq_getElem?_getD, List.getElem?_append_right (by omega), List.getElem?_drop, hD]
  congr 2; omega
theorem mid_set (D l : List Ex) (d : Nat) (x : Ex) (hD : D.length = d) (hd : d < l.length) : (D ++ l.drop d).set ((d : Int)).toNat x = (D ++ [x]) ++ l.drop (d + 1) := by
  rw [Int.toNat_natCast, List.set_append_right _ _ (by omega), hD, Nat.sub_self, List.drop_eq_getElem_cons hd, List.set_cons_zero, List.append_assoc]
  rfl
set_option maxHeartbeats 8000000 in
set_option maxRecDepth 100000 in
theorem compact_any (Wz : Wq) (base g cap : Nat) (l : List Ex) (w : World) (hz : Below Wz.heap.size Wz w) (hb : Wz.heap.size ≤ base) (h1 : 1 ≤ l.length) (hn : l.length ≤ 1048576) (hR : RowC Wz w base (.slice (some ⟨g, 0, none⟩) l.length cap) l) :
    Calls Tryd.prog 67 #[.slice (some ⟨g, 0, none⟩) l.length cap, .func (.func 68) #[] #[]] w fun e w' => ∃ c', e = .returned (.slice (some ⟨g, 0, none⟩) (dedup l).length c') ∧ RowC Wz w' base (.slice (some ⟨g, 0, none⟩) (dedup l).length c') (dedup l) ∧ w.grownBy w' (some g) := by
  by_cases h2 : l.length < 2
  · have d1 : decide ((l.length : Int) < 2) = true := decide_eq_true (by omega)
    have HD : Aside0 (dedup l = l) := ⟨by
      match l, h1, h2 with
      | [x], _, _ => rfl⟩
    have HR := Aside0.mk hR
    clear hR h2
    go_enter Tryd.func67, Tryd.ntmps67
    go_wp2
    go_ret
    exact ⟨cap, by (rw [HD.out]; try rfl), by rw [HD.out]; exact HR.out, World.grownBy.refl _ _⟩
  have d1 : decide ((l.length : Int) < 2) = false := decide_eq_false (by omega)
  have HR := Aside0.mk hR
  have HZ := Aside0.mk hz
  have hcn := (Kd.R_reads' hR).2.1
  have hgb : Wz.heap.size ≤ g := Nat.le_trans hb (Kd.R_base hR g rfl)
  clear hR hz h2
  go_enter Tryd.func67, Tryd.ntmps67
  go_wp2
  clear d1
  go_loopw [5] (fun vi wr => ∃ (k : Nat), 1 ≤ k ∧ k ≤ l.length ∧ vi = .int .i64 k ∧ Aside0 (dedup (l.take k) = l.take k) ∧ Aside0 (Below w.heap.size w wr)) (fun vi _ => l.length - (intOf vi).toNat)
  case atStart => exact ⟨1, Nat.le_refl _, h1, rfl, ⟨by
    match l, h1 with
    | x :: r, _ => rfl⟩, ⟨Below.refl _ _⟩⟩
  case round =>
    obtain ⟨k, hk1, hk, rfl, HN, HB⟩ := hrel
    have HR2 := Aside0.mk (Kd.R_below HR.out HB.out)
    have HZ2 := Aside0.mk (below_then HZ.out HZ.out.size HB.out)
    by_cases hlt : k < l.length
    · have g1 : decide (k < l.length) = true := decide_eq_true hlt
      have i1 : (k : Int) < l.length := by omega
      have i2 : (0 : Int) ≤ (k : Int) - 1 := by omega
      have i3 : (k : Int) - 1 < l.length := by omega
      have i4 : ((k : Int) - 1).toNat = k - 1 := by omega
      obtain ⟨A1, c1, a0, a1, a2, a3, jx, -⟩ := elemC HR2.out HZ2.out k hlt
      obtain ⟨A2, c2, b0, b1, b2, b3, jy, -⟩ := elemC HR2.out HZ2.out (k - 1) (by omega)
      have HSN := Aside0.mk (dedup_snoc l k hk1 hlt)
      have HTS := Aside0.mk (take_snoc l k zE hlt)
      generalize l.getD k zE = x at a0 a1 a2 a3 jx HSN HTS
      generalize l.getD (k - 1) zE = y at b0 b1 b2 b3 jy HSN
      replace a0 := cellE a0
      replace a1 := cellE a1
      replace a2 := cellE a2
      replace a3 := cellE a3
      replace b0 := cellE b0
      replace b1 := cellE b1
      replace b2 := cellE b2
      replace b3 := cellE b3
      cases hd : sameE x y with
      | false =>
        have hcl : ∀ s : Ext wr, Calls Tryd.prog 68 #[.agg #[.int .i64 x.f0, .int .i64 x.f1, .int .i64 x.f2, .slice A1 x.f3.length c1], .agg #[.int .i64 y.f0, .int .i64 y.f1, .int .i64 y.f2, .slice A2 y.f3.length c2]] s.1 fun e w' => e = .returned (.bool false) ∧ Below s.1.heap.size s.1 w' := fun s => by rw [← hd]; exact exSame_any x y A1 c1 A2 c2 s.1 (IsEL.below jx s.2) (IsEL.below jy s.2)
        have HE2 : Aside0 (dedup (l.take (k + 1)) = l.take (k + 1)) := ⟨by rw [HSN.out, HN.out, hd, HTS.out]; rfl⟩
        clear hd jx jy
        go_upto_region 6 with fail
        refine region_ext (W := wr) (Below.refl _ _) (by kernel_rfl) (by kernel_rfl) ?_
        repeat (first | go_big_quiet_step ((go_at_call 68; exact calls_ext (hcl _))) | quiet_step ((go_at_call 68; exact calls_ext (hcl _))))
        refine wpQuiet_nil ?_
        rintro _ ⟨s, rfl⟩
        have HB3 := Aside0.mk (below_then HB.out HB.out.size s.2)
        generalize s.1 = W2 at HB3
        go_wp2
        go_roundw
        case rel => exact ⟨k + 1, by omega, by omega, by go_num, HE2, HB3⟩
        case measure => simp [intOf]; omega
      | true =>
        have hcl : ∀ s : Ext wr, Calls Tryd.prog 68 #[.agg #[.int .i64 x.f0, .int .i64 x.f1, .int .i64 x.f2, .slice A1 x.f3.length c1], .agg #[.int .i64 y.f0, .int .i64 y.f1, .int .i64 y.f2, .slice A2 y.f3.length c2]] s.1 fun e w' => e = .returned (.bool true) ∧ Below s.1.heap.size s.1 w' := fun s => by rw [← hd]; exact exSame_any x y A1 c1 A2 c2 s.1 (IsEL.below jx s.2) (IsEL.below jy s.2)
        have HE2 : Aside0 (dedup (l.take (k + 1)) = l.take k) := ⟨by rw [HSN.out, HN.out, hd]; simp⟩
        clear hd jx jy
        go_upto_region 6 with fail
        refine region_ext (W := wr) (Below.refl _ _) (by kernel_rfl) (by kernel_rfl) ?_
        repeat (first | go_big_quiet_step ((go_at_call 68; exact calls_ext (hcl _))) | quiet_step ((go_at_call 68; exact calls_ext (hcl _))))
        refine wpQuiet_nil ?_
        rintro _ ⟨s, rfl⟩
        have HB3 := Aside0.mk (below_then HB.out HB.out.size s.2)
        have HR3 := Aside0.mk (Kd.R_below HR2.out s.2)
        have HZ3 := Aside0.mk (below_then HZ2.out HZ2.out.size s.2)
        generalize s.1 = W2 at HB3 HR3 HZ3
        clear a0 a1 a2 a3 b0 b1 b2 b3 hcl HR2 HZ2 HB g1
        have i5 : (k : Int) ≤ cap := by omega
        have i6 : (k : Int) ≤ l.length := by omega
        go_wp2
        generalize hr : l.length - k = r
        have hkr : k + r = l.length := by omega
        have hr1 : 1 ≤ r := by omega
        generalize hc : cap - k = cr
        clear i2 i3 i4
        go_loopw [5, 7] (fun v5 v7 wi => ∃ (k2 d : Nat), 1 ≤ k2 ∧ k2 ≤ r ∧ v7 = .int .i64 k2 ∧ v5 = .int .i64 d ∧ d + 1 ≤ k + k2 ∧ Aside0 (d = (dedup (l.take (k + k2))).length) ∧ Aside0 (RowC Wz wi base (.slice (some ⟨g, 0, none⟩) l.length cap) (dedup (l.take (k + k2)) ++ l.drop d)) ∧ Aside0 (Below Wz.heap.size Wz wi) ∧ Aside0 (W2.grownBy wi (some g))) (fun _ v7 _ => r - (intOf v7).toNat)
        case atStart => exact ⟨1, k, Nat.le_refl _, hr1, rfl, rfl, Nat.le_refl _, ⟨by rw [HE2.out, List.length_take]; omega⟩, ⟨by rw [HE2.out, List.take_append_drop]; exact HR3.out⟩, HZ3, ⟨World.grownBy.refl _ _⟩⟩
        case round =>
          clear HZ3
          obtain ⟨k2, d, h1k, h2k, rfl, rfl, hdk, HDL, HRI, HZI, HG⟩ := hrel
          have hll : (dedup (l.take (k + k2)) ++ l.drop d).length = l.length := by have := HDL.out; rw [List.length_append, List.length_drop]; omega
          by_cases hlt2 : k2 < r
          · have g1 : decide (k2 < r) = true := decide_eq_true hlt2
            have j1 : (k2 : Int) < r := by omega
            have j2 : (0 : Int) ≤ (k2 : Int) - 1 := by omega
            have j3 : (k2 : Int) - 1 < r := by omega
            have j4 : ((k2 : Int) - 1).toNat = k2 - 1 := by omega
            have j5 : (d : Int) < l.length := by omega
            obtain ⟨A1, c1, a0, a1, a2, a3, jx, kx⟩ := elemC HRI.out HZI.out (k + k2) (by omega)
            obtain ⟨A2, c2, b0, b1, b2, b3, jy, -⟩ := elemC HRI.out HZI.out (k + k2 - 1) (by omega)
            have hgx : (dedup (l.take (k + k2)) ++ l.drop d).getD (k + k2) zE = l.getD (k + k2) zE := tail_get _ l d _ HDL.out.symm (by omega)
            have hgy : (dedup (l.take (k + k2)) ++ l.drop d).getD (k + k2 - 1) zE = l.getD (k + k2 - 1) zE := tail_get _ l d _ HDL.out.symm (by omega)
            rw [hgx] at a0 a1 a2 a3 jx kx
            rw [hgy] at b0 b1 b2 b3 jy
            have HSN := Aside0.mk (dedup_snoc l (k + k2) (by omega) (by omega))
            have HSET := Aside0.mk (mid_set (dedup (l.take (k + k2))) l d (l.getD (k + k2) zE) HDL.out.symm (by omega))
            generalize l.getD (k + k2) zE = x at a0 a1 a2 a3 jx kx HSN HSET
            generalize l.getD (k + k2 - 1) zE = y at b0 b1 b2 b3 jy HSN
            have e1 : (k + k2) * 4 = k * 4 + k2 * 4 := by omega
            have e2 : (k + k2 - 1) * 4 = k * 4 + (k2 - 1) * 4 := by omega
            rw [e1] at a0 a1 a2 a3
            rw [e2] at b0 b1 b2 b3
            clear e1 e2 hgx hgy
            have HA := Aside0.mk (And.intro a0 (And.intro a1 (And.intro a2 a3)))
            replace a0 := cellE a0
            replace a1 := cellE a1
            replace a2 := cellE a2
            replace a3 := cellE a3
            replace b0 := cellE b0
            replace b1 := cellE b1
            replace b2 := cellE b2
            replace b3 := cellE b3
            cases hd : sameE x y with
            | true =>
              have hcl : ∀ s : Ext wr, Calls Tryd.prog 68 #[.agg #[.int .i64 x.f0, .int .i64 x.f1, .int .i64 x.f2, .slice A1 x.f3.length c1], .agg #[.int .i64 y.f0, .int .i64 y.f1, .int .i64 y.f2, .slice A2 y.f3.length c2]] s.1 fun e w' => e = .returned (.bool true) ∧ Below s.1.heap.size s.1 w' := fun s => by rw [← hd]; exact exSame_any x y A1 c1 A2 c2 s.1 (IsEL.below jx s.2) (IsEL.below jy s.2)
              have HE3 : Aside0 (dedup (l.take (k + (k2 + 1))) = dedup (l.take (k + k2))) := ⟨by rw [← Nat.add_assoc, HSN.out, hd]; simp⟩
              clear hd jx jy kx
              go_upto_region 11 with fail
              refine region_ext (W := wr) (Below.refl _ _) (by kernel_rfl) (by kernel_rfl) ?_
              repeat (first | go_big_quiet_step ((go_at_call 68; exact calls_ext (hcl _))) | quiet_step ((go_at_call 68; exact calls_ext (hcl _))))
              refine wpQuiet_nil ?_
              rintro _ ⟨s, rfl⟩
              have HR4 := Aside0.mk (Kd.R_below HRI.out s.2)
              have HZ4 := Aside0.mk (below_then HZI.out HZI.out.size s.2)
              have HG4 := Aside0.mk (HG.out.trans (grown_of_below s.2 (some g)))
              generalize s.1 = W4 at HR4 HZ4 HG4
              go_wp2
              go_roundw
              case rel => exact ⟨k2 + 1, d, by omega, by omega, by go_num, rfl, by omega, ⟨by rw [HE3.out]; exact HDL.out⟩, ⟨by rw [HE3.out]; exact HR4.out⟩, HZ4, HG4⟩
              case measure => simp [intOf]; omega
            | false =>
              have hcl : ∀ s : Ext wr, Calls Tryd.prog 68 #[.agg #[.int .i64 x.f0, .int .i64 x.f1, .int .i64 x.f2, .slice A1 x.f3.length c1], .agg #[.int .i64 y.f0, .int .i64 y.f1, .int .i64 y.f2, .slice A2 y.f3.length c2]] s.1 fun e w' => e = .returned (.bool false) ∧ Below s.1.heap.size s.1 w' := fun s => by rw [← hd]; exact exSame_any x y A1 c1 A2 c2 s.1 (IsEL.below jx s.2) (IsEL.below jy s.2)
              have HE3 : Aside0 (dedup (l.take (k + (k2 + 1))) = dedup (l.take (k + k2)) ++ [x]) := ⟨by rw [← Nat.add_assoc, HSN.out, hd]; simp⟩
              clear hd jx jy
              have HKX := Aside0.mk kx
              clear kx
              go_upto_region 11 with fail
              refine region_ext (W := wr) (Below.refl _ _) (by kernel_rfl) (by kernel_rfl) ?_
              repeat (first | go_big_quiet_step ((go_at_call 68; exact calls_ext (hcl _))) | quiet_step ((go_at_call 68; exact calls_ext (hcl _))))
              refine wpQuiet_nil ?_
              rintro _ ⟨s, rfl⟩
              have HR4 := Aside0.mk (Kd.R_below HRI.out s.2)
              have HZ4 := Aside0.mk (below_then HZI.out HZI.out.size s.2)
              have HG4 := Aside0.mk (HG.out.trans (grown_of_below s.2 (some g)))
              have q0 := pw_cell_below s.2 HA.out.1
              have q1 := pw_cell_below s.2 HA.out.2.1
              have q2 := pw_cell_below s.2 HA.out.2.2.1
              have q3 := pw_cell_below s.2 HA.out.2.2.2
              generalize s.1 = W4 at HR4 HZ4 HG4 q0 q1 q2 q3
              clear a0 a1 a2 a3 b0 b1 b2 b3 hcl HRI HZI HA
              go_wp2_with ((with_reducible refine gate_store (t := 29) (p := 56) rfl ?_); obtain ⟨ce, hcl2, hM2, hcc2, hfz2⟩ := Kd.R_elem HR4.out zE (d : Int) (by omega) (by omega); refine Kd.R_store (kC Wz) (w0 := W4) base rfl rfl 29 _ _ rfl 29 (d : Int) 0 (dedup (l.take (k + k2)) ++ l.drop d) x (.agg #[.int .i64 x.f0, .int .i64 x.f1, .int .i64 x.f2, .slice A1 x.f3.length c1]) [.int .i64 x.f0, .int .i64 x.f1, .int .i64 x.f2, .slice A1 x.f3.length c1] ce (fun _ => True) (fun _ => False) rfl (show d * 4 = ((d : Int)).toNat * 4 + 0 by simp) rfl rfl (by kernel_rfl) ?h1 HR4.out (by omega) (by omega) hcl2 hcc2 (Nat.le_refl 4) ?hM (fun _ h => h.elim) (Below.refl _ _) ?_; (case h1 => intro q hq; simp at hq; rcases hq with rfl | rfl | rfl | rfl <;> rfl); (case hM => (rw [List.drop_of_length_le (by rw [hcl2]; exact Nat.le_refl 4), List.append_nil]; exact HKX.out)); intro w5 hs5 hb5 hg5; rw [HSET.out] at hs5; have HS5 := Aside0.mk hs5; have HB5 := Aside0.mk (pw_below_grown HZ4.out (some g) HZ4.out.size hg5 (fun k hk => by injection hk with hk; omega)); have HG5 := Aside0.mk (HG4.out.trans hg5); clear hs5 hb5 hg5 hcl2 hM2 hcc2 hfz2)
              go_roundw
              case rel => exact ⟨k2 + 1, d + 1, by omega, by omega, by go_num, by go_num, by omega, ⟨by rw [HE3.out, List.length_append]; have := HDL.out; simp; omega⟩, ⟨by rw [HE3.out]; exact HS5.out⟩, HB5, HG5⟩
              case measure => simp [intOf]; omega
          · have hke : k2 = r := by omega
            subst hke
            have g1 : decide (k2 < k2) = false := decide_eq_false (by omega)
            have HF : Aside0 (dedup (l.take (k + k2)) = dedup l) := ⟨by rw [hkr, List.take_length]⟩
            have hdl : d < l.length := by omega
            obtain ⟨W5, hrun, hr5, hg5⟩ := run_clear HRI.out d (l.length - d) (cap - d) (by omega) (by omega) 0
            go_wp2
            go_ret
            have hdd : (dedup l).length = d := by rw [← HF.out]; exact HDL.out.symm
            have htk : (dedup (l.take (k + k2)) ++ l.drop d).take d = dedup l := by rw [HF.out]; exact List.take_left' hdd
            rw [htk] at hr5
            exact ⟨cap, by (rw [hdd]; try rfl), by rw [hdd]; exact hr5, World.grownBy.trans (grown_of_below HB3.out (some g)) (World.grownBy.trans HG.out hg5)⟩
    · have hke : k = l.length := by omega
      subst hke
      have g1 : decide (l.length < l.length) = false := decide_eq_false (by omega)
      have HE2 : Aside0 (dedup l = l) := ⟨by have h := HN.out; rwa [List.take_length] at h⟩
      go_wp2
      go_ret
      exact ⟨cap, by (rw [HE2.out]; try rfl), by rw [HE2.out]; exact HR2.out, grown_of_below HB.out _⟩
end Go.Proofs.YtbbdkhffacoglaaDoor.Nk


/- The reference's draw of a text. Printed by genTqn.py. -/
import Derived.Test.YtdohneeejfeknaaDoorTqm
import Derived.Test.YtdohneeejfeknaaDoorTqi
set_option linter.unusedVariables false
set_option linter.unusedSimpArgs false
namespace Go.Proofs.YtdohneeejfeknaaDoor.Tqn
open Go.RowKit Go.Proofs.YtdohneeejfeknaaDoorW.PrintWords Go.Proofs.YtdohneeejfeknaaDoor.Ja Go.Proofs.YtdohneeejfeknaaDoor.Tqa Go.Proofs.YtdohneeejfeknaaDoor.Tqb Go.Proofs.YtdohneeejfeknaaDoor.Tqc Go.Proofs.YtdohneeejfeknaaDoor.Tqf Go.Proofs.YtdohneeejfeknaaDoor.Tqg Go.Proofs.YtdohneeejfeknaaDoor.Tqh Go.Proofs.YtdohneeejfeknaaDoor.Tqk Go.Proofs.YtdohneeejfeknaaDoor.Tql Go.Proofs.YtdohneeejfeknaaDoor.Tqm
theorem of_any (w0 : World) (g : Nat) (bs : List Int) (p : Nat) (xs : List (List UInt8)) (cs : Array Value) (n : Nat) (W : World) (h : Rd w0 W g bs p) (hp : p < 100000) (hx : 0 < xs.length) (hx2 : xs.length ≤ 1000) (hcs : cs = ((xs.map Tqb.bs).map Value.string).toArray) (hn : n = xs.length) :
    Calls Tryd.prog 29 #[.pointer (some ⟨g, 0, none⟩), .slice (some ⟨W.heap.size, 0, none⟩) n n] (W.alloc (.cells cs 9)) fun e w' =>
      ∃ y : List UInt8, e = .returned (.string (Tqb.bs y)) ∧ y ∈ xs ∧ Rd w0 w' g bs (p + 1) ∧ W.grownBy w' (some g) := by
  subst hcs hn
  have hlt := rd_lt h
  have hr0 := h.grown (below_alloc (Below.refl W.heap.size W) (.cells ((xs.map Tqb.bs).map Value.string).toArray 9))
  have hB := blk_new W (.cells ((xs.map Tqb.bs).map Value.string).toArray 9)
  have HG0 := Aside0.mk (grown_alloc (w := W) (.cells ((xs.map Tqb.bs).map Value.string).toArray 9) (some g))
  have hne : W.heap.size ≠ g := by omega
  generalize W.alloc (.cells ((xs.map Tqb.bs).map Value.string).toArray 9) = W1 at hr0 hB HG0 ⊢
  generalize W.heap.size = N at hB hne ⊢
  have HR0 := Aside0.mk hr0
  have HBK := Aside0.mk hB
  have HNE := Aside0.mk hne
  clear hr0 hB hne h hlt
  go_enter Tryd.func29, Tryd.ntmps29
  go_wp2_with (go_at_call 28; refine (pick_any w0 g bs p xs.length _ HR0.out (by omega) (by omega)).mono ?_; rintro e w2 ⟨x, rfl, hx0, hr, hg⟩; obtain ⟨k, rfl⟩ := Int.eq_ofNat_of_zero_le hx0.1; have hk : k < xs.length := by { have := hx0.2.1 (by omega); omega }; have hb2 := blk_grown HBK.out hg (by have := HNE.out; simp; exact this); obtain ⟨ad, had, hcell⟩ := atT (c := xs.length) ⟨by rw [List.length_map]; exact Nat.le_refl _, blk_S hb2 (by rw [List.length_map]; omega)⟩ k hk; obtain rfl := Option.some.inj had; rw [add_plain] at hcell; have HR := Aside0.mk hr; have HG := Aside0.mk (World.grownBy.trans HG0.out hg); have hm : xs.getD k [] ∈ xs := by { rw [List.getD_eq_getElem?_getD, List.getElem?_eq_getElem hk]; exact List.getElem_mem _ }; generalize xs.getD k [] = y at hcell hm; have HM := Aside0.mk hm; clear hx0 hr hg hm hb2 had)
  go_ret
  exact ⟨y, rfl, HM.out, HR.out, HG.out⟩
set_option maxHeartbeats 4000000 in
set_option maxRecDepth 100000 in
theorem drawTapeRead_any (A : Option Addr) (c : Nat) (bs : List Int) (w : World) (hC : (Kd.int .u8).C w A bs.length bs) (hc : bs.length ≤ c) (hb : ∀ b ∈ bs, 0 ≤ b ∧ b ≤ 255) :
    Calls Tryd.prog 14 #[.slice A bs.length c] w fun e w' => ∃ t : List UInt8, e = .returned (.string (Tqb.bs t)) ∧ t.length ≤ 10000 ∧ Below w.heap.size w w' := by
  go_enter Tryd.func14, Tryd.ntmps14
  go_upto_region 2 with (go_at_call 22; refine (open_any w A c bs _ (Below.refl _ _) hC hc hb).mono ?_; rintro e w2 ⟨g, rfl, ⟨bs2, hr⟩, hb2⟩; have HR2 := Aside0.mk hr; have HB2 := Aside0.mk hb2; clear hr hb2)
  go_upto_region 3 with (first
    | (go_at_call 12; refine (sTapeText_any l A3 c3 (by have := HM.out.len; omega) HM.out.sm _ HL.out).mono ?_; rintro e w4 ⟨rfl, hb4⟩; have HR4 := Aside0.mk (HR3.out.grown hb4); clear hb4)
    | (go_at_call 21; refine (l10Bent_any w g bs2 0 _ HR2.out (by omega)).mono ?_; rintro e w3 ⟨v3, l, rfl, hm⟩; obtain ⟨A3, c3, rfl⟩ := Kd.R_slice hm.own; have HM := Aside0.mk hm; obtain ⟨_, hl1, hl2⟩ := Kd.R_reads' hm.own; have HL : Aside0 (IsS kCall w3 l A3 c3) := ⟨⟨hl1, hl2⟩⟩; obtain ⟨q, hq, hr3⟩ := hm.rd; have HR3 := Aside0.mk hr3; clear hm hl1 hl2 hr3))
  obtain ⟨s, hs⟩ : ∃ s, s = textC l := ⟨_, rfl⟩
  have hsl := textC_le l HM.out.sm
  have hll := HM.out.len
  rw [← hs] at hsl ⊢
  obtain ⟨n, hn⟩ : ∃ n, s.length = n := ⟨_, rfl⟩
  have hsz : (Tqb.bs s).size = n := by rw [bs_size, hn]
  have HN := Aside0.mk hn
  have hnl : n ≤ 1333 := by omega
  clear hsl hll hn hs
  by_cases h0 : n = 0
  · have d0 : ((n : Int) == 0) = true := by simp [h0]
    clear h0
    go_wp2
    go_ret
    exact ⟨s, rfl, by rw [HN.out]; omega, HR4.out.below⟩
  have d0 : ((n : Int) == 0) = false := by rw [beq_eq_false_iff_ne]; omega
  have hn1 : 1 ≤ n := by omega
  clear h0
  go_upto_region 6 with (first
    | (go_at_call 28; refine (pick_any w g bs2 (q + 1) n _ HR5.out (by omega) (by omega)).mono ?_; rintro e w6 ⟨x6, rfl, hx, hr, hg⟩; obtain ⟨k, rfl⟩ := Int.eq_ofNat_of_zero_le hx.1; have hk : k < n := by { have := hx.2.1 (by omega); omega }; have HR6 := Aside0.mk hr; clear hx hr hg)
    | (go_at_call 28; refine (pick_any w g bs2 q 2 _ HR4.out (by omega) (by omega)).mono ?_; rintro e w5 ⟨x5, rfl, hx, hr, hg⟩; have HR5 := Aside0.mk hr; clear hx hr hg; by_cases hx5 : x5 = 0))
  · go_wp2
    go_ret
    exact ⟨s, rfl, by rw [HN.out]; omega, HR5.out.below⟩
  have i1 : (k : Int) ≤ n := by omega
  have i2 : (0 : Int) ≤ k := by omega
  have hx1 : (Tqb.bs s).extract 0 k = Tqb.bs (s.take k) := by rw [bs_cut _ _ _ (by rw [HN.out]; omega)]; rfl
  obtain ⟨s1, hs1⟩ : ∃ s1, s1 = s.take k := ⟨_, rfl⟩
  have hs1l : s1.length ≤ 1333 := by rw [hs1, List.length_take]; omega
  rw [← hs1] at hx1
  clear hs1
  refine Za.regionL (fun _ => True) [] (by kernel_rfl) ?_
  have HS : (fun (_ : World) => True) w6.drew := trivial
  refine Za.takeL 0 (v := ?v0) rfl (by kernel_rfl) (by kernel_rfl) (by kernel_rfl) (by kernel_rfl) (fun _ _ _ h => h) (Or.inl ⟨by rfl, ?hy0⟩) HS ?rest0
  case hy0 => (intro w hSw; (try dsimp only at hSw); go_simp; try with_reducible rfl)
  (try simp only [Act.put, List.setIfInBounds_toArray, List.set_cons_zero, List.set_cons_succ])
  refine Za.takeL 1 (v := ?v1) rfl (by kernel_rfl) (by kernel_rfl) (by kernel_rfl) (by kernel_rfl) (fun _ _ _ h => h) (Or.inl ⟨by rfl, ?hy1⟩) HS ?rest1
  case hy1 => (intro w hSw; (try dsimp only at hSw); go_simp; try with_reducible rfl)
  (try simp only [Act.put, List.setIfInBounds_toArray, List.set_cons_zero, List.set_cons_succ])
  refine Za.takeL 2 (v := ?v2) rfl (by kernel_rfl) (by kernel_rfl) (by kernel_rfl) (by kernel_rfl) (fun _ _ _ h => h) (Or.inl ⟨by rfl, ?hy2⟩) HS ?rest2
  case hy2 => (intro w hSw; (try dsimp only at hSw); go_simp; try with_reducible rfl)
  (try simp only [Act.put, List.setIfInBounds_toArray, List.set_cons_zero, List.set_cons_succ])
  refine Za.takeL 3 (v := ?v3) rfl (by kernel_rfl) (by kernel_rfl) (by kernel_rfl) (by kernel_rfl) (fun _ _ _ h => h) (Or.inl ⟨by rfl, ?hy3⟩) HS ?rest3
  case hy3 => (intro w hSw; (try dsimp only at hSw); go_simp; try with_reducible rfl)
  (try simp only [Act.put, List.setIfInBounds_toArray, List.set_cons_zero, List.set_cons_succ])
  refine Za.takeL 7 (v := ?v7) rfl (by kernel_rfl) (by kernel_rfl) (by kernel_rfl) (by kernel_rfl) (fun _ _ _ h => h) (Or.inl ⟨by rfl, ?hy7⟩) HS ?rest7
  case hy7 => (intro w hSw; (try dsimp only at hSw); go_simp; try with_reducible rfl)
  (try simp only [Act.put, List.setIfInBounds_toArray, List.set_cons_zero, List.set_cons_succ])
  refine Za.takeL 8 (v := ?v8) rfl (by kernel_rfl) (by kernel_rfl) (by kernel_rfl) (by kernel_rfl) (fun _ _ _ h => h) (Or.inl ⟨by rfl, ?hy8⟩) HS ?rest8
  case hy8 => (intro w hSw; (try dsimp only at hSw); go_simp; try with_reducible rfl)
  (try simp only [Act.put, List.setIfInBounds_toArray, List.set_cons_zero, List.set_cons_succ])
  refine Za.takeL 9 (v := ?v9) rfl (by kernel_rfl) (by kernel_rfl) (by kernel_rfl) (by kernel_rfl) (fun _ _ _ h => h) (Or.inl ⟨by rfl, ?hy9⟩) HS ?rest9
  case hy9 => (intro w hSw; (try dsimp only at hSw); go_simp; try with_reducible rfl)
  (try simp only [Act.put, List.setIfInBounds_toArray, List.set_cons_zero, List.set_cons_succ])
  clear HS
  refine Za.nextL 4 (by kernel_rfl) rfl (fun K' hK => ?_)
  go_simp
  refine hK.out _ _ ⟨fun _ => trivial, ?_⟩
  clear hK K'
  (try simp only [Act.put, List.setIfInBounds_toArray, List.set_cons_zero, List.set_cons_succ])
  refine Za.nextL 5 (by kernel_rfl) rfl (fun K' hK => ?_)
  go_simp
  (go_at_call 29; refine (of_any w g bs2 (q + 1 + 1) [[], [32], [48], [61], [102], [45], [97, 49]] _ 7 w6.drew (HR6.out.grown (below_drew (Below.refl _ _))) (by omega) (by decide) (by decide) rfl rfl).mono ?_; rintro e w7 ⟨y, rfl, hy, hr, hg⟩; have hyl : y.length ≤ 2 := by { simp at hy; rcases hy with rfl | rfl | rfl | rfl | rfl | rfl | rfl <;> simp }; have HR7 := Aside0.mk hr; clear hy hr hg)
  go_wp2_with fail
  refine hK.out _ _ ⟨fun _ => trivial, ?_⟩
  clear hK K'
  (try simp only [Act.put, List.setIfInBounds_toArray, List.set_cons_zero, List.set_cons_succ])
  obtain ⟨s2, hs2⟩ : ∃ s2, s2 = s1 ++ y := ⟨_, rfl⟩
  have hA1 : Tqb.bs s1 ++ Tqb.bs y = Tqb.bs s2 := by rw [hs2]; exact bs_app _ _
  have hz1 : ¬ ((Tqb.bs s1).size + (Tqb.bs y).size > 9223372036854775807) := by rw [bs_size, bs_size]; omega
  have hs2l : s2.length ≤ 1335 := by rw [hs2, List.length_append]; omega
  clear hs2
  have HS : (fun (_ : World) => True) w7 := trivial
  refine Za.takeL 6 (v := ?v6) rfl (by kernel_rfl) (by kernel_rfl) (by kernel_rfl) (by kernel_rfl) (fun _ _ _ h => h) (Or.inl ⟨by rfl, ?hy6⟩) HS ?rest6
  case hy6 => (intro w hSw; (try dsimp only at hSw); go_simp; try with_reducible rfl)
  (try simp only [Act.put, List.setIfInBounds_toArray, List.set_cons_zero, List.set_cons_succ])
  clear HS hA1 hz1
  refine Za.nextL 10 (by kernel_rfl) rfl (fun K' hK => ?_)
  go_simp
  (go_at_call 28; refine (pick_any w g bs2 (q + 1 + 1 + 1) 2 _ HR7.out (by omega) (by omega)).mono ?_; rintro e w8 ⟨x8, rfl, hx, hr, hg⟩; obtain ⟨j, rfl⟩ := Int.eq_ofNat_of_zero_le hx.1; have hj : j < 2 := by { have := hx.2.1 (by omega); omega }; have HR8 := Aside0.mk hr; clear hx hr hg)
  go_wp2_with fail
  refine hK.out _ _ ⟨fun _ => trivial, ?_⟩
  clear hK K'
  (try simp only [Act.put, List.setIfInBounds_toArray, List.set_cons_zero, List.set_cons_succ])
  have hwr : IntKind.i64.wrap ((k : Int) + (j : Int)) = (k : Int) + (j : Int) := by rw [IntKind.wrap_i64]; omega
  have i3 : (k : Int) + (j : Int) ≤ n := by omega
  have i4 : (0 : Int) ≤ (k : Int) + (j : Int) := by omega
  have hx2 : (Tqb.bs s).extract (k + j) n = Tqb.bs (s.drop (k + j)) := by rw [bs_cut _ _ _ (by rw [HN.out]; omega), List.take_of_length_le (by rw [HN.out]; omega)]
  have hx2' : (Tqb.bs s).extract ((k : Int) + (j : Int)).toNat n = Tqb.bs (s.drop (k + j)) := hx2
  obtain ⟨s3, hs3⟩ : ∃ s3, s3 = s.drop (k + j) := ⟨_, rfl⟩
  have hs3l : s3.length ≤ 1333 := by rw [hs3, List.length_drop, HN.out]; omega
  rw [← hs3] at hx2 hx2'
  clear hs3
  obtain ⟨s4, hs4⟩ : ∃ s4, s4 = s2 ++ s3 := ⟨_, rfl⟩
  have hA2 : Tqb.bs s2 ++ Tqb.bs s3 = Tqb.bs s4 := by rw [hs4]; exact bs_app _ _
  have hz2 : ¬ ((Tqb.bs s2).size + (Tqb.bs s3).size > 9223372036854775807) := by rw [bs_size, bs_size]; omega
  have hs4l : s4.length ≤ 10000 := by rw [hs4, List.length_append]; omega
  clear hs4
  have HS : (fun (_ : World) => True) w8 := trivial
  refine Za.takeL 11 (v := ?v11) rfl (by kernel_rfl) (by kernel_rfl) (by kernel_rfl) (by kernel_rfl) (fun _ _ _ h => h) (Or.inl ⟨by rfl, ?hy11⟩) HS ?rest11
  case hy11 => (intro w hSw; (try dsimp only at hSw); go_simp; try with_reducible rfl)
  (try simp only [Act.put, List.setIfInBounds_toArray, List.set_cons_zero, List.set_cons_succ])
  refine Za.takeL 12 (v := ?v12) rfl (by kernel_rfl) (by kernel_rfl) (by kernel_rfl) (by kernel_rfl) (fun _ _ _ h => h) (Or.inl ⟨by rfl, ?hy12⟩) HS ?rest12
  case hy12 => (intro w hSw; (try dsimp only at hSw); go_simp; try with_reducible rfl)
  (try simp only [Act.put, List.setIfInBounds_toArray, List.set_cons_zero, List.set_cons_succ])
  refine Za.takeL 13 (v := ?v13) rfl (by kernel_rfl) (by kernel_rfl) (by kernel_rfl) (by kernel_rfl) (fun _ _ _ h => h) (Or.inl ⟨by rfl, ?hy13⟩) HS ?rest13
  case hy13 => (intro w hSw; (try dsimp only at hSw); go_simp; try with_reducible rfl)
  (try simp only [Act.put, List.setIfInBounds_toArray, List.set_cons_zero, List.set_cons_succ])
  refine Za.takeL 14 (v := ?v14) rfl (by kernel_rfl) (by kernel_rfl) (by kernel_rfl) (by kernel_rfl) (fun _ _ _ h => h) (Or.inl ⟨by rfl, ?hy14⟩) HS ?rest14
  case hy14 => (intro w hSw; (try dsimp only at hSw); go_simp; try with_reducible rfl)
  (try simp only [Act.put, List.setIfInBounds_toArray, List.set_cons_zero, List.set_cons_succ])
  refine Za.Walk.done (by kernel_rfl) ?_
  go_wp2
  go_ret
  exact ⟨s4, rfl, hs4l, HR8.out.below⟩
end Go.Proofs.YtdohneeejfeknaaDoor.Tqn

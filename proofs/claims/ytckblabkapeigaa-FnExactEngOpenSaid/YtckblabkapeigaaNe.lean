
/- The text of an expression: the reference's function. -/
import Derived.Test.YtckblabkapeigaaNd
import Derived.Test.YtckblabkapeigaaZa
set_option linter.unusedVariables false
set_option linter.unusedSimpArgs false
namespace Go.Proofs.Ytckblabkapeigaa.Ne
open Go.RowKit Go.Proofs.YtckblabkapeigaaW.PrintWords Go.Proofs.Ytckblabkapeigaa.Ja Go.Proofs.Ytckblabkapeigaa.Jb Go.Proofs.Ytckblabkapeigaa.Jc Go.Proofs.Ytckblabkapeigaa.Jd Go.Proofs.Ytckblabkapeigaa.Jg Go.Proofs.Ytckblabkapeigaa.Na Go.Proofs.Ytckblabkapeigaa.Nd

theorem num_len (n : Int) (h : n ≤ 20) : (numB n).length ≤ 2 := by
  have key : ∀ a : Fin 21, decide ((Lib.decDigits a.val).length ≤ 2) = true := by decide +kernel
  have := of_decide_eq_true (key ⟨n.toNat, by omega⟩)
  exact this
theorem head_len (k s : Int) : (headB k s).length ≤ 4 := by
  unfold headB letB wordB
  repeat' split
  all_goals decide
mutual
theorem text_len : ∀ x, formB x = true → (textB x).length + 1 ≤ 8 * (1 + cnt x)
  | .mk k s n l, h => by
    obtain ⟨p, pl⟩ := form_head h
    rw [textB_head]
    have h1 := head_len k s
    have h2 := textL_len l pl
    have h3 : (bodyB (.mk k s n l)).length ≤ 3 + 8 * cntL l := by
      unfold bodyB
      rw [List.length_append]
      have a : (if k = 7 then 32 :: numB n else ([] : List UInt8)).length ≤ 3 := by
        split
        · rename_i h7
          have := num_len n (p.plus h7).2
          simp; omega
        · simp
      have b : (if k = 1 then ([] : List UInt8) else textL l).length ≤ 8 * cntL l := by
        split
        · simp
        · exact h2
      show (if k = 7 then 32 :: numB n else ([] : List UInt8)).length + (if k = 1 then ([] : List UInt8) else textL l).length ≤ _
      omega
    have e : cnt (.mk k s n l) = cntL l := by simp [cnt]
    rw [List.length_append, e]
    show (headB k s).length + (bodyB (.mk k s n l)).length + 1 ≤ _
    omega
theorem textL_len : ∀ l, formL l = true → (textL l).length ≤ 8 * cntL l
  | [], _ => by simp [textL_nil]
  | x :: xs, h => by
    rw [formL_cons, Bool.and_eq_true] at h
    have a := text_len x h.1
    have b := textL_len xs h.2
    rw [textL_cons, cntL]
    simp only [List.length_append, List.length_cons]
    omega
end
theorem textB_len (x : Ex) (h : formB x = true) : (textB x).length + 1 ≤ 8 * (1 + cntL x.f3) := by
  have := text_len x h
  rw [cnt_eq] at this
  exact this
theorem form_at {l : List Ex} (h : formL l = true) (k : Nat) (hk : k < l.length) : formB (l.getD k zE) = true := by
  rw [formL_all, List.all_eq_true] at h
  exact h _ (by rw [List.getD_eq_getElem?_getD, List.getElem?_eq_getElem hk]; exact List.getElem_mem _)
/-- the text up to some of the parts -/
def uptoB (x : Ex) (k : Nat) : List UInt8 := headB x.f0 x.f1 ++ (if x.f0 = 7 then 32 :: numB x.f2 else []) ++ textL (x.f3.take k)
theorem uptoB_end (x : Ex) (h1 : ¬ x.f0 = 1) (k : Nat) (hk : x.f3.length ≤ k) : uptoB x k = textB x := by
  rw [textB_head]; unfold uptoB bodyB
  rw [if_neg h1, List.take_of_length_le hk, List.append_assoc]
theorem uptoB_snoc (x : Ex) (k : Nat) (hk : k < x.f3.length) : uptoB x (k + 1) = (uptoB x k ++ [32]) ++ textB (x.f3.getD k zE) := by
  unfold uptoB; rw [textL_snoc _ _ hk]; simp
theorem uptoB_len (x : Ex) (h : formB x = true) (k : Nat) : (uptoB x k).length ≤ 8 + 8 * cntL x.f3 := by
  obtain ⟨p, pl⟩ := form_head h
  unfold uptoB
  have h1 := head_len x.f0 x.f1
  have h2 : (textL (x.f3.take k)).length ≤ 8 * cntL x.f3 := by
    have g : formL (x.f3.take k) = true := by
      rw [formL_all, List.all_eq_true] at *
      exact fun z hz => pl z (List.mem_of_mem_take hz)
    have := textL_len _ g
    have := cntL_take_le x.f3 k
    omega
  have a : (if x.f0 = 7 then 32 :: numB x.f2 else ([] : List UInt8)).length ≤ 3 := by
    split
    · rename_i h7
      have := num_len x.f2 (p.plus h7).2
      simp; omega
    · simp
  simp only [List.length_append]
  omega
def wordsV : Array Value := #[.string (bs []), .string (bs []), .string (bs (wordB 2)), .string (bs (wordB 3)), .string (bs (wordB 4)), .string (bs (wordB 5)), .string (bs (wordB 6)), .string (bs (wordB 7))]
set_option maxRecDepth 100000 in
theorem l2Words_any (w : World) : Calls Try.prog 81 #[] w fun e w' => e = .returned (.slice (some ⟨w.heap.size, 0, none⟩) 8 8) ∧ w' = w.alloc (.cells wordsV 9) := by
  go_enter Try.func81, Try.ntmps81
  go_wp2
  go_ret
  exact ⟨rfl, rfl⟩
theorem words_cell (w : World) (k : Int) (h1 : 2 ≤ k) (h2 : k ≤ 7) : (w.alloc (.cells wordsV 9)).cell? ⟨w.heap.size, k.toNat, none⟩ = some (.string (bs (wordB k))) := by
  have hb := blk_new w (.cells wordsV 9)
  rcases (show k = 2 ∨ k = 3 ∨ k = 4 ∨ k = 5 ∨ k = 6 ∨ k = 7 by omega) with rfl | rfl | rfl | rfl | rfl | rfl
  · exact (blk_cell hb 2).trans rfl
  · exact (blk_cell hb 3).trans rfl
  · exact (blk_cell hb 4).trans rfl
  · exact (blk_cell hb 5).trans rfl
  · exact (blk_cell hb 6).trans rfl
  · exact (blk_cell hb 7).trans rfl

theorem decI_any (n : Int) (h0 : 0 ≤ n) (h1 : n ≤ 20) (w : World) : Calls Try.prog 82 #[.int .i64 n] w fun e w' => e = .returned (.string (bs (numB n))) ∧ Below w.heap.size w w' := by
  obtain ⟨m, rfl⟩ : ∃ m : Nat, n = m := ⟨n.toNat, by omega⟩
  have := dec_any m (by omega) w
  unfold numB
  rw [Int.toNat_natCast]
  exact this
abbrev TCall (x : Ex) : Prop := ∀ A c w, IsEL 52 w x.f3 A c → Calls Try.prog 62 #[X x.f0 x.f1 x.f2 A x.f3.length c] w fun e w' => e = .returned (.string (bs (textB x))) ∧ Below w.heap.size w w'
set_option maxHeartbeats 4000000 in
set_option maxRecDepth 100000 in
theorem l2Text_of (x : Ex) (hf : formB x = true) (hc : cntL x.f3 ≤ 1048576) (hE : ∀ y, y ∈ x.f3 → TCall y) : TCall x := fun A c w hL => by
  obtain ⟨p, pl⟩ := form_head hf
  have pk1 := p.kind.1
  have pk2 := p.kind.2
  have ps := p.sym
  have hb0 := below_alloc (Below.refl w.heap.size w) (.cells #[.int .i64 x.f0, .int .i64 x.f1, .int .i64 x.f2, .slice A x.f3.length c] 52)
  have bX := blk_new w (.cells #[.int .i64 x.f0, .int .i64 x.f1, .int .i64 x.f2, .slice A x.f3.length c] 52)
  obtain ⟨W, hW⟩ : ∃ W, W = w.alloc (.cells #[.int .i64 x.f0, .int .i64 x.f1, .int .i64 x.f2, .slice A x.f3.length c] 52) := ⟨_, rfl⟩
  rw [← hW] at hb0 bX
  have HW := Aside0.mk hW
  have HX := Aside0.mk hb0
  have BX := Aside0.mk bX
  have hn := hL.len
  have HL := Aside0.mk (hL.below hb0)
  have HE := Aside0.mk hE
  have p0 := (blk_cell bX 0).trans rfl
  have p1 := (blk_cell bX 1).trans rfl
  have p2 := (blk_cell bX 2).trans rfl
  have p3 := (blk_cell bX 3).trans rfl
  clear hL hE hb0 bX hW
  by_cases h1 : x.f0 = 1
  · have d1 : (x.f0 == 1) = true := by simp [h1]
    have HT : Aside0 (textB x = letB x.f1) := ⟨by rw [textB_eq, if_pos h1]⟩
    clear h1
    go_enter Try.func62, Try.ntmps62
    go_upto_region 1 with fail
    rw [← HW.out]
    go_wp2_with (go_at_call 80; refine (l1Letter_any x.f1 ps.1 ps.2 _).mono ?_; rintro e w2 ⟨rfl, rfl⟩)
    go_ret
    exact ⟨by (rw [HT.out]; try rfl), HX.out⟩
  have d1 : (x.f0 == 1) = false := by simp [h1]
  have hw2 : 2 ≤ x.f0 := by omega
  go_enter Try.func62, Try.ntmps62
  go_upto_region 1 with fail
  rw [← HW.out]
  go_upto_region 3 with fail
  have F : ∀ w', Below W.heap.size W w' → (fun w' => w'.cell? ⟨w.heap.size, 0, none⟩ = some (.int .i64 x.f0)) w' := fun w' h => pw_cell_below h p0
  refine Za.regionL (fun w' => w'.cell? ⟨w.heap.size, 0, none⟩ = some (.int .i64 x.f0)) [] (by kernel_rfl) ?_
  have HS : (fun w' => w'.cell? ⟨w.heap.size, 0, none⟩ = some (.int .i64 x.f0)) W.drew := F _ (below_drew (Below.refl _ _))
  refine Za.takeL 1 (v := ?va1) rfl (by kernel_rfl) (by kernel_rfl) (by kernel_rfl) (by kernel_rfl) (fun _ _ _ h => h) (Or.inl ⟨by rfl, ?hya1⟩) HS ?resta1
  case hya1 => (intro w hSw; (try dsimp only at hSw); go_simp; try with_reducible rfl)
  (try simp only [Act.put, List.setIfInBounds_toArray, List.set_cons_zero, List.set_cons_succ])
  refine Za.takeL 2 (v := ?va2) rfl (by kernel_rfl) (by kernel_rfl) (by kernel_rfl) (by kernel_rfl) (fun _ _ _ h => h) (Or.inl ⟨by rfl, ?hya2⟩) HS ?resta2
  case hya2 => (intro w hSw; (try dsimp only at hSw); go_simp; try with_reducible rfl)
  (try simp only [Act.put, List.setIfInBounds_toArray, List.set_cons_zero, List.set_cons_succ])
  clear HS
  refine Za.nextL 0 (by kernel_rfl) rfl (fun K' hK => ?_)
  go_simp
  (go_at_call 81; refine (l2Words_any _).mono ?_; rintro e w2 ⟨rfl, rfl⟩)
  go_wp2_with fail
  have hba : Below W.heap.size W (W.alloc (.cells wordsV 9)).drew := below_drew (below_alloc (Below.refl _ _) _)
  have hwc : (W.alloc (.cells wordsV 9)).drew.cell? ⟨W.heap.size, x.f0.toNat, none⟩ = some (.string (bs (wordB x.f0))) := words_cell W x.f0 hw2 pk2
  have pk0 : 0 ≤ x.f0 := by omega
  have pk8 : x.f0 < 8 := by omega
  refine hK.out _ _ ⟨fun _ => F _ hba, ?_⟩
  clear hK K'
  (try simp only [Act.put, List.setIfInBounds_toArray, List.set_cons_zero, List.set_cons_succ])
  refine Za.nextL 3 (by kernel_rfl) rfl (fun K' hK => ?_)
  go_simp
  refine hK.out _ _ ⟨fun _ => F _ hba, ?_⟩
  clear hK K'
  (try simp only [Act.put, List.setIfInBounds_toArray, List.set_cons_zero, List.set_cons_succ])
  refine Za.nextL 4 (by kernel_rfl) rfl (fun K' hK => ?_)
  go_simp
  refine hK.out _ _ ⟨fun _ => F _ hba, ?_⟩
  clear hK K'
  (try simp only [Act.put, List.setIfInBounds_toArray, List.set_cons_zero, List.set_cons_succ])
  refine Za.nextL 5 (by kernel_rfl) rfl (fun K' hK => ?_)
  go_simp
  refine hK.out _ _ ⟨fun _ => F _ hba, ?_⟩
  clear hK K'
  (try simp only [Act.put, List.setIfInBounds_toArray, List.set_cons_zero, List.set_cons_succ])
  refine Za.Walk.done (by kernel_rfl) ?_
  have HB2 := Aside0.mk hba
  generalize (W.alloc (.cells wordsV 9)).drew = W2 at HB2 ⊢
  clear F hba hwc p0 p1 p2 p3
  have q0 := (blk_cell (blk_below BX.out HB2.out) 0).trans rfl
  have q1 := (blk_cell (blk_below BX.out HB2.out) 1).trans rfl
  have q2 := (blk_cell (blk_below BX.out HB2.out) 2).trans rfl
  have q3 := (blk_cell (blk_below BX.out HB2.out) 3).trans rfl
  by_cases h7 : x.f0 = 7
  · have d7 : (x.f0 == 7) = true := by simp [h7]
    have hp := p.plus h7
    have hu := uptoB_len x hf 0
    have HU := Aside0.mk (show bs (wordB x.f0 ++ [32]) ++ bs (numB x.f2) = bs (uptoB x 0) by
      rw [bs_app]; unfold uptoB headB; rw [if_neg h1, if_pos h7, List.take_zero, textL_nil]; simp)
    have hwl := head_len x.f0 x.f1
    have hwl2 : (wordB x.f0).length ≤ 4 := by unfold headB at hwl; rw [if_neg h1] at hwl; exact hwl
    have hnl := num_len x.f2 hp.2
    generalize hwd : wordB x.f0 = wd at HU hwl2 ⊢
    have hA1 : bs wd ++ ({ data := #[32] } : ByteArray) = bs (wd ++ [32]) := bs_app _ [32]
    have hz1 : ¬ ((bs wd).size + ({ data := #[32] } : ByteArray).size > 9223372036854775807) := by rw [bs_size]; show ¬ (wd.length + 1 > _); omega
    have hz2 : ¬ ((bs (wd ++ [32])).size + (bs (numB x.f2)).size > 9223372036854775807) := by rw [bs_size, bs_size, List.length_append]; show ¬ (wd.length + 1 + _ > _); omega
    clear hwl hwl2 hnl hu hwd
    go_upto_region 6 with (go_at_call 82; refine (decI_any x.f2 (by omega) (by omega) _).mono ?_; rintro e w3 ⟨rfl, hb3⟩; have r0 := pw_cell_below hb3 q0; have r1 := pw_cell_below hb3 q1; have r2 := pw_cell_below hb3 q2; have r3 := pw_cell_below hb3 q3; have HB3 := Aside0.mk (below_then HB2.out HB2.out.size hb3); clear hb3)
    rw [HU.out]
    clear q0 q1 q2 q3 hA1 hz1 hz2
    have q0 := r0
    have q1 := r1
    have q2 := r2
    have q3 := r3
    clear r0 r1 r2 r3
    go_wp2
    clear q0 q1 q2 q3 d1 d7
    go_loopw [3, 4] (fun v3 vi wr => ∃ (k : Nat), k ≤ x.f3.length ∧ v3 = .string (bs (uptoB x k)) ∧ vi = .int .i64 k ∧ Aside0 (Below W.heap.size W wr)) (fun _ vi _ => x.f3.length - (intOf vi).toNat)
    case atStart => exact ⟨0, Nat.zero_le _, by first | rfl | (rw [HU.out]), rfl, HB3⟩
    case round =>
      obtain ⟨k, hk, rfl, rfl, HB⟩ := hrel
      have q3 := (blk_cell (blk_below BX.out HB.out) 3).trans rfl
      by_cases hlt : k < x.f3.length
      · have g1 : decide (k < x.f3.length) = true := decide_eq_true hlt
        have i1 : (k : Int) < x.f3.length := by omega
        obtain ⟨ad, A3, c3, rfl, pa, pb, pc, pd, pL⟩ := atE (HL.out.below HB.out) k hlt
        have HQ := Aside0.mk (HE.out _ (getE_mem hlt))
        have HF := Aside0.mk (form_at pl k hlt)
        have hul := uptoB_len x hf k
        have hol := textB_len _ HF.out
        have hoc := cnt_getD x.f3 k hlt
        have HS2 := Aside0.mk (uptoB_snoc x k hlt)
        generalize x.f3.getD k zE = o at pa pb pc pd pL HQ HF hol hoc HS2
        have HPL := Aside0.mk pL
        have hA1 : bs (uptoB x k) ++ ({ data := #[32] } : ByteArray) = bs (uptoB x k ++ [32]) := bs_app _ [32]
        have hA2 : bs (uptoB x k ++ [32]) ++ bs (textB o) = bs (uptoB x (k + 1)) := by rw [bs_app, HS2.out]
        have hz1 : ¬ ((bs (uptoB x k)).size + ({ data := #[32] } : ByteArray).size > 9223372036854775807) := by rw [bs_size]; show ¬ ((uptoB x k).length + 1 > _); omega
        have hz2 : ¬ ((bs (uptoB x k ++ [32])).size + (bs (textB o)).size > 9223372036854775807) := by rw [bs_size, bs_size, List.length_append]; show ¬ ((uptoB x k).length + 1 + _ > _); omega
        clear hul hol hoc pL
        go_wp2_with (go_at_call 62; refine (HQ.out A3 c3 _ HPL.out).mono ?_; rintro e w3 ⟨rfl, hb3⟩; have HB3 := Aside0.mk (below_then HB.out HB.out.size hb3); clear hb3)
        go_roundw
        case rel => exact ⟨k + 1, by omega, rfl, by go_num, HB3⟩
        case measure => simp [intOf]; omega
      · have hke : k = x.f3.length := by omega
        subst hke
        have g1 : decide (x.f3.length < x.f3.length) = false := decide_eq_false (by omega)
        have HT : Aside0 (uptoB x x.f3.length = textB x) := ⟨uptoB_end x h1 _ (Nat.le_refl _)⟩
        go_wp2
        go_ret
        exact ⟨by (rw [HT.out]; try rfl), below_then HX.out HX.out.size HB.out⟩
  · have d7 : (x.f0 == 7) = false := by simp [h7]
    have HU := Aside0.mk (show bs (wordB x.f0) = bs (uptoB x 0) by
      unfold uptoB headB; rw [if_neg h1, if_neg h7, List.take_zero, textL_nil]; simp)
    rw [HU.out]
    go_wp2
    clear q0 q1 q2 q3 d1 d7
    go_loopw [3, 4] (fun v3 vi wr => ∃ (k : Nat), k ≤ x.f3.length ∧ v3 = .string (bs (uptoB x k)) ∧ vi = .int .i64 k ∧ Aside0 (Below W.heap.size W wr)) (fun _ vi _ => x.f3.length - (intOf vi).toNat)
    case atStart => exact ⟨0, Nat.zero_le _, by first | rfl | (rw [HU.out]), rfl, HB2⟩
    case round =>
      obtain ⟨k, hk, rfl, rfl, HB⟩ := hrel
      have q3 := (blk_cell (blk_below BX.out HB.out) 3).trans rfl
      by_cases hlt : k < x.f3.length
      · have g1 : decide (k < x.f3.length) = true := decide_eq_true hlt
        have i1 : (k : Int) < x.f3.length := by omega
        obtain ⟨ad, A3, c3, rfl, pa, pb, pc, pd, pL⟩ := atE (HL.out.below HB.out) k hlt
        have HQ := Aside0.mk (HE.out _ (getE_mem hlt))
        have HF := Aside0.mk (form_at pl k hlt)
        have hul := uptoB_len x hf k
        have hol := textB_len _ HF.out
        have hoc := cnt_getD x.f3 k hlt
        have HS2 := Aside0.mk (uptoB_snoc x k hlt)
        generalize x.f3.getD k zE = o at pa pb pc pd pL HQ HF hol hoc HS2
        have HPL := Aside0.mk pL
        have hA1 : bs (uptoB x k) ++ ({ data := #[32] } : ByteArray) = bs (uptoB x k ++ [32]) := bs_app _ [32]
        have hA2 : bs (uptoB x k ++ [32]) ++ bs (textB o) = bs (uptoB x (k + 1)) := by rw [bs_app, HS2.out]
        have hz1 : ¬ ((bs (uptoB x k)).size + ({ data := #[32] } : ByteArray).size > 9223372036854775807) := by rw [bs_size]; show ¬ ((uptoB x k).length + 1 > _); omega
        have hz2 : ¬ ((bs (uptoB x k ++ [32])).size + (bs (textB o)).size > 9223372036854775807) := by rw [bs_size, bs_size, List.length_append]; show ¬ ((uptoB x k).length + 1 + _ > _); omega
        clear hul hol hoc pL
        go_wp2_with (go_at_call 62; refine (HQ.out A3 c3 _ HPL.out).mono ?_; rintro e w3 ⟨rfl, hb3⟩; have HB3 := Aside0.mk (below_then HB.out HB.out.size hb3); clear hb3)
        go_roundw
        case rel => exact ⟨k + 1, by omega, rfl, by go_num, HB3⟩
        case measure => simp [intOf]; omega
      · have hke : k = x.f3.length := by omega
        subst hke
        have g1 : decide (x.f3.length < x.f3.length) = false := decide_eq_false (by omega)
        have HT : Aside0 (uptoB x x.f3.length = textB x) := ⟨uptoB_end x h1 _ (Nat.le_refl _)⟩
        go_wp2
        go_ret
        exact ⟨by (rw [HT.out]; try rfl), below_then HX.out HX.out.size HB.out⟩
theorem l2Text_any (x : Ex) (hf : formB x = true) (hc : cntL x.f3 ≤ 1048576) : TCall x := l2Text_of x hf hc (fun y hy =>
  have := cnt_mem hy
  l2Text_any y (by have h := (form_head hf).2; rw [formL_all, List.all_eq_true] at h; exact h y hy) (by omega))
termination_by cntL x.f3
end Go.Proofs.Ytckblabkapeigaa.Ne

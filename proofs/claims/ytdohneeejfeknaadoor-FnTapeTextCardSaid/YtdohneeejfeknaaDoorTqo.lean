
/- FnTapeText: the plain law and the walk. Printed by genTqo.py. -/
import Derived.Test.YtdohneeejfeknaaDoorTqn
set_option linter.unusedVariables false
set_option linter.unusedSimpArgs false
namespace Go.Proofs.YtdohneeejfeknaaDoor.Tqo
open Go.RowKit Go.Proofs.YtdohneeejfeknaaDoorW.PrintWords Go.Proofs.YtdohneeejfeknaaDoor.Ja Go.Proofs.YtdohneeejfeknaaDoor.Tqa Go.Proofs.YtdohneeejfeknaaDoor.Tqb Go.Proofs.YtdohneeejfeknaaDoor.Tqc Go.Proofs.YtdohneeejfeknaaDoor.Tqf Go.Proofs.YtdohneeejfeknaaDoor.Tqg Go.Proofs.YtdohneeejfeknaaDoor.Tqh Go.Proofs.YtdohneeejfeknaaDoor.Tqi Go.Proofs.YtdohneeejfeknaaDoor.Tqk Go.Proofs.YtdohneeejfeknaaDoor.Tql Go.Proofs.YtdohneeejfeknaaDoor.Tqm Go.Proofs.YtdohneeejfeknaaDoor.Tqn Go.Proofs.YtdohneeejfeknaaDoor.Tp1 Go.Proofs.YtdohneeejfeknaaDoor.Tp4 Go.Proofs.YtdohneeejfeknaaDoor.Tp5
theorem okc_of {x : TCall} (h : okCall x = true) : okc (x.f0, x.f1, x.f2) := h
theorem tell_I {x : TCall} (h : okCall x = true) : tellT x = tellI (x.f0, x.f1, x.f2) := tell_tc (x.f0, x.f1, x.f2) h
theorem untell_back {x : TCall} (h : okCall x = true) : untellT (tellT x) = x := by
  have hf := okc_fine _ (okc_of h)
  have e := tell_I h
  have h1 : untellB (tellT x) = (x.f0, x.f1, x.f2) := by
    rw [e]
    unfold tellI
    rw [untell_tell _ _ _ (by have := hf.1; have := hf.2.1; simp only at *; omega) hf.2.2.1 hf.2.2.2]
    have := hf.1
    simp only at this ⊢
    rw [Int.toNat_of_nonneg this]
  unfold untellT
  rw [h1]
theorem itoa_small (n : Int) (k : Nat) (h0 : 0 ≤ n) (h : n.toNat < 10 ^ (k + 1)) : (Lib.itoa n).length ≤ k + 1 := by
  unfold Lib.itoa
  rw [if_neg (by omega)]
  exact dig_len k _ h
theorem tell_len7 {x : TCall} (h : okCall x = true) : (tellT x).length ≤ 7 ∧ 1 ≤ (tellT x).length := by
  simp [okCall, fit, inb] at h
  have a := itoa_small x.f1 1 (by omega) (by show x.f1.toNat < 100; omega)
  have b := itoa_small x.f2 2 (by omega) (by show x.f2.toNat < 1000; omega)
  unfold tellT midT
  rw [List.length_append, List.length_append, letB_len]
  split
  · simp; omega
  · rw [List.length_cons]; omega
/-- what is written of right calls is read back -/
theorem read_back (l : List TCall) (h : (decide (l.length ≤ 30) && l.all okCall) = true) : readI (textC l) = some l := by
  have h1 := h
  rw [Bool.and_eq_true] at h1
  have hl := of_decide_eq_true h1.1
  have ho := List.all_eq_true.1 h1.2
  have hlen : (textC l).length ≤ 8 * l.length := by
    have := join_le (l.map tellT) 7 (fun x hx => by
      obtain ⟨y, hy, rfl⟩ := List.mem_map.1 hx
      exact (tell_len7 (ho y hy)).1)
    rw [List.length_map] at this
    exact this
  have hw : wordsC (textC l) = l := by
    cases l with
    | nil => rfl
    | cons x r =>
      have hc : cutC 32 (textC (x :: r)) = (x :: r).map tellT := by
        unfold textC
        rw [List.map_cons]
        refine cutC_join 32 _ _ (fun y hy => ?_)
        rw [← List.map_cons] at hy
        obtain ⟨z, hz, rfl⟩ := List.mem_map.1 hy
        rw [tell_I (ho z hz)]
        exact tellI_no _ (okc_fine _ (okc_of (ho z hz)))
      have hne : ¬ textC (x :: r) = [] := fun e => by
        rw [e] at hc
        have h2 : [([] : List UInt8)] = (x :: r).map tellT := hc
        rw [List.map_cons] at h2
        injection h2 with h3 h4
        have := (tell_len7 (ho x (by simp))).2
        rw [← h3] at this
        simp at this
      unfold wordsC
      rw [if_neg hne, hc, List.map_map]
      exact (List.map_congr_left (fun z hz => untell_back (ho z hz))).trans (List.map_id _)
  unfold readI
  rw [if_neg (by omega), hw, if_pos ⟨h, rfl⟩]
theorem readI_some {t : List UInt8} {cs : List TCall} (h : readI t = some cs) : textC cs = t ∧ (decide (cs.length ≤ 30) && cs.all okCall) = true := by
  unfold readI at h
  split at h
  · cases h
  · split at h
    · next h2 =>
      obtain rfl := Option.some.inj h
      exact ⟨h2.2, h2.1⟩
    · cases h
theorem all_sm {cs : List TCall} (h : (decide (cs.length ≤ 30) && cs.all okCall) = true) : ∀ x, x ∈ cs → Sm x := fun x hx => by
  rw [Bool.and_eq_true] at h
  exact okCall_sm (List.all_eq_true.1 h.2 x hx)
theorem len30 {cs : List TCall} (h : (decide (cs.length ≤ 30) && cs.all okCall) = true) : cs.length ≤ 30 := by
  rw [Bool.and_eq_true] at h
  exact of_decide_eq_true h.1
set_option maxHeartbeats 8000000 in
set_option maxRecDepth 100000 in
theorem walk (A : Option Addr) (c : Nat) (bs : List Int) (w : World) (hC : (Kd.int .u8).C w A bs.length bs) (hc : bs.length ≤ c) (hb : ∀ b ∈ bs, 0 ≤ b ∧ b ≤ 255) (B : Option Addr) (d : Nat) (cs : List Int) (hC2 : (Kd.int .u8).C w B cs.length cs) (hc2 : cs.length ≤ d) (hb2 : ∀ b ∈ cs, 0 ≤ b ∧ b ≤ 255) (hV : Vars w) :
    Calls Tryd.prog 4 #[.slice A bs.length c, .slice B cs.length d] w fun e w' => e = .returned (.bool true) ∧ Below w.heap.size w w' := by
  have HV := Aside0.mk hV
  have hnb := (C_len hC).2
  have hnc := (C_len hC2).2
  by_cases h1 : bs.length > 1048576
  · have d1 : decide ((bs.length : Int) > 1048576) = true := decide_eq_true (by omega)
    go_enter Tryd.func4, Tryd.ntmps4
    go_wp2
    go_ret
    exact ⟨rfl, Below.refl _ _⟩
  have d1 : decide ((bs.length : Int) > 1048576) = false := decide_eq_false (by omega)
  by_cases h2 : cs.length > 1048576
  · have d2 : decide ((cs.length : Int) > 1048576) = true := decide_eq_true (by omega)
    go_enter Tryd.func4, Tryd.ntmps4
    go_wp2
    go_ret
    exact ⟨rfl, Below.refl _ _⟩
  have d2 : decide ((cs.length : Int) > 1048576) = false := decide_eq_false (by omega)
  have HC1 := Aside0.mk hC
  have HC2 := Aside0.mk hC2
  have HB1 := Aside0.mk hb
  have HB2 := Aside0.mk hb2
  clear hC hC2 hb hb2 hV
  go_enter Tryd.func4, Tryd.ntmps4
  go_upto_region 4 with (go_at_call 10; refine (drawTapeText_any A c bs w HC1.out hc HB1.out).mono ?_; rintro e w3 ⟨l, A3, c3, rfl, hL3, hl31, hsm, hb3⟩; have HL3 := Aside0.mk hL3; have HSM := Aside0.mk hsm; have HW3 := Aside0.mk hb3; clear hL3 hsm hb3)
  go_upto_region 5 with (go_at_call 11; refine (tapeText_any l A3 c3 (by omega) HSM.out _ (HV.out.below HW3.out) HL3.out).mono ?_; rintro e w4 ⟨rfl, hb4⟩; have HL4 := Aside0.mk (HL3.out.below hb4); have HW4 := Aside0.mk (below_then HW3.out HW3.out.size hb4); clear hb4)
  have hsl := textC_le l HSM.out
  obtain ⟨s, hs⟩ : ∃ s, s = textC l := ⟨_, rfl⟩
  rw [← hs] at hsl ⊢
  have HS := Aside0.mk hs
  clear hs
  go_upto_region 6 with (go_at_call 6; refine (tapeRead_any s (by omega) _ (HV.out.below HW4.out)).mono ?_; rintro e w5 ⟨v5, rfl, hS5, hb5⟩; obtain ⟨A5, c5, rfl⟩ := Kd.S_slice hS5; have HR5 := Aside0.mk (S_isS hS5).2; have HL5 := Aside0.mk (HL4.out.below hb5); have HW5 := Aside0.mk (below_then HW4.out HW4.out.size hb5); clear hS5 hb5)
  have hbl : (Tqb.bs s).toList = s := bs_list s
  have xs : (s == s) = true := by simp
  cases hq : (decide (l.length ≤ 30) && l.all okCall) with
  | false =>
    have HQ := Aside0.mk hq
    clear hq
    go_upto_region 8 with (first
      | (go_at_call 13; refine (sTapeOk_any A3 c3 l _ HL6.out.2).mono ?_; rintro e w7 ⟨rfl, hb7⟩; rw [HQ.out]; have HR7 := Aside0.mk (HR6.out.below hb7); have HW7 := Aside0.mk (below_then HW6.out HW6.out.size hb7); clear hb7)
      | (go_at_call 12; refine (sTapeText_any l A3 c3 (by omega) HSM.out _ HL5.out).mono ?_; rintro e w6 ⟨rfl, hb6⟩; rw [← HS.out]; have HL6 := Aside0.mk (HL5.out.below hb6); have HR6 := Aside0.mk (HR5.out.below hb6); have HW6 := Aside0.mk (below_then HW5.out HW5.out.size hb6); clear hb6))
    clear hbl
    go_upto_region 9 with (go_at_call 14; refine (drawTapeRead_any B d cs _ (Kd.C_below HC2.out HW7.out) hc2 HB2.out).mono ?_; rintro e w9 ⟨t, rfl, htl, hb9⟩; have HW9 := Aside0.mk (below_then HW7.out HW7.out.size hb9); clear hb9)
    cases hrd : readI t with
    | none =>
      have HRD := Aside0.mk hrd
      clear hrd
      go_upto_region 10 with (go_at_call 6; refine (tapeRead_any t (by omega) _ (HV.out.below HW9.out)).mono ?_; rintro e w10 ⟨v10, rfl, hS10, hb10⟩; obtain ⟨A10, c10, rfl⟩ := Kd.S_slice hS10; rw [HRD.out] at hS10 ⊢;  have HW10 := Aside0.mk (below_then HW9.out HW9.out.size hb10); clear hS10 hb10)
      go_upto_region 11 with (go_at_call 5; refine (sTapeRead_any t (by omega) _).mono ?_; rintro e w11 ⟨A11, c11, rfl, hL11, hb11⟩; rw [HRD.out];  have HW11 := Aside0.mk (below_then HW10.out HW10.out.size hb11); clear hL11 hb11)
      go_wp2
      go_ret
      exact ⟨rfl, HW11.out⟩
    | some ys =>
      have htx := (readI_some hrd).1
      have hok := (readI_some hrd).2
      have HSM2 := Aside0.mk (all_sm hok)
      have hl2 := len30 hok
      have HOK := Aside0.mk hok
      have HTX := Aside0.mk htx
      have HRD := Aside0.mk hrd
      have hbt : (Tqb.bs t).toList = t := bs_list t
      have xt : (t == t) = true := by simp
      clear hrd hok htx
      go_upto_region 10 with (go_at_call 6; refine (tapeRead_any t (by omega) _ (HV.out.below HW9.out)).mono ?_; rintro e w10 ⟨v10, rfl, hS10, hb10⟩; obtain ⟨A10, c10, rfl⟩ := Kd.S_slice hS10; rw [HRD.out] at hS10 ⊢; simp only [Option.getD_some, Option.isSome_some] at hS10 ⊢; have HR10 : Aside0 (IsS kCall w10 ys A10 c10) := ⟨(S_isS hS10).2⟩; have HW10 := Aside0.mk (below_then HW9.out HW9.out.size hb10); clear hS10 hb10)
      go_upto_region 11 with (go_at_call 5; refine (sTapeRead_any t (by omega) _).mono ?_; rintro e w11 ⟨A11, c11, rfl, hL11, hb11⟩; rw [HRD.out]; have HR11 := Aside0.mk (HR10.out.below hb11); have HW11 := Aside0.mk (below_then HW10.out HW10.out.size hb11); clear hL11 hb11)
      go_wp2_with (first
        | (go_at_call 15; refine (tapeOk_any A10 c10 ys _ HR12.out.2).mono ?_; rintro e w13 ⟨rfl, hb13⟩; rw [HOK.out]; have HW13 := Aside0.mk (below_then HW12.out HW12.out.size hb13); clear hb13)
        | (go_at_call 11; refine (tapeText_any ys A10 c10 (by omega) HSM2.out _ (HV.out.below HW11.out) HR11.out).mono ?_; rintro e w12 ⟨rfl, hb12⟩; rw [HTX.out]; have HR12 := Aside0.mk (HR11.out.below hb12); have HW12 := Aside0.mk (below_then HW11.out HW11.out.size hb12); clear hb12))
      go_ret
      exact ⟨rfl, HW13.out⟩
  | true =>
    have HRB := Aside0.mk (by rw [HS.out]; exact read_back l hq : readI s = some l)
    have HQ := Aside0.mk hq
    rw [HRB.out] at HR5 ⊢
    simp only [Option.getD_some, Option.isSome_some] at HR5 ⊢
    clear hq
    have xl : ((l.length : Int) != (l.length : Int)) = false := by simp
    go_upto_region 8 with (first
      | (go_at_call 11; refine (tapeText_any l A5 c5 (by omega) HSM.out _ (HV.out.below HW7.out) HR7.out).mono ?_; rintro e w8 ⟨rfl, hb8⟩; rw [← HS.out]; have HW8 := Aside0.mk (below_then HW7.out HW7.out.size hb8); clear hb8)
      | (go_at_call 13; refine (sTapeOk_any A3 c3 l _ HL6.out.2).mono ?_; rintro e w7 ⟨rfl, hb7⟩; rw [HQ.out]; have HR7 := Aside0.mk (HR6.out.below hb7); have HW7 := Aside0.mk (below_then HW6.out HW6.out.size hb7); clear hb7)
      | (go_at_call 12; refine (sTapeText_any l A3 c3 (by omega) HSM.out _ HL5.out).mono ?_; rintro e w6 ⟨rfl, hb6⟩; rw [← HS.out]; have HL6 := Aside0.mk (HL5.out.below hb6); have HR6 := Aside0.mk (HR5.out.below hb6); have HW6 := Aside0.mk (below_then HW5.out HW5.out.size hb6); clear hb6))
    clear hbl
    go_upto_region 9 with (go_at_call 14; refine (drawTapeRead_any B d cs _ (Kd.C_below HC2.out HW8.out) hc2 HB2.out).mono ?_; rintro e w9 ⟨t, rfl, htl, hb9⟩; have HW9 := Aside0.mk (below_then HW8.out HW8.out.size hb9); clear hb9)
    cases hrd : readI t with
    | none =>
      have HRD := Aside0.mk hrd
      clear hrd
      go_upto_region 10 with (go_at_call 6; refine (tapeRead_any t (by omega) _ (HV.out.below HW9.out)).mono ?_; rintro e w10 ⟨v10, rfl, hS10, hb10⟩; obtain ⟨A10, c10, rfl⟩ := Kd.S_slice hS10; rw [HRD.out] at hS10 ⊢;  have HW10 := Aside0.mk (below_then HW9.out HW9.out.size hb10); clear hS10 hb10)
      go_upto_region 11 with (go_at_call 5; refine (sTapeRead_any t (by omega) _).mono ?_; rintro e w11 ⟨A11, c11, rfl, hL11, hb11⟩; rw [HRD.out];  have HW11 := Aside0.mk (below_then HW10.out HW10.out.size hb11); clear hL11 hb11)
      go_wp2
      go_ret
      exact ⟨rfl, HW11.out⟩
    | some ys =>
      have htx := (readI_some hrd).1
      have hok := (readI_some hrd).2
      have HSM2 := Aside0.mk (all_sm hok)
      have hl2 := len30 hok
      have HOK := Aside0.mk hok
      have HTX := Aside0.mk htx
      have HRD := Aside0.mk hrd
      have hbt : (Tqb.bs t).toList = t := bs_list t
      have xt : (t == t) = true := by simp
      clear hrd hok htx
      go_upto_region 10 with (go_at_call 6; refine (tapeRead_any t (by omega) _ (HV.out.below HW9.out)).mono ?_; rintro e w10 ⟨v10, rfl, hS10, hb10⟩; obtain ⟨A10, c10, rfl⟩ := Kd.S_slice hS10; rw [HRD.out] at hS10 ⊢; simp only [Option.getD_some, Option.isSome_some] at hS10 ⊢; have HR10 : Aside0 (IsS kCall w10 ys A10 c10) := ⟨(S_isS hS10).2⟩; have HW10 := Aside0.mk (below_then HW9.out HW9.out.size hb10); clear hS10 hb10)
      go_upto_region 11 with (go_at_call 5; refine (sTapeRead_any t (by omega) _).mono ?_; rintro e w11 ⟨A11, c11, rfl, hL11, hb11⟩; rw [HRD.out]; have HR11 := Aside0.mk (HR10.out.below hb11); have HW11 := Aside0.mk (below_then HW10.out HW10.out.size hb11); clear hL11 hb11)
      go_wp2_with (first
        | (go_at_call 15; refine (tapeOk_any A10 c10 ys _ HR12.out.2).mono ?_; rintro e w13 ⟨rfl, hb13⟩; rw [HOK.out]; have HW13 := Aside0.mk (below_then HW12.out HW12.out.size hb13); clear hb13)
        | (go_at_call 11; refine (tapeText_any ys A10 c10 (by omega) HSM2.out _ (HV.out.below HW11.out) HR11.out).mono ?_; rintro e w12 ⟨rfl, hb12⟩; rw [HTX.out]; have HR12 := Aside0.mk (HR11.out.below hb12); have HW12 := Aside0.mk (below_then HW11.out HW11.out.size hb12); clear hb12))
      go_ret
      exact ⟨rfl, HW13.out⟩
end Go.Proofs.YtdohneeejfeknaaDoor.Tqo

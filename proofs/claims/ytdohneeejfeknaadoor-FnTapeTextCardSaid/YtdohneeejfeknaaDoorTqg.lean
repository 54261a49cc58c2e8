
/- The program's texts of calls: written, read. Printed by genTqg.py. -/
import Derived.Test.YtdohneeejfeknaaDoorTqf
import Derived.Test.YtdohneeejfeknaaDoorTp5
set_option linter.unusedVariables false
set_option linter.unusedSimpArgs false
namespace Go.Proofs.YtdohneeejfeknaaDoor.Tqg
open Go.RowKit Go.Proofs.YtdohneeejfeknaaDoorW.PrintWords Go.Proofs.YtdohneeejfeknaaDoor.Ja Go.Proofs.YtdohneeejfeknaaDoor.Tqa Go.Proofs.YtdohneeejfeknaaDoor.Tqb Go.Proofs.YtdohneeejfeknaaDoor.Tqc Go.Proofs.YtdohneeejfeknaaDoor.Tqe Go.Proofs.YtdohneeejfeknaaDoor.Tqf Go.Proofs.YtdohneeejfeknaaDoor.Tp1 Go.Proofs.YtdohneeejfeknaaDoor.Tp4 Go.Proofs.YtdohneeejfeknaaDoor.Tp5
/-- numbers whose decimals have at most 19 digits -/
def Sm (x : TCall) : Prop := (-4611686018427387904 ≤ x.f1 ∧ x.f1 ≤ 4611686018427387904) ∧ -4611686018427387904 ≤ x.f2 ∧ x.f2 ≤ 4611686018427387904
def midT (x : TCall) : List UInt8 := letB x.f0 ++ Lib.itoa x.f1
def tellT (x : TCall) : List UInt8 := midT x ++ if x.f2 = 0 then [] else 61 :: Lib.itoa x.f2
theorem mid_len {x : TCall} (h : Sm x) : (midT x).length ≤ 21 := by
  have := itoa_len19 _ h.1.1 h.1.2
  unfold midT
  rw [List.length_append, letB_len]
  omega
theorem tellT_len {x : TCall} (h : Sm x) : (tellT x).length ≤ 42 := by
  have a := mid_len h
  have b := itoa_len19 _ h.2.1 h.2.2
  unfold tellT
  rw [List.length_append]
  split
  · simp; omega
  · rw [List.length_cons]; omega
theorem okCall_sm {x : TCall} (h : okCall x = true) : Sm x := by
  simp [okCall, fit, inb] at h
  unfold Sm
  omega
def textC (l : List TCall) : List UInt8 := Lib.join (l.map tellT) [32]
theorem join_le : ∀ (l : List (List UInt8)) (b : Nat), (∀ x, x ∈ l → x.length ≤ b) → (Lib.join l [32]).length ≤ (b + 1) * l.length
  | [], b, _ => by rw [Lib.join_nil]; simp
  | [x], b, h => by rw [Lib.join_one]; have := h x (by simp); simp; omega
  | x :: y :: r, b, h => by
    have ih := join_le (y :: r) b (fun z hz => h z (List.mem_cons_of_mem _ hz))
    have h1 := h x (by simp)
    rw [Lib.join_length] at ih ⊢
    simp only [Lib.lens, List.length_cons, List.map_cons, List.sum_cons, List.length_nil] at *
    have e1 : (b + 1) * (r.length + 1) = (b + 1) * r.length + (b + 1) := Nat.mul_succ _ _
    have e2 : (b + 1) * (r.length + 1 + 1) = (b + 1) * (r.length + 1) + (b + 1) := Nat.mul_succ _ _
    omega
theorem textC_le (l : List TCall) (h : ∀ x, x ∈ l → Sm x) : (textC l).length ≤ 43 * l.length := by
  have := join_le (l.map tellT) 42 (fun x hx => by
    obtain ⟨y, hy, rfl⟩ := List.mem_map.1 hx
    exact tellT_len (h y hy))
  rw [List.length_map] at this
  exact this
set_option maxRecDepth 100000 in
theorem tell_any (x : TCall) (h : Sm x) (w : World) (hV : Vars w) : Calls Tryd.prog 23 #[.int .i64 x.f0, .int .i64 x.f1, .int .i64 x.f2] w fun e w' => e = .returned (.string (bs (tellT x))) ∧ Below w.heap.size w w' := by
  have HV := Aside0.mk hV
  have hl1 := mid_len h
  have hl2 := itoa_len19 _ h.2.1 h.2.2
  have hl3 := itoa_len19 _ h.1.1 h.1.2
  obtain ⟨⟨n0, n1⟩, v0, v1⟩ := h
  have hA1 : bs (letB x.f0) ++ bs (Lib.itoa x.f1) = bs (midT x) := bs_app _ _
  have hz1 : ¬ ((bs (letB x.f0)).size + (bs (Lib.itoa x.f1)).size > 9223372036854775807) := by rw [bs_size, bs_size, letB_len]; omega
  by_cases hv : x.f2 = 0
  · have d : (x.f2 != 0) = false := by simp [hv]
    have HT : Aside0 (tellT x = midT x) := ⟨by unfold tellT; rw [if_pos hv, List.append_nil]⟩
    clear hv hl1 hl2 hl3 hV
    go_enter Tryd.func23, Tryd.ntmps23
    go_wp2_with (first
      | (go_at_call 42; refine (itoa_any x.f1 (by omega) (by omega) _ HV.out).mono ?_; rintro e w3 ⟨rfl, hb3⟩; have HB3 := Aside0.mk hb3; clear hb3)
      | (go_at_call 41; refine (letter_any x.f0 _).mono ?_; rintro e w2 ⟨rfl, rfl⟩))
    go_ret
    exact ⟨by (rw [HT.out]; try rfl), HB3.out⟩
  · have d : (x.f2 != 0) = true := by simp [hv]
    have hA2 : ({ data := #[61] } : ByteArray) ++ bs (Lib.itoa x.f2) = bs (61 :: Lib.itoa x.f2) := bs_app [61] _
    have hz2 : ¬ (({ data := #[61] } : ByteArray).size + (bs (Lib.itoa x.f2)).size > 9223372036854775807) := by rw [bs_size]; show ¬ (1 + (Lib.itoa x.f2).length > _); omega
    have hA3 : bs (midT x) ++ bs (61 :: Lib.itoa x.f2) = bs (tellT x) := by rw [bs_app]; unfold tellT; rw [if_neg hv]
    have hz3 : ¬ ((bs (midT x)).size + (bs (61 :: Lib.itoa x.f2)).size > 9223372036854775807) := by rw [bs_size, bs_size, List.length_cons]; omega
    clear hv hl1 hl2 hl3 hV
    go_enter Tryd.func23, Tryd.ntmps23
    go_upto_region 3 with (first
      | (go_at_call 42; refine (itoa_any x.f1 (by omega) (by omega) _ HV.out).mono ?_; rintro e w3 ⟨rfl, hb3⟩; have HB3 := Aside0.mk hb3; clear hb3)
      | (go_at_call 41; refine (letter_any x.f0 _).mono ?_; rintro e w2 ⟨rfl, rfl⟩))
    clear hA1 hz1
    go_wp2_with (go_at_call 42; refine (itoa_any x.f2 (by omega) (by omega) _ (HV.out.below HB3.out)).mono ?_; rintro e w4 ⟨rfl, hb4⟩; have HB4 := Aside0.mk (below_then HB3.out HB3.out.size hb4); clear hb4)
    go_ret
    exact ⟨rfl, HB4.out⟩
/-- the place of a letter -/
theorem ibyte_at (b : UInt8) : Lib.indexByte [97, 98, 99, 100, 101] b = if 97 ≤ b.toNat ∧ b.toNat ≤ 101 then (b.toNat : Int) - 97 else -1 := by
  have key : ∀ n : Fin 256, Lib.indexByte [97, 98, 99, 100, 101] (UInt8.ofNat n.val) = if 97 ≤ n.val ∧ n.val ≤ 101 then (n.val : Int) - 97 else -1 := by decide +kernel
  have := key ⟨b.toNat, b.toNat_lt⟩
  simpa using this
def untellT (l : List UInt8) : TCall := ⟨(untellB l).1, (untellB l).2.1, (untellB l).2.2⟩
set_option maxHeartbeats 1000000 in
set_option maxRecDepth 100000 in
theorem untell_any (l : List UInt8) (hl : l.length ≤ 1048576) (w : World) (hV : Vars w) : Calls Tryd.prog 19 #[.string (bs l)] w fun e w' => e = .returned (.tuple #[.int .i64 (untellT l).f0, .int .i64 (untellT l).f1, .int .i64 (untellT l).f2]) ∧ Below w.heap.size w w' := by
  have HV := Aside0.mk hV
  clear hV
  cases l with
  | nil =>
    have hbl : (bs []).toList = [] := bs_list []
    go_enter Tryd.func19, Tryd.ntmps19
    go_wp2
    go_ret3
    exact ⟨rfl, Below.refl _ _⟩
  | cons b t =>
    obtain ⟨s, hs0⟩ : ∃ s, s = b :: t := ⟨_, rfl⟩
    obtain ⟨n, hn⟩ : ∃ n, n = s.length := ⟨_, rfl⟩
    have hs : (bs s).size = n := by rw [bs_size, hn]
    have hn1 : 1 ≤ n := by rw [hn, hs0]; simp
    have hx : (bs s).extract 1 n = bs t := by rw [hn, hs0]; exact bs_tail b t
    have hg : ∀ h, (bs s)[0]'h = b := by subst hs0; intro h; rw [bs_get]; rfl
    have hbl : (bs s).toList = s := bs_list s
    have d : (s == []) = false := by rw [hs0]; rfl
    have htl : t.length ≤ 1048576 := by simp at hl; omega
    have hc1 : (cutE t).1.length ≤ 1048576 := by
      have h := congrArg List.length (cutE_back t)
      rw [List.length_append] at h
      omega
    have hc2 : ((cutE t).2.getD []).length ≤ 1048576 := by
      have h := congrArg List.length (cutE_back t)
      rw [List.length_append] at h
      cases h2 : (cutE t).2 with
      | none => simp
      | some r => rw [h2] at h; simp at h ⊢; omega
    have HU : Aside0 (untellT (b :: t) = ⟨Lib.indexByte [97, 98, 99, 100, 101] b, atoiV (cutE t).1, atoiV ((cutE t).2.getD [])⟩) := ⟨by rw [ibyte_at]; rfl⟩
    rw [← hs0] at HU ⊢
    have HC := Aside0.mk (cut_any t htl)
    have HA1 := Aside0.mk (atoi_any _ hc1)
    have HA2 := Aside0.mk (atoi_any _ hc2)
    generalize (cutE t).1 = c1 at HC HA1 HU hc1
    generalize (cutE t).2.getD [] = c2 at HC HA2 HU hc2
    have hb256 : b.toNat < 256 := b.toNat_lt
    have hbe : ((b.toNat : Int).toNat).toUInt8 = b := by rw [Int.toNat_natCast]; exact UInt8.ofNat_toNat
    have HI := Aside0.mk (fun W => ibyte_any [97, 98, 99, 100, 101] (b.toNat : Int) W)
    rw [hbe] at HI
    clear hl hn hs0 hbe
    go_enter Tryd.func19, Tryd.ntmps19
    go_upto_region 4 with (go_at_call 36; refine (HC.out _ HV.out).mono ?_; rintro e w2 ⟨rfl, hb2⟩; have HB2 := Aside0.mk hb2; clear hb2)
    go_upto_region 5 with (go_at_call 37; refine (HA1.out _ (HV.out.below HB2.out)).mono ?_; rintro e w3 ⟨ev3, rfl, hb3⟩; have HB3 := Aside0.mk (below_then HB2.out HB2.out.size hb3); clear hb3)
    go_upto_region 6 with (go_at_call 37; refine (HA2.out _ (HV.out.below HB3.out)).mono ?_; rintro e w4 ⟨ev4, rfl, hb4⟩; have HB4 := Aside0.mk (below_then HB3.out HB3.out.size hb4); clear hb4)
    go_wp2_with (go_at_call 38; refine (HI.out _).mono ?_; rintro e w5 ⟨rfl, rfl⟩)
    go_ret3
    exact ⟨by (rw [HU.out]; try rfl), HB4.out⟩
end Go.Proofs.YtdohneeejfeknaaDoor.Tqg

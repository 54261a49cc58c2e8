
/- The reference's TapeText, and its draw of a text. Printed by genTqm.py. -/
import Derived.Test.YtdohneeejfeknaaDoorTql
import Derived.Test.YtdohneeejfeknaaDoorTqc
set_option linter.unusedVariables false
set_option linter.unusedSimpArgs false
namespace Go.Proofs.YtdohneeejfeknaaDoor.Tqm
open Go.RowKit Go.Proofs.YtdohneeejfeknaaDoorW.PrintWords Go.Proofs.YtdohneeejfeknaaDoor.Ja Go.Proofs.YtdohneeejfeknaaDoor.Tqa Go.Proofs.YtdohneeejfeknaaDoor.Tqb Go.Proofs.YtdohneeejfeknaaDoor.Tqc Go.Proofs.YtdohneeejfeknaaDoor.Tqg Go.Proofs.YtdohneeejfeknaaDoor.Tqk Go.Proofs.YtdohneeejfeknaaDoor.Tql
theorem join_snoc (x : List UInt8) : ∀ ws : List (List UInt8), Lib.join (ws ++ [x]) [32] = (if ws.length = 0 then [] else Lib.join ws [32] ++ [32]) ++ x
  | [] => by rw [List.nil_append, Lib.join_one]; simp
  | [y] => by simp [Lib.join, List.intercalate]
  | y :: z :: r => by
    have ih := join_snoc x (z :: r)
    have e : ∀ (ws : List (List UInt8)), Lib.join (y :: z :: ws) [32] = y ++ [32] ++ Lib.join (z :: ws) [32] := fun ws => by simp [Lib.join, List.intercalate]
    rw [if_neg (by simp)] at ih ⊢
    rw [List.cons_append, List.cons_append, e, ← List.cons_append, ih, e]
    simp
theorem getD_mem {l : List TCall} {k : Nat} (h : k < l.length) : l.getD k zCall ∈ l := by rw [List.getD_eq_getElem?_getD, List.getElem?_eq_getElem h]; exact List.getElem_mem _
def uptoT (l : List TCall) (k : Nat) : List UInt8 := textC (l.take k)
theorem uptoT_succ (l : List TCall) (k : Nat) (h : k < l.length) : uptoT l (k + 1) = (if k = 0 then [] else uptoT l k ++ [32]) ++ tellT (l.getD k zCall) := by
  unfold uptoT textC
  rw [take_succ_getD l k zCall h, List.map_append]
  show Lib.join (_ ++ [tellT _]) [32] = _
  rw [join_snoc]
  have e : ((l.take k).map tellT).length = k := by rw [List.length_map, List.length_take]; omega
  rw [e]
set_option maxHeartbeats 4000000 in
set_option maxRecDepth 100000 in
theorem sTapeText_any (l : List TCall) (A : Option Addr) (c : Nat) (hl : l.length ≤ 1048576) (hS : ∀ x, x ∈ l → Sm x) (w : World) (hL : IsS kCall w l A c) : Calls Tryd.prog 12 #[.slice A l.length c] w fun e w' => e = .returned (.string (bs (textC l))) ∧ Below w.heap.size w w' := by
  have HL := Aside0.mk hL
  have HS := Aside0.mk hS
  have HB0 : Aside0 (Below w.heap.size w w) := ⟨Below.refl _ _⟩
  have HT0 : Aside0 (uptoT l 0 = []) := ⟨rfl⟩
  clear hL hS
  go_enter Tryd.func12, Tryd.ntmps12
  go_wp2
  go_loopw [3, 4] (fun v3 v4 wr => ∃ (k : Nat) (o : List UInt8), k ≤ l.length ∧ v3 = .string (bs o) ∧ v4 = .int .i64 k ∧ Aside0 (o = uptoT l k) ∧ Aside0 (Below w.heap.size w wr)) (fun _ v4 _ => l.length - (intOf v4).toNat)
  case atStart => exact ⟨0, [], by omega, rfl, rfl, ⟨HT0.out.symm⟩, HB0⟩
  case round =>
    clear HB0 HT0
    obtain ⟨k, o, hk, rfl, rfl, HO, HB⟩ := hrel
    by_cases hlt : k < l.length
    · have g1 : decide (k < l.length) = true := decide_eq_true hlt
      have i1 : (k : Int) < l.length := by omega
      obtain ⟨ad, rfl, ha, hb, hc⟩ := atCall (HL.out.below HB.out) k hlt
      have hsm := HS.out _ (getD_mem hlt)
      have HU := Aside0.mk (uptoT_succ l k hlt)
      have hol := textC_le (l.take k) (fun x hx => HS.out x (List.mem_of_mem_take hx))
      rw [List.length_take] at hol
      have hol2 : o.length ≤ 43 * 1048576 := by rw [HO.out]; unfold uptoT; omega
      clear hol
      generalize l.getD k zCall = y at ha hb hc hsm HU
      have hyl := itoa_len19 _ hsm.1.1 hsm.1.2
      have hvl := itoa_len19 _ hsm.2.1 hsm.2.2
      obtain ⟨⟨n0, n1⟩, v0, v1⟩ := hsm
      obtain ⟨q, hq⟩ : ∃ q, q = if k = 0 then [] else o ++ [32] := ⟨_, rfl⟩
      have hql : q.length ≤ 43 * 1048577 := by rw [hq]; split <;> simp <;> omega
      have HU2 : Aside0 (uptoT l (k + 1) = q ++ tellT y) := ⟨by rw [HU.out, hq, HO.out]⟩
      have hA1 : bs q ++ bs (letB y.f0) = bs (q ++ letB y.f0) := bs_app _ _
      have hz1 : ¬ ((bs q).size + (bs (letB y.f0)).size > 9223372036854775807) := by rw [bs_size, bs_size, letB_len]; omega
      obtain ⟨q2, hq2⟩ : ∃ q2, q2 = q ++ letB y.f0 ++ Lib.itoa y.f1 := ⟨_, rfl⟩
      have hA2 : bs (q ++ letB y.f0) ++ bs (Lib.itoa y.f1) = bs q2 := by rw [bs_app, hq2]
      have hz2 : ¬ ((bs (q ++ letB y.f0)).size + (bs (Lib.itoa y.f1)).size > 9223372036854775807) := by rw [bs_size, bs_size, List.length_append, letB_len]; omega
      have hq2l : q2.length ≤ 43 * 1048577 + 21 := by rw [hq2, List.length_append, List.length_append, letB_len]; omega
      have HU3 : Aside0 (uptoT l (k + 1) = q2 ++ if y.f2 = 0 then [] else 61 :: Lib.itoa y.f2) := ⟨by rw [HU2.out, hq2]; unfold tellT midT; simp⟩
      replace ha := cellE ha
      replace hb := cellE hb
      replace hc := cellE hc
      have hc1 := fun s : Ext wr => l1Letter_any y.f0 s.1
      have hc2 := fun s : Ext wr => l8Dec_any y.f1 n0 n1 s.1
      clear HU HU2 hq2 hol2
      by_cases hk0 : k = 0
      · have HOQ : Aside0 (o = q) := ⟨by rw [hq, if_pos hk0, HO.out, hk0]; rfl⟩
        have d0 : decide ((k : Int) > 0) = false := decide_eq_false (by omega)
        have i0 : ¬ (0 : Int) < k := by omega
        clear hq hk0
        go_upto_region 7 with fail
        rw [HOQ.out]
        refine region_ext (W := wr) (Below.refl _ _) (by kernel_rfl) (by kernel_rfl) ?_
        repeat (first | go_big_quiet_step ((first | (go_at_call 25; exact calls_ext_same (hc1 _)) | (go_at_call 26; exact calls_ext (hc2 _)))) | quiet_step ((first | (go_at_call 25; exact calls_ext_same (hc1 _)) | (go_at_call 26; exact calls_ext (hc2 _)))))
        refine wpQuiet_nil ?_
        rintro _ ⟨s, rfl⟩
        have hc' := hc s
        have HB3 := Aside0.mk (below_then HB.out HB.out.size s.2)
        clear ha hb hc hc1 hc2 hA1 hA2 hz1 hz2
        generalize s.1 = W2 at HB3 hc' ⊢
        by_cases hv : y.f2 = 0
        · have d : (y.f2 != 0) = false := by simp [hv]
          have HF : Aside0 (q2 = uptoT l (k + 1)) := ⟨by rw [HU3.out, if_pos hv, List.append_nil]⟩
          clear hv
          go_wp2
          go_roundw
          case rel => exact ⟨k + 1, q2, by omega, rfl, by go_num, HF, HB3⟩
          case measure => simp [intOf] <;> omega
        · have d : (y.f2 != 0) = true := by simp [hv]
          obtain ⟨q3, hq3⟩ : ∃ q3, q3 = q2 ++ [61] := ⟨_, rfl⟩
          obtain ⟨q4, hq4⟩ : ∃ q4, q4 = q3 ++ Lib.itoa y.f2 := ⟨_, rfl⟩
          have HF : Aside0 (q4 = uptoT l (k + 1)) := ⟨by rw [HU3.out, if_neg hv, hq4, hq3]; simp⟩
          have hA3 : bs q2 ++ ({ data := #[61] } : ByteArray) = bs q3 := by rw [hq3]; exact bs_app q2 [61]
          have hz3 : ¬ ((bs q2).size + ({ data := #[61] } : ByteArray).size > 9223372036854775807) := by rw [bs_size]; show ¬ (_ + 1 > _); omega
          have hA4 : bs q3 ++ bs (Lib.itoa y.f2) = bs q4 := by rw [hq4]; exact bs_app _ _
          have hz4 : ¬ ((bs q3).size + (bs (Lib.itoa y.f2)).size > 9223372036854775807) := by rw [bs_size, bs_size, hq3, List.length_append]; simp; omega
          clear hv hq3 hq4
          go_wp2_with (go_at_call 26; refine (l8Dec_any y.f2 v0 v1 _).mono ?_; rintro e w4 ⟨rfl, hb4⟩; have HB4 := Aside0.mk (below_then HB3.out HB3.out.size hb4); clear hb4)
          go_roundw
          case rel => exact ⟨k + 1, q4, by omega, rfl, by go_num, HF, HB4⟩
          case measure => simp [intOf] <;> omega
      · have hA0 : bs o ++ ({ data := #[32] } : ByteArray) = bs q := by rw [hq, if_neg hk0]; exact bs_app o [32]
        have hol3 : o.length ≤ 43 * 1048577 := by rw [hq, if_neg hk0, List.length_append] at hql; omega
        have hz0 : ¬ ((bs o).size + ({ data := #[32] } : ByteArray).size > 9223372036854775807) := by rw [bs_size]; show ¬ (_ + 1 > _); omega
        have d0 : decide ((k : Int) > 0) = true := decide_eq_true (by omega)
        have i0 : (0 : Int) < k := by omega
        clear hq hk0
        go_upto_region 7 with fail
        clear hA0 hz0
        refine region_ext (W := wr) (Below.refl _ _) (by kernel_rfl) (by kernel_rfl) ?_
        repeat (first | go_big_quiet_step ((first | (go_at_call 25; exact calls_ext_same (hc1 _)) | (go_at_call 26; exact calls_ext (hc2 _)))) | quiet_step ((first | (go_at_call 25; exact calls_ext_same (hc1 _)) | (go_at_call 26; exact calls_ext (hc2 _)))))
        refine wpQuiet_nil ?_
        rintro _ ⟨s, rfl⟩
        have hc' := hc s
        have HB3 := Aside0.mk (below_then HB.out HB.out.size s.2)
        clear ha hb hc hc1 hc2 hA1 hA2 hz1 hz2
        generalize s.1 = W2 at HB3 hc' ⊢
        by_cases hv : y.f2 = 0
        · have d : (y.f2 != 0) = false := by simp [hv]
          have HF : Aside0 (q2 = uptoT l (k + 1)) := ⟨by rw [HU3.out, if_pos hv, List.append_nil]⟩
          clear hv
          go_wp2
          go_roundw
          case rel => exact ⟨k + 1, q2, by omega, rfl, by go_num, HF, HB3⟩
          case measure => simp [intOf] <;> omega
        · have d : (y.f2 != 0) = true := by simp [hv]
          obtain ⟨q3, hq3⟩ : ∃ q3, q3 = q2 ++ [61] := ⟨_, rfl⟩
          obtain ⟨q4, hq4⟩ : ∃ q4, q4 = q3 ++ Lib.itoa y.f2 := ⟨_, rfl⟩
          have HF : Aside0 (q4 = uptoT l (k + 1)) := ⟨by rw [HU3.out, if_neg hv, hq4, hq3]; simp⟩
          have hA3 : bs q2 ++ ({ data := #[61] } : ByteArray) = bs q3 := by rw [hq3]; exact bs_app q2 [61]
          have hz3 : ¬ ((bs q2).size + ({ data := #[61] } : ByteArray).size > 9223372036854775807) := by rw [bs_size]; show ¬ (_ + 1 > _); omega
          have hA4 : bs q3 ++ bs (Lib.itoa y.f2) = bs q4 := by rw [hq4]; exact bs_app _ _
          have hz4 : ¬ ((bs q3).size + (bs (Lib.itoa y.f2)).size > 9223372036854775807) := by rw [bs_size, bs_size, hq3, List.length_append]; simp; omega
          clear hv hq3 hq4
          go_wp2_with (go_at_call 26; refine (l8Dec_any y.f2 v0 v1 _).mono ?_; rintro e w4 ⟨rfl, hb4⟩; have HB4 := Aside0.mk (below_then HB3.out HB3.out.size hb4); clear hb4)
          go_roundw
          case rel => exact ⟨k + 1, q4, by omega, rfl, by go_num, HF, HB4⟩
          case measure => simp [intOf] <;> omega
    · have g1 : decide (k < l.length) = false := decide_eq_false hlt
      have i1 : ¬ (k : Int) < l.length := by omega
      have HE : Aside0 (o = textC l) := ⟨by rw [HO.out]; unfold uptoT; rw [List.take_of_length_le (by omega)]⟩
      go_wp2
      go_ret
      exact ⟨by (rw [HE.out]; try rfl), HB.out⟩
end Go.Proofs.YtdohneeejfeknaaDoor.Tqm

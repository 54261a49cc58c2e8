
/- The reference's readers of texts. -/
import Derived.Test.YtdohneeejfeknaaDoorTqb
import Derived.Test.YtdohneeejfeknaaDoorTp6
set_option linter.unusedVariables false
set_option linter.unusedSimpArgs false
namespace Go.Proofs.YtdohneeejfeknaaDoor.Tqc
open Go.RowKit Go.Proofs.YtdohneeejfeknaaDoorW.PrintWords Go.Proofs.YtdohneeejfeknaaDoor.Ja Go.Proofs.YtdohneeejfeknaaDoor.Tqa Go.Proofs.YtdohneeejfeknaaDoor.Tqb Go.Proofs.YtdohneeejfeknaaDoor.Tp3 Go.Proofs.YtdohneeejfeknaaDoor.Tp4
theorem bs_get (l : List UInt8) (k : Nat) (h : k < (bs l).size) : (bs l)[k]'h = l.getD k 0 := by
  have hk : k < l.length := by rw [bs_size] at h; exact h
  have e : (bs l)[k]'h = l[k]'hk := rfl
  rw [e, List.getD_eq_getElem?_getD, List.getElem?_eq_getElem hk]
  rfl
theorem u8_ne {b : UInt8} (c : UInt8) (h : ¬ b = c) : (((b.toNat : Nat) : Int) == ((c.toNat : Nat) : Int)) = false := by
  rw [beq_eq_false_iff_ne]
  exact fun e => h (UInt8.toNat_inj.1 (by omega))
/-- the place of the first '=', or -1 -/
def findP (l : List UInt8) : Int := match cutE l with | (_, none) => -1 | (x, some _) => x.length
theorem findP_at (l : List UInt8) (k : Nat) (hk : k < l.length) (hn : (61 : UInt8) ∉ l.take k) (hb : l.getD k 0 = 61) : findP l = k := by
  have e : l = l.take k ++ 61 :: l.drop (k + 1) := by
    rw [← hb, ← drop_at l 0 k hk, List.take_append_drop]
  unfold findP
  rw [e, cutE_app _ _ hn]
  simp; omega
theorem findP_no (l : List UInt8) (hn : (61 : UInt8) ∉ l) : findP l = -1 := by unfold findP; rw [cutE_no l hn]
set_option maxRecDepth 100000 in
theorem l14Find_any (l : List UInt8) (hl : l.length ≤ 4611686018427387904) (w : World) : Calls Tryd.prog 33 #[.string (bs l), .int .u8 61] w fun e w' => e = .returned (.int .i64 (findP l)) ∧ w' = w := by
  have hs := bs_size l
  go_enter Tryd.func33, Tryd.ntmps33
  go_wp2
  go_loopw [5] (fun v5 wr => ∃ (k : Nat), v5 = .int .i64 k ∧ k ≤ l.length ∧ Aside0 ((61 : UInt8) ∉ l.take k) ∧ Aside0 (wr = w)) (fun v5 _ => l.length - (intOf v5).toNat)
  case atStart => exact ⟨0, rfl, by omega, ⟨by simp⟩, ⟨rfl⟩⟩
  case round =>
    obtain ⟨k, rfl, hk, HN, HW⟩ := hrel
    by_cases hlt : k < l.length
    · have HB : Aside0 (l.getD k 0 = l.getD k 0) := ⟨rfl⟩
      have hg := bs_get l k
      have HF := Aside0.mk (findP_at l k hlt HN.out)
      have HT := Aside0.mk (take_succ_getD l k 0 hlt)
      generalize l.getD k 0 = b at hg HF HT
      by_cases hb : b = 61
      · subst hb
        have d : ((((61 : UInt8).toNat : Nat) : Int) == 61) = true := by decide
        have HV := Aside0.mk (HF.out rfl)
        go_wp2
        go_ret
        exact ⟨by first | (rw [HV.out]; rfl) | rfl, HW.out⟩
      · have d : (((b.toNat : Nat) : Int) == 61) = false := u8_ne 61 hb
        have HN2 : Aside0 ((61 : UInt8) ∉ l.take (k + 1)) := ⟨fun h0 => by
          rw [HT.out, List.mem_append] at h0
          rcases h0 with h | h
          · exact HN.out h
          · exact hb (by simpa using h : (61 : UInt8) = b).symm⟩
        clear hb
        go_wp2
        go_roundw
        case rel => exact ⟨k + 1, by go_num, by omega, HN2, HW⟩
        case measure => simp [intOf]; omega
    · have HV : Aside0 (findP l = -1) := ⟨findP_no l (by have := HN.out; rwa [List.take_of_length_le (by omega)] at this)⟩
      go_wp2
      go_ret
      exact ⟨by first | (rw [HV.out]; rfl) | rfl, HW.out⟩
-- NUM
open Go.Proofs.YtdohneeejfeknaaDoor.Tp2
theorem bs_tail (b : UInt8) (t : List UInt8) : (bs (b :: t)).extract 1 (t.length + 1) = bs t := by
  apply ByteArray.ext
  rw [ByteArray.data_extract]
  apply Array.ext'
  simp [bs]
theorem bs_cut (l : List UInt8) (a b : Nat) (h : b ≤ l.length) : (bs l).extract a b = bs ((l.take b).drop a) := by
  apply ByteArray.ext
  rw [ByteArray.data_extract]
  apply Array.ext'
  rw [List.drop_take]
  simp [bs, List.extract_eq_take_drop]
/-- what the reference reads behind the sign -/
def numT (neg : Bool) (t : List UInt8) : Option Int :=
  if t.length = 0 ∨ 17 < t.length ∨ (t.head?.map (·.toNat) = some 48 ∧ (1 < t.length ∨ neg = true)) ∨ ¬ (∀ b, b ∈ t → 48 ≤ b.toNat ∧ b.toNat ≤ 57) then none else some (if neg then -(numN t : Int) else numN t)
theorem numS_neg (t : List UInt8) : numS (45 :: t) = numT true t := by
  unfold numS numT
  have e : (((45 : UInt8) :: t).head?.map (·.toNat) = some 45) := rfl
  simp [e]
theorem numS_pos (s : List UInt8) (h : s.getD 0 0 ≠ 45) : numS s = numT false s := by
  unfold numS numT
  have e : ¬ (s.head?.map (·.toNat) = some 45) := by
    cases s with
    | nil => simp
    | cons b t =>
      intro h1
      simp at h1 h
      exact h (UInt8.toNat_inj.1 (by simpa using h1))
  simp [e]
theorem numT_none (neg : Bool) (t : List UInt8) (h : t.length = 0 ∨ 17 < t.length ∨ (t.head?.map (·.toNat) = some 48 ∧ (1 < t.length ∨ neg = true)) ∨ ¬ Digs t) : numT neg t = none := if_pos h
theorem numT_some (neg : Bool) (t : List UInt8) (h0 : 0 < t.length) (h1 : t.length ≤ 17) (h2 : ¬ (t.head?.map (·.toNat) = some 48 ∧ (1 < t.length ∨ neg = true))) (h3 : Digs t) : numT neg t = some (if neg then -(numN t : Int) else numN t) := if_neg (by
  rintro (h | h | h | h)
  · omega
  · omega
  · exact h2 h
  · exact h h3)
def ansN (o : Option Int) : Ending := .returned (.tuple #[.int .i64 (o.getD 0), .bool o.isSome])
theorem numN_lt : ∀ (l : List UInt8), Digs l → numN l < 10 ^ l.length := by
  have key : ∀ (n : Nat) (l : List UInt8), l.length = n → Digs l → numN l < 10 ^ l.length := by
    intro n
    induction n with
    | zero => intro l hl _; have := List.length_eq_zero_iff.1 hl; subst this; simp [numN]
    | succ n ih =>
      intro l hl h
      have hne : l ≠ [] := by intro e; subst e; simp at hl
      have e := (List.dropLast_concat_getLast hne).symm
      have hd : l.dropLast.length = n := by rw [List.length_dropLast]; omega
      have h1 := ih l.dropLast hd (fun x hx => h x ((List.dropLast_sublist l).subset hx))
      have h2 := h (l.getLast hne) (List.getLast_mem hne)
      rw [e, numN_snoc, List.length_append, List.length_singleton, Nat.pow_succ]
      omega
  exact fun l => key l.length l rfl
theorem take_le17 (k : Nat) (h : k ≤ 16) (n : Nat) (hn : n < 10 ^ k) : n < 10000000000000000 := Nat.lt_of_lt_of_le hn (Nat.pow_le_pow_right (by omega) h)
set_option maxHeartbeats 2000000 in
set_option maxRecDepth 100000 in
theorem numNeg_any (t : List UInt8) (n : Nat) (hn : t.length = n) (hl : n ≤ 4611686018427387904) (s : List UInt8) (hsT : s = 45 :: t) (w : World) : Calls Tryd.prog 34 #[.string (bs s)] w fun e w' => e = ansN (numT true t) ∧ w' = w := by
  have hs : (bs s).size = n + 1 := by rw [bs_size, hsT, List.length_cons, hn]
  have hg0 : ∀ h, (bs s)[0]'h = 45 := by subst hsT; intro h; rw [bs_get]; rfl
  have hx : (bs s).extract 1 (n + 1) = bs t := by subst hsT; subst hn; exact bs_tail 45 t
  clear hsT
  have d45 : ((((45 : UInt8).toNat : Nat) : Int) == 45) = true := by decide
  have hst : (bs t).size = n := by rw [bs_size, hn]
  have HN := Aside0.mk hn
  have hg := bs_get t 0
  by_cases h0 : n = 0
  · have HV : Aside0 (numT true t = none) := ⟨numT_none _ _ (Or.inl (by omega))⟩
    clear hn hl hg
    subst h0
    go_enter Tryd.func34, Tryd.ntmps34
    go_wp2
    go_ret2
    exact ⟨by first | (rw [HV.out]; rfl) | rfl, rfl⟩
  have hpos : 0 < n := by omega
  have dn0 : ((n : Int) == 0) = false := by rw [beq_eq_false_iff_ne]; omega
  have HH : Aside0 (t.head? = some (t.getD 0 0)) := ⟨by cases t with | nil => exact absurd hn.symm h0 | cons x y => rfl⟩
  clear h0 hn
  generalize t.getD 0 0 = b at hg HH
  by_cases h17 : 17 < n
  · have HV : Aside0 (numT true t = none) := ⟨numT_none _ _ (Or.inr (Or.inl (by rw [HN.out]; exact h17)))⟩
    have d17 : decide ((n : Int) > 17) = true := decide_eq_true (by omega)
    go_enter Tryd.func34, Tryd.ntmps34
    go_wp2
    go_ret2
    exact ⟨by first | (rw [HV.out]; rfl) | rfl, rfl⟩
  have d17 : decide ((n : Int) > 17) = false := decide_eq_false (by omega)
  by_cases h48 : b = 48
  · subst h48
    have HV : Aside0 (numT true t = none) := ⟨numT_none _ _ (Or.inr (Or.inr (Or.inl ⟨by rw [HH.out]; rfl, Or.inr rfl⟩)))⟩
    have d48 : ((((48 : UInt8).toNat : Nat) : Int) == 48) = true := by decide
    by_cases h1 : 1 < n
    · have d1 : decide ((n : Int) > 1) = true := decide_eq_true (by omega)
      go_enter Tryd.func34, Tryd.ntmps34
      go_wp2
      go_ret2
      exact ⟨by first | (rw [HV.out]; rfl) | rfl, rfl⟩
    · have d1 : decide ((n : Int) > 1) = false := decide_eq_false (by omega)
      go_enter Tryd.func34, Tryd.ntmps34
      go_wp2
      go_ret2
      exact ⟨by first | (rw [HV.out]; rfl) | rfl, rfl⟩
  have d48 : (((b.toNat : Nat) : Int) == 48) = false := u8_ne 48 h48
  have H48 : Aside0 (¬ (t.head?.map (·.toNat) = some 48 ∧ (1 < t.length ∨ true = true))) := ⟨fun h => h48 (by rw [HH.out] at h; exact UInt8.toNat_inj.1 (by simpa using h.1))⟩
  clear h48
  go_enter Tryd.func34, Tryd.ntmps34
  go_upto_region 6 with fail
  clear hg d48 d17
  go_wp2
  go_loopw [5, 6] (fun v5 v6 wr => ∃ (k : Nat), v6 = .int .i64 k ∧ v5 = .int .i64 (numN (t.take k)) ∧ k ≤ n ∧ Aside0 (Digs (t.take k)) ∧ Aside0 (wr = w)) (fun _ v6 _ => n - (intOf v6).toNat)
  case atStart => exact ⟨0, rfl, rfl, by omega, ⟨by simp [Digs]⟩, ⟨rfl⟩⟩
  case round =>
    obtain ⟨k, rfl, rfl, hk, HD, HW⟩ := hrel
    by_cases hlt : k < n
    · have hgk := bs_get t k
      have hkt : k < t.length := by rw [HN.out]; exact hlt
      have HT := Aside0.mk (take_succ_getD t k 0 hkt)
      have HM : Aside0 (t.getD k 0 ∈ t) := ⟨by rw [List.getD_eq_getElem?_getD, List.getElem?_eq_getElem hkt]; exact List.getElem_mem _⟩
      have hlt2 := numN_lt _ HD.out
      have hlt3 := take_le17 (t.take k).length (by rw [List.length_take, HN.out]; omega) _ hlt2
      clear hlt2 hkt
      generalize t.getD k 0 = q at hgk HT HM
      have hq256 : q.toNat < 256 := q.toNat_lt
      by_cases hq : 48 ≤ q.toNat ∧ q.toNat ≤ 57
      · obtain ⟨hq1, hq2⟩ := hq
        have dq1 : decide (((q.toNat : Nat) : Int) < 48) = false := decide_eq_false (by omega)
        have dq2 : decide (((q.toNat : Nat) : Int) > 57) = false := decide_eq_false (by omega)
        have HD2 : Aside0 (Digs (t.take (k + 1))) := ⟨fun x hx => by
          rw [HT.out] at hx
          rcases List.mem_append.1 hx with h | h
          · exact HD.out x h
          · rw [List.mem_singleton.1 h]; exact ⟨hq1, hq2⟩⟩
        have HM2 : Aside0 ((numN (t.take k) : Int) * 10 + ((q.toNat : Int) - 48) = (numN (t.take (k + 1)) : Int)) := ⟨by rw [HT.out, numN_snoc]; omega⟩
        go_wp2
        go_roundw
        case rel => exact ⟨k + 1, by go_num, by rw [← HM2.out], by omega, HD2, HW⟩
        case measure => simp [intOf]; omega
      · have HV : Aside0 (numT true t = none) := ⟨numT_none _ _ (Or.inr (Or.inr (Or.inr (fun h => hq (h q HM.out)))))⟩
        by_cases hq1 : q.toNat < 48
        · have dq1 : decide (((q.toNat : Nat) : Int) < 48) = true := decide_eq_true (by omega)
          clear hq
          go_wp2
          go_ret2
          exact ⟨by first | (rw [HV.out]; rfl) | rfl, HW.out⟩
        · have dq1 : decide (((q.toNat : Nat) : Int) < 48) = false := decide_eq_false (by omega)
          have dq2 : decide (((q.toNat : Nat) : Int) > 57) = true := decide_eq_true (by omega)
          clear hq
          go_wp2
          go_ret2
          exact ⟨by first | (rw [HV.out]; rfl) | rfl, HW.out⟩
    · have hke : k = n := by omega
      subst hke
      have htk : t.take k = t := List.take_of_length_le (by rw [HN.out]; exact Nat.le_refl _)
      rw [htk] at HD
      have HV := Aside0.mk (numT_some true t (by rw [HN.out]; exact hpos) (by rw [HN.out]; omega) (fun h => H48.out (by simpa using h)) HD.out)
      have hnl := numN_lt _ HD.out
      have hn17 : numN t < 100000000000000000 := Nat.lt_of_lt_of_le hnl (Nat.pow_le_pow_right (show 0 < 10 by omega) (show t.length ≤ 17 by rw [HN.out]; omega))
      rw [htk]
      clear hnl htk
      go_wp2
      go_ret2
      exact ⟨by first | (rw [HV.out]; rfl) | rfl, HW.out⟩
set_option maxHeartbeats 2000000 in
set_option maxRecDepth 100000 in
theorem numPos_any (t : List UInt8) (n : Nat) (hn : t.length = n) (hl : n ≤ 4611686018427387904) (h45 : ¬ t.getD 0 0 = 45) (w : World) : Calls Tryd.prog 34 #[.string (bs t)] w fun e w' => e = ansN (numT false t) ∧ w' = w := by
  have hst : (bs t).size = n := by rw [bs_size, hn]
  have HN := Aside0.mk hn
  have hg := bs_get t 0
  by_cases h0 : n = 0
  · have HV : Aside0 (numT false t = none) := ⟨numT_none _ _ (Or.inl (by omega))⟩
    clear h45
    clear hn hl hg
    subst h0
    go_enter Tryd.func34, Tryd.ntmps34
    go_wp2
    go_ret2
    exact ⟨by first | (rw [HV.out]; rfl) | rfl, rfl⟩
  have hpos : 0 < n := by omega
  have dn0 : ((n : Int) == 0) = false := by rw [beq_eq_false_iff_ne]; omega
  have HH : Aside0 (t.head? = some (t.getD 0 0)) := ⟨by cases t with | nil => exact absurd hn.symm h0 | cons x y => rfl⟩
  clear h0 hn
  have d45 : (((t.getD 0 0).toNat : Int) == 45) = false := u8_ne 45 h45
  clear h45
  generalize t.getD 0 0 = b at hg HH d45
  by_cases h17 : 17 < n
  · have HV : Aside0 (numT false t = none) := ⟨numT_none _ _ (Or.inr (Or.inl (by rw [HN.out]; exact h17)))⟩
    have d17 : decide ((n : Int) > 17) = true := decide_eq_true (by omega)
    go_enter Tryd.func34, Tryd.ntmps34
    go_wp2
    go_ret2
    exact ⟨by first | (rw [HV.out]; rfl) | rfl, rfl⟩
  have d17 : decide ((n : Int) > 17) = false := decide_eq_false (by omega)
  by_cases h48 : b = 48
  · subst h48
    have d48 : ((((48 : UInt8).toNat : Nat) : Int) == 48) = true := by decide
    by_cases h1 : 1 < n
    · have HV : Aside0 (numT false t = none) := ⟨numT_none _ _ (Or.inr (Or.inr (Or.inl ⟨by rw [HH.out]; rfl, Or.inl (by rw [HN.out]; exact h1)⟩)))⟩
      have d1 : decide ((n : Int) > 1) = true := decide_eq_true (by omega)
      go_enter Tryd.func34, Tryd.ntmps34
      go_wp2
      go_ret2
      exact ⟨by first | (rw [HV.out]; rfl) | rfl, rfl⟩
    · have d1 : decide ((n : Int) > 1) = false := decide_eq_false (by omega)
      have H48 : Aside0 (¬ (t.head?.map (·.toNat) = some 48 ∧ (1 < t.length ∨ false = true))) := ⟨fun h => by rcases h.2 with h2 | h2; rw [HN.out] at h2; exact h1 h2; cases h2⟩
      clear h1
      go_enter Tryd.func34, Tryd.ntmps34
      go_upto_region 6 with fail
      clear hg d48 d17
      go_wp2
      go_loopw [5, 6] (fun v5 v6 wr => ∃ (k : Nat), v6 = .int .i64 k ∧ v5 = .int .i64 (numN (t.take k)) ∧ k ≤ n ∧ Aside0 (Digs (t.take k)) ∧ Aside0 (wr = w)) (fun _ v6 _ => n - (intOf v6).toNat)
      case atStart => exact ⟨0, rfl, rfl, by omega, ⟨by simp [Digs]⟩, ⟨rfl⟩⟩
      case round =>
        obtain ⟨k, rfl, rfl, hk, HD, HW⟩ := hrel
        by_cases hlt : k < n
        · have hgk := bs_get t k
          have hkt : k < t.length := by rw [HN.out]; exact hlt
          have HT := Aside0.mk (take_succ_getD t k 0 hkt)
          have HM : Aside0 (t.getD k 0 ∈ t) := ⟨by rw [List.getD_eq_getElem?_getD, List.getElem?_eq_getElem hkt]; exact List.getElem_mem _⟩
          have hlt2 := numN_lt _ HD.out
          have hlt3 := take_le17 (t.take k).length (by rw [List.length_take, HN.out]; omega) _ hlt2
          clear hlt2 hkt
          generalize t.getD k 0 = q at hgk HT HM
          have hq256 : q.toNat < 256 := q.toNat_lt
          by_cases hq : 48 ≤ q.toNat ∧ q.toNat ≤ 57
          · obtain ⟨hq1, hq2⟩ := hq
            have dq1 : decide (((q.toNat : Nat) : Int) < 48) = false := decide_eq_false (by omega)
            have dq2 : decide (((q.toNat : Nat) : Int) > 57) = false := decide_eq_false (by omega)
            have HD2 : Aside0 (Digs (t.take (k + 1))) := ⟨fun x hx => by
              rw [HT.out] at hx
              rcases List.mem_append.1 hx with h | h
              · exact HD.out x h
              · rw [List.mem_singleton.1 h]; exact ⟨hq1, hq2⟩⟩
            have HM2 : Aside0 ((numN (t.take k) : Int) * 10 + ((q.toNat : Int) - 48) = (numN (t.take (k + 1)) : Int)) := ⟨by rw [HT.out, numN_snoc]; omega⟩
            go_wp2
            go_roundw
            case rel => exact ⟨k + 1, by go_num, by rw [← HM2.out], by omega, HD2, HW⟩
            case measure => simp [intOf]; omega
          · have HV : Aside0 (numT false t = none) := ⟨numT_none _ _ (Or.inr (Or.inr (Or.inr (fun h => hq (h q HM.out)))))⟩
            by_cases hq1 : q.toNat < 48
            · have dq1 : decide (((q.toNat : Nat) : Int) < 48) = true := decide_eq_true (by omega)
              clear hq
              go_wp2
              go_ret2
              exact ⟨by first | (rw [HV.out]; rfl) | rfl, HW.out⟩
            · have dq1 : decide (((q.toNat : Nat) : Int) < 48) = false := decide_eq_false (by omega)
              have dq2 : decide (((q.toNat : Nat) : Int) > 57) = true := decide_eq_true (by omega)
              clear hq
              go_wp2
              go_ret2
              exact ⟨by first | (rw [HV.out]; rfl) | rfl, HW.out⟩
        · have hke : k = n := by omega
          subst hke
          have htk : t.take k = t := List.take_of_length_le (by rw [HN.out]; exact Nat.le_refl _)
          rw [htk] at HD
          have HV := Aside0.mk (numT_some false t (by rw [HN.out]; exact hpos) (by rw [HN.out]; omega) (fun h => H48.out (by simpa using h)) HD.out)
          have hnl := numN_lt _ HD.out
          have hn17 : numN t < 100000000000000000 := Nat.lt_of_lt_of_le hnl (Nat.pow_le_pow_right (show 0 < 10 by omega) (show t.length ≤ 17 by rw [HN.out]; omega))
          rw [htk]
          clear hnl htk
          go_wp2
          go_ret2
          exact ⟨by first | (rw [HV.out]; rfl) | rfl, HW.out⟩
  have d48 : (((b.toNat : Nat) : Int) == 48) = false := u8_ne 48 h48
  have H48 : Aside0 (¬ (t.head?.map (·.toNat) = some 48 ∧ (1 < t.length ∨ false = true))) := ⟨fun h => h48 (by rw [HH.out] at h; exact UInt8.toNat_inj.1 (by simpa using h.1))⟩
  clear h48
  go_enter Tryd.func34, Tryd.ntmps34
  go_upto_region 6 with fail
  clear hg d48 d17
  go_wp2
  go_loopw [5, 6] (fun v5 v6 wr => ∃ (k : Nat), v6 = .int .i64 k ∧ v5 = .int .i64 (numN (t.take k)) ∧ k ≤ n ∧ Aside0 (Digs (t.take k)) ∧ Aside0 (wr = w)) (fun _ v6 _ => n - (intOf v6).toNat)
  case atStart => exact ⟨0, rfl, rfl, by omega, ⟨by simp [Digs]⟩, ⟨rfl⟩⟩
  case round =>
    obtain ⟨k, rfl, rfl, hk, HD, HW⟩ := hrel
    by_cases hlt : k < n
    · have hgk := bs_get t k
      have hkt : k < t.length := by rw [HN.out]; exact hlt
      have HT := Aside0.mk (take_succ_getD t k 0 hkt)
      have HM : Aside0 (t.getD k 0 ∈ t) := ⟨by rw [List.getD_eq_getElem?_getD, List.getElem?_eq_getElem hkt]; exact List.getElem_mem _⟩
      have hlt2 := numN_lt _ HD.out
      have hlt3 := take_le17 (t.take k).length (by rw [List.length_take, HN.out]; omega) _ hlt2
      clear hlt2 hkt
      generalize t.getD k 0 = q at hgk HT HM
      have hq256 : q.toNat < 256 := q.toNat_lt
      by_cases hq : 48 ≤ q.toNat ∧ q.toNat ≤ 57
      · obtain ⟨hq1, hq2⟩ := hq
        have dq1 : decide (((q.toNat : Nat) : Int) < 48) = false := decide_eq_false (by omega)
        have dq2 : decide (((q.toNat : Nat) : Int) > 57) = false := decide_eq_false (by omega)
        have HD2 : Aside0 (Digs (t.take (k + 1))) := ⟨fun x hx => by
          rw [HT.out] at hx
          rcases List.mem_append.1 hx with h | h
          · exact HD.out x h
          · rw [List.mem_singleton.1 h]; exact ⟨hq1, hq2⟩⟩
        have HM2 : Aside0 ((numN (t.take k) : Int) * 10 + ((q.toNat : Int) - 48) = (numN (t.take (k + 1)) : Int)) := ⟨by rw [HT.out, numN_snoc]; omega⟩
        go_wp2
        go_roundw
        case rel => exact ⟨k + 1, by go_num, by rw [← HM2.out], by omega, HD2, HW⟩
        case measure => simp [intOf]; omega
      · have HV : Aside0 (numT false t = none) := ⟨numT_none _ _ (Or.inr (Or.inr (Or.inr (fun h => hq (h q HM.out)))))⟩
        by_cases hq1 : q.toNat < 48
        · have dq1 : decide (((q.toNat : Nat) : Int) < 48) = true := decide_eq_true (by omega)
          clear hq
          go_wp2
          go_ret2
          exact ⟨by first | (rw [HV.out]; rfl) | rfl, HW.out⟩
        · have dq1 : decide (((q.toNat : Nat) : Int) < 48) = false := decide_eq_false (by omega)
          have dq2 : decide (((q.toNat : Nat) : Int) > 57) = true := decide_eq_true (by omega)
          clear hq
          go_wp2
          go_ret2
          exact ⟨by first | (rw [HV.out]; rfl) | rfl, HW.out⟩
    · have hke : k = n := by omega
      subst hke
      have htk : t.take k = t := List.take_of_length_le (by rw [HN.out]; exact Nat.le_refl _)
      rw [htk] at HD
      have HV := Aside0.mk (numT_some false t (by rw [HN.out]; exact hpos) (by rw [HN.out]; omega) (fun h => H48.out (by simpa using h)) HD.out)
      have hnl := numN_lt _ HD.out
      have hn17 : numN t < 100000000000000000 := Nat.lt_of_lt_of_le hnl (Nat.pow_le_pow_right (show 0 < 10 by omega) (show t.length ≤ 17 by rw [HN.out]; omega))
      rw [htk]
      clear hnl htk
      go_wp2
      go_ret2
      exact ⟨by first | (rw [HV.out]; rfl) | rfl, HW.out⟩
theorem l14Num_any (s : List UInt8) (hl : s.length ≤ 4611686018427387904) (w : World) : Calls Tryd.prog 34 #[.string (bs s)] w fun e w' => e = ansN (numS s) ∧ w' = w := by
  by_cases h : s.getD 0 0 = 45
  · cases s with
    | nil => simp at h
    | cons b t =>
      rw [List.getD_cons_zero] at h
      subst h
      rw [numS_neg]
      exact numNeg_any t _ rfl (by simp at hl; omega) _ rfl w
  · rw [numS_pos s h]
    exact numPos_any s _ rfl hl h w
end Go.Proofs.YtdohneeejfeknaaDoor.Tqc

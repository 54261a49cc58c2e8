
/- The program's TapeText and TapeRead. Printed by genTqh.py. -/
import Derived.Test.YtdohneeejfeknaaDoorTqg
set_option linter.unusedVariables false
set_option linter.unusedSimpArgs false
namespace Go.Proofs.YtdohneeejfeknaaDoor.Tqh
open Go.RowKit Go.Proofs.YtdohneeejfeknaaDoorW.PrintWords Go.Proofs.YtdohneeejfeknaaDoor.Ja Go.Proofs.YtdohneeejfeknaaDoor.Tqa Go.Proofs.YtdohneeejfeknaaDoor.Tqb Go.Proofs.YtdohneeejfeknaaDoor.Tqc Go.Proofs.YtdohneeejfeknaaDoor.Tqe Go.Proofs.YtdohneeejfeknaaDoor.Tqf Go.Proofs.YtdohneeejfeknaaDoor.Tqg Go.Proofs.YtdohneeejfeknaaDoor.Tp1 Go.Proofs.YtdohneeejfeknaaDoor.Tp4 Go.Proofs.YtdohneeejfeknaaDoor.Tp5
theorem getD_mem {l : List TCall} {k : Nat} (h : k < l.length) : l.getD k zCall ∈ l := by rw [List.getD_eq_getElem?_getD, List.getElem?_eq_getElem h]; exact List.getElem_mem _
set_option maxHeartbeats 1000000 in
set_option maxRecDepth 100000 in
theorem tapeText_any (l : List TCall) (A : Option Addr) (c : Nat) (hl : l.length ≤ 1048576) (hS : ∀ x, x ∈ l → Sm x) (w : World) (hV : Vars w) (hL : IsS kCall w l A c) : Calls Tryd.prog 11 #[.slice A l.length c] w fun e w' => e = .returned (.string (bs (textC l))) ∧ Below w.heap.size w w' := by
  have HV := Aside0.mk hV
  have HL := Aside0.mk hL
  have HS := Aside0.mk hS
  have hlen := textC_le l hS
  clear hV hL hS
  have HB0 : Aside0 (Below w.heap.size w w) := ⟨Below.refl _ _⟩
  have HO0 : Aside0 (RS w w.heap.size (.slice none ([] : List (List UInt8)).length 0) []) := ⟨Kd.R_nil _ _ _ _ _⟩
  go_enter Tryd.func11, Tryd.ntmps11
  go_wp2
  go_loopw [3, 8] (fun v3 v8 wr => ∃ (k : Nat) (ws : List (List UInt8)) (B : Option Addr) (cb : Nat), k ≤ l.length ∧ v3 = .slice B ws.length cb ∧ v8 = .int .i64 k ∧ Aside0 (ws = (l.take k).map tellT) ∧ Aside0 (RS wr w.heap.size (.slice B ws.length cb) ws) ∧ Aside0 (Below w.heap.size w wr)) (fun _ v8 _ => l.length - (intOf v8).toNat)
  case atStart => exact ⟨0, [], _, _, by omega, rfl, rfl, ⟨rfl⟩, HO0, HB0⟩
  case round =>
    clear HB0 HO0
    obtain ⟨k, ws, B, cb, hk, rfl, rfl, HW, HO, HB⟩ := hrel
    by_cases hlt : k < l.length
    · have g1 : decide (k < l.length) = true := decide_eq_true hlt
      have i1 : (k : Int) < l.length := by omega
      obtain ⟨ad, rfl, ha, hb, hc⟩ := atCall (HL.out.below HB.out) k hlt
      have HSm := Aside0.mk (HS.out _ (getD_mem hlt))
      have HT := Aside0.mk (take_succ_getD l k zCall hlt)
      generalize l.getD k zCall = y at ha hb hc HSm HT
      have hba := below_alloc (Below.refl wr.heap.size wr) (.cells #[.int .i64 y.f0, .int .i64 y.f1, .int .i64 y.f2] 41)
      have HBA := Aside0.mk hba
      clear hba
      go_upto_region 5 with fail
      have bY := blk_new wr (.cells #[.int .i64 y.f0, .int .i64 y.f1, .int .i64 y.f2] 41)
      generalize hW1 : wr.alloc (.cells #[.int .i64 y.f0, .int .i64 y.f1, .int .i64 y.f2] 41) = W1 at bY HBA ⊢
      have p0 := (blk_cell bY 0).trans rfl
      have p1 := (blk_cell bY 1).trans rfl
      have p2 := (blk_cell bY 2).trans rfl
      have hwl : (ws.length + 1) * 16 ≤ 140737488355328 := by rw [HW.out, List.length_map, List.length_take]; omega
      clear bY hW1 ha hb hc
      go_wp2_with (first
        | ((with_reducible refine gate_dst (N := 21) rfl ?_); refine Kd.R_append Kd.string (w0 := w) w.heap.size rfl _ _ 34 9 (.string ⟨#[]⟩) 16 rfl Tryd.underlying34 infoS rfl (by decide) (by decide) (.slice B ws.length cb) (ws.map bs) (bs (tellT y)) [.string (bs (tellT y))] (fun _ => True) (fun _ => False) rfl rfl rfl (fun _ h => h.elim) (fun _ _ => trivial) HO3.out HB3.out HB3.out.size (by rw [List.length_map]; exact hwl) ?_; intro v5 w5 hr5 hb5 _ _; have HO5 := Aside0.mk (RS.app hr5); have HB5 := Aside0.mk hb5; obtain ⟨A5, c5, rfl⟩ := Kd.R_slice hr5; rw [show (ws.map bs ++ [bs (tellT y)]).length = (ws ++ [tellT y]).length by simp] at HO5; clear hr5 hb5)
        | (go_at_call 23; refine (tell_any y HSm.out _ (HV.out.below (below_then HB.out HB.out.size HBA.out))).mono ?_; rintro e w3 ⟨rfl, hb3⟩; have HB3 := Aside0.mk (below_then (below_then HB.out HB.out.size HBA.out) (Nat.le_trans HB.out.size HBA.out.size) hb3); have HO3 := Aside0.mk (Kd.R_below HO.out (below_then HBA.out HBA.out.size hb3)); clear hb3))
      go_roundw
      case rel => exact ⟨k + 1, ws ++ [tellT y], _, _, by omega, by rw [List.length_append]; rfl, by go_num, ⟨by rw [HT.out, List.map_append, HW.out]; rfl⟩, HO5, HB5⟩
      case measure => simp [intOf] <;> omega
    · have g1 : decide (k < l.length) = false := decide_eq_false hlt
      have i1 : ¬ (k : Int) < l.length := by omega
      have HE : Aside0 (ws = l.map tellT) := ⟨by rw [HW.out, List.take_of_length_le (by omega)]⟩
      have HJ : Aside0 (Lib.join ws [32] = textC l) := ⟨by rw [HE.out]; rfl⟩
      have hw2 : ws.length ≤ 1048576 := by rw [HE.out, List.length_map]; omega
      have HC := Aside0.mk (join_any ws (.slice B ws.length cb) w.heap.size hw2 (by rw [HJ.out]; omega) wr HO.out)
      rw [HJ.out] at HC
      go_wp2_with (go_at_call 24; refine HC.out.mono ?_; rintro e w3 ⟨rfl, hb3⟩; have HB3 := Aside0.mk (below_then HB.out HB.out.size hb3); clear hb3)
      go_ret
      exact ⟨rfl, HB3.out⟩
theorem cutC_len (c : UInt8) : ∀ l : List UInt8, (cutC c l).length ≤ l.length + 1
  | [] => by simp [cutC]
  | b :: l => by
    have ih := cutC_len c l
    have hf := cutC_form c l
    have h1 : 1 ≤ (cutC c l).length := by
      have := cutC_ne c l
      cases h : cutC c l with
      | nil => exact absurd h this
      | cons _ _ => simp
    unfold cutC
    split
    · simp; omega
    · simp; omega
theorem atT {w : World} {ws : List (List UInt8)} {A : Option Addr} {c : Nat} (h : IsT w ws A c) (k : Nat) (hk : k < ws.length) : ∃ ad, A = some ad ∧ w.cell? (ad.add k) = some (.string (bs (ws.getD k []))) := by
  obtain ⟨ad, cs, e, _, hK, hc⟩ := Kd.C_get h.2 (bs []) (k : Int) (by omega) (by rw [List.length_map]; omega)
  rw [Int.toNat_natCast] at hK hc
  obtain rfl : cs = [.string ((ws.map bs).getD k (bs []))] := hK
  have h1 := hc 0 _ rfl
  have h2 : k * Kd.string.sz + 0 = k := by show k * 1 + 0 = k; omega
  rw [h2] at h1
  refine ⟨ad, e, ?_⟩
  rw [h1, List.getD_eq_getElem?_getD, List.getElem?_map, List.getD_eq_getElem?_getD]
  cases ws[k]? <;> rfl
/-- the calls of a text, as the program reads them -/
def wordsC (t : List UInt8) : List TCall := if t = [] then [] else (cutC 32 t).map untellT
def readI (t : List UInt8) : Option (List TCall) := if 300 < t.length then none else if (decide ((wordsC t).length ≤ 30) && (wordsC t).all okCall) = true ∧ textC (wordsC t) = t then some (wordsC t) else none
theorem infoCall : (Tryd.prog.info? 41).map (fun i => (i.zero, i.size, i.bytes)) = some (some (.agg #[.int .i64 0, .int .i64 0, .int .i64 0]), 3, 24) := by kernel_rfl
abbrev SC (w : World) (base : Nat) (v : Value) (l : List TCall) : Prop := Kd.S kCall 41 w base (fun _ => True) v l
def ReadOut (t : List UInt8) (w : World) (e : Ending) (w' : World) : Prop := ∃ v, e = .returned (.tuple #[v, .bool (readI t).isSome]) ∧ SC w' w.heap.size v ((readI t).getD []) ∧ Below w.heap.size w w'
theorem ReadOut.no {t : List UInt8} {w w' : World} (h : readI t = none) (hb : Below w.heap.size w w') : ReadOut t w (.returned (.tuple #[.slice none 0 0, .bool false])) w' := ⟨_, by rw [h]; rfl, by rw [h]; exact Kd.S_nil _ _ _ _ _, hb⟩
theorem ReadOut.yes {t : List UInt8} {cs : List TCall} {v : Value} {w w' : World} (h : readI t = some cs) (hS : SC w' w.heap.size v cs) (hb : Below w.heap.size w w') : ReadOut t w (.returned (.tuple #[v, .bool true])) w' := ⟨v, by rw [h]; rfl, by rw [h]; exact hS, hb⟩
theorem cutC_part (c : UInt8) (l : List UInt8) (x : List UInt8) (h : x ∈ cutC c l) : x.length ≤ l.length := by
  have key : ∀ (ws : List (List UInt8)), x ∈ ws → x.length ≤ (Lib.join ws [c]).length := by
    intro ws
    induction ws with
    | nil => intro h; cases h
    | cons y r ih =>
      intro h
      cases r with
      | nil =>
        rw [Lib.join_one]
        rw [List.mem_singleton.1 h]
        exact Nat.le_refl _
      | cons z r =>
        have e : Lib.join (y :: z :: r) [c] = y ++ [c] ++ Lib.join (z :: r) [c] := by simp [Lib.join, List.intercalate]
        rw [e, List.length_append, List.length_append]
        rcases List.mem_cons.1 h with rfl | h
        · omega
        · have := ih h; omega
  have := key _ h
  rwa [join_cutC] at this
set_option maxHeartbeats 4000000 in
set_option maxRecDepth 100000 in
theorem tapeRead_any (s : List UInt8) (hl : s.length ≤ 1048576) (w : World) (hV : Vars w) : Calls Tryd.prog 6 #[.string (bs s)] w fun e w' => ReadOut s w e w' := by
  have HV := Aside0.mk hV
  obtain ⟨n, hn⟩ : ∃ n, s.length = n := ⟨_, rfl⟩
  have hs : (bs s).size = n := by rw [bs_size, hn]
  have HN := Aside0.mk hn
  have HL := Aside0.mk hl
  rw [hn] at hl
  clear hV
  by_cases h3 : 300 < n
  · have d1 : decide ((n : Int) > 300) = true := decide_eq_true (by omega)
    have HR : Aside0 (readI s = none) := ⟨by unfold readI; rw [if_pos (by rw [hn]; exact h3)]⟩
    clear hn
    go_enter Tryd.func6, Tryd.ntmps6
    go_wp2
    go_ret2
    exact ReadOut.no HR.out (Below.refl _ _)
  have d1 : decide ((n : Int) > 300) = false := decide_eq_false (by omega)
  have hbl : (bs s).toList = s := bs_list s
  by_cases h0 : s = []
  · have d2 : s.isEmpty = true := by rw [h0]; rfl
    obtain ⟨cs, hcs⟩ : ∃ cs : List TCall, cs = [] := ⟨_, rfl⟩
    have HWC : Aside0 (wordsC s = cs) := ⟨by unfold wordsC; rw [if_pos h0, hcs]⟩
    obtain ⟨A, hA⟩ : ∃ A : Option Addr, A = none := ⟨_, rfl⟩
    obtain ⟨c, hc⟩ : ∃ c : Nat, c = 0 := ⟨_, rfl⟩
    obtain ⟨q0, hq0⟩ : ∃ q : Value, q = .slice none 0 0 := ⟨_, rfl⟩
    have hv0 : q0 = .slice A cs.length c := by rw [hq0, hA, hc, hcs]; rfl
    have HO : Aside0 (SC w w.heap.size (.slice A cs.length c) cs) := ⟨by rw [hA, hcs, hc]; exact Kd.S_nil _ _ _ _ _⟩
    have HB : Aside0 (Below w.heap.size w w) := ⟨Below.refl _ _⟩
    have hcl : cs.length ≤ 301 := by rw [hcs]; simp
    clear hn h0 hcs
    go_enter Tryd.func6, Tryd.ntmps6
    go_upto_region 11 with fail
    rw [← hq0, hv0]
    clear hq0 hv0 hA hc
    have HWC2 : Aside0 (wordsC s = cs) := HWC
    cases hq : (decide (cs.length ≤ 30) && cs.all okCall) with
    | false =>
      have HR : Aside0 (readI s = none) := ⟨by
        have h := HWC2.out
        unfold readI
        rw [h, if_neg (by rw [HN.out]; omega), if_neg (by rw [hq]; simp)]⟩
      have HQ := Aside0.mk hq
      clear hq
      go_wp2_with (go_at_call 15; refine (tapeOk_any A c cs _ (S_isS HO.out).2.2).mono ?_; rintro e w3 ⟨rfl, hb3⟩; rw [HQ.out]; have HB3 := Aside0.mk (below_then HB.out HB.out.size hb3); have HO3 := Aside0.mk (Kd.S_below HO.out hb3); clear hb3)
      go_ret2
      exact ReadOut.no HR.out HB3.out
    | true =>
      have HSM : Aside0 (∀ x, x ∈ cs → Sm x) := ⟨fun x hx => by
        rw [Bool.and_eq_true] at hq
        exact okCall_sm (List.all_eq_true.1 hq.2 x hx)⟩
      have hl30 : cs.length ≤ 30 := by
        rw [Bool.and_eq_true] at hq
        exact of_decide_eq_true hq.1
      by_cases htx : textC cs = s
      · have HR : Aside0 (readI s = some cs) := ⟨by
          have h := HWC2.out
          unfold readI
          rw [h, if_neg (by rw [HN.out]; omega), if_pos ⟨hq, htx⟩]⟩
        have d5 : (textC cs == s) = true := by rw [htx]; simp
        have HQ := Aside0.mk hq
        have hbl5 : (bs (textC cs)).toList = textC cs := bs_list _
        clear hq htx
        go_upto_region 13 with (first
          | (go_at_call 11; refine (tapeText_any cs A c (by omega) HSM.out _ (HV.out.below HB3.out) (S_isS HO3.out).2).mono ?_; rintro e w4 ⟨rfl, hb4⟩; have HB4 := Aside0.mk (below_then HB3.out HB3.out.size hb4); have HO4 := Aside0.mk (Kd.S_below HO3.out hb4); clear hb4)
          | (go_at_call 15; refine (tapeOk_any A c cs _ (S_isS HO.out).2.2).mono ?_; rintro e w3 ⟨rfl, hb3⟩; rw [HQ.out]; have HB3 := Aside0.mk (below_then HB.out HB.out.size hb3); have HO3 := Aside0.mk (Kd.S_below HO.out hb3); clear hb3))
        go_wp2
        go_ret2
        exact ReadOut.yes HR.out HO4.out HB4.out
      · have HR : Aside0 (readI s = none) := ⟨by
          have h := HWC2.out
          unfold readI
          rw [h, if_neg (by rw [HN.out]; omega), if_neg (by rintro ⟨_, h2⟩; exact htx h2)]⟩
        have d5 : (textC cs == s) = false := by simp [htx]
        have HQ := Aside0.mk hq
        have hbl5 : (bs (textC cs)).toList = textC cs := bs_list _
        clear hq htx
        go_wp2_with (first
          | (go_at_call 11; refine (tapeText_any cs A c (by omega) HSM.out _ (HV.out.below HB3.out) (S_isS HO3.out).2).mono ?_; rintro e w4 ⟨rfl, hb4⟩; have HB4 := Aside0.mk (below_then HB3.out HB3.out.size hb4); have HO4 := Aside0.mk (Kd.S_below HO3.out hb4); clear hb4)
          | (go_at_call 15; refine (tapeOk_any A c cs _ (S_isS HO.out).2.2).mono ?_; rintro e w3 ⟨rfl, hb3⟩; rw [HQ.out]; have HB3 := Aside0.mk (below_then HB.out HB.out.size hb3); have HO3 := Aside0.mk (Kd.S_below HO.out hb3); clear hb3))
        go_ret2
        exact ReadOut.no HR.out HB4.out
  have d2 : s.isEmpty = false := by simp [h0]
  obtain ⟨L, hL⟩ : ∃ L, L = cutC 32 s := ⟨_, rfl⟩
  have HWC : Aside0 (wordsC s = L.map untellT) := ⟨by unfold wordsC; rw [if_neg h0, hL]⟩
  have hLn : L.length ≤ n + 1 := by rw [hL, ← hn]; exact cutC_len 32 s
  have hWL : ∀ x, x ∈ L → x.length ≤ 1048576 := fun x hx => by
    rw [hL] at hx
    exact Nat.le_trans (cutC_part 32 s x hx) (by rw [hn]; omega)
  have HWL := Aside0.mk hWL
  have HSP := Aside0.mk (fun W => split_any s HL.out W)
  rw [← hL] at HSP
  clear hn h0 hL hWL
  go_enter Tryd.func6, Tryd.ntmps6
  go_upto_region 6 with (go_at_call 18; refine (HSP.out _ HV.out).mono ?_; rintro e w2 ⟨AL, cL, rfl, hT2, hb2⟩; have HT2 := Aside0.mk hT2; have HB2 := Aside0.mk hb2; clear hT2 hb2)
  have HO2 : Aside0 (SC w2 w2.heap.size (.slice none ([] : List TCall).length 0) []) := ⟨Kd.S_nil _ _ _ _ _⟩
  have HB22 : Aside0 (Below w2.heap.size w2 w2) := ⟨Below.refl _ _⟩
  go_loopw [4, 18] (fun v4 v18 wr => ∃ (k : Nat) (cs : List TCall) (A : Option Addr) (c : Nat), k ≤ L.length ∧ v4 = .slice A cs.length c ∧ v18 = .int .i64 k ∧ Aside0 (cs = (L.take k).map untellT) ∧ Aside0 (SC wr w2.heap.size (.slice A cs.length c) cs) ∧ Aside0 (Below w2.heap.size w2 wr)) (fun _ v18 _ => L.length - (intOf v18).toNat)
  case atStart => exact ⟨0, [], _, _, by omega, rfl, rfl, ⟨rfl⟩, HO2, HB22⟩
  case round =>
    clear HO2 HB22
    obtain ⟨k, cs, A, c, hk, rfl, rfl, HW, HO, HBb⟩ := hrel
    have HB := Aside0.mk (below_then HB2.out HB2.out.size HBb.out)
    have hcl : cs.length ≤ 301 := by rw [HW.out, List.length_map, List.length_take]; omega
    by_cases hlt : k < L.length
    · have g1 : decide (k < L.length) = true := decide_eq_true hlt
      have i1 : (k : Int) < L.length := by omega
      obtain ⟨ad, rfl, ha⟩ := atT (HT2.out.below HBb.out) k hlt
      have HXL := Aside0.mk (HWL.out (L.getD k []) (by rw [List.getD_eq_getElem?_getD, List.getElem?_eq_getElem hlt]; exact List.getElem_mem _))
      have HT := Aside0.mk (take_succ_getD L k [] hlt)
      generalize L.getD k [] = x at ha HXL HT
      obtain ⟨y, hy⟩ : ∃ y, untellT x = y := ⟨_, rfl⟩
      have HC := Aside0.mk (fun W => untell_any x HXL.out W)
      rw [hy] at HC
      have HY := Aside0.mk hy
      clear hy
      have hwl : (cs.length + 1) * 24 ≤ 140737488355328 := by omega
      go_wp2_with (first
        | ((with_reducible refine gate_dst (N := 34) rfl ?_); refine Kd.S_append kCall (w0 := w2) w2.heap.size rfl _ _ 22 41 (.agg #[.int .i64 0, .int .i64 0, .int .i64 0]) 24 rfl Tryd.underlying22 infoCall rfl (by decide) (by decide) (.slice A cs.length c) cs y [.int .i64 y.f0, .int .i64 y.f1, .int .i64 y.f2] (fun _ => True) (fun _ => False) rfl rfl (kCall_mkM _ _ _ y) (fun _ h => h.elim) (fun _ _ => trivial) (Kd.S_mono HO3.out (fun _ h => ⟨h, fun h => h⟩)) HBb3.out HBb3.out.size hwl ?_; intro v5 w5 hr5 hb5 _ _; have HO5 := Aside0.mk hr5; have HBb5 := Aside0.mk hb5; obtain ⟨A5, c5, rfl⟩ := Kd.S_slice hr5; clear hr5 hb5)
        | (go_at_call 19; refine (HC.out _ (HV.out.below HB.out)).mono ?_; rintro e w3 ⟨rfl, hb3⟩; have HB3 := Aside0.mk (below_then HB.out HB.out.size hb3); have HBb3 := Aside0.mk (below_then HBb.out HBb.out.size hb3); have HO3 := Aside0.mk (Kd.S_below HO.out hb3); clear hb3))
      go_roundw
      case rel => exact ⟨k + 1, cs ++ [y], _, _, by omega, by rw [List.length_append]; rfl, by go_num, ⟨by rw [HT.out, List.map_append, HW.out, ← HY.out]; rfl⟩, HO5, HBb5⟩
      case measure => simp [intOf] <;> omega
    · have g1 : decide (k < L.length) = false := decide_eq_false hlt
      have i1 : ¬ (k : Int) < L.length := by omega
      have HWC3 : Aside0 (wordsC s = cs) := ⟨by rw [HWC.out, HW.out, List.take_of_length_le (by omega)]⟩
      clear HWC
      have HWC := HWC3
      have HOl := Aside0.mk (Kd.S_lower HO.out HB2.out.size)
      clear HWC3 HW hk hlt HO
      have HO := HOl
      clear HOl
      go_upto_region 11 with fail
      have HWC2 : Aside0 (wordsC s = cs) := HWC
      cases hq : (decide (cs.length ≤ 30) && cs.all okCall) with
      | false =>
        have HR : Aside0 (readI s = none) := ⟨by
          have h := HWC2.out
          unfold readI
          rw [h, if_neg (by rw [HN.out]; omega), if_neg (by rw [hq]; simp)]⟩
        have HQ := Aside0.mk hq
        clear hq
        go_wp2_with (go_at_call 15; refine (tapeOk_any A c cs _ (S_isS HO.out).2.2).mono ?_; rintro e w3 ⟨rfl, hb3⟩; rw [HQ.out]; have HB3 := Aside0.mk (below_then HB.out HB.out.size hb3); have HO3 := Aside0.mk (Kd.S_below HO.out hb3); clear hb3)
        go_ret2
        exact ReadOut.no HR.out HB3.out
      | true =>
        have HSM : Aside0 (∀ x, x ∈ cs → Sm x) := ⟨fun x hx => by
          rw [Bool.and_eq_true] at hq
          exact okCall_sm (List.all_eq_true.1 hq.2 x hx)⟩
        have hl30 : cs.length ≤ 30 := by
          rw [Bool.and_eq_true] at hq
          exact of_decide_eq_true hq.1
        by_cases htx : textC cs = s
        · have HR : Aside0 (readI s = some cs) := ⟨by
            have h := HWC2.out
            unfold readI
            rw [h, if_neg (by rw [HN.out]; omega), if_pos ⟨hq, htx⟩]⟩
          have d5 : (textC cs == s) = true := by rw [htx]; simp
          have HQ := Aside0.mk hq
          have hbl5 : (bs (textC cs)).toList = textC cs := bs_list _
          clear hq htx
          go_upto_region 13 with (first
            | (go_at_call 11; refine (tapeText_any cs A c (by omega) HSM.out _ (HV.out.below HB3.out) (S_isS HO3.out).2).mono ?_; rintro e w4 ⟨rfl, hb4⟩; have HB4 := Aside0.mk (below_then HB3.out HB3.out.size hb4); have HO4 := Aside0.mk (Kd.S_below HO3.out hb4); clear hb4)
            | (go_at_call 15; refine (tapeOk_any A c cs _ (S_isS HO.out).2.2).mono ?_; rintro e w3 ⟨rfl, hb3⟩; rw [HQ.out]; have HB3 := Aside0.mk (below_then HB.out HB.out.size hb3); have HO3 := Aside0.mk (Kd.S_below HO.out hb3); clear hb3))
          go_wp2
          go_ret2
          exact ReadOut.yes HR.out HO4.out HB4.out
        · have HR : Aside0 (readI s = none) := ⟨by
            have h := HWC2.out
            unfold readI
            rw [h, if_neg (by rw [HN.out]; omega), if_neg (by rintro ⟨_, h2⟩; exact htx h2)]⟩
          have d5 : (textC cs == s) = false := by simp [htx]
          have HQ := Aside0.mk hq
          have hbl5 : (bs (textC cs)).toList = textC cs := bs_list _
          clear hq htx
          go_wp2_with (first
            | (go_at_call 11; refine (tapeText_any cs A c (by omega) HSM.out _ (HV.out.below HB3.out) (S_isS HO3.out).2).mono ?_; rintro e w4 ⟨rfl, hb4⟩; have HB4 := Aside0.mk (below_then HB3.out HB3.out.size hb4); have HO4 := Aside0.mk (Kd.S_below HO3.out hb4); clear hb4)
            | (go_at_call 15; refine (tapeOk_any A c cs _ (S_isS HO.out).2.2).mono ?_; rintro e w3 ⟨rfl, hb3⟩; rw [HQ.out]; have HB3 := Aside0.mk (below_then HB.out HB.out.size hb3); have HO3 := Aside0.mk (Kd.S_below HO.out hb3); clear hb3))
          go_ret2
          exact ReadOut.no HR.out HB4.out
end Go.Proofs.YtdohneeejfeknaaDoor.Tqh


/- The reference's TapeText and TapeRead. Printed by genTqi.py. -/
import Derived.Test.YtdohneeejfeknaaDoorTqh
set_option linter.unusedVariables false
set_option linter.unusedSimpArgs false
namespace Go.Proofs.YtdohneeejfeknaaDoor.Tqi
open Go.RowKit Go.Proofs.YtdohneeejfeknaaDoorW.PrintWords Go.Proofs.YtdohneeejfeknaaDoor.Ja Go.Proofs.YtdohneeejfeknaaDoor.Tqa Go.Proofs.YtdohneeejfeknaaDoor.Tqb Go.Proofs.YtdohneeejfeknaaDoor.Tqc Go.Proofs.YtdohneeejfeknaaDoor.Tqd Go.Proofs.YtdohneeejfeknaaDoor.Tqe Go.Proofs.YtdohneeejfeknaaDoor.Tqf Go.Proofs.YtdohneeejfeknaaDoor.Tqg Go.Proofs.YtdohneeejfeknaaDoor.Tqh Go.Proofs.YtdohneeejfeknaaDoor.Tp1 Go.Proofs.YtdohneeejfeknaaDoor.Tp4 Go.Proofs.YtdohneeejfeknaaDoor.Tp5
def tc (c : Int × Int × Int) : TCall := ⟨c.1, c.2.1, c.2.2⟩
def okc (c : Int × Int × Int) : Prop := okCall (tc c) = true
theorem okc_fine (c : Int × Int × Int) (h : okc c) : Fine c := by
  obtain ⟨c0, c1, c2⟩ := c
  have h : okCall ⟨c0, c1, c2⟩ = true := h
  simp [okCall, fit, inb] at h
  unfold Fine Small
  simp only
  omega
theorem tell_tc (c : Int × Int × Int) (h : okc c) : tellT (tc c) = tellI c := by
  obtain ⟨c0, c1, c2⟩ := c
  have h : okCall ⟨c0, c1, c2⟩ = true := h
  simp [okCall, fit, inb] at h
  unfold tellT midT tellI tellB letB tc
  simp only
  rw [if_pos (by omega)]
  simp
theorem words_tc (t : List UInt8) (h0 : ¬ t = []) : wordsC t = ((cutC 32 t).map untellB).map tc := by
  unfold wordsC
  rw [if_neg h0, List.map_map]
  rfl
def good (t : List UInt8) : Prop := ∀ w, w ∈ cutC 32 t → ∃ c, oneI w = some c ∧ okc c
theorem readI_good (t : List UInt8) (h0 : ¬ t = []) (h3 : ¬ 300 < t.length) : ((cutC 32 t).length ≤ 30 ∧ good t → readI t = some (wordsC t)) ∧ (¬ ((cutC 32 t).length ≤ 30 ∧ good t) → readI t = none) := by
  have hl : (wordsC t).length = (cutC 32 t).length := by rw [words_tc t h0, List.length_map, List.length_map]
  have hok : (∀ c, c ∈ (cutC 32 t).map untellB → okc c) ↔ (wordsC t).all okCall = true := by
    rw [words_tc t h0, List.all_eq_true]
    constructor
    · intro h x hx
      obtain ⟨c, hc, rfl⟩ := List.mem_map.1 hx
      exact h c hc
    · intro h c hc
      exact h _ (List.mem_map.2 ⟨c, hc, rfl⟩)
  have htx : (∀ c, c ∈ (cutC 32 t).map untellB → okc c) → textC (wordsC t) = Lib.join (((cutC 32 t).map untellB).map tellI) [32] := fun h => by
    unfold textC
    rw [words_tc t h0, List.map_map]
    congr 1
    exact List.map_congr_left (fun c hc => tell_tc c (h c hc))
  have hiff := read_iff okc okc_fine t
  unfold readI
  rw [if_neg h3]
  constructor
  · rintro ⟨h1, h2⟩
    obtain ⟨h4, h5⟩ := hiff.1 h2
    rw [if_pos]
    refine ⟨?_, by rw [htx h4]; exact h5⟩
    rw [Bool.and_eq_true]
    exact ⟨decide_eq_true (by omega), hok.1 h4⟩
  · intro h
    rw [if_neg]
    rintro ⟨h1, h2⟩
    rw [Bool.and_eq_true] at h1
    have h4 := hok.2 h1.2
    have h5 := of_decide_eq_true h1.1
    exact h ⟨by omega, hiff.2 ⟨h4, by rw [← htx h4]; exact h2⟩⟩
theorem read_bad {t : List UInt8} (h0 : ¬ t = []) (h3 : ¬ 300 < t.length) {x : List UInt8} (hx : x ∈ cutC 32 t) (h : oneI x = none) : readI t = none :=
  (readI_good t h0 h3).2 (fun ⟨_, hg⟩ => by
    obtain ⟨c, hc, _⟩ := hg x hx
    rw [h] at hc
    cases hc)
/-- every word of a list is read, to a call -/
def Reads (L : List (List UInt8)) (cs : List TCall) : Prop := cs = L.map untellT ∧ ∀ x, x ∈ L → (oneI x).isSome = true
theorem Reads.snoc {L : List (List UInt8)} {cs : List TCall} {x : List UInt8} {c : Int × Int × Int} (h : Reads L cs) (hx : oneI x = some c) : Reads (L ++ [x]) (cs ++ [tc c]) := by
  obtain ⟨_, hu, _⟩ := (oneI_iff x c).1 hx
  refine ⟨?_, fun y hy => ?_⟩
  · rw [List.map_append, h.1]
    show _ = _ ++ [untellT x]
    unfold untellT tc
    rw [hu]
  · rcases List.mem_append.1 hy with hy | hy
    · exact h.2 y hy
    · rw [List.mem_singleton.1 hy, hx]; rfl
theorem read_ok {t : List UInt8} (h0 : ¬ t = []) (h3 : ¬ 300 < t.length) {cs : List TCall} (hr : Reads (cutC 32 t) cs) : readI t = if (decide (cs.length ≤ 30) && cs.all okCall) = true then some cs else none := by
  have hw : wordsC t = cs := by unfold wordsC; rw [if_neg h0, hr.1]
  have hl : cs.length = (cutC 32 t).length := by rw [hr.1, List.length_map]
  have hc : ∀ x, x ∈ cutC 32 t → oneI x = some (untellB x) := fun x hx => by
    obtain ⟨c, hc⟩ := Option.isSome_iff_exists.1 (hr.2 x hx)
    obtain ⟨_, hu, _⟩ := (oneI_iff x c).1 hc
    rw [hu]; exact hc
  split
  · next h =>
    rw [Bool.and_eq_true] at h
    rw [← hw]
    refine (readI_good t h0 h3).1 ⟨by have := of_decide_eq_true h.1; omega, fun x hx => ⟨_, hc x hx, ?_⟩⟩
    have h2 := List.all_eq_true.1 h.2 (untellT x) (by rw [hr.1]; exact List.mem_map.2 ⟨x, hx, rfl⟩)
    exact h2
  · next h =>
    refine (readI_good t h0 h3).2 (fun ⟨h1, hg⟩ => h ?_)
    rw [Bool.and_eq_true]
    refine ⟨decide_eq_true (by omega), List.all_eq_true.2 (fun y hy => ?_)⟩
    rw [hr.1] at hy
    obtain ⟨x, hx, rfl⟩ := List.mem_map.1 hy
    obtain ⟨c, h4, h5⟩ := hg x hx
    obtain ⟨_, hu, _⟩ := (oneI_iff x c).1 h4
    have e : untellT x = tc c := by unfold untellT tc; rw [hu]
    rw [e]; exact h5
/-- words in blocks between two places; calls in blocks outside of these -/
abbrev RW (w : World) (b H : Nat) (v : Value) (L : List (List UInt8)) : Prop := Kd.string.R 9 w (b + 1) (fun k => b < k ∧ k < H) v (L.map bs)
theorem RW.isT {w : World} {b H c : Nat} {A : Option Addr} {L : List (List UInt8)} (h : RW w b H (.slice A L.length c) L) : IsT w L A c := by
  obtain ⟨e, h1, h2⟩ := Kd.R_reads' h
  exact ⟨by rw [← e]; exact h1, h2⟩
abbrev SX (w : World) (b H : Nat) (v : Value) (l : List TCall) : Prop := Kd.S kCall 41 w b (fun j => j = b ∨ H ≤ j) v l
theorem RW.grown {w w' : World} {b H n c : Nat} {A : Option Addr} {v : Value} {L : List (List UInt8)} {l : List TCall} (h : RW w b H v L) (hS : SX w b H (.slice A n c) l) (hg : w.grownBy w' (Value.slice A n c).ownBlock) : RW w' b H v L :=
  Kd.R_step h (fun k hk hlt => hg.block k hlt (fun e => by
    have := (Kd.S_R hS).1 k e.symm
    omega))
def SReadOut (t : List UInt8) (w : World) (e : Ending) (w' : World) : Prop := ∃ A c, e = .returned (.tuple #[.slice A ((readI t).getD []).length c, .bool (readI t).isSome]) ∧ IsS kCall w' ((readI t).getD []) A c ∧ Below w.heap.size w w'
theorem isS_nil (w : World) : IsS kCall w [] none 0 := (S_isS (Kd.S_nil kCall 0 w 0 (fun _ => True))).2
theorem SReadOut.no {t : List UInt8} {w w' : World} (h : readI t = none) (hb : Below w.heap.size w w') : SReadOut t w (.returned (.tuple #[.slice none 0 0, .bool false])) w' := ⟨_, _, by rw [h]; rfl, by rw [h]; exact isS_nil _, hb⟩
theorem SReadOut.yes {t : List UInt8} {cs : List TCall} {A : Option Addr} {c : Nat} {w w' : World} (h : readI t = some cs) (hS : IsS kCall w' cs A c) (hb : Below w.heap.size w w') : SReadOut t w (.returned (.tuple #[.slice A cs.length c, .bool true])) w' := ⟨A, c, by rw [h]; rfl, by rw [h]; exact hS, hb⟩
set_option maxHeartbeats 4000000 in
set_option maxRecDepth 100000 in
theorem sTapeRead_any (s : List UInt8) (hl : s.length ≤ 1048576) (w : World) : Calls Tryd.prog 5 #[.string (bs s)] w fun e w' => SReadOut s w e w' := by
  obtain ⟨n, hn⟩ : ∃ n, s.length = n := ⟨_, rfl⟩
  have hs : (bs s).size = n := by rw [bs_size, hn]
  have HN := Aside0.mk hn
  have HL := Aside0.mk hl
  rw [hn] at hl
  have hba := below_alloc (Below.refl w.heap.size w) (.cells #[] 41)
  have HR0 : Aside0 (Kd.S kCall 41 (w.alloc (.cells #[] 41)) w.heap.size (fun j => j = w.heap.size) (.slice (some ⟨w.heap.size, 0, none⟩) ([] : List TCall).length 0) []) := ⟨Kd.S_mono (Kd.S_bound (⟨fun _ => 0, R_empty _ (blk_new _ _) (Nat.le_refl _)⟩ : SC _ _ _ _)) (fun k hk => by have h1 := hk.2.1; have h2 := hk.2.2.1; simp at h2; omega)⟩
  have HB0 := Aside0.mk hba
  clear hba
  have hbl : (bs s).toList = s := bs_list s
  by_cases h0 : s = []
  · have d2 : s.isEmpty = true := by rw [h0]; rfl
    have d2' : (s == []) = true := by rw [h0]; rfl
    have HR : Aside0 (readI s = some []) := ⟨by subst h0; unfold readI wordsC; simp [textC, Lib.join_nil]⟩
    clear hn h0
    go_enter Tryd.func5, Tryd.ntmps5
    go_wp2
    go_ret2
    exact SReadOut.yes HR.out (S_isS HR0.out).2 HB0.out
  have d2 : s.isEmpty = false := by simp [h0]
  have d2' : (s == []) = false := by simp [h0]
  have H0 := Aside0.mk h0
  clear h0
  by_cases h3 : 300 < n
  · have d1 : decide ((n : Int) > 300) = true := decide_eq_true (by omega)
    have HR : Aside0 (readI s = none) := ⟨by unfold readI; rw [if_pos (by rw [hn]; exact h3)]⟩
    clear hn
    go_enter Tryd.func5, Tryd.ntmps5
    go_wp2
    go_ret2
    exact SReadOut.no HR.out HB0.out
  have d1 : decide ((n : Int) > 300) = false := decide_eq_false (by omega)
  have H3 : Aside0 (¬ 300 < s.length) := ⟨by rw [hn]; exact h3⟩
  obtain ⟨L, hL⟩ : ∃ L, L = cutC 32 s := ⟨_, rfl⟩
  have hLn : L.length ≤ n + 1 := by rw [hL, ← hn]; exact cutC_len 32 s
  have hWL : ∀ x, x ∈ L → x.length ≤ 1048576 := fun x hx => by
    rw [hL] at hx
    exact Nat.le_trans (cutC_part 32 s x hx) (by rw [hn]; omega)
  have HWL := Aside0.mk hWL
  have HSP := Aside0.mk (fun W => l14Cut_any s HL.out W)
  rw [← hL] at HSP
  have HLL := Aside0.mk hL
  clear hn hL hWL
  go_enter Tryd.func5, Tryd.ntmps5
  go_upto_region 7 with (go_at_call 16; refine (HSP.out _).mono ?_; rintro e w2 ⟨v2, rfl, hT2, hb2⟩; have HT2a := Aside0.mk (Kd.R_mono (Kd.R_bound hT2) (ok' := fun k => w.heap.size < k ∧ k < w2.heap.size) (fun k hk => ⟨by have := hk.2.1; simp at this; omega, hk.2.2.1⟩)); obtain ⟨AL, cL, rfl⟩ := Kd.R_slice hT2; rw [List.length_map] at HT2a ⊢; have HT2 : Aside0 (RW w2 w.heap.size w2.heap.size (.slice AL L.length cL) L) := ⟨Kd.R_lower HT2a.out (by simp)⟩; have HB2 := Aside0.mk (below_then HB0.out HB0.out.size hb2); have HO2 : Aside0 (SX w2 w.heap.size w2.heap.size (.slice (some ⟨w.heap.size, 0, none⟩) ([] : List TCall).length 0) []) := ⟨Kd.S_mono (Kd.S_below HR0.out hb2) (fun k hk => Or.inl hk)⟩; clear hT2 hb2 HT2a)
  obtain ⟨H, hH⟩ : ∃ H, H = w2.heap.size := ⟨_, rfl⟩
  rw [← hH] at HT2 HO2
  have HH2 : Aside0 (H ≤ w2.heap.size) := ⟨by rw [hH]; exact Nat.le_refl _⟩
  clear hH
  clear HR0 HB0
  go_wp2
  have HRD0 : Aside0 (Reads (L.take 0) []) := ⟨⟨rfl, by simp⟩⟩
  go_loopw [4, 6] (fun v4 v6 wr => ∃ (k : Nat) (cs : List TCall) (A : Option Addr) (c : Nat), k ≤ L.length ∧ v4 = .slice A cs.length c ∧ v6 = .int .i64 k ∧ Aside0 (Reads (L.take k) cs) ∧ Aside0 (SX wr w.heap.size H (.slice A cs.length c) cs) ∧ Aside0 (Below w.heap.size w wr) ∧ Aside0 (RW wr w.heap.size H (.slice AL L.length cL) L) ∧ Aside0 (H ≤ wr.heap.size)) (fun _ v6 _ => L.length - (intOf v6).toNat)
  case atStart => exact ⟨0, [], _, _, by omega, rfl, rfl, HRD0, HO2, HB2, HT2, HH2⟩
  case round =>
    clear HO2 HB2 HT2 HRD0 HH2
    obtain ⟨k, cs, A, c, hk, rfl, rfl, HW, HO, HB, HT2, HH⟩ := hrel
    have hcl : cs.length ≤ 301 := by rw [HW.out.1, List.length_map, List.length_take]; omega
    by_cases hlt : k < L.length
    · have g1 : decide (k < L.length) = true := decide_eq_true hlt
      have i1 : (k : Int) < L.length := by omega
      obtain ⟨ad, rfl, ha⟩ := atT (RW.isT HT2.out) k hlt
      have hmem : L.getD k [] ∈ L := by rw [List.getD_eq_getElem?_getD, List.getElem?_eq_getElem hlt]; exact List.getElem_mem _
      have HMem := Aside0.mk hmem
      have HXL := Aside0.mk (HWL.out _ hmem)
      have HT := Aside0.mk (take_succ_getD L k [] hlt)
      clear hmem
      generalize L.getD k [] = x at ha HXL HT HMem
      have hwl : (cs.length + 1) * 24 ≤ 140737488355328 := by omega
      go_upto_region 11 with (go_at_call 17; refine (l1One_any x (by have := HXL.out; omega) _).mono ?_; rintro e w3 ⟨⟨q0, q1, q2, f, rfl, hone⟩, hb3⟩; have HB3 := Aside0.mk (below_then HB.out HB.out.size hb3); have HO3 := Aside0.mk (Kd.S_below HO.out hb3); have HT3 := Aside0.mk (Kd.R_below HT2.out hb3); have HH3 := Aside0.mk (Nat.le_trans HH.out hb3.size); have HONE := Aside0.mk hone; clear hb3 hone)
      have bY := blk_new w3 (.cells #[.int .i64 q0, .int .i64 q1, .int .i64 q2] 37)
      have hba := below_alloc (Below.refl w3.heap.size w3) (.cells #[.int .i64 q0, .int .i64 q1, .int .i64 q2] 37)
      have HB4 := Aside0.mk (below_then HB3.out HB3.out.size hba)
      have HO4 := Aside0.mk (Kd.S_below HO3.out hba)
      have HT4 := Aside0.mk (Kd.R_below HT3.out hba)
      have HH4 := Aside0.mk (Nat.le_trans HH3.out hba.size)
      clear hba HB3 HO3 HT3 HH3
      generalize w3.alloc (.cells #[.int .i64 q0, .int .i64 q1, .int .i64 q2] 37) = W4 at bY HB4 HO4 HT4 HH4 ⊢
      have p0 := (blk_cell bY 0).trans rfl
      have p1 := (blk_cell bY 1).trans rfl
      have p2 := (blk_cell bY 2).trans rfl
      clear bY
      cases f with
      | false =>
        have HR : Aside0 (readI s = none) := ⟨read_bad H0.out H3.out (by rw [← HLL.out]; exact HMem.out) HONE.out⟩
        go_wp2
        go_ret2
        exact SReadOut.no HR.out HB4.out
      | true =>
        have HRD := Aside0.mk (HW.out.snoc HONE.out)
        rw [← HT.out] at HRD
        obtain ⟨y, hy⟩ : ∃ y, tc (q0, q1, q2) = y := ⟨_, rfl⟩
        have e0 : q0 = y.f0 := by rw [← hy]; rfl
        have e1 : q1 = y.f1 := by rw [← hy]; rfl
        have e2 : q2 = y.f2 := by rw [← hy]; rfl
        rw [hy] at HRD
        subst e0 e1 e2
        clear hy HONE
        go_wp2_with ((with_reducible refine gate_dst (N := 43) rfl ?_); refine Kd.S_append kCall (w0 := w) w.heap.size rfl _ _ 22 41 (.agg #[.int .i64 0, .int .i64 0, .int .i64 0]) 24 rfl Tryd.underlying22 infoCall rfl (by decide) (by decide) (.slice A cs.length c) cs y [.int .i64 y.f0, .int .i64 y.f1, .int .i64 y.f2] (fun j => j = w.heap.size ∨ H ≤ j) (fun _ => False) rfl rfl (kCall_mkM _ _ _ y) (fun _ h => h.elim) (fun k hk => Or.inr (Nat.le_trans HH4.out hk)) (Kd.S_mono HO4.out (fun _ h => ⟨h, fun h => h⟩)) HB4.out HB4.out.size hwl ?_; intro v5 w5 hr5 hb5 hg5 _; have HO5 := Aside0.mk hr5; have HB5 := Aside0.mk hb5; have HT5 := Aside0.mk (RW.grown HT4.out HO4.out hg5); have HH5 := Aside0.mk (Nat.le_trans HH4.out hg5.size); obtain ⟨A5, c5, rfl⟩ := Kd.S_slice hr5; clear hr5 hb5 hg5)
        go_roundw
        case rel => exact ⟨k + 1, cs ++ [y], _, _, by omega, by rw [List.length_append]; rfl, by go_num, HRD, HO5, HB5, HT5, HH5⟩
        case measure => simp [intOf] <;> omega
    · have g1 : decide (k < L.length) = false := decide_eq_false hlt
      have i1 : ¬ (k : Int) < L.length := by omega
      have HRD : Aside0 (Reads (cutC 32 s) cs) := ⟨by
        have h := HW.out
        rw [List.take_of_length_le (by omega), HLL.out] at h
        exact h⟩
      have HR := Aside0.mk (read_ok H0.out H3.out HRD.out)
      cases hq : (decide (cs.length ≤ 30) && cs.all okCall) with
      | false =>
        rw [hq] at HR
        have HR2 : Aside0 (readI s = none) := ⟨HR.out.trans (if_neg (by simp))⟩
        have HQ := Aside0.mk hq
        clear hq HR
        go_wp2_with (go_at_call 13; refine (sTapeOk_any A c cs _ (S_isS HO.out).2.2).mono ?_; rintro e w3 ⟨rfl, hb3⟩; rw [HQ.out]; have HB3 := Aside0.mk (below_then HB.out HB.out.size hb3); clear hb3)
        go_ret2
        exact SReadOut.no HR2.out HB3.out
      | true =>
        rw [hq] at HR
        have HR2 : Aside0 (readI s = some cs) := ⟨HR.out.trans (if_pos rfl)⟩
        have HQ := Aside0.mk hq
        clear hq HR
        go_wp2_with (go_at_call 13; refine (sTapeOk_any A c cs _ (S_isS HO.out).2.2).mono ?_; rintro e w3 ⟨rfl, hb3⟩; rw [HQ.out]; have HB3 := Aside0.mk (below_then HB.out HB.out.size hb3); have HO3 := Aside0.mk (Kd.S_below HO.out hb3); clear hb3)
        go_ret2
        exact SReadOut.yes HR2.out (S_isS HO3.out).2 HB3.out
end Go.Proofs.YtdohneeejfeknaaDoor.Tqi


/- Spans: what is open, the program's. -/
import Derived.Test.YtccenpmaooailaaGreatMB7
import Derived.Test.YtccenpmaooailaaGreatMB6
import Derived.Test.YtccenpmaooailaaGreatMTa
set_option linter.unusedVariables false
set_option linter.unusedSimpArgs false
namespace Go.Proofs.YtccenpmaooailaaGreat.Tc
open Go.RowKit Go.Proofs.YtccenpmaooailaaGreatW.PrintWords Go.Proofs.YtccenpmaooailaaGreat.Wd Go.Proofs.YtccenpmaooailaaGreat.Pu Go.Proofs.YtccenpmaooailaaGreat.Pv Go.Proofs.YtccenpmaooailaaGreat.Ca Go.Proofs.YtccenpmaooailaaGreat.Cb Go.Proofs.YtccenpmaooailaaGreat.Cc Go.Proofs.YtccenpmaooailaaGreat.Cp Go.Proofs.YtccenpmaooailaaGreat.Cd Go.Proofs.YtccenpmaooailaaGreat.Ci Go.Proofs.YtccenpmaooailaaGreat.Ce Go.Proofs.YtccenpmaooailaaGreat.Cf Go.Proofs.YtccenpmaooailaaGreat.Cg Go.Proofs.YtccenpmaooailaaGreat.Sc Go.Proofs.YtccenpmaooailaaGreat.Se Go.Proofs.YtccenpmaooailaaGreat.Sh Go.Proofs.YtccenpmaooailaaGreat.Si Go.Proofs.YtccenpmaooailaaGreat.Sp Go.Proofs.YtccenpmaooailaaGreat.Ia Go.Proofs.YtccenpmaooailaaGreat.Ib Go.Proofs.YtccenpmaooailaaGreat.Ic Go.Proofs.YtccenpmaooailaaGreat.Id Go.Proofs.YtccenpmaooailaaGreat.Ie Go.Proofs.YtccenpmaooailaaGreat.If Go.Proofs.YtccenpmaooailaaGreat.Ig Go.Proofs.YtccenpmaooailaaGreat.Ih Go.Proofs.YtccenpmaooailaaGreat.Ij Go.Proofs.YtccenpmaooailaaGreat.Ik Go.Proofs.YtccenpmaooailaaGreat.Ra Go.Proofs.YtccenpmaooailaaGreat.Rb Go.Proofs.YtccenpmaooailaaGreat.Rc Go.Proofs.YtccenpmaooailaaGreat.Rd Go.Proofs.YtccenpmaooailaaGreat.Re Go.Proofs.YtccenpmaooailaaGreat.Sj Go.Proofs.YtccenpmaooailaaGreat.Ya Go.Proofs.YtccenpmaooailaaGreat.Yd Go.Proofs.YtccenpmaooailaaGreat.Yf Go.Proofs.YtccenpmaooailaaGreat.Yg Go.Proofs.YtccenpmaooailaaGreat.Ih Go.Proofs.YtccenpmaooailaaGreat.Yh Go.Proofs.YtccenpmaooailaaGreat.Yi Go.Proofs.YtccenpmaooailaaGreat.Sg Go.Proofs.YtccenpmaooailaaGreat.Sf Go.Proofs.YtccenpmaooailaaGreat.Yj Go.Proofs.YtccenpmaooailaaGreat.Ig Go.Proofs.YtccenpmaooailaaGreat.Yk Go.Proofs.YtccenpmaooailaaGreat.Ik Go.Proofs.YtccenpmaooailaaGreat.Yl Go.Proofs.YtccenpmaooailaaGreat.Ij Go.Proofs.YtccenpmaooailaaGreat.Ym Go.Proofs.YtccenpmaooailaaGreat.Il Go.Proofs.YtccenpmaooailaaGreat.Yn Go.Proofs.YtccenpmaooailaaGreat.Yo Go.Proofs.YtccenpmaooailaaGreat.In Go.Proofs.YtccenpmaooailaaGreat.Yq Go.Proofs.YtccenpmaooailaaGreat.Pw Go.Proofs.YtccenpmaooailaaGreat.Px Go.Proofs.YtccenpmaooailaaGreat.La Go.Proofs.YtccenpmaooailaaGreat.Db Go.Proofs.YtccenpmaooailaaGreat.Ta Go.Proofs.YtccenpmaooailaaGreat.Sh

set_option maxRecDepth 100000 in
theorem mid1_any (z : Occ) (A : Option Addr) (c O X : Nat) (s t : Int) (w : World) (hO : w.cell? ⟨O, 1, none⟩ = some (.int .i64 s)) (hX : w.cell? ⟨X, 0, none⟩ = some (.int .i64 t)) :
    Calls Tryz.prog 118 #[.agg #[.int .i64 z.f0, .int .i64 z.f1, .slice A z.f2.length c], .pointer (some ⟨O, 0, none⟩), .pointer (some ⟨X, 0, none⟩)] w fun e w' => e = .returned (.bool (decide (s < z.f0) && decide (z.f1 < t))) ∧ Below w.heap.size w w' := by
  have hb := (box3 w (.int .i64 z.f0) (.int .i64 z.f1) (.slice A z.f2.length c) 43).1
  have h1 := pw_cell_below hb hO
  have h2 := pw_cell_below hb hX
  cases q1 : decide (s < z.f0) with
  | false =>
    have e1 : decide (z.f0 > s) = false := q1
    have e2 : ¬ s < z.f0 := of_decide_eq_false q1
    clear q1
    go_enter Tryz.func118, Tryz.ntmps118
    go_wp2
    go_ret
    exact ⟨ret_bool (by simp), hb⟩
  | true =>
    have e1 : decide (z.f0 > s) = true := q1
    have e2 : s < z.f0 := of_decide_eq_true q1
    clear q1
    go_enter Tryz.func118, Tryz.ntmps118
    go_wp2
    go_ret
    exact ⟨ret_bool (by simp), hb⟩
set_option maxHeartbeats 1000000 in
set_option maxRecDepth 100000 in
theorem indexMid_any (A : Option Addr) (c O X : Nat) (s t : Int) (l : List Occ) (w : World) (hL : IsL w l A c) (hO : w.cell? ⟨O, 1, none⟩ = some (.int .i64 s)) (hX : w.cell? ⟨X, 0, none⟩ = some (.int .i64 t)) :
    Calls Tryz.prog 129 #[.slice A l.length c, .func (.func 118) #[] #[.pointer (some ⟨O, 0, none⟩), .pointer (some ⟨X, 0, none⟩)]] w fun e w' => (∃ r : Int, e = .returned (.int .i64 r) ∧ decide (r ≥ 0) = between l s t) ∧ Below w.heap.size w w' := by
  have hn := (C_len hL.rd).2
  go_enter Tryz.func129, Tryz.ntmps129
  go_wp2
  go_loopw [8] (fun vi wr => ∃ (k : Nat), k ≤ l.length ∧ vi = .int .i64 k ∧ Aside0 ((l.take k).any (fun z => decide (s < z.f0) && decide (z.f1 < t)) = false) ∧ Aside0 (Below w.heap.size w wr)) (fun vi _ => l.length - (intOf vi).toNat)
  case atStart => exact ⟨0, Nat.zero_le _, rfl, ⟨by simp⟩, ⟨Below.refl _ _⟩⟩
  case round =>
    obtain ⟨k, hk, rfl, HN, HB⟩ := hrel
    by_cases hlt : k < l.length
    · have g1 : decide (k < l.length) = true := decide_eq_true hlt
      have i1 : (k : Int) < l.length := by omega
      obtain ⟨ad, A2, c2, eX, hix, hex⟩ := elem (hL.below HB.out) hlt
      subst eX
      have q0 := hex.a
      have q1 := hex.b
      have q2 := hex.c
      have HS := Aside0.mk (any_take_succ (p := fun z => decide (s < z.f0) && decide (z.f1 < t)) hlt)
      have HA := Aside0.mk (any_at (p := fun z => decide (s < z.f0) && decide (z.f1 < t)) hlt)
      generalize l.getD k zO = z at *
      have hO2 := pw_cell_below HB.out hO
      have hX2 := pw_cell_below HB.out hX
      clear hex hix
      cases hd : (decide (s < z.f0) && decide (z.f1 < t)) with
      | false =>
        have HE : Aside0 ((l.take (k + 1)).any (fun z => decide (s < z.f0) && decide (z.f1 < t)) = false) := ⟨by rw [HS.out, HN.out]; show (false || (decide (s < z.f0) && decide (z.f1 < t))) = false; rw [hd]; rfl⟩
        have hcl := mid1_any z A2 c2 O X s t wr hO2 hX2
        rw [hd] at hcl
        clear hd hO2 hX2
        go_wp2_with (go_at_call 118; refine hcl.mono ?_; rintro e w1 ⟨rfl, hb1⟩; have HB1 := Aside0.mk (below_then HB.out HB.out.size hb1); clear hb1)
        go_roundw
        case rel => exact ⟨k + 1, by omega, by go_num, HE, HB1⟩
        case measure => simp [intOf]; omega
      | true =>
        have HE : Aside0 (between l s t = true) := ⟨HA.out hd⟩
        have hcl := mid1_any z A2 c2 O X s t wr hO2 hX2
        rw [hd] at hcl
        clear hd hO2 hX2
        go_wp2_with (go_at_call 118; refine hcl.mono ?_; rintro e w1 ⟨rfl, hb1⟩; have HB1 := Aside0.mk (below_then HB.out HB.out.size hb1); clear hb1)
        go_ret
        exact ⟨⟨(k : Int), rfl, by rw [HE.out]; exact decide_eq_true (by omega)⟩, HB1.out⟩
    · have hke : k = l.length := by omega
      subst hke
      have g1 : decide (l.length < l.length) = false := decide_eq_false (by omega)
      have HE : Aside0 (between l s t = false) := ⟨by have h := HN.out; rwa [List.take_length] at h⟩
      go_wp2
      go_ret
      exact ⟨⟨-1, rfl, by rw [HE.out]; rfl⟩, HB.out⟩
set_option maxRecDepth 100000 in
theorem hasMid_any (A : Option Addr) (c O X : Nat) (s t : Int) (l : List Occ) (w : World) (hL : IsL w l A c) (hO : w.cell? ⟨O, 1, none⟩ = some (.int .i64 s)) (hX : w.cell? ⟨X, 0, none⟩ = some (.int .i64 t)) :
    Calls Tryz.prog 117 #[.slice A l.length c, .func (.func 118) #[] #[.pointer (some ⟨O, 0, none⟩), .pointer (some ⟨X, 0, none⟩)]] w fun e w' => e = .returned (.bool (between l s t)) ∧ Below w.heap.size w w' := by
  go_enter Tryz.func117, Tryz.ntmps117
  go_wp2_with (go_at_call 129; refine (indexMid_any A c O X s t l _ hL hO hX).mono ?_; rintro e w1 ⟨⟨r, rfl, hr⟩, hb1⟩; have HR := Aside0.mk hr; have HB := Aside0.mk hb1; clear hr hb1)
  go_ret
  exact ⟨ret_bool HR.out, HB.out⟩
set_option maxRecDepth 100000 in
theorem open1_any (o : Occ) (A : Option Addr) (c X S : Nat) (x : Occ) (M : Option Addr) (cm : Nat) (m : List Occ) (w : World) (hM : IsL w m M cm) (hX : w.cell? ⟨X, 0, none⟩ = some (.int .i64 x.f0)) (hS : w.cell? ⟨S, 1, none⟩ = some (.slice M m.length cm)) :
    Calls Tryz.prog 116 #[.agg #[.int .i64 o.f0, .int .i64 o.f1, .slice A o.f2.length c], .pointer (some ⟨X, 0, none⟩), .pointer (some ⟨S, 0, none⟩)] w fun e w' => e = .returned (.bool (opn m x o)) ∧ Below w.heap.size w w' := by
  have hb := box3 w (.int .i64 o.f0) (.int .i64 o.f1) (.slice A o.f2.length c) 43
  have h1 := pw_cell_below hb.1 hX
  have h2 := pw_cell_below hb.1 hS
  have h3 := hb.2.2.1
  have HB := Aside0.mk hb.1
  have HM := Aside0.mk (hM.below hb.1)
  have hcl := hasMid_any M cm w.heap.size X o.f1 x.f0 m _ HM.out h3 h1
  clear hb hM
  cases q1 : decide (o.f1 < x.f0) with
  | false =>
    have HE : Aside0 (opn m x o = false) := ⟨by unfold opn; rw [q1]; rfl⟩
    clear hcl
    go_enter Tryz.func116, Tryz.ntmps116
    go_wp2
    go_ret
    exact ⟨ret_bool HE.out.symm, HB.out⟩
  | true =>
    have HE : Aside0 (opn m x o = !between m o.f1 x.f0) := ⟨by unfold opn; rw [q1]; rfl⟩
    go_enter Tryz.func116, Tryz.ntmps116
    go_wp2_with (go_at_call 117; refine hcl.mono ?_; rintro e w1 ⟨rfl, hb1⟩; have HB1 := Aside0.mk (below_then HB.out HB.out.size hb1); clear hb1)
    go_ret
    exact ⟨ret_bool HE.out.symm, HB1.out⟩

set_option maxHeartbeats 1000000 in
set_option maxRecDepth 100000 in
theorem thoseOpen_any (A : Option Addr) (c X S : Nat) (x : Occ) (M : Option Addr) (cm : Nat) (m l : List Occ) (w : World) (hl : l.length ≤ 1048576) (hL : IsL w l A c) (hM : IsL w m M cm) (hX : w.cell? ⟨X, 0, none⟩ = some (.int .i64 x.f0)) (hS : w.cell? ⟨S, 1, none⟩ = some (.slice M m.length cm)) :
    Calls Tryz.prog 110 #[.slice A l.length c, .func (.func 116) #[] #[.pointer (some ⟨X, 0, none⟩), .pointer (some ⟨S, 0, none⟩)]] w fun e w' =>
      ∃ A' c', e = .returned (.slice A' (l.filter (opn m x)).length c') ∧ IsL w' (l.filter (opn m x)) A' c' ∧ Below w.heap.size w w' := by
  go_enter Tryz.func110, Tryz.ntmps110
  go_wp2
  go_loopw [5, 10] (fun v5 vi wr => ∃ (k : Nat) (v : Value), k ≤ l.length ∧ vi = .int .i64 k ∧ v = v5 ∧ Aside0 (Fx w wr v ((l.take k).filter (opn m x))) ∧ Aside0 (Below w.heap.size w wr)) (fun _ vi _ => l.length - (intOf vi).toNat)
  case atStart => exact ⟨0, _, Nat.zero_le _, rfl, rfl, ⟨by simpa using Fx.nil w w⟩, ⟨Below.refl _ _⟩⟩
  case round =>
    obtain ⟨k, v, hk, rfl, rfl, HF, HB⟩ := hrel
    by_cases hlt : k < l.length
    · obtain ⟨ad, A2, c3, rfl, ha, hb, hc, hl2, hC2⟩ := atO (hL.below HB.out).rd k hlt
      obtain ⟨ad0, A20, c30, e0, ha0, hb0, hc0, hl20, hC20⟩ := atO hL.rd k hlt
      cases e0
      have hsame : A20 = A2 ∧ c30 = c3 := by have := pw_cell_below HB.out hc0; rw [hc] at this; injection this with this; injection this with h1 h2 h3; exact ⟨h1.symm, h3.symm⟩
      obtain ⟨rfl, rfl⟩ := hsame
      have hT := take_succ_getD l k zO hlt
      have hIw : IsO w (l.getD k zO) A20 c30 := ⟨hl20, hC20⟩
      have hln : ((l.take k).filter (opn m x)).length ≤ k := Nat.le_trans (List.length_filter_le _ _) (by rw [List.length_take]; omega)
      clear hl2 hC2 hl20 hC20 ha0 hb0 hc0
      generalize l.getD k zO = o at ha hb hc hIw hT
      have HT := Aside0.mk (show (l.take (k + 1)).filter (opn m x) = if opn m x o then (l.take k).filter (opn m x) ++ [o] else (l.take k).filter (opn m x) by rw [hT]; exact filter_snoc _ _ _)
      clear hT
      have hbx := (box3 wr (.int .i64 o.f0) (.int .i64 o.f1) (.slice A20 o.f2.length c30) 43).1
      have hX2 := pw_cell_below (below_then HB.out HB.out.size hbx) hX
      have hS2 := pw_cell_below (below_then HB.out HB.out.size hbx) hS
      have HM2 := Aside0.mk (hM.below (below_then HB.out HB.out.size hbx))
      go_wp2_with (first
        | (go_at_call 116; refine (open1_any o A20 c30 X S x M cm m _ HM2.out hX2 hS2).mono ?_; rintro e w1 ⟨rfl, hb1⟩; have HB1 := Aside0.mk (below_then hbx hbx.size hb1); have q0 := pw_cell_below hb1 (box3 wr (.int .i64 o.f0) (.int .i64 o.f1) (.slice A20 o.f2.length c30) 43).2.1; have q1 := pw_cell_below hb1 (box3 wr (.int .i64 o.f0) (.int .i64 o.f1) (.slice A20 o.f2.length c30) 43).2.2.1; have q2 := pw_cell_below hb1 (box3 wr (.int .i64 o.f0) (.int .i64 o.f1) (.slice A20 o.f2.length c30) 43).2.2.2; clear hb1; cases hd : opn m x o)
        | ((with_reducible refine gate_dst (N := 20) rfl ?_); refine Kd.R_append (Kd.fixed kO w) (w0 := w) w.heap.size rfl _ _ 23 43 (.agg #[.int .i64 0, .int .i64 0, .slice none 0 0]) 40 rfl Tryz.underlying23 infoO rfl (szO w) (by decide) v ((l.take k).filter (opn m x)) o [.int .i64 o.f0, .int .i64 o.f1, .slice A20 o.f2.length c30] (fun _ => True) (fun _ => False) rfl rfl (kO_mk w o hIw.1 hIw.2) (fun _ h => h.elim) (fun _ _ => trivial) (Kd.R_below HF.out HB1.out) (below_then HB.out HB.out.size HB1.out) (Nat.le_trans HB.out.size HB1.out.size) (by omega) ?_; intro v3 w3 hs3 hb3 _ _; have HS3 := Aside0.mk hs3; have HB3 := Aside0.mk hb3; clear hs3 hb3))
      · go_roundw
        case rel => exact ⟨k + 1, _, by omega, by go_num, rfl, ⟨by rw [HT.out, hd]; exact Kd.R_below HF.out HB1.out⟩, ⟨below_then HB.out HB.out.size HB1.out⟩⟩
        case measure => simp [intOf]; omega
      · go_roundw
        case rel => exact ⟨k + 1, _, by omega, by go_num, rfl, ⟨by rw [HT.out, hd]; exact HS3.out⟩, HB3⟩
        case measure => simp [intOf]; omega
    · have hke : k = l.length := by omega
      subst hke
      have HL := HF.out
      rw [List.take_length] at HL
      obtain ⟨A9, c9, rfl⟩ := Kd.R_slice HL
      have HX := Aside0.mk (Fx.isL HL HB.out)
      clear HL
      go_wp2
      go_ret
      exact ⟨A9, c9, rfl, HX.out.2, HB.out⟩


set_option maxRecDepth 100000 in
theorem iOpen_any (A B C : Option Addr) (ca cb cc : Nat) (l m : List Occ) (x : Occ) (w : World) (hl : l.length ≤ 1048576) (hL : IsL w l A ca) (hM : IsL w m B cb) :
    Calls Tryz.prog 84 #[.agg #[.slice A l.length ca, .slice B m.length cb], .agg #[.int .i64 x.f0, .int .i64 x.f1, .slice C x.f2.length cc]] w fun e w' =>
      ∃ A' c', e = .returned (.slice A' (l.filter (opn m x)).length c') ∧ IsL w' (l.filter (opn m x)) A' c' ∧ Below w.heap.size w w' := by
  obtain ⟨hb0, bP, bQ⟩ := boxes2 w #[.slice A l.length ca, .slice B m.length cb] #[.int .i64 x.f0, .int .i64 x.f1, .slice C x.f2.length cc] 25 43
  have hcl := thoseOpen_any A ca (w.heap.size + 1) w.heap.size x B cb m l _ hl (hL.below hb0) (hM.below hb0) ((blk_cell bQ 0).trans rfl) ((blk_cell bP 1).trans rfl)
  have p0 := (blk_cell bP 0).trans rfl
  have HB := Aside0.mk hb0
  clear hL hM hb0 bP bQ
  go_enter Tryz.func84, Tryz.ntmps84
  go_wp2_with (go_at_call 110; refine hcl.mono ?_; rintro e w5 ⟨A5, c5, rfl, hl5, hb5⟩; have HL5 := Aside0.mk hl5; have HB5 := Aside0.mk (below_then HB.out HB.out.size hb5); clear hl5 hb5)
  go_ret
  exact ⟨A5, c5, rfl, HL5.out, HB5.out⟩
end Go.Proofs.YtccenpmaooailaaGreat.Tc

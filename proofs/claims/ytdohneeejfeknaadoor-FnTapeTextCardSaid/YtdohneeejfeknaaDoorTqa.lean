
/- Rows of calls: kinds, marks, comparison, and whether calls are right, both sides. Printed by genTqa.py. -/
import Derived.Test.YtdohneeejfeknaaDoorJa
import Derived.StillTailTactics
set_option linter.unusedVariables false
set_option linter.unusedSimpArgs false
namespace Go.Proofs.YtdohneeejfeknaaDoor.Tqa
open Go.RowKit Go.Proofs.YtdohneeejfeknaaDoorW.PrintWords Go.Proofs.YtdohneeejfeknaaDoor.Ja
def IsS {α : Type} (d : Kd α) (w : World) (l : List α) (A : Option Addr) (c : Nat) : Prop := l.length ≤ c ∧ d.C w A l.length l
theorem IsS.below {α : Type} {d : Kd α} {w w' : World} {l : List α} {A : Option Addr} {c : Nat} (h : IsS d w l A c) (hb : Below w.heap.size w w') : IsS d w' l A c := ⟨h.1, Kd.C_below h.2 hb⟩
theorem IsS.len {α : Type} {d : Kd α} {w : World} {l : List α} {A : Option Addr} {c : Nat} (h : IsS d w l A c) : l.length ≤ 9223372036854775807 := (C_len h.2).2
theorem S_isS {α : Type} {d : Kd α} {e : Nat} {w : World} {base : Nat} {ok : Nat → Prop} {A : Option Addr} {n c : Nat} {l : List α} (h : Kd.S d e w base ok (.slice A n c) l) : n = l.length ∧ IsS d w l A c := by
  obtain ⟨rfl, h2, h3⟩ := Kd.S_reads' h
  exact ⟨rfl, h2, h3⟩
structure TCall where
  f0 : Int
  f1 : Int
  f2 : Int
def zCall : TCall := ⟨0, 0, 0⟩
def kCall : Kd TCall := Kd.iso (Kd.pair (Kd.int .i64) (Kd.pair (Kd.int .i64) (Kd.int .i64))) (fun x => (x.f0, x.f1, x.f2))
theorem kCall_open {w : World} {x : TCall} {cs : List Value} (h : kCall.K w x cs) : cs = [.int .i64 x.f0, .int .i64 x.f1, .int .i64 x.f2] := by
  obtain ⟨_, _, rfl, g0, h⟩ := h
  obtain ⟨_, _, rfl, g1, h⟩ := h
  have g2 := h
  obtain rfl := g0
  obtain rfl := g1
  obtain rfl := g2
  exact rfl
theorem kCall_openM {w : World} {base : Nat} {ok : Nat → Prop} {x : TCall} {cs : List Value} (h : kCall.M w base ok x cs) : cs = [.int .i64 x.f0, .int .i64 x.f1, .int .i64 x.f2] := by
  obtain ⟨_, _, rfl, g0, h⟩ := h
  obtain ⟨_, _, rfl, g1, h⟩ := h
  have g2 := h
  obtain rfl := g0
  obtain rfl := g1
  obtain rfl := g2
  exact rfl
theorem kCall_mkM (w : World) (base : Nat) (ok : Nat → Prop) (x : TCall) : kCall.M w base ok x [.int .i64 x.f0, .int .i64 x.f1, .int .i64 x.f2] := ⟨_, _, rfl, rfl, ⟨_, _, rfl, rfl, rfl⟩⟩
theorem atCall {w : World} {A : Option Addr} {c : Nat} {xs : List TCall} (h : IsS kCall w xs A c) (k : Nat) (hk : k < xs.length) : ∃ ad, A = some ad ∧ w.cell? (ad.add (k * 3)) = some (.int .i64 (xs.getD k zCall).f0) ∧ w.cell? ⟨(ad.add (k * 3)).block, (ad.add (k * 3)).off + 1, none⟩ = some (.int .i64 (xs.getD k zCall).f1) ∧ w.cell? ⟨(ad.add (k * 3)).block, (ad.add (k * 3)).off + 2, none⟩ = some (.int .i64 (xs.getD k zCall).f2) := by
  obtain ⟨ad, cs, e, _, hK, hc⟩ := Kd.C_get h.2 zCall (k : Int) (by omega) (by omega)
  rw [Int.toNat_natCast] at hK hc
  have hc' : ∀ j u, cs[j]? = some u → w.cell? (ad.add (k * 3 + j)) = some u := hc
  obtain ⟨rfl⟩ := kCall_open hK
  exact ⟨ad, e, hc' 0 _ rfl, by rw [← add_field _ _ 1 (by omega)]; exact hc' 1 _ rfl, by rw [← add_field _ _ 2 (by omega)]; exact hc' 2 _ rfl⟩
theorem H_cells {α : Type} {d : Kd α} {e g n cap : Nat} {W : World} {base : Nat} {ok oki : Nat → Prop} {xs : List α} {i : Int} {c : List Value} (h : Kd.H d e W base ok (.slice (some ⟨g, 0, none⟩) n cap) xs i oki c) (h0 : 0 ≤ i) (h1 : i < n) :
    (∀ j u, c[j]? = some u → W.cell? ⟨g, i.toNat * d.sz + j, none⟩ = some u) ∧ (∀ j, W.frozen? ⟨g, i.toNat * d.sz + j, none⟩ = false) := by
  obtain ⟨rows, _, hraw, _, _, hcc, _⟩ := Kd.H_raw h h0 h1
  obtain ⟨_, _, _, _, hfr⟩ := Kd.R_elem hraw [] i h0 h1
  exact ⟨hcc, hfr⟩
def cmS {α : Type} (c : α → Nat) (l : List α) : Nat := (l.map c).sum
def mkS {α : Type} (f : α → Int → α) (c : α → Nat) : List α → Int → List α
  | [], _ => []
  | x :: xs, k => f x k :: mkS f c xs (k + (c x : Int))
theorem sum_snoc {α : Type} (c : α → Nat) (z : α) (l : List α) (k : Nat) (h : k < l.length) : ((l.take (k + 1)).map c).sum = ((l.take k).map c).sum + c (l.getD k z) := by
  rw [take_snoc l k z h, List.map_append, List.sum_append]; simp
theorem sum_le {α : Type} (c : α → Nat) (l : List α) (k : Nat) : ((l.take k).map c).sum ≤ (l.map c).sum := by
  have h : (l.map c).sum = ((l.take k).map c).sum + ((l.drop k).map c).sum := by rw [← List.sum_append, ← List.map_append, List.take_append_drop]
  omega
section
variable {α : Type} (f : α → Int → α) (c : α → Nat) (z : α)
theorem cmS_cons (x : α) (xs : List α) : cmS c (x :: xs) = c x + cmS c xs := by simp [cmS]
theorem mkS_len : ∀ (l : List α) (k : Int), (mkS f c l k).length = l.length
  | [], _ => rfl
  | x :: xs, k => by rw [mkS, List.length_cons, List.length_cons, mkS_len xs]
theorem mkS_app : ∀ (l m : List α) (k : Int), mkS f c (l ++ m) k = mkS f c l k ++ mkS f c m (k + (cmS c l : Int))
  | [], m, k => by simp [mkS, cmS]
  | x :: xs, m, k => by
    rw [List.cons_append, mkS, mkS_app xs m, mkS, List.cons_append, cmS_cons]
    congr 3
    omega
theorem mkS_snoc (l : List α) (i : Nat) (h : i < l.length) (k : Int) : mkS f c (l.take (i + 1)) k = mkS f c (l.take i) k ++ [f (l.getD i z) (k + (cmS c (l.take i) : Int))] := by
  rw [take_snoc l i z h, mkS_app, mkS, mkS]
theorem mkS_getD (l : List α) (k : Int) (i : Nat) (h : i < l.length) : (mkS f c l k).getD i z = f (l.getD i z) (k + (cmS c (l.take i) : Int)) := by
  have h1 : mkS f c l k = mkS f c (l.take i) k ++ mkS f c (l.drop i) (k + (cmS c (l.take i) : Int)) := by rw [← mkS_app, List.take_append_drop]
  have h2 : (mkS f c (l.take i) k).length = i := by rw [mkS_len, List.length_take]; omega
  rw [h1, drop_at l z i h, mkS, List.getD_eq_getElem?_getD, List.getElem?_append_right (by omega), h2]
  simp
theorem cmS_snoc (l : List α) (i : Nat) (h : i < l.length) : cmS c (l.take (i + 1)) = cmS c (l.take i) + c (l.getD i z) := sum_snoc c z l i h
theorem cmS_le (l : List α) (i : Nat) : cmS c (l.take i) ≤ cmS c l := sum_le c l i
end
def cmCall (x : TCall) : Nat := 3
def mkCallP (x : TCall) (k : Int) : TCall := ⟨k, k + 1, k + 1 + 1⟩
def mkCall (x : TCall) (k : Int) : TCall := mkCallP x k
set_option maxHeartbeats 8000000 in
set_option maxRecDepth 100000 in
theorem markCallS_any (base : Nat) (ok : Nat → Prop) (v : Value) (l : List TCall) (k : Int) (w : World) (hk : 0 ≤ k) (hk2 : k + (cmS cmCall l : Int) ≤ 4611686018427387904) (hS : Kd.S kCall 41 w base ok v l) :
    Calls Tryd.prog 8 #[v, .int .i64 k] w fun e w' => e = .returned (.int .i64 (k + (cmS cmCall l : Int))) ∧ Kd.S kCall 41 w' base ok v (mkS mkCall cmCall l k) ∧ Fr (fun j => ok j ∧ base ≤ j) w w' := by
  obtain ⟨A, c, rfl⟩ := Kd.S_slice hS
  have hn := (S_isS hS).2.len
  have h00 : mkS mkCall cmCall (l.take 0) k ++ l.drop 0 = l := by simp [mkS]
  have HS0 : Aside0 (Kd.S kCall 41 w base (fun j => ok j ∧ base ≤ j) (.slice A l.length c) (mkS mkCall cmCall (l.take 0) k ++ l.drop 0)) := ⟨by rw [h00]; exact Kd.S_mono (Kd.S_bound hS) (fun j hj => ⟨hj.1, hj.2.1⟩)⟩
  have HF0 : Aside0 (Fr (fun j => ok j ∧ base ≤ j) w w) := ⟨Fr.refl _ _⟩
  clear h00 hS
  go_enter Tryd.func8, Tryd.ntmps8
  go_wp2
  go_loopw [1, 5] (fun v1 vi wr => ∃ (i : Nat) (kk : Int), i ≤ l.length ∧ kk = k + (cmS cmCall (l.take i) : Int) ∧ vi = .int .i64 i ∧ v1 = .int .i64 kk ∧ Aside0 (Kd.S kCall 41 wr base (fun j => ok j ∧ base ≤ j) (.slice A l.length c) (mkS mkCall cmCall (l.take i) k ++ l.drop i)) ∧ Aside0 (Fr (fun j => ok j ∧ base ≤ j) w wr)) (fun _ vi _ => l.length - (intOf vi).toNat)
  case atStart => exact ⟨0, k, Nat.zero_le _, by simp [cmS], rfl, rfl, HS0, HF0⟩
  case round =>
    clear HS0 HF0
    obtain ⟨i, kk, hi, hkk, rfl, rfl, HS, HF⟩ := hrel
    by_cases hlt : i < l.length
    · have g1 : decide (i < l.length) = true := decide_eq_true hlt
      have i1 : (i : Int) < l.length := by omega
      have hpl : (mkS mkCall cmCall (l.take i) k).length = i := by rw [mkS_len, List.length_take]; omega
      have hlen : (mkS mkCall cmCall (l.take i) k ++ l.drop i).length = l.length := mid_length _ _ _ hpl hi
      have hwt := cmS_snoc cmCall zCall l i hlt
      have hwl := cmS_le cmCall l (i + 1)
      have HSET := Aside0.mk (show (mkS mkCall cmCall (l.take i) k ++ l.drop i).set ((i : Int)).toNat (mkCall (l.getD i zCall) kk) = mkS mkCall cmCall (l.take (i + 1)) k ++ l.drop (i + 1) by
        rw [Int.toNat_natCast, mid_set _ _ _ _ hpl hlt, mkS_snoc mkCall cmCall zCall l i hlt k, hkk])
      have hgd := mid_getD (mkS mkCall cmCall (l.take i) k) l i zCall hpl
      obtain ⟨g, cap, hv, hgb, hgl, hcl⟩ := Kd.S_form HS.out (by omega)
      injection hv with hA hl2 hc2
      subst hA
      clear hl2 hc2 hcl hgl
      obtain ⟨oki, ce, hce1, hM, hcc, hfr, hoki, hH⟩ := Kd.S_elem HS.out zCall (i : Int) (by omega) (by omega)
      rw [Int.toNat_natCast] at hM
      rw [hgd] at hM
      have hk0 : 0 ≤ kk := by omega
      have hk1 : kk + (cmCall (l.getD i zCall) : Int) ≤ 4611686018427387904 := by omega
      have HKK : Aside0 (kk + (cmCall (l.getD i zCall) : Int) = k + (cmS cmCall (l.take (i + 1)) : Int)) := ⟨by omega⟩
      have HGO := Aside0.mk ((Kd.S_R HS.out).1 g (by simp [Value.ownBlock]))
      clear hwt hwl hkk hpl hlen hgd hcc hfr hce1
      generalize l.getD i zCall = o at hM hk1 HSET HKK
      generalize mkS mkCall cmCall (l.take i) k ++ l.drop i = row at hH HSET HS
      obtain rfl := kCall_openM hM
      have HOKI := Aside0.mk hoki
      have HH := Aside0.mk hH
      clear hoki hH hM 
      have hcm : (cmCall o : Int) = (3 : Int) := by unfold cmCall; omega
      rw [hcm] at hk1
      have HCM := Aside0.mk hcm
      clear hcm
      obtain ⟨hcc, hfr⟩ := H_cells HH.out (by omega) (by omega)
      rw [Int.toNat_natCast] at hcc hfr
      have c0_ : wr.cell? ⟨g, i * 3, none⟩ = some (.int .i64 o.f0) := hcc 0 _ rfl
      have z0_ : wr.frozen? ⟨g, i * 3, none⟩ = false := hfr 0
      have c1_ : wr.cell? ⟨g, i * 3 + 1, none⟩ = some (.int .i64 o.f1) := hcc 1 _ rfl
      have z1_ : wr.frozen? ⟨g, i * 3 + 1, none⟩ = false := hfr 1
      have c2_ : wr.cell? ⟨g, i * 3 + 2, none⟩ = some (.int .i64 o.f2) := hcc 2 _ rfl
      have z2_ : wr.frozen? ⟨g, i * 3 + 2, none⟩ = false := hfr 2
      clear hcc hfr
      go_upto_region 3 with fail
      obtain ⟨hH2, hg2⟩ := Kd.H_seg HH.out (by omega) (by omega) (seg := [.int .i64 (kk), .int .i64 (kk + 1), .int .i64 (kk + 1 + 1)]) (j := 0) (show 0 + 3 ≤ 3 by decide) (by intro q hq; simp at hq; rcases hq with rfl | rfl | rfl <;> rfl)
      rw [Int.toNat_natCast] at hH2 hg2
      have HH' : Aside0 (Kd.H kCall 41 (((wr.setCell ⟨g, i * 3, none⟩ (.int .i64 (kk))).setCell ⟨g, i * 3 + 1, none⟩ (.int .i64 (kk + 1))).setCell ⟨g, i * 3 + 2, none⟩ (.int .i64 (kk + 1 + 1))) base (fun j => ok j ∧ base ≤ j) (.slice (some ⟨g, 0, none⟩) l.length c) row (i : Int) oki [.int .i64 (kk), .int .i64 (kk + 1), .int .i64 (kk + 1 + 1)]) := ⟨hH2⟩
      have hg3 : wr.grownBy (((wr.setCell ⟨g, i * 3, none⟩ (.int .i64 (kk))).setCell ⟨g, i * 3 + 1, none⟩ (.int .i64 (kk + 1))).setCell ⟨g, i * 3 + 2, none⟩ (.int .i64 (kk + 1 + 1))) (some g) := hg2
      have HF' := Aside0.mk (Fr.trans HF.out (Fr.of_grown (S := fun j => j = g) hg3 (fun j e => by injection e)) (fun j hj _ => by subst hj; exact HGO.out))
      generalize (((wr.setCell ⟨g, i * 3, none⟩ (.int .i64 (kk))).setCell ⟨g, i * 3 + 1, none⟩ (.int .i64 (kk + 1))).setCell ⟨g, i * 3 + 2, none⟩ (.int .i64 (kk + 1 + 1))) = W0 at HH' HF'  ⊢
      clear hH2 hg2 hg3 HH HF  c0_ z0_ c1_ z1_ c2_ z2_
      have HH := HH'
      have HF := HF'
      clear HH' HF' 
      have HX : Aside0 (mkCallP o kk = mkCall o kk) := ⟨rfl⟩
      have hs9 := Kd.H_back HH.out (kCall_mkM W0 base (fun b => oki b ∧ base ≤ b) (mkCallP o kk)) (fun b hb => hb.1)
      rw [HX.out, HSET.out] at hs9
      have HS9 := Aside0.mk hs9
      clear hs9
      clear HH 
      go_wp2
      go_roundw
      case rel => exact ⟨i + 1, kk + 1 + 1 + 1, by omega, by have := HKK.out; have := HCM.out; omega, by go_num, rfl, HS9, HF⟩
      case measure => simp [intOf]; omega
    · have hke : i = l.length := by omega
      subst hke
      have g1 : decide (l.length < l.length) = false := decide_eq_false (by omega)
      have hR := HS.out
      rw [List.drop_of_length_le (Nat.le_refl _), List.append_nil, List.take_length] at hR
      rw [List.take_length] at hkk
      have HR2 := Aside0.mk (Kd.S_mono hR (fun j hj => hj.1))
      have HKK := Aside0.mk hkk
      clear hR hkk
      go_wp2
      go_ret
      exact ⟨by (rw [HKK.out]; try rfl), HR2.out, HF.out⟩
set_option maxHeartbeats 8000000 in
set_option maxRecDepth 100000 in
theorem heldCallS_any (A : Option Addr) (c : Nat) (l : List TCall) (k : Int) (w : World) (hk : 0 ≤ k) (hk2 : k + (cmS cmCall l : Int) ≤ 4611686018427387904) (hL : IsS kCall w (mkS mkCall cmCall l k) A c) :
    Calls Tryd.prog 9 #[.slice A l.length c, .int .i64 k] w fun e w' => e = .returned (.int .i64 (k + (cmS cmCall l : Int))) ∧ Below w.heap.size w w' := by
  have hln := mkS_len mkCall cmCall l k
  have hn := hL.len
  rw [hln] at hn
  have HL := Aside0.mk hL
  have HLN := Aside0.mk hln
  clear hL hln
  go_enter Tryd.func9, Tryd.ntmps9
  go_wp2
  go_loopw [1, 5] (fun v1 vi wr => ∃ (i : Nat) (kk : Int), i ≤ l.length ∧ kk = k + (cmS cmCall (l.take i) : Int) ∧ vi = .int .i64 i ∧ v1 = .int .i64 kk ∧ Aside0 (Below w.heap.size w wr)) (fun _ vi _ => l.length - (intOf vi).toNat)
  case atStart => exact ⟨0, k, Nat.zero_le _, by simp [cmS], rfl, rfl, ⟨Below.refl _ _⟩⟩
  case round =>
    obtain ⟨i, kk, hi, hkk, rfl, rfl, HB⟩ := hrel
    by_cases hlt : i < l.length
    · have g1 : decide (i < l.length) = true := decide_eq_true hlt
      have i1 : (i : Int) < l.length := by omega
      obtain ⟨ad, rfl, y0, y1, y2⟩ := atCall (HL.out.below HB.out) i (by rw [HLN.out]; exact hlt)
      have hwt := cmS_snoc cmCall zCall l i hlt
      have hwl := cmS_le cmCall l (i + 1)
      rw [mkS_getD mkCall cmCall zCall l k i hlt, ← hkk] at y0 y1 y2
      have hk0 : 0 ≤ kk := by omega
      have hk1 : kk + (cmCall (l.getD i zCall) : Int) ≤ 4611686018427387904 := by omega
      have HKK : Aside0 (kk + (cmCall (l.getD i zCall) : Int) = k + (cmS cmCall (l.take (i + 1)) : Int)) := ⟨by omega⟩
      clear hwt hwl hkk
      generalize l.getD i zCall = o at y0 y1 y2 hk1 HKK
      have hcm : (cmCall o : Int) = (3 : Int) := by unfold cmCall; omega
      rw [hcm] at hk1
      have HCM := Aside0.mk hcm
      clear hcm
      have HX : mkCall o kk = mkCallP o kk := rfl
      rw [HX] at y0 y1 y2
      simp only [mkCallP] at y0 y1 y2
      clear HX
      have x0 : ((kk) != (kk)) = false := by simp
      have x1 : ((kk + 1) != (kk + 1)) = false := by simp
      have x2 : ((kk + 1 + 1) != (kk + 1 + 1)) = false := by simp
      go_wp2
      go_roundw
      case rel => exact ⟨i + 1, kk + 1 + 1 + 1, by omega, by have := HKK.out; have := HCM.out; omega, by go_num, rfl, HB⟩
      case measure => simp [intOf]; omega
    · have hke : i = l.length := by omega
      subst hke
      have g1 : decide (l.length < l.length) = false := decide_eq_false (by omega)
      rw [List.take_length] at hkk
      have HKK := Aside0.mk hkk
      clear hkk
      go_wp2
      go_ret
      exact ⟨by (rw [HKK.out]; try rfl), HB.out⟩
theorem at3 {w : World} {A : Option Addr} {n : Nat} {xs : List TCall} (h : kCall.C w A n xs) (k : Nat) (hk : k < n) : ∃ ad, A = some ad ∧ w.cell? (ad.add (k * 3)) = some (.int .i64 (xs.getD k zCall).f0) ∧ w.cell? ⟨(ad.add (k * 3)).block, (ad.add (k * 3)).off + 1, none⟩ = some (.int .i64 (xs.getD k zCall).f1) ∧ w.cell? ⟨(ad.add (k * 3)).block, (ad.add (k * 3)).off + 2, none⟩ = some (.int .i64 (xs.getD k zCall).f2) := by
  obtain ⟨rfl, _⟩ := C_len h
  exact atCall (c := xs.length) ⟨Nat.le_refl _, h⟩ k hk
def fit (v : Int) : Bool := inb v 0 4
theorem isSym_any (n : Int) (w : World) : Calls Tryd.prog 48 #[.int .i64 n] w fun e w' => e = .returned (.bool (fit n)) ∧ w' = w := by
  go_enter Tryd.func48, Tryd.ntmps48
  go_wp2_with (go_at_call 49; refine (in_any _ _ _ _).mono ?_; rintro e w' ⟨rfl, rfl⟩)
  go_ret
  exact ⟨rfl, rfl⟩
def okCall (x : TCall) : Bool := fit x.f0 && inb x.f1 1 20 && inb x.f2 0 100
theorem callOk_any (x : TCall) (w : World) : Calls Tryd.prog 32 #[.agg #[.int .i64 x.f0, .int .i64 x.f1, .int .i64 x.f2]] w fun e w' => e = .returned (.bool (okCall x)) ∧ Below w.heap.size w w' := by
  obtain ⟨a, b, c⟩ := x
  unfold okCall
  cases hf : fit a with
  | false =>
    go_enter Tryd.func32, Tryd.ntmps32
    go_wp2_with (first | (go_at_call 48; refine (isSym_any _ _).mono ?_; rintro e w' ⟨rfl, rfl⟩))
    go_ret
    exact ⟨by simp, (Below.refl _ _).alloc (Nat.le_refl _) _⟩
  | true =>
    cases hb : inb b 1 20 with
    | false =>
      go_enter Tryd.func32, Tryd.ntmps32
      go_wp2_with (first | (go_at_call 48; refine (isSym_any _ _).mono ?_; rintro e w' ⟨rfl, rfl⟩) | (go_at_call 49; refine (in_any _ _ _ _).mono ?_; rintro e w' ⟨rfl, rfl⟩))
      go_ret
      exact ⟨by simp, (Below.refl _ _).alloc (Nat.le_refl _) _⟩
    | true =>
      go_enter Tryd.func32, Tryd.ntmps32
      go_wp2_with (first | (go_at_call 48; refine (isSym_any _ _).mono ?_; rintro e w' ⟨rfl, rfl⟩) | (go_at_call 49; refine (in_any _ _ _ _).mono ?_; rintro e w' ⟨rfl, rfl⟩))
      go_ret
      exact ⟨by simp, (Below.refl _ _).alloc (Nat.le_refl _) _⟩
theorem specCall_any (x : TCall) (w : World) : Calls Tryd.prog 27 #[.agg #[.int .i64 x.f0, .int .i64 x.f1, .int .i64 x.f2]] w fun e w' => e = .returned (.bool (okCall x)) ∧ Below w.heap.size w w' := by
  obtain ⟨a, b, c⟩ := x
  by_cases h0 : 0 ≤ a
  · skip
    by_cases h1 : a < 5
    · skip
      by_cases h2 : 1 ≤ b
      · skip
        by_cases h3 : b ≤ 20
        · skip
          by_cases h4 : 0 ≤ c
          · have HQ := Aside0.mk (show okCall ⟨a, b, c⟩ = decide (c ≤ 100) by simp [okCall, fit, inb, h0, h2, h3, h4, show a ≤ 4 by omega])
            go_enter Tryd.func27, Tryd.ntmps27
            go_wp2
            go_ret
            exact ⟨by rw [HQ.out]; rfl, (Below.refl _ _).alloc (Nat.le_refl _) _⟩
          · have HQ := Aside0.mk (show okCall ⟨a, b, c⟩ = false by simp only [okCall, fit, inb]; simp; omega)
            go_enter Tryd.func27, Tryd.ntmps27
            go_wp2
            go_ret
            exact ⟨by rw [HQ.out]; rfl, (Below.refl _ _).alloc (Nat.le_refl _) _⟩
        · have HQ := Aside0.mk (show okCall ⟨a, b, c⟩ = false by simp only [okCall, fit, inb]; simp; omega)
          go_enter Tryd.func27, Tryd.ntmps27
          go_wp2
          go_ret
          exact ⟨by rw [HQ.out]; rfl, (Below.refl _ _).alloc (Nat.le_refl _) _⟩
      · have HQ := Aside0.mk (show okCall ⟨a, b, c⟩ = false by simp only [okCall, fit, inb]; simp; omega)
        go_enter Tryd.func27, Tryd.ntmps27
        go_wp2
        go_ret
        exact ⟨by rw [HQ.out]; rfl, (Below.refl _ _).alloc (Nat.le_refl _) _⟩
    · have HQ := Aside0.mk (show okCall ⟨a, b, c⟩ = false by simp only [okCall, fit, inb]; simp; omega)
      go_enter Tryd.func27, Tryd.ntmps27
      go_wp2
      go_ret
      exact ⟨by rw [HQ.out]; rfl, (Below.refl _ _).alloc (Nat.le_refl _) _⟩
  · have HQ := Aside0.mk (show okCall ⟨a, b, c⟩ = false by simp only [okCall, fit, inb]; simp; omega)
    go_enter Tryd.func27, Tryd.ntmps27
    go_wp2
    go_ret
    exact ⟨by rw [HQ.out]; rfl, (Below.refl _ _).alloc (Nat.le_refl _) _⟩
theorem clo_any (x : TCall) (w : World) : Calls Tryd.prog 31 #[.agg #[.int .i64 x.f0, .int .i64 x.f1, .int .i64 x.f2]] w fun e w' => e = .returned (.bool (!okCall x)) ∧ Below w.heap.size w w' := by
  go_enter Tryd.func31, Tryd.ntmps31
  go_wp2_with (first | (go_at_call 32; refine (callOk_any x _).mono ?_; rintro e w1 ⟨rfl, hb⟩))
  go_ret
  exact ⟨rfl, below_then ((Below.refl _ _).alloc (Nat.le_refl _) _) (by simp) hb⟩
theorem indexFunc_any (A : Option Addr) (n c : Nat) (xs : List TCall) (w : World) (hr : kCall.C w A n xs) :
    Calls Tryd.prog 47 #[.slice A n c, .func (.func 31) #[] #[]] w fun e w' => ∃ r : Int, e = .returned (.int .i64 r) ∧ decide (r ≥ 0) = xs.any (fun x => !okCall x) ∧ Below w.heap.size w w' := by
  obtain ⟨hn1, hn⟩ := C_len hr
  have HN := Aside0.mk hn1
  clear hn1
  go_enter Tryd.func47, Tryd.ntmps47
  go_wp2
  go_loopw [8] (fun i wr => ∃ k : Nat, k ≤ n ∧ i = .int .i64 k ∧ Aside0 (xs.any (fun x => !okCall x) = (xs.drop k).any (fun x => !okCall x)) ∧ Aside0 (Below w.heap.size w wr)) (fun i _ => n - (intOf i).toNat)
  case atStart => exact ⟨0, Nat.zero_le _, rfl, ⟨rfl⟩, ⟨Below.refl _ _⟩⟩
  case round =>
    obtain ⟨k, hk, rfl, HH, HB⟩ := hrel
    by_cases hlt : k < n
    · obtain ⟨ad, rfl, ha, hb, hc⟩ := at3 (Kd.C_below hr HB.out) k hlt
      have HD := Aside0.mk (drop_at xs zCall k (by have := HN.out; omega))
      have hcl := clo_any (xs.getD k zCall)
      generalize xs.getD k zCall = y at ha hb hc HD hcl
      cases hq : okCall y with
      | false =>
        have HQ := Aside0.mk hq
        rw [hq] at hcl
        clear hq
        go_wp2_with (first | (go_at_call 31; refine (hcl _).mono ?_; rintro e w1 ⟨rfl, hb1⟩))
        go_ret
        exact ⟨k, rfl, by rw [HH.out, HD.out, List.any_cons, HQ.out]; simp, below_then HB.out HB.out.size hb1⟩
      | true =>
        have HQ := Aside0.mk hq
        rw [hq] at hcl
        clear hq
        go_wp2_with (first | (go_at_call 31; refine (hcl _).mono ?_; rintro e w1 ⟨rfl, hb1⟩))
        go_roundw
        case rel => exact ⟨k + 1, by omega, by go_num, ⟨by rw [HH.out, HD.out, List.any_cons, HQ.out]; simp⟩, ⟨below_then HB.out HB.out.size hb1⟩⟩
        case measure => simp [intOf]; omega
    · go_wp2
      go_ret
      exact ⟨_, rfl, by rw [HH.out, List.drop_of_length_le (by have := HN.out; omega)]; rfl, HB.out⟩
theorem containsFunc_any (A : Option Addr) (n c : Nat) (xs : List TCall) (w : World) (hr : kCall.C w A n xs) :
    Calls Tryd.prog 30 #[.slice A n c, .func (.func 31) #[] #[]] w fun e w' => e = .returned (.bool (xs.any (fun x => !okCall x))) ∧ Below w.heap.size w w' := by
  go_enter Tryd.func30, Tryd.ntmps30
  go_wp2_with (go_at_call 47; refine (indexFunc_any _ _ _ _ _ hr).mono ?_; rintro e w' ⟨r, rfl, hd, hb⟩)
  go_ret
  exact ⟨by rw [← hd]; rfl, hb⟩
theorem tapeOk_any (A : Option Addr) (c : Nat) (xs : List TCall) (w : World) (hr : kCall.C w A xs.length xs) :
    Calls Tryd.prog 15 #[.slice A xs.length c] w fun e w' => e = .returned (.bool (decide (xs.length ≤ 30) && xs.all okCall)) ∧ Below w.heap.size w w' := by
  have hn := (C_len hr).2
  have hq : xs.all okCall = !(xs.any (fun x => !okCall x)) := by rw [List.not_any_eq_all_not]; simp only [Bool.not_not]
  rw [hq]
  clear hq
  by_cases hl : xs.length ≤ 30
  · have h1 : decide ((xs.length : Int) ≤ 30) = true := by simp; omega
    have HL := Aside0.mk (decide_eq_true hl)
    clear hl
    go_enter Tryd.func15, Tryd.ntmps15
    go_wp2_with (go_at_call 30; refine (containsFunc_any _ _ _ _ _ hr).mono ?_; rintro e w' ⟨rfl, hb⟩)
    go_ret
    exact ⟨ret_bool (by rw [HL.out]; rfl), hb⟩
  · have h1 : decide ((xs.length : Int) ≤ 30) = false := by simp; omega
    have HL := Aside0.mk (decide_eq_false hl)
    clear hl
    go_enter Tryd.func15, Tryd.ntmps15
    go_wp2
    go_ret
    exact ⟨ret_bool (by rw [HL.out]; rfl), Below.refl _ _⟩
theorem sTapeOk_any (A : Option Addr) (c : Nat) (xs : List TCall) (w : World) (hr : kCall.C w A xs.length xs) :
    Calls Tryd.prog 13 #[.slice A xs.length c] w fun e w' => e = .returned (.bool (decide (xs.length ≤ 30) && xs.all okCall)) ∧ Below w.heap.size w w' := by
  have hn := (C_len hr).2
  go_enter Tryd.func13, Tryd.ntmps13
  go_wp2
  go_loopw [3] (fun i wr => ∃ k : Nat, k ≤ xs.length ∧ i = .int .i64 k ∧ Aside0 (xs.all okCall = (xs.drop k).all okCall) ∧ Aside0 (Below w.heap.size w wr)) (fun i _ => xs.length - (intOf i).toNat)
  case atStart => exact ⟨0, Nat.zero_le _, rfl, ⟨rfl⟩, ⟨Below.refl _ _⟩⟩
  case round =>
    obtain ⟨k, hk, rfl, HH, HB⟩ := hrel
    by_cases hlt : k < xs.length
    · obtain ⟨ad, rfl, ha, hb, hc⟩ := at3 (Kd.C_below hr HB.out) k hlt
      have HD := Aside0.mk (drop_at xs zCall k hlt)
      have hcl := specCall_any (xs.getD k zCall)
      generalize xs.getD k zCall = y at ha hb hc HD hcl
      cases hq : okCall y with
      | false =>
        have HQ := Aside0.mk hq
        rw [hq] at hcl
        clear hq
        go_wp2_with (first | (go_at_call 27; refine (hcl _).mono ?_; rintro e w1 ⟨rfl, hb1⟩))
        go_ret
        exact ⟨ret_bool (by rw [HH.out, HD.out, List.all_cons, HQ.out]; simp), below_then HB.out HB.out.size hb1⟩
      | true =>
        have HQ := Aside0.mk hq
        rw [hq] at hcl
        clear hq
        go_wp2_with (first | (go_at_call 27; refine (hcl _).mono ?_; rintro e w1 ⟨rfl, hb1⟩))
        go_roundw
        case rel => exact ⟨k + 1, by omega, by go_num, ⟨by rw [HH.out, HD.out, List.all_cons, HQ.out]; simp⟩, ⟨below_then HB.out HB.out.size hb1⟩⟩
        case measure => simp [intOf]; omega
    · have HA := Aside0.mk (show xs.all okCall = true by rw [HH.out, List.drop_of_length_le (by omega)]; rfl)
      go_wp2
      go_ret
      exact ⟨ret_bool (by rw [HA.out]; by_cases h : xs.length ≤ 30 <;> simp [h] <;> omega), HB.out⟩
theorem eqCall_any (x : TCall) (w : World) : Calls Tryd.prog 20 #[.agg #[.int .i64 x.f0, .int .i64 x.f1, .int .i64 x.f2], .agg #[.int .i64 x.f0, .int .i64 x.f1, .int .i64 x.f2]] w fun e w' => e = .returned (.bool true) ∧ Below w.heap.size w w' := by
  go_enter Tryd.func20, Tryd.ntmps20
  go_wp2
  repeat (go_quiet (fail); go_wp2)
  go_ret
  exact ⟨rfl, by repeat (first | exact Below.refl _ _ | apply below_alloc | apply pw_below_drewN | apply below_drew)⟩
set_option maxRecDepth 100000 in
theorem eqCallS_any (A B : Option Addr) (c c2 : Nat) (xs : List TCall) (w : World) (hr : kCall.C w A xs.length xs) (hs : kCall.C w B xs.length xs) :
    Calls Tryd.prog 7 #[.slice A xs.length c, .slice B xs.length c2] w fun e w' => e = .returned (.bool true) ∧ Below w.heap.size w w' := by
  have hn := (C_len hr).2
  go_enter Tryd.func7, Tryd.ntmps7
  go_wp2
  go_loopw [5] (fun i wr => ∃ k : Nat, k ≤ xs.length ∧ i = .int .i64 k ∧ Aside0 (Below w.heap.size w wr)) (fun i _ => xs.length - (intOf i).toNat)
  case atStart => exact ⟨0, Nat.zero_le _, rfl, ⟨Below.refl _ _⟩⟩
  case round =>
    obtain ⟨k, hk, rfl, HB⟩ := hrel
    by_cases hlt : k < xs.length
    · obtain ⟨ad, rfl, ha, hb, hc⟩ := at3 (Kd.C_below hr HB.out) k hlt
      obtain ⟨ad2, rfl, ha2, hb2, hc2⟩ := at3 (Kd.C_below hs HB.out) k hlt
      generalize xs.getD k zCall = y at ha hb hc ha2 hb2 hc2
      go_wp2
      go_still_tail 8, (by kernel_rfl)
      change wpList _ _ _ _ _ wr.drew
      generalize hW : wr.drew = w2
      have HB2 := Aside0.mk (show Below w.heap.size w w2 by rw [← hW]; exact below_drew HB.out)
      clear hW
      go_wp2_with (first | (go_at_call 20; refine (eqCall_any y _).mono ?_; rintro e w1 ⟨rfl, hb1⟩))
      go_roundw
      case rel => exact ⟨k + 1, by omega, by go_num, ⟨below_then HB2.out HB2.out.size hb1⟩⟩
      case measure => simp [intOf]; omega
    · go_wp2
      go_ret
      exact ⟨rfl, HB.out⟩
end Go.Proofs.YtdohneeejfeknaaDoor.Tqa

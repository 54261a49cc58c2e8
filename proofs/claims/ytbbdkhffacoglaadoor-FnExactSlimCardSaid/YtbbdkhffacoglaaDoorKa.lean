
/- The program's struct types as kinds: what is read, what is owned (rows apart). Printed by genTy.py. -/
import Derived.Test.YtbbdkhffacoglaaDoorJb
set_option linter.unusedVariables false
set_option linter.unusedSimpArgs false
namespace Go.Proofs.YtbbdkhffacoglaaDoor.Ka
open Go.RowKit Go.Proofs.YtbbdkhffacoglaaDoorW.PrintWords Go.Proofs.YtbbdkhffacoglaaDoor.Ja Go.Proofs.YtbbdkhffacoglaaDoor.Jb
/-- a list that is read -/
def IsS {α : Type} (d : Kd α) (w : World) (l : List α) (A : Option Addr) (c : Nat) : Prop := l.length ≤ c ∧ d.C w A l.length l
theorem IsS.below {α : Type} {d : Kd α} {w w' : World} {l : List α} {A : Option Addr} {c : Nat} (h : IsS d w l A c) (hb : Below w.heap.size w w') : IsS d w' l A c := ⟨h.1, Kd.C_below h.2 hb⟩
theorem IsS.len {α : Type} {d : Kd α} {w : World} {l : List α} {A : Option Addr} {c : Nat} (h : IsS d w l A c) : l.length ≤ 9223372036854775807 := (C_len h.2).2
theorem S_isS {α : Type} {d : Kd α} {e : Nat} {w : World} {base : Nat} {ok : Nat → Prop} {A : Option Addr} {n c : Nat} {l : List α} (h : Kd.S d e w base ok (.slice A n c) l) : n = l.length ∧ IsS d w l A c := by
  obtain ⟨rfl, h2, h3⟩ := Kd.S_reads' h
  exact ⟨rfl, h2, h3⟩
theorem atI {w : World} {A : Option Addr} {c : Nat} {xs : List Int} (h : IsS (Kd.int .i64) w xs A c) (k : Nat) (hk : k < xs.length) : ∃ ad, A = some ad ∧ w.cell? (ad.add k) = some (.int .i64 (xs.getD k 0)) := at1 h.2 k hk

/-! TOcc -/
structure TOcc where
  f0 : Int
  f1 : Int
  f2 : (List Int)
def zOcc : TOcc := ⟨0, 0, []⟩
def kOcc : Kd TOcc := Kd.iso (Kd.pair (Kd.int .i64) (Kd.pair (Kd.int .i64) (sliceS 3 (Kd.int .i64)))) (fun x => (x.f0, x.f1, x.f2))
theorem kOcc_open {w : World} {x : TOcc} {cs : List Value} (h : kOcc.K w x cs) : ∃ A2 c2, cs = [.int .i64 x.f0, .int .i64 x.f1, .slice A2 x.f2.length c2] ∧ IsS (Kd.int .i64) w x.f2 A2 c2 := by
  obtain ⟨_, _, rfl, g0, h⟩ := h
  obtain ⟨_, _, rfl, g1, h⟩ := h
  have g2 := h
  obtain rfl := g0
  obtain rfl := g1
  obtain ⟨A2, c2, rfl, l2, e2⟩ := g2
  exact ⟨A2, c2, rfl, ⟨l2, e2⟩⟩
theorem kOcc_openM {w : World} {base : Nat} {ok : Nat → Prop} {x : TOcc} {cs : List Value} (h : kOcc.M w base ok x cs) : ∃ v2, cs = [.int .i64 x.f0, .int .i64 x.f1, v2] ∧ Kd.S (Kd.int .i64) 3 w base ok v2 x.f2 := by
  obtain ⟨_, _, rfl, g0, h⟩ := h
  obtain ⟨_, _, rfl, g1, h⟩ := h
  have g2 := h
  obtain rfl := g0
  obtain rfl := g1
  obtain ⟨v2, rfl, e2⟩ := g2
  exact ⟨v2, rfl, e2⟩
theorem kOcc_mkM (w : World) (base : Nat) (ok : Nat → Prop) (x : TOcc) {v2 : Value} (e2 : Kd.S (Kd.int .i64) 3 w base ok v2 x.f2) : kOcc.M w base ok x [.int .i64 x.f0, .int .i64 x.f1, v2] := ⟨_, _, rfl, rfl, ⟨_, _, rfl, rfl, ⟨v2, rfl, e2⟩⟩⟩
theorem atOcc {w : World} {A : Option Addr} {c : Nat} {xs : List TOcc} (h : IsS kOcc w xs A c) (k : Nat) (hk : k < xs.length) : ∃ ad, ∃ A2 c2, A = some ad ∧ w.cell? (ad.add (k * 3)) = some (.int .i64 (xs.getD k zOcc).f0) ∧ w.cell? ⟨(ad.add (k * 3)).block, (ad.add (k * 3)).off + 1, none⟩ = some (.int .i64 (xs.getD k zOcc).f1) ∧ w.cell? ⟨(ad.add (k * 3)).block, (ad.add (k * 3)).off + 2, none⟩ = some (.slice A2 (xs.getD k zOcc).f2.length c2) ∧ IsS (Kd.int .i64) w (xs.getD k zOcc).f2 A2 c2 := by
  obtain ⟨ad, cs, e, _, hK, hc⟩ := Kd.C_get h.2 zOcc (k : Int) (by omega) (by omega)
  rw [Int.toNat_natCast] at hK hc
  have hc' : ∀ j u, cs[j]? = some u → w.cell? (ad.add (k * 3 + j)) = some u := hc
  obtain ⟨A2, c2, rfl, i2⟩ := kOcc_open hK
  exact ⟨ad, A2, c2, e, hc' 0 _ rfl, by rw [← add_field _ _ 1 (by omega)]; exact hc' 1 _ rfl, by rw [← add_field _ _ 2 (by omega)]; exact hc' 2 _ rfl, i2⟩

/-! TPair -/
structure TPair where
  f0 : (List TOcc)
  f1 : (List TOcc)
def zPair : TPair := ⟨[], []⟩
/-! TSpan -/
structure TSpan where
  f0 : (List TOcc)
  f1 : (List TOcc)
def zSpan : TSpan := ⟨[], []⟩
/-! TNode -/
structure TNode where
  f0 : Int
  f1 : Int
  f2 : Int
  f3 : (List Int)
  f4 : TPair
  f5 : TSpan
  f6 : (List TOcc)
  f7 : Int
def zNode : TNode := ⟨0, 0, 0, [], zPair, zSpan, [], 0⟩
/-! TGraph -/
structure TGraph where
  f0 : Int
  f1 : (List TNode)
  f2 : Int
  f3 : Int
  f4 : Bool
def zGraph : TGraph := ⟨0, [], 0, 0, false⟩
/-! TEv -/
structure TEv where
  f0 : Int
  f1 : Int
  f2 : Int
def zEv : TEv := ⟨0, 0, 0⟩
def kEv : Kd TEv := Kd.iso (Kd.pair (Kd.int .i64) (Kd.pair (Kd.int .i64) (Kd.int .i64))) (fun x => (x.f0, x.f1, x.f2))
theorem kEv_open {w : World} {x : TEv} {cs : List Value} (h : kEv.K w x cs) : cs = [.int .i64 x.f0, .int .i64 x.f1, .int .i64 x.f2] := by
  obtain ⟨_, _, rfl, g0, h⟩ := h
  obtain ⟨_, _, rfl, g1, h⟩ := h
  have g2 := h
  obtain rfl := g0
  obtain rfl := g1
  obtain rfl := g2
  exact rfl
theorem kEv_openM {w : World} {base : Nat} {ok : Nat → Prop} {x : TEv} {cs : List Value} (h : kEv.M w base ok x cs) : cs = [.int .i64 x.f0, .int .i64 x.f1, .int .i64 x.f2] := by
  obtain ⟨_, _, rfl, g0, h⟩ := h
  obtain ⟨_, _, rfl, g1, h⟩ := h
  have g2 := h
  obtain rfl := g0
  obtain rfl := g1
  obtain rfl := g2
  exact rfl
theorem kEv_mkM (w : World) (base : Nat) (ok : Nat → Prop) (x : TEv) : kEv.M w base ok x [.int .i64 x.f0, .int .i64 x.f1, .int .i64 x.f2] := ⟨_, _, rfl, rfl, ⟨_, _, rfl, rfl, rfl⟩⟩
theorem atEv {w : World} {A : Option Addr} {c : Nat} {xs : List TEv} (h : IsS kEv w xs A c) (k : Nat) (hk : k < xs.length) : ∃ ad, A = some ad ∧ w.cell? (ad.add (k * 3)) = some (.int .i64 (xs.getD k zEv).f0) ∧ w.cell? ⟨(ad.add (k * 3)).block, (ad.add (k * 3)).off + 1, none⟩ = some (.int .i64 (xs.getD k zEv).f1) ∧ w.cell? ⟨(ad.add (k * 3)).block, (ad.add (k * 3)).off + 2, none⟩ = some (.int .i64 (xs.getD k zEv).f2) := by
  obtain ⟨ad, cs, e, _, hK, hc⟩ := Kd.C_get h.2 zEv (k : Int) (by omega) (by omega)
  rw [Int.toNat_natCast] at hK hc
  have hc' : ∀ j u, cs[j]? = some u → w.cell? (ad.add (k * 3 + j)) = some u := hc
  obtain ⟨rfl⟩ := kEv_open hK
  exact ⟨ad, e, hc' 0 _ rfl, by rw [← add_field _ _ 1 (by omega)]; exact hc' 1 _ rfl, by rw [← add_field _ _ 2 (by omega)]; exact hc' 2 _ rfl⟩

/-! TFire -/
structure TFire where
  f0 : Int
  f1 : TOcc
def zFire : TFire := ⟨0, zOcc⟩
def kFire : Kd TFire := Kd.iso (Kd.pair (Kd.int .i64) kOcc) (fun x => (x.f0, x.f1))
theorem kFire_open {w : World} {x : TFire} {cs : List Value} (h : kFire.K w x cs) : ∃ A3 c3, cs = [.int .i64 x.f0, .int .i64 x.f1.f0, .int .i64 x.f1.f1, .slice A3 x.f1.f2.length c3] ∧ IsS (Kd.int .i64) w x.f1.f2 A3 c3 := by
  obtain ⟨_, _, rfl, g0, h⟩ := h
  have g1 := h
  obtain rfl := g0
  obtain ⟨A3, c3, rfl, i3⟩ := kOcc_open g1
  exact ⟨A3, c3, rfl, i3⟩
theorem kFire_openM {w : World} {base : Nat} {ok : Nat → Prop} {x : TFire} {cs : List Value} (h : kFire.M w base ok x cs) : ∃ v3, cs = [.int .i64 x.f0, .int .i64 x.f1.f0, .int .i64 x.f1.f1, v3] ∧ Kd.S (Kd.int .i64) 3 w base ok v3 x.f1.f2 := by
  obtain ⟨_, _, rfl, g0, h⟩ := h
  have g1 := h
  obtain rfl := g0
  obtain ⟨v3, rfl, e3⟩ := kOcc_openM g1
  exact ⟨v3, rfl, e3⟩
theorem kFire_mkM (w : World) (base : Nat) (ok : Nat → Prop) (x : TFire) {v3 : Value} (e3 : Kd.S (Kd.int .i64) 3 w base ok v3 x.f1.f2) : kFire.M w base ok x [.int .i64 x.f0, .int .i64 x.f1.f0, .int .i64 x.f1.f1, v3] := ⟨_, _, rfl, rfl, (kOcc_mkM w base ok x.f1 e3)⟩
theorem atFire {w : World} {A : Option Addr} {c : Nat} {xs : List TFire} (h : IsS kFire w xs A c) (k : Nat) (hk : k < xs.length) : ∃ ad, ∃ A3 c3, A = some ad ∧ w.cell? (ad.add (k * 4)) = some (.int .i64 (xs.getD k zFire).f0) ∧ w.cell? ⟨(ad.add (k * 4)).block, (ad.add (k * 4)).off + 1, none⟩ = some (.int .i64 (xs.getD k zFire).f1.f0) ∧ w.cell? ⟨(ad.add (k * 4)).block, (ad.add (k * 4)).off + 2, none⟩ = some (.int .i64 (xs.getD k zFire).f1.f1) ∧ w.cell? ⟨(ad.add (k * 4)).block, (ad.add (k * 4)).off + 3, none⟩ = some (.slice A3 (xs.getD k zFire).f1.f2.length c3) ∧ IsS (Kd.int .i64) w (xs.getD k zFire).f1.f2 A3 c3 := by
  obtain ⟨ad, cs, e, _, hK, hc⟩ := Kd.C_get h.2 zFire (k : Int) (by omega) (by omega)
  rw [Int.toNat_natCast] at hK hc
  have hc' : ∀ j u, cs[j]? = some u → w.cell? (ad.add (k * 4 + j)) = some u := hc
  obtain ⟨A3, c3, rfl, i3⟩ := kFire_open hK
  exact ⟨ad, A3, c3, e, hc' 0 _ rfl, by rw [← add_field _ _ 1 (by omega)]; exact hc' 1 _ rfl, by rw [← add_field _ _ 2 (by omega)]; exact hc' 2 _ rfl, by rw [← add_field _ _ 3 (by omega)]; exact hc' 3 _ rfl, i3⟩

/-! TRule -/
structure TRule where
  f0 : ByteArray
  f1 : Int
  f2 : Int
  f3 : Ex
  f4 : Int
  f5 : Int
  f6 : Int
  f7 : Int
  f8 : Int
def zRule : TRule := ⟨ByteArray.empty, 0, 0, zE, 0, 0, 0, 0, 0⟩
def kRule : Kd TRule := Kd.iso (Kd.pair Kd.string (Kd.pair (Kd.int .i64) (Kd.pair (Kd.int .i64) (Kd.pair (kE 29) (Kd.pair (Kd.int .i64) (Kd.pair (Kd.int .i64) (Kd.pair (Kd.int .i64) (Kd.pair (Kd.int .i64) (Kd.int .i64))))))))) (fun x => (x.f0, x.f1, x.f2, x.f3, x.f4, x.f5, x.f6, x.f7, x.f8))
theorem kRule_open {w : World} {x : TRule} {cs : List Value} (h : kRule.K w x cs) : ∃ A6 c6, cs = [.string x.f0, .int .i64 x.f1, .int .i64 x.f2, .int .i64 x.f3.f0, .int .i64 x.f3.f1, .int .i64 x.f3.f2, .slice A6 x.f3.f3.length c6, .int .i64 x.f4, .int .i64 x.f5, .int .i64 x.f6, .int .i64 x.f7, .int .i64 x.f8] ∧ IsS (kE 29) w x.f3.f3 A6 c6 := by
  obtain ⟨_, _, rfl, g0, h⟩ := h
  obtain ⟨_, _, rfl, g1, h⟩ := h
  obtain ⟨_, _, rfl, g2, h⟩ := h
  obtain ⟨_, _, rfl, g3, h⟩ := h
  obtain ⟨_, _, rfl, g4, h⟩ := h
  obtain ⟨_, _, rfl, g5, h⟩ := h
  obtain ⟨_, _, rfl, g6, h⟩ := h
  obtain ⟨_, _, rfl, g7, h⟩ := h
  have g8 := h
  obtain rfl := g0
  obtain rfl := g1
  obtain rfl := g2
  obtain ⟨A6, c6, rfl, l6, e6⟩ := kE_open g3
  obtain rfl := g4
  obtain rfl := g5
  obtain rfl := g6
  obtain rfl := g7
  obtain rfl := g8
  exact ⟨A6, c6, rfl, ⟨l6, e6⟩⟩
theorem kRule_openM {w : World} {base : Nat} {ok : Nat → Prop} {x : TRule} {cs : List Value} (h : kRule.M w base ok x cs) : ∃ v6, cs = [.string x.f0, .int .i64 x.f1, .int .i64 x.f2, .int .i64 x.f3.f0, .int .i64 x.f3.f1, .int .i64 x.f3.f2, v6, .int .i64 x.f4, .int .i64 x.f5, .int .i64 x.f6, .int .i64 x.f7, .int .i64 x.f8] ∧ Kd.S (kE 29) 29 w base ok v6 x.f3.f3 := by
  obtain ⟨_, _, rfl, g0, h⟩ := h
  obtain ⟨_, _, rfl, g1, h⟩ := h
  obtain ⟨_, _, rfl, g2, h⟩ := h
  obtain ⟨_, _, rfl, g3, h⟩ := h
  obtain ⟨_, _, rfl, g4, h⟩ := h
  obtain ⟨_, _, rfl, g5, h⟩ := h
  obtain ⟨_, _, rfl, g6, h⟩ := h
  obtain ⟨_, _, rfl, g7, h⟩ := h
  have g8 := h
  obtain rfl := g0
  obtain rfl := g1
  obtain rfl := g2
  obtain ⟨v6, rfl, e6⟩ := kE_openM g3
  obtain rfl := g4
  obtain rfl := g5
  obtain rfl := g6
  obtain rfl := g7
  obtain rfl := g8
  exact ⟨v6, rfl, e6⟩
theorem kRule_mkM (w : World) (base : Nat) (ok : Nat → Prop) (x : TRule) {v6 : Value} (e6 : Kd.S (kE 29) 29 w base ok v6 x.f3.f3) : kRule.M w base ok x [.string x.f0, .int .i64 x.f1, .int .i64 x.f2, .int .i64 x.f3.f0, .int .i64 x.f3.f1, .int .i64 x.f3.f2, v6, .int .i64 x.f4, .int .i64 x.f5, .int .i64 x.f6, .int .i64 x.f7, .int .i64 x.f8] := ⟨_, _, rfl, rfl, ⟨_, _, rfl, rfl, ⟨_, _, rfl, rfl, ⟨_, _, rfl, (kE_mkM x.f3 e6), ⟨_, _, rfl, rfl, ⟨_, _, rfl, rfl, ⟨_, _, rfl, rfl, ⟨_, _, rfl, rfl, rfl⟩⟩⟩⟩⟩⟩⟩⟩
theorem atRule {w : World} {A : Option Addr} {c : Nat} {xs : List TRule} (h : IsS kRule w xs A c) (k : Nat) (hk : k < xs.length) : ∃ ad, ∃ A6 c6, A = some ad ∧ w.cell? (ad.add (k * 12)) = some (.string (xs.getD k zRule).f0) ∧ w.cell? ⟨(ad.add (k * 12)).block, (ad.add (k * 12)).off + 1, none⟩ = some (.int .i64 (xs.getD k zRule).f1) ∧ w.cell? ⟨(ad.add (k * 12)).block, (ad.add (k * 12)).off + 2, none⟩ = some (.int .i64 (xs.getD k zRule).f2) ∧ w.cell? ⟨(ad.add (k * 12)).block, (ad.add (k * 12)).off + 3, none⟩ = some (.int .i64 (xs.getD k zRule).f3.f0) ∧ w.cell? ⟨(ad.add (k * 12)).block, (ad.add (k * 12)).off + 4, none⟩ = some (.int .i64 (xs.getD k zRule).f3.f1) ∧ w.cell? ⟨(ad.add (k * 12)).block, (ad.add (k * 12)).off + 5, none⟩ = some (.int .i64 (xs.getD k zRule).f3.f2) ∧ w.cell? ⟨(ad.add (k * 12)).block, (ad.add (k * 12)).off + 6, none⟩ = some (.slice A6 (xs.getD k zRule).f3.f3.length c6) ∧ w.cell? ⟨(ad.add (k * 12)).block, (ad.add (k * 12)).off + 7, none⟩ = some (.int .i64 (xs.getD k zRule).f4) ∧ w.cell? ⟨(ad.add (k * 12)).block, (ad.add (k * 12)).off + 8, none⟩ = some (.int .i64 (xs.getD k zRule).f5) ∧ w.cell? ⟨(ad.add (k * 12)).block, (ad.add (k * 12)).off + 9, none⟩ = some (.int .i64 (xs.getD k zRule).f6) ∧ w.cell? ⟨(ad.add (k * 12)).block, (ad.add (k * 12)).off + 10, none⟩ = some (.int .i64 (xs.getD k zRule).f7) ∧ w.cell? ⟨(ad.add (k * 12)).block, (ad.add (k * 12)).off + 11, none⟩ = some (.int .i64 (xs.getD k zRule).f8) ∧ IsS (kE 29) w (xs.getD k zRule).f3.f3 A6 c6 := by
  obtain ⟨ad, cs, e, _, hK, hc⟩ := Kd.C_get h.2 zRule (k : Int) (by omega) (by omega)
  rw [Int.toNat_natCast] at hK hc
  have hc' : ∀ j u, cs[j]? = some u → w.cell? (ad.add (k * 12 + j)) = some u := hc
  obtain ⟨A6, c6, rfl, i6⟩ := kRule_open hK
  exact ⟨ad, A6, c6, e, hc' 0 _ rfl, by rw [← add_field _ _ 1 (by omega)]; exact hc' 1 _ rfl, by rw [← add_field _ _ 2 (by omega)]; exact hc' 2 _ rfl, by rw [← add_field _ _ 3 (by omega)]; exact hc' 3 _ rfl, by rw [← add_field _ _ 4 (by omega)]; exact hc' 4 _ rfl, by rw [← add_field _ _ 5 (by omega)]; exact hc' 5 _ rfl, by rw [← add_field _ _ 6 (by omega)]; exact hc' 6 _ rfl, by rw [← add_field _ _ 7 (by omega)]; exact hc' 7 _ rfl, by rw [← add_field _ _ 8 (by omega)]; exact hc' 8 _ rfl, by rw [← add_field _ _ 9 (by omega)]; exact hc' 9 _ rfl, by rw [← add_field _ _ 10 (by omega)]; exact hc' 10 _ rfl, by rw [← add_field _ _ 11 (by omega)]; exact hc' 11 _ rfl, i6⟩

/-! TEng -/
structure TEng where
  f0 : (List TRule)
  f1 : (List TGraph)
  f2 : (List TEv)
  f3 : (List Int)
  f4 : (List TFire)
def zEng : TEng := ⟨[], [], [], [], []⟩
end Go.Proofs.YtbbdkhffacoglaaDoor.Ka


import Derived.Test.YtccenpmaooailaaGreatKB5
/- A sequence over all points in time, as one walk over the second list. No program. -/
set_option linter.unusedVariables false
set_option linter.unusedSimpArgs false
namespace Go.Proofs.YtccenpmaooailaaGreat.Pw
open Go.Proofs.YtccenpmaooailaaGreat.Pu Go.Proofs.YtccenpmaooailaaGreat.Pv Go.Proofs.YtccenpmaooailaaGreat.Ig Go.Proofs.YtccenpmaooailaaGreat.Ih Go.Proofs.YtccenpmaooailaaGreat.Ik Go.Proofs.YtccenpmaooailaaGreat.Il

end Go.Proofs.YtccenpmaooailaaGreat.Pw

/- What a sequence finds in each mode: plain laws. No program. -/
set_option linter.unusedVariables false
set_option linter.unusedSimpArgs false
namespace Go.Proofs.YtccenpmaooailaaGreat.Px
open Go.Proofs.YtccenpmaooailaaGreat.Pu Go.Proofs.YtccenpmaooailaaGreat.Pv Go.Proofs.YtccenpmaooailaaGreat.Ig Go.Proofs.YtccenpmaooailaaGreat.Ih Go.Proofs.YtccenpmaooailaaGreat.Ik Go.Proofs.YtccenpmaooailaaGreat.Il Go.Proofs.YtccenpmaooailaaGreat.Pw

theorem len_put (l : List Occ) (o : Occ) : l.length ≤ (put l o).length := by
  induction l with
  | nil => simp [put]
  | cons y ys ih =>
    simp only [put]
    split
    · simp; omega
    · split <;> simp
theorem len_putAll (l : List Occ) : ∀ os : List Occ, l.length ≤ (putAll l os).length := by
  intro os
  induction os generalizing l with
  | nil => exact Nat.le_refl _
  | cons o os ih => exact Nat.le_trans (len_put l o) (ih _)
/-! lengths -/
/-! what is found -/
end Go.Proofs.YtccenpmaooailaaGreat.Px

/- Contracts in the form that the laws' walks take. -/
set_option linter.unusedVariables false
set_option linter.unusedSimpArgs false
namespace Go.Proofs.YtccenpmaooailaaGreat.La
open Go.RowKit Go.Proofs.YtccenpmaooailaaGreatW.PrintWords Go.Proofs.YtccenpmaooailaaGreat.Wd Go.Proofs.YtccenpmaooailaaGreat.Pu Go.Proofs.YtccenpmaooailaaGreat.Pv Go.Proofs.YtccenpmaooailaaGreat.Ca Go.Proofs.YtccenpmaooailaaGreat.Cb Go.Proofs.YtccenpmaooailaaGreat.Cc Go.Proofs.YtccenpmaooailaaGreat.Cp Go.Proofs.YtccenpmaooailaaGreat.Cd Go.Proofs.YtccenpmaooailaaGreat.Ci Go.Proofs.YtccenpmaooailaaGreat.Ce Go.Proofs.YtccenpmaooailaaGreat.Cf Go.Proofs.YtccenpmaooailaaGreat.Cg Go.Proofs.YtccenpmaooailaaGreat.Sc Go.Proofs.YtccenpmaooailaaGreat.Se Go.Proofs.YtccenpmaooailaaGreat.Sh Go.Proofs.YtccenpmaooailaaGreat.Si Go.Proofs.YtccenpmaooailaaGreat.Sp Go.Proofs.YtccenpmaooailaaGreat.Ia Go.Proofs.YtccenpmaooailaaGreat.Ib Go.Proofs.YtccenpmaooailaaGreat.Ic Go.Proofs.YtccenpmaooailaaGreat.Id Go.Proofs.YtccenpmaooailaaGreat.Ie Go.Proofs.YtccenpmaooailaaGreat.If Go.Proofs.YtccenpmaooailaaGreat.Ig Go.Proofs.YtccenpmaooailaaGreat.Ih Go.Proofs.YtccenpmaooailaaGreat.Ij Go.Proofs.YtccenpmaooailaaGreat.Ik Go.Proofs.YtccenpmaooailaaGreat.Ra Go.Proofs.YtccenpmaooailaaGreat.Rb Go.Proofs.YtccenpmaooailaaGreat.Rc Go.Proofs.YtccenpmaooailaaGreat.Rd Go.Proofs.YtccenpmaooailaaGreat.Re Go.Proofs.YtccenpmaooailaaGreat.Sj Go.Proofs.YtccenpmaooailaaGreat.Ya Go.Proofs.YtccenpmaooailaaGreat.Yd Go.Proofs.YtccenpmaooailaaGreat.Yf Go.Proofs.YtccenpmaooailaaGreat.Yg Go.Proofs.YtccenpmaooailaaGreat.Ih Go.Proofs.YtccenpmaooailaaGreat.Yh Go.Proofs.YtccenpmaooailaaGreat.Yi Go.Proofs.YtccenpmaooailaaGreat.Sg Go.Proofs.YtccenpmaooailaaGreat.Sf Go.Proofs.YtccenpmaooailaaGreat.Yj Go.Proofs.YtccenpmaooailaaGreat.Ig Go.Proofs.YtccenpmaooailaaGreat.Yk Go.Proofs.YtccenpmaooailaaGreat.Ik Go.Proofs.YtccenpmaooailaaGreat.Yl Go.Proofs.YtccenpmaooailaaGreat.Ij Go.Proofs.YtccenpmaooailaaGreat.Ym Go.Proofs.YtccenpmaooailaaGreat.Il Go.Proofs.YtccenpmaooailaaGreat.Yn Go.Proofs.YtccenpmaooailaaGreat.Yo Go.Proofs.YtccenpmaooailaaGreat.In Go.Proofs.YtccenpmaooailaaGreat.Yq Go.Proofs.YtccenpmaooailaaGreat.Pw Go.Proofs.YtccenpmaooailaaGreat.Px


theorem ToldOut.l {w w' : World} {p : List Occ × Bool} {e : Ending} (h : ToldOut w w' p e) : ToldL w w' p e := by
  obtain ⟨v, rfl, hs, hb⟩ := h
  obtain ⟨A, c, rfl⟩ := Kd.S_slice hs
  have h2 := Kd.S_reads' hs
  exact ⟨A, c, rfl, ⟨h2.2.1, h2.2.2⟩, hb⟩
theorem SToldOut.l {w w' : World} {p : List Occ × Bool} {e : Ending} (h : SToldOut w w' p e) : ToldL w w' p e := by
  obtain ⟨v, rfl, hs, hb⟩ := h
  obtain ⟨A, c, rfl⟩ := Kd.R_slice hs
  have h2 := Kd.R_reads' hs
  exact ⟨A, c, rfl, ⟨h2.2.1, h2.2.2⟩, hb⟩
structure ElemAt (w : World) (ad : Addr) (i : Nat) (o : Occ) (A2 : Option Addr) (c2 : Nat) : Prop where
  a : w.cell? (ad.add (i * 3)) = some (.int .i64 o.f0)
  b : w.cell? ⟨(ad.add (i * 3)).block, (ad.add (i * 3)).off + 1, none⟩ = some (.int .i64 o.f1)
  c : w.cell? ⟨(ad.add (i * 3)).block, (ad.add (i * 3)).off + 2, none⟩ = some (.slice A2 o.f2.length c2)
theorem ElemAt.below {w w' : World} {ad : Addr} {i : Nat} {o : Occ} {A2 : Option Addr} {c2 : Nat} (h : ElemAt w ad i o A2 c2) (hb : Below w.heap.size w w') : ElemAt w' ad i o A2 c2 :=
  ⟨pw_cell_below hb h.a, pw_cell_below hb h.b, pw_cell_below hb h.c⟩
theorem elem {w : World} {l : List Occ} {A : Option Addr} {c : Nat} (h : IsL w l A c) {i : Nat} (hi : i < l.length) : ∃ ad A2 c2, A = some ad ∧ IsO w (l.getD i zO) A2 c2 ∧ ElemAt w ad i (l.getD i zO) A2 c2 := by
  obtain ⟨ad, A2, c2, e, h0, h1, h2, hl, hC⟩ := atO h.rd i hi
  exact ⟨ad, A2, c2, e, ⟨hl, hC⟩, ⟨h0, h1, h2⟩⟩
/-! the pairs of two lists of which something holds, put together row by row -/
structure Got (can : Occ → Occ → Bool) (a b : List Occ) (i k : Nat) (L : List Occ) : Prop where
  ok : AreOk L
  le : L.length ≤ 40
  mem : ∀ z, z ∈ L ↔ ∃ x y, ((x ∈ a.take i ∧ y ∈ b) ∨ (x ∈ (a.drop i).take 1 ∧ y ∈ b.take k)) ∧ can x y = true ∧ z = join x y
theorem Got.row {can : Occ → Occ → Bool} {a b : List Occ} {i : Nat} {L : List Occ} (hi : i < a.length) (h : Got can a b i b.length L) : Got can a b (i + 1) 0 L := ⟨h.ok, h.le, fun z => by
  rw [h.mem, List.take_length]
  have e : a.take (i + 1) = a.take i ++ (a.drop i).take 1 := by rw [← List.take_add]
  rw [e]
  constructor
  · rintro ⟨x, y, hp, h1, h2⟩
    refine ⟨x, y, .inl ?_, h1, h2⟩
    rcases hp with ⟨p, q⟩ | ⟨p, q⟩
    · exact ⟨List.mem_append.2 (.inl p), q⟩
    · exact ⟨List.mem_append.2 (.inr p), q⟩
  · rintro ⟨x, y, hp, h1, h2⟩
    rcases hp with ⟨p, q⟩ | ⟨p, q⟩
    · rcases List.mem_append.1 p with p | p
      · exact ⟨x, y, .inl ⟨p, q⟩, h1, h2⟩
      · exact ⟨x, y, .inr ⟨p, q⟩, h1, h2⟩
    · simp at q⟩
theorem drop_one {a : List Occ} {i : Nat} (hi : i < a.length) : (a.drop i).take 1 = [a.getD i zO] := by
  rw [drop_at a zO i hi]
  rfl
theorem mem_take_succ {b : List Occ} {k : Nat} (hk : k < b.length) (y : Occ) : y ∈ b.take (k + 1) ↔ y ∈ b.take k ∨ y = b.getD k zO := by
  rw [take_succ_getD b k zO hk, List.mem_append, List.mem_singleton]
theorem Got.no {can : Occ → Occ → Bool} {a b : List Occ} {i k : Nat} {L : List Occ} (hi : i < a.length) (hk : k < b.length) (h : Got can a b i k L) (hc : can (a.getD i zO) (b.getD k zO) = false) : Got can a b i (k + 1) L := ⟨h.ok, h.le, fun z => by
  rw [h.mem, drop_one hi]
  constructor
  · rintro ⟨x, y, hp, h1, h2⟩
    refine ⟨x, y, ?_, h1, h2⟩
    rcases hp with hp | ⟨p, q⟩
    · exact .inl hp
    · exact .inr ⟨p, (mem_take_succ hk y).2 (.inl q)⟩
  · rintro ⟨x, y, hp, h1, h2⟩
    refine ⟨x, y, ?_, h1, h2⟩
    rcases hp with hp | ⟨p, q⟩
    · exact .inl hp
    · rcases (mem_take_succ hk y).1 q with q | q
      · exact .inr ⟨p, q⟩
      · rw [List.mem_singleton] at p
        rw [p, q, hc] at h1
        cases h1⟩
theorem Got.all {can : Occ → Occ → Bool} {a b : List Occ} {L : List Occ} (h : Got can a b a.length 0 L) (z : Occ) : z ∈ L ↔ ∃ x ∈ a, ∃ y ∈ b, can x y = true ∧ z = join x y := by
  rw [h.mem, List.take_length]
  simp
  constructor
  · rintro ⟨x, y, ⟨p, q⟩, h1, h2⟩
    exact ⟨x, p, y, q, h1, h2⟩
  · rintro ⟨x, p, y, q, h1, h2⟩
    exact ⟨x, y, ⟨p, q⟩, h1, h2⟩
end Go.Proofs.YtccenpmaooailaaGreat.La

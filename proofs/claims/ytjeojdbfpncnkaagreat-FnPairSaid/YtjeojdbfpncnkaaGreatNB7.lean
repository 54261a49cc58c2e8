
import Derived.Test.YtjeojdbfpncnkaaGreatNB5
/- A sequence over all points in time, as one walk over the second list. No program. -/
set_option linter.unusedVariables false
set_option linter.unusedSimpArgs false
namespace Go.Proofs.YtjeojdbfpncnkaaGreat.Pw
open Go.Proofs.YtjeojdbfpncnkaaGreat.Pu Go.Proofs.YtjeojdbfpncnkaaGreat.Pv Go.Proofs.YtjeojdbfpncnkaaGreat.Ig Go.Proofs.YtjeojdbfpncnkaaGreat.Ih Go.Proofs.YtjeojdbfpncnkaaGreat.Ik Go.Proofs.YtjeojdbfpncnkaaGreat.Il

theorem mem_gone {mode : Int} {o : Occ} {s : List Occ} {z : Occ} (h : z ∈ (combine mode o s).2) : z ∈ s := by
  unfold combine at h
  split at h
  · simp at h
  · split at h
    · simp at h
    · split at h
      · exact List.mem_of_mem_take h
      · split at h
        · exact h
        · simp only at h
          split at h
          · exact h
          · simp at h
theorem mem_without {l g : List Occ} {z : Occ} : z ∈ without l g ↔ z ∈ l ∧ z ∉ g := by
  unfold without
  rw [List.mem_filter]
  simp
theorem fold_keep {mode : Int} : ∀ (os F out : List Occ) (x : Occ), (∀ o ∈ os, o.f0 ≤ x.f1) → x ∈ F → x ∈ (os.foldl (seqStep mode) (F, out)).1
  | [], _, _, _, _, h => h
  | o :: os, F, out, x, ho, h => by
    refine fold_keep os _ _ x (fun y hy => ho y (List.mem_cons_of_mem _ hy)) (mem_without.2 ⟨h, fun hg => ?_⟩)
    have h1 := (List.mem_filter.1 (mem_gone hg)).2
    have h2 := ho o (by simp)
    unfold before at h1
    have : x.f1 < o.f0 := by simpa using h1
    omega
end Go.Proofs.YtjeojdbfpncnkaaGreat.Pw

/- What a sequence finds in each mode: plain laws. No program. -/
set_option linter.unusedVariables false
set_option linter.unusedSimpArgs false
namespace Go.Proofs.YtjeojdbfpncnkaaGreat.Px
open Go.Proofs.YtjeojdbfpncnkaaGreat.Pu Go.Proofs.YtjeojdbfpncnkaaGreat.Pv Go.Proofs.YtjeojdbfpncnkaaGreat.Ig Go.Proofs.YtjeojdbfpncnkaaGreat.Ih Go.Proofs.YtjeojdbfpncnkaaGreat.Ik Go.Proofs.YtjeojdbfpncnkaaGreat.Il Go.Proofs.YtjeojdbfpncnkaaGreat.Pw

theorem len_put (l : List Occ) (o : Occ) : l.length ≤ (put l o).length := by
  induction l with
  | nil => simp [put]
  | cons y ys ih =>
    simp only [put]
    split
    · simp; omega
    · split <;> simp
/-! lengths -/
/-! what is found -/
end Go.Proofs.YtjeojdbfpncnkaaGreat.Px

/- Contracts in the form that the laws' walks take. -/
set_option linter.unusedVariables false
set_option linter.unusedSimpArgs false
namespace Go.Proofs.YtjeojdbfpncnkaaGreat.La
open Go.RowKit Go.Proofs.YtjeojdbfpncnkaaGreatW.PrintWords Go.Proofs.YtjeojdbfpncnkaaGreat.Wd Go.Proofs.YtjeojdbfpncnkaaGreat.Pu Go.Proofs.YtjeojdbfpncnkaaGreat.Pv Go.Proofs.YtjeojdbfpncnkaaGreat.Ca Go.Proofs.YtjeojdbfpncnkaaGreat.Cb Go.Proofs.YtjeojdbfpncnkaaGreat.Cc Go.Proofs.YtjeojdbfpncnkaaGreat.Cp Go.Proofs.YtjeojdbfpncnkaaGreat.Cd Go.Proofs.YtjeojdbfpncnkaaGreat.Ci Go.Proofs.YtjeojdbfpncnkaaGreat.Ce Go.Proofs.YtjeojdbfpncnkaaGreat.Cf Go.Proofs.YtjeojdbfpncnkaaGreat.Cg Go.Proofs.YtjeojdbfpncnkaaGreat.Sc Go.Proofs.YtjeojdbfpncnkaaGreat.Se Go.Proofs.YtjeojdbfpncnkaaGreat.Sh Go.Proofs.YtjeojdbfpncnkaaGreat.Si Go.Proofs.YtjeojdbfpncnkaaGreat.Sp Go.Proofs.YtjeojdbfpncnkaaGreat.Ia Go.Proofs.YtjeojdbfpncnkaaGreat.Ib Go.Proofs.YtjeojdbfpncnkaaGreat.Ic Go.Proofs.YtjeojdbfpncnkaaGreat.Id Go.Proofs.YtjeojdbfpncnkaaGreat.Ie Go.Proofs.YtjeojdbfpncnkaaGreat.If Go.Proofs.YtjeojdbfpncnkaaGreat.Ig Go.Proofs.YtjeojdbfpncnkaaGreat.Ih Go.Proofs.YtjeojdbfpncnkaaGreat.Ij Go.Proofs.YtjeojdbfpncnkaaGreat.Ik Go.Proofs.YtjeojdbfpncnkaaGreat.Ra Go.Proofs.YtjeojdbfpncnkaaGreat.Rb Go.Proofs.YtjeojdbfpncnkaaGreat.Rc Go.Proofs.YtjeojdbfpncnkaaGreat.Rd Go.Proofs.YtjeojdbfpncnkaaGreat.Re Go.Proofs.YtjeojdbfpncnkaaGreat.Sj Go.Proofs.YtjeojdbfpncnkaaGreat.Ya Go.Proofs.YtjeojdbfpncnkaaGreat.Yd Go.Proofs.YtjeojdbfpncnkaaGreat.Yf Go.Proofs.YtjeojdbfpncnkaaGreat.Yg Go.Proofs.YtjeojdbfpncnkaaGreat.Ih Go.Proofs.YtjeojdbfpncnkaaGreat.Yh Go.Proofs.YtjeojdbfpncnkaaGreat.Yi Go.Proofs.YtjeojdbfpncnkaaGreat.Sg Go.Proofs.YtjeojdbfpncnkaaGreat.Sf Go.Proofs.YtjeojdbfpncnkaaGreat.Yj Go.Proofs.YtjeojdbfpncnkaaGreat.Ig Go.Proofs.YtjeojdbfpncnkaaGreat.Yk Go.Proofs.YtjeojdbfpncnkaaGreat.Ik Go.Proofs.YtjeojdbfpncnkaaGreat.Yl Go.Proofs.YtjeojdbfpncnkaaGreat.Ij Go.Proofs.YtjeojdbfpncnkaaGreat.Ym Go.Proofs.YtjeojdbfpncnkaaGreat.Il Go.Proofs.YtjeojdbfpncnkaaGreat.Yn Go.Proofs.YtjeojdbfpncnkaaGreat.Yo Go.Proofs.YtjeojdbfpncnkaaGreat.In Go.Proofs.YtjeojdbfpncnkaaGreat.Yq Go.Proofs.YtjeojdbfpncnkaaGreat.Pw Go.Proofs.YtjeojdbfpncnkaaGreat.Px


theorem ToldOut.l {w w' : World} {p : List Occ × Bool} {e : Ending} (h : ToldOut w w' p e) : ToldL w w' p e := by
  obtain ⟨v, rfl, hs, hb⟩ := h
  obtain ⟨A, c, rfl⟩ := Kd.S_slice hs
  have h2 := Kd.S_reads' hs
  exact ⟨A, c, rfl, ⟨h2.2.1, h2.2.2⟩, hb⟩
theorem SToldOut.l {w w' : World} {p : List Occ × Bool} {e : Ending} (h : SToldOut w w' p e) : ToldL w w' p e := by
  obtain ⟨v, rfl, hs, hb⟩ := h
  obtain ⟨A, c, rfl⟩ := Kd.R_slice hs
  have h2 := Kd.R_reads' hs
  exact ⟨A, c, rfl, ⟨h2.2.1, h2.2.2⟩, hb⟩
structure ElemAt (w : World) (ad : Addr) (i : Nat) (o : Occ) (A2 : Option Addr) (c2 : Nat) : Prop where
  a : w.cell? (ad.add (i * 3)) = some (.int .i64 o.f0)
  b : w.cell? ⟨(ad.add (i * 3)).block, (ad.add (i * 3)).off + 1, none⟩ = some (.int .i64 o.f1)
  c : w.cell? ⟨(ad.add (i * 3)).block, (ad.add (i * 3)).off + 2, none⟩ = some (.slice A2 o.f2.length c2)
theorem ElemAt.below {w w' : World} {ad : Addr} {i : Nat} {o : Occ} {A2 : Option Addr} {c2 : Nat} (h : ElemAt w ad i o A2 c2) (hb : Below w.heap.size w w') : ElemAt w' ad i o A2 c2 :=
  ⟨pw_cell_below hb h.a, pw_cell_below hb h.b, pw_cell_below hb h.c⟩
theorem elem {w : World} {l : List Occ} {A : Option Addr} {c : Nat} (h : IsL w l A c) {i : Nat} (hi : i < l.length) : ∃ ad A2 c2, A = some ad ∧ IsO w (l.getD i zO) A2 c2 ∧ ElemAt w ad i (l.getD i zO) A2 c2 := by
  obtain ⟨ad, A2, c2, e, h0, h1, h2, hl, hC⟩ := atO h.rd i hi
  exact ⟨ad, A2, c2, e, ⟨hl, hC⟩, ⟨h0, h1, h2⟩⟩
/-! the pairs of two lists of which something holds, put together row by row -/
structure Got (can : Occ → Occ → Bool) (a b : List Occ) (i k : Nat) (L : List Occ) : Prop where
  ok : AreOk L
  le : L.length ≤ 40
  mem : ∀ z, z ∈ L ↔ ∃ x y, ((x ∈ a.take i ∧ y ∈ b) ∨ (x ∈ (a.drop i).take 1 ∧ y ∈ b.take k)) ∧ can x y = true ∧ z = join x y
theorem Got.row {can : Occ → Occ → Bool} {a b : List Occ} {i : Nat} {L : List Occ} (hi : i < a.length) (h : Got can a b i b.length L) : Got can a b (i + 1) 0 L := ⟨h.ok, h.le, fun z => by
  rw [h.mem, List.take_length]
  have e : a.take (i + 1) = a.take i ++ (a.drop i).take 1 := by rw [← List.take_add]
  rw [e]
  constructor
  · rintro ⟨x, y, hp, h1, h2⟩
    refine ⟨x, y, .inl ?_, h1, h2⟩
    rcases hp with ⟨p, q⟩ | ⟨p, q⟩
    · exact ⟨List.mem_append.2 (.inl p), q⟩
    · exact ⟨List.mem_append.2 (.inr p), q⟩
  · rintro ⟨x, y, hp, h1, h2⟩
    rcases hp with ⟨p, q⟩ | ⟨p, q⟩
    · rcases List.mem_append.1 p with p | p
      · exact ⟨x, y, .inl ⟨p, q⟩, h1, h2⟩
      · exact ⟨x, y, .inr ⟨p, q⟩, h1, h2⟩
    · simp at q⟩
theorem drop_one {a : List Occ} {i : Nat} (hi : i < a.length) : (a.drop i).take 1 = [a.getD i zO] := by
  rw [drop_at a zO i hi]
  rfl
theorem Got.all {can : Occ → Occ → Bool} {a b : List Occ} {L : List Occ} (h : Got can a b a.length 0 L) (z : Occ) : z ∈ L ↔ ∃ x ∈ a, ∃ y ∈ b, can x y = true ∧ z = join x y := by
  rw [h.mem, List.take_length]
  simp
  constructor
  · rintro ⟨x, y, ⟨p, q⟩, h1, h2⟩
    exact ⟨x, p, y, q, h1, h2⟩
  · rintro ⟨x, p, y, q, h1, h2⟩
    exact ⟨x, y, ⟨p, q⟩, h1, h2⟩
end Go.Proofs.YtjeojdbfpncnkaaGreat.La

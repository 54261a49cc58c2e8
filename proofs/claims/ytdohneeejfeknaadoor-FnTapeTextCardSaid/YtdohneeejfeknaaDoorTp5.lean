
/- TapeRead's plain law, last part: a whole text. -/
import Derived.Test.YtdohneeejfeknaaDoorTp1
import Derived.Test.YtdohneeejfeknaaDoorTp4
set_option linter.unusedVariables false
set_option linter.unusedSimpArgs false
namespace Go.Proofs.YtdohneeejfeknaaDoor.Tp5
open Go.Lib Go.Proofs.YtdohneeejfeknaaDoor.Tp1 Go.Proofs.YtdohneeejfeknaaDoor.Tp2 Go.Proofs.YtdohneeejfeknaaDoor.Tp3 Go.Proofs.YtdohneeejfeknaaDoor.Tp4

/-- what the reference reads of a word, the type as a number -/
def oneI (w : List UInt8) : Option (Int × Int × Int) := (oneS w).map fun x => ((x.1 : Int), x.2.1, x.2.2)
/-- what the program writes of a call whose type is from 0 to 4 -/
def tellI (c : Int × Int × Int) : List UInt8 := tellB c.1.toNat c.2.1 c.2.2
def Fine (c : Int × Int × Int) : Prop := 0 ≤ c.1 ∧ c.1 ≤ 4 ∧ Small c.2.1 ∧ Small c.2.2
theorem oneI_iff (w : List UInt8) (c : Int × Int × Int) : oneI w = some c ↔ Fine c ∧ untellB w = c ∧ tellI c = w := by
  obtain ⟨s, n, v⟩ := c
  constructor
  · intro h
    rw [oneI] at h
    cases hx : oneS w with
    | none => rw [hx] at h; cases h
    | some x =>
      obtain ⟨a, b, d⟩ := x
      rw [hx] at h
      simp only [Option.map_some, Option.some.injEq, Prod.mk.injEq] at h
      obtain ⟨rfl, rfl, rfl⟩ := h
      obtain ⟨h1, h2, h3, h4, h5⟩ := (word_iff w a b d).1 hx
      exact ⟨⟨by show (0 : Int) ≤ (a : Int); omega, by show (a : Int) ≤ 4; omega, h2, h3⟩, h4, by rw [tellI]; simpa using h5⟩
  · rintro ⟨⟨h1, h2, h3, h4⟩, h5, h6⟩
    obtain ⟨a, rfl⟩ : ∃ a : Nat, s = a := ⟨s.toNat, by have : 0 ≤ s := h1; omega⟩
    have h2' : (a : Int) ≤ 4 := h2
    have h6' : tellB a n v = w := by rw [tellI] at h6; simpa using h6
    rw [oneI, (word_iff w a n v).2 ⟨by omega, h3, h4, h5, h6'⟩]; rfl
theorem tellI_no (c : Int × Int × Int) (h : Fine c) : (32 : UInt8) ∉ tellI c := by
  obtain ⟨h1, h2, _, _⟩ := h
  have e2 : (UInt8.ofNat (97 + c.1.toNat)).toNat = 97 + c.1.toNat := UInt8.toNat_ofNat_of_lt' (by show _ < 256; omega)
  rw [tellI, tellB]
  intro e
  rcases List.mem_cons.1 e with e | e
  · have := congrArg UInt8.toNat e
    rw [e2] at this
    have h32 : (32 : UInt8).toNat = 32 := rfl
    omega
  · rcases List.mem_append.1 e with e | e
    · exact itoa_no _ 32 (by decide) e
    · split at e
      · cases e
      · rcases List.mem_cons.1 e with e | e
        · revert e; decide
        · exact itoa_no _ 32 (by decide) e
theorem map_self {α : Type} (f : α → α) : ∀ l : List α, l = l.map f → ∀ x, x ∈ l → f x = x
  | [], _, x, h => by cases h
  | a :: l, e, x, h => by
    rw [List.map_cons] at e
    injection e with e1 e2
    rcases List.mem_cons.1 h with rfl | h
    · exact e1.symm
    · exact map_self f l e2 x h
/-- the text law: the reference reads each word of a text to a call that may be, exactly if the program's calls may be and are written as the text -/
theorem read_iff (okc : Int × Int × Int → Prop) (hok : ∀ c, okc c → Fine c) (t : List UInt8) :
    (∀ w, w ∈ cutC 32 t → ∃ c, oneI w = some c ∧ okc c) ↔ (∀ c, c ∈ (cutC 32 t).map untellB → okc c) ∧ join (((cutC 32 t).map untellB).map tellI) [32] = t := by
  rw [List.map_map]
  constructor
  · intro h
    have hs : ∀ w, w ∈ cutC 32 t → okc (untellB w) ∧ tellI (untellB w) = w := fun w hw => by
      obtain ⟨c, h1, h2⟩ := h w hw
      obtain ⟨_, h4, h5⟩ := (oneI_iff w c).1 h1
      rw [h4]; exact ⟨h2, h5⟩
    refine ⟨fun c hc => ?_, ?_⟩
    · obtain ⟨w, hw, rfl⟩ := List.mem_map.1 hc
      exact (hs w hw).1
    · have e : (cutC 32 t).map (tellI ∘ untellB) = cutC 32 t := (List.map_congr_left (fun w hw => (hs w hw).2)).trans (List.map_id _)
      rw [e, join_cutC]
  · rintro ⟨h1, h2⟩ w hw
    have hf : ∀ w, w ∈ cutC 32 t → okc (untellB w) := fun w hw => h1 _ (List.mem_map.2 ⟨w, hw, rfl⟩)
    have hne : (cutC 32 t).map (tellI ∘ untellB) ≠ [] := fun e => cutC_ne 32 t (List.map_eq_nil_iff.1 e)
    have e := (join_iff 32 _ hne (fun y hy => by
      obtain ⟨w, hw, rfl⟩ := List.mem_map.1 hy
      exact tellI_no _ (hok _ (hf w hw))) t).1 h2
    have hw2 := map_self _ _ e w hw
    exact ⟨untellB w, (oneI_iff w _).2 ⟨hok _ (hf w hw), rfl, hw2⟩, hf w hw⟩
end Go.Proofs.YtdohneeejfeknaaDoor.Tp5

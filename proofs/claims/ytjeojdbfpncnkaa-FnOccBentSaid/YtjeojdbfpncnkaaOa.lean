/- FnOccBent: the plain law. -/
import Derived.Test.YtjeojdbfpncnkaaPu
namespace Go.Proofs.Ytjeojdbfpncnkaa.Oa
open Go.Proofs.Ytjeojdbfpncnkaa.Pu

theorem bad_from {o : Occ} : okO ⟨o.f1 + 1, o.f1, o.f2⟩ = false := by
  cases h : okO ⟨o.f1 + 1, o.f1, o.f2⟩ with
  | false => rfl
  | true => have := (okO_iff.1 h).ft; simp only [] at this; omega
theorem bad_none {o : Occ} : okO ⟨o.f0, o.f1, []⟩ = false := by
  cases h : okO ⟨o.f0, o.f1, []⟩ with
  | false => rfl
  | true => have := (okO_iff.1 h).ne; simp at this
theorem bad_twice {o : Occ} {z : Int} (hz : z ∈ o.f2) : okO ⟨o.f0, o.f1, o.f2 ++ [z]⟩ = false := by
  cases h : okO ⟨o.f0, o.f1, o.f2 ++ [z]⟩ with
  | false => rfl
  | true =>
    have ha := (okO_iff.1 h).asc
    have := (List.pairwise_append.1 ha).2.2 z hz z (by simp)
    omega
theorem bad_list {l : List Occ} {x : Occ} (hx : x ∈ l) : okOs (l ++ [x]) = false := by
  cases h : okOs (l ++ [x]) with
  | false => rfl
  | true =>
    have hs := (okOs_iff.1 h).1.sorted
    exact absurd ((List.pairwise_append.1 hs).2.2 x hx x (by simp)) (lt_irrefl x)
end Go.Proofs.Ytjeojdbfpncnkaa.Oa

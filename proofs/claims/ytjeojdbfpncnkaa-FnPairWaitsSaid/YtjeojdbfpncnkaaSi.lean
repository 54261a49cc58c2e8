/- Lists of the reference's own: what lies in them came in or was made. -/
import Derived.Test.YtjeojdbfpncnkaaSh
set_option linter.unusedVariables false
set_option linter.unusedSimpArgs false
namespace Go.Proofs.Ytjeojdbfpncnkaa.Si
open Go.RowKit Go.Proofs.YtjeojdbfpncnkaaW.PrintWords Go.Proofs.Ytjeojdbfpncnkaa.Wd Go.Proofs.Ytjeojdbfpncnkaa.Pu Go.Proofs.Ytjeojdbfpncnkaa.Ca Go.Proofs.Ytjeojdbfpncnkaa.Cb Go.Proofs.Ytjeojdbfpncnkaa.Cd Go.Proofs.Ytjeojdbfpncnkaa.Ci Go.Proofs.Ytjeojdbfpncnkaa.Cp Go.Proofs.Ytjeojdbfpncnkaa.Ce Go.Proofs.Ytjeojdbfpncnkaa.Cg Go.Proofs.Ytjeojdbfpncnkaa.Cf Go.Proofs.Ytjeojdbfpncnkaa.Sd Go.Proofs.Ytjeojdbfpncnkaa.Se Go.Proofs.Ytjeojdbfpncnkaa.Sf Go.Proofs.Ytjeojdbfpncnkaa.Sh Go.Proofs.Ytjeojdbfpncnkaa.Sc

def kX (w0 : World) : Kd Occ := Kd.iso (Kd.pair (Kd.int .i64) (Kd.pair (Kd.int .i64) (Kd.mix 3 (Kd.int .i64) (Kd.int .i64) w0))) (fun x => (x.f0, x.f1, x.f2))
theorem kX_openM {w0 w : World} {base : Nat} {ok : Nat → Prop} {x : Occ} {cs : List Value} (h : (kX w0).M w base ok x cs) : ∃ v, cs = [.int .i64 x.f0, .int .i64 x.f1, v] ∧ (Kd.mix 3 (Kd.int .i64) (Kd.int .i64) w0).M w base ok x.f2 [v] := by
  obtain ⟨_, _, rfl, rfl, ⟨_, _, rfl, rfl, g⟩⟩ := h
  obtain ⟨v, rfl, g⟩ := Kd.mix_one g
  exact ⟨v, rfl, g⟩
theorem kX_made {w0 w : World} {base : Nat} {ok : Nat → Prop} (x : Occ) {v : Value} (g : (Kd.int .i64).R 3 w base ok v x.f2) : (kX w0).M w base ok x [.int .i64 x.f0, .int .i64 x.f1, v] :=
  ⟨[.int .i64 x.f0], [.int .i64 x.f1, v], rfl, rfl, ⟨[.int .i64 x.f1], [v], rfl, rfl, Kd.mix_made g⟩⟩
theorem kX_came {w0 w : World} {base : Nat} {ok : Nat → Prop} (x : Occ) {A : Option Addr} {c : Nat} (g : IsO w0 x A c) : (kX w0).M w base ok x [.int .i64 x.f0, .int .i64 x.f1, .slice A x.f2.length c] :=
  ⟨[.int .i64 x.f0], [.int .i64 x.f1, .slice A x.f2.length c], rfl, rfl, ⟨[.int .i64 x.f1], [.slice A x.f2.length c], rfl, rfl, Kd.mix_came g.1 g.2⟩⟩
theorem kX_read {w0 w : World} (hb : Below w0.heap.size w0 w) {x : Occ} {cs : List Value} (h : (kX w0).K w x cs) : kO.K w x cs := by
  obtain ⟨_, _, rfl, rfl, ⟨_, _, rfl, rfl, g⟩⟩ := h
  obtain ⟨A, c, rfl, l, g⟩ := Kd.mix_read rfl (fun _ _ h => h) hb g
  exact kO_mk w x l g
theorem X_O {w0 w : World} (hb : Below w0.heap.size w0 w) {A : Option Addr} {n : Nat} {l : List Occ} (h : (kX w0).C w A n l) : kO.C w A n l :=
  ⟨h.1, h.2.1, fun h0 => by obtain ⟨ad, e, hc⟩ := h.2.2 h0; exact ⟨ad, e, fun j p hj => by obtain ⟨c, h1, h2, h3⟩ := hc j p hj; exact ⟨c, h1, kX_read hb h2, h3⟩⟩⟩
theorem szX (w0 : World) : 0 < (kX w0).sz := (by decide : 0 < 3)

section
variable {α : Type} {d : Kd α} {e : Nat} {w w1 : World} {base : Nat} {ok ok' : Nat → Prop} {v : Value} {xs : List α}
/-- A row's 'ok' by its own block and by its elements' blocks apart. -/
theorem R_split (h : d.R e w base ok v xs) (h1 : ∀ k, v.ownBlock = some k → ok' k) (h2 : ∀ k q cells, ok k → base ≤ k → k < w.heap.size → q ∈ d.E → w.heap[k]? = some (.cells cells q (0, 0)) → ok' k) : d.R e w base ok' v xs := by
  obtain ⟨hok, inner, hown, hr⟩ := h
  refine ⟨h1, inner, hown, hr.imp_ (fun p c hp => d.M_mono (fun k hk => ?_) (d.M_bound hp))⟩
  obtain ⟨⟨ho, hne⟩, hb, hlt, q, hq, cells, hc⟩ := hk
  exact ⟨h2 k q cells ho hb hlt hq hc, hne⟩
theorem rr_drop {R : α → List Value → Prop} {sz : Nat} {ad : Addr} {n : Nat} (h : ReadsRow R sz w (some ad) n xs) (m : Nat) (hm : m ≤ n) : ReadsRow R sz w (some (ad.add (m * sz))) (n - m) (xs.drop m) := by
  refine ⟨by rw [List.length_drop, h.1], by have := h.2.1; omega, fun h0 => ⟨_, rfl, fun j q hj => ?_⟩⟩
  obtain ⟨ad', e, hc⟩ := h.2.2 (by omega)
  cases e
  rw [List.getElem?_drop] at hj
  obtain ⟨c, h1, h2, h3⟩ := hc _ _ hj
  exact ⟨c, h1, h2, fun i u hi => by rw [add_add, show m * sz + (j * sz + i) = (m + j) * sz + i by rw [Nat.add_mul]; omega]; exact h3 i u hi⟩
/-- A row as a source of an append: its elements as they were made. -/
theorem R_src {A : Option Addr} {n c : Nat} (h : d.R e w base ok (.slice A n c) xs) : ReadsRow (d.M w base (fun k => ok k ∧ some k ≠ (Value.slice A n c).ownBlock)) d.sz w A n xs := by
  obtain ⟨hok, inner, hown, hr⟩ := h
  obtain ⟨A', c', e, h2⟩ := own_reads_row hown hr rfl
  cases e
  exact h2
theorem R_src_drop {A A' : Option Addr} {n c k : Nat} (h : d.R e w base ok (.slice A n c) xs) (hk : k ≤ n) (hA : k < c → A' = A.map (·.add (k * d.sz))) : ReadsRow (d.M w base (fun k => ok k ∧ some k ≠ (Value.slice A n c).ownBlock)) d.sz w A' (n - k) (xs.drop k) := by
  have hs := R_src h
  have hnc : n ≤ c := (Kd.R_reads' h).2.1
  by_cases hkn : k = n
  · exact ⟨by rw [List.length_drop, hs.1], by have := hs.2.1; omega, fun h0 => by omega⟩
  · obtain ⟨ad, rfl, _⟩ := hs.2.2 (by omega)
    rw [hA (by omega)]
    exact rr_drop hs k hk
theorem R_head' {A : Option Addr} {n c : Nat} (h : d.R e w base ok (.slice A n c) xs) : A = none ∨ ∃ g, A = some ⟨g, 0, none⟩ := by
  rcases A with _ | ad
  · exact .inl rfl
  · obtain ⟨g, rfl⟩ := Kd.R_head h
    exact .inr ⟨g, rfl⟩
end
theorem R_empty2 {α : Type} (d : Kd α) {e : Nat} {w : World} {base : Nat} {ok : Nat → Prop} {g : Nat} (hg : w.heap[g]? = some (.cells #[] e (0, 0))) (hb : base ≤ g) (hok : ok g) : d.R e w base ok (.slice (some ⟨g, 0, none⟩) 0 0) [] :=
  ⟨fun k hk => by simp [Value.ownBlock] at hk; rw [← hk]; exact hok, [], ⟨by simp, .inr ⟨g, 0, #[], rfl, hb, hg, Nat.le_refl _, by decide, by simp, by simp⟩⟩, Reps.none _ _⟩
theorem takeX (A : Option Addr) (hA : A = none ∨ ∃ g, A = some ⟨g, 0, none⟩) (n c m : Nat) (hm : m ≤ c) (W : World) : (Instr.slice 27 (.slice A n c) none (some (.int .i64 (m : Int))) none).run Try.prog W = .ok (.slice A m c) W := by
  rcases hA with rfl | ⟨g, rfl⟩
  · have hel : Try.prog.elem 27 = 25 := by simp [Program.elem, Try.underlying27]
    have hu : Try.prog.underlying 27 = some (.slice (Try.prog.elem 27)) := by rw [hel]; exact Try.underlying27
    obtain ⟨i, hi, hi2⟩ := Option.map_eq_some_iff.1 sizeO
    rw [run_slice_h W _ none n c hu .i64 (m : Int) (Int.natCast_nonneg _) (by omega), hel]
    simp [sizeOf, typeInfo, hi, hi2, sliced, Result.andThen]
  · exact takeO g n c m hm W
theorem infoX (w0 : World) : (Try.prog.info? 25).map (fun i => (i.zero, i.size, i.bytes)) = some (some (.agg #[.int .i64 0, .int .i64 0, .slice none 0 0]), (kX w0).sz, 40) := infoO
end Go.Proofs.Ytjeojdbfpncnkaa.Si

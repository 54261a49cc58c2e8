/- The reference's kit: l14Open, num, l3Any. -/
import Derived.Test.YtjeojdbfpncnkaaSa
set_option linter.unusedVariables false
set_option linter.unusedSimpArgs false
namespace Go.Proofs.Ytjeojdbfpncnkaa.Sb
open Go.RowKit Go.Proofs.YtjeojdbfpncnkaaW.PrintWords Go.Proofs.Ytjeojdbfpncnkaa.Wd Go.Proofs.Ytjeojdbfpncnkaa.Pu Go.Proofs.Ytjeojdbfpncnkaa.Ca Go.Proofs.Ytjeojdbfpncnkaa.Cg Go.Proofs.Ytjeojdbfpncnkaa.Sa

theorem num_any (w0 : World) (g : Nat) (bs : List Int) (p : Nat) (A : Option Addr) (c : Nat) (xs : List Int) (w : World) (h : Rd w0 w g bs p) (hp : p < 100000) (hx : 0 < xs.length) (hx2 : xs.length ≤ 1000)
    (hC : ∀ w', w.grownBy w' (some g) → (Kd.int .i64).C w' A xs.length xs) :
    Calls Try.prog 71 #[.pointer (some ⟨g, 0, none⟩), .slice A xs.length c] w fun e w' =>
      ∃ x : Int, e = .returned (.int .i64 x) ∧ x ∈ xs ∧ Rd w0 w' g bs (p + 1) ∧ w.grownBy w' (some g) := by
  go_enter Try.func71, Try.ntmps71
  go_wp2_with ((go_at_call 36; refine (pick_any w0 g bs p xs.length w h hp (by omega)).mono ?_; rintro e w2 ⟨x, rfl, hx0, hr, hg⟩; obtain ⟨k, rfl⟩ := Int.eq_ofNat_of_zero_le hx0.1; have hk : k < xs.length := by { have := hx0.2.1 (by omega); omega }; obtain ⟨ad, rfl, hcell⟩ := at1 (hC w2 hg) k hk; have HR := Aside0.mk hr; have HG := Aside0.mk hg; have hm : xs.getD k 0 ∈ xs := by { rw [List.getD_eq_getElem?_getD, List.getElem?_eq_getElem hk]; exact List.getElem_mem _ }; generalize xs.getD k 0 = y at hcell hm; have HM := Aside0.mk hm; clear hx0 hr hg hm hC))
  go_ret
  exact ⟨_, rfl, HM.out, HR.out, HG.out⟩

def Opened (w w' : World) (g : Nat) : Prop := ∃ bs, Rd w w' g bs 0
theorem open_any (wf : World) (A : Option Addr) (c : Nat) (bs : List Int) (w : World) (hwf : Below wf.heap.size wf w) (hC : (Kd.int .u8).C wf A bs.length bs) (hc : bs.length ≤ c) (hb : ∀ b ∈ bs, 0 ≤ b ∧ b ≤ 255) :
    Calls Try.prog 33 #[.slice A bs.length c] w fun e w' => ∃ g, e = .returned (.pointer (some ⟨g, 0, none⟩)) ∧ Opened wf w' g ∧ Below w.heap.size w w' := by
  by_cases hl : bs.length > 2000
  · have d1 : decide ((bs.length : Int) > 2000) = true := by rw [decide_eq_true_eq]; omega
    have d2 : (2000 : Int) < bs.length := by omega
    have d3 : (2000 : Int) ≤ c := by omega
    have hC2 : (Kd.int .u8).C wf A 2000 (bs.take 2000) := by
      refine ⟨by rw [List.length_take]; omega, by decide, fun _ => ?_⟩
      obtain ⟨ad, e, h2⟩ := hC.2.2 (by omega)
      refine ⟨ad, e, fun j q hj => h2 j q ?_⟩
      rw [List.getElem?_take] at hj
      split at hj
      · exact hj
      · cases hj
    have HL := Aside0.mk (show 2000 = (bs.take 2000).length by rw [List.length_take]; omega)
    go_enter Try.func33, Try.ntmps33
    go_wp2
    go_ret
    refine ⟨w.heap.size, rfl, ⟨bs.take 2000, ⟨⟨A, c, ?_, ?_⟩, hwf.size, hwf.alloc hwf.size _, fun b hb2 => hb b (List.mem_of_mem_take hb2), by rw [← HL.out]; decide⟩⟩, below_alloc (Below.refl _ _) _⟩
    · rw [← HL.out]; exact blk_new _ _
    · rw [← HL.out]; exact hC2
  · have d1 : decide ((bs.length : Int) > 2000) = false := by rw [decide_eq_false_iff_not]; omega
    have d2 : ¬ (2000 : Int) < bs.length := by omega
    have HL := Aside0.mk hl
    clear hl
    go_enter Try.func33, Try.ntmps33
    go_wp2
    go_ret
    exact ⟨w.heap.size, rfl, ⟨bs, ⟨⟨A, c, blk_new _ _, hC⟩, hwf.size, hwf.alloc hwf.size _, hb, by have := HL.out; omega⟩⟩, below_alloc (Below.refl _ _) _⟩
end Go.Proofs.Ytjeojdbfpncnkaa.Sb


/- Sizes of expressions: the laws' own functions. -/
import Derived.Test.YtckblabkapeigaaGreatNJb
set_option linter.unusedVariables false
set_option linter.unusedSimpArgs false
namespace Go.Proofs.YtckblabkapeigaaGreat.Jc
open Go.RowKit Go.Proofs.YtckblabkapeigaaGreatW.PrintWords Go.Proofs.YtckblabkapeigaaGreat.Ja Go.Proofs.YtckblabkapeigaaGreat.Jb

abbrev X (f0 f1 f2 : Int) (A : Option Addr) (n c : Nat) : Value := .agg #[.int .i64 f0, .int .i64 f1, .int .i64 f2, .slice A n c]
theorem box4 (w : World) (u0 u1 u2 u3 : Value) (t : TypeId) : Below w.heap.size w (w.alloc (.cells #[u0, u1, u2, u3] t)) ∧ (w.alloc (.cells #[u0, u1, u2, u3] t)).cell? ⟨w.heap.size, 0, none⟩ = some u0 ∧
  (w.alloc (.cells #[u0, u1, u2, u3] t)).cell? ⟨w.heap.size, 1, none⟩ = some u1 ∧ (w.alloc (.cells #[u0, u1, u2, u3] t)).cell? ⟨w.heap.size, 2, none⟩ = some u2 ∧ (w.alloc (.cells #[u0, u1, u2, u3] t)).cell? ⟨w.heap.size, 3, none⟩ = some u3 := ⟨below_alloc (Below.refl _ _) _, by simp, by simp, by simp, by simp⟩
theorem getE_mem {l : List Ex} {i : Nat} (h : i < l.length) : l.getD i zE ∈ l := by
 rw [List.getD_eq_getElem?_getD, List.getElem?_eq_getElem h]
 exact List.getElem_mem h
theorem cntL_rest (l : List Ex) (k : Nat) : cntL (l.take k) + (l.length - k) ≤ cntL l := by
 have h1 := cntL_append (l.take k) (l.drop k)
 rw [List.take_append_drop] at h1
 have h2 := len_le_cnt (l.drop k)
 rw [List.length_drop] at h2
 omega
theorem cnt_mem {l : List Ex} {x : Ex} (h : x ∈ l) : cntL x.f3 < cntL l := by
 obtain ⟨i, hi, he⟩ := List.getElem_of_mem h
 have := cnt_getD l i hi
 rw [List.getD_eq_getElem?_getD, List.getElem?_eq_getElem hi, Option.getD_some, he] at this
 omega
/-! sizes -/
def szI (left : Int) (n : Nat) : Int := if left - n < 0 then -1 else left - n
set_option maxRecDepth 100000 in
theorem szEx_of (f0 f1 f2 : Int) (A : Option Addr) (c : Nat) (l : List Ex) (left : Int) (h0 : 0 ≤ left) (h1 : left ≤ 1048576) (w : World) (hL : IsEL 50 w l A c)
  (hS : ∀ w', IsEL 50 w' l A c → Calls Tryz.prog 93 #[.slice A l.length c, .int .i64 left] w' fun e w'' => e = .returned (.int .i64 (szI left (cntL l))) ∧ Below w'.heap.size w' w'') :
  Calls Tryz.prog 66 #[X f0 f1 f2 A l.length c, .int .i64 left] w fun e w' => e = .returned (.int .i64 (szI left (cntL l))) ∧ Below w.heap.size w w' := by
 have hbx := box4 w (.int .i64 f0) (.int .i64 f1) (.int .i64 f2) (.slice A l.length c) 73
 have HX := Aside0.mk hbx.1
 have hx3 := hbx.2.2.2.2
 have HL := Aside0.mk (hL.below hbx.1)
 have HS := Aside0.mk hS
 clear hbx hL hS
 by_cases h : left - cntL l < 0
 ·have HI := Aside0.mk (show szI left (cntL l) = -1 from if_pos h)
  clear h
  go_enter Tryz.func66, Tryz.ntmps66
  go_wp2_with (go_at_call 93; refine (HS.out _ HL.out).mono ?_; rintro e w2 ⟨rfl, hb2⟩; rw [HI.out]; have HB2 := Aside0.mk (below_then HX.out HX.out.size hb2); clear hb2)
  go_ret
  exact ⟨by (rw [HI.out]; try rfl), HB2.out⟩
 ·have HI := Aside0.mk (show szI left (cntL l) = left - cntL l from if_neg h)
  obtain ⟨r, hr⟩ : ∃ r : Int, r = left - cntL l := ⟨_, rfl⟩
  have d : decide (r < 0) = false := decide_eq_false (by omega)
  rw [← hr] at HI
  clear h hr
  go_enter Tryz.func66, Tryz.ntmps66
  go_wp2_with (go_at_call 93; refine (HS.out _ HL.out).mono ?_; rintro e w2 ⟨rfl, hb2⟩; rw [HI.out]; have HB2 := Aside0.mk (below_then HX.out HX.out.size hb2); clear hb2)
  go_ret
  exact ⟨by (rw [HI.out]; try rfl), HB2.out⟩
set_option maxHeartbeats 1000000 in
set_option maxRecDepth 100000 in
theorem szExS_of (A : Option Addr) (c : Nat) (l : List Ex) (left : Int) (h0 : 0 ≤ left) (h1 : left ≤ 1048576) (w : World) (hL : IsEL 50 w l A c)
  (hE : ∀ x, x ∈ l → ∀ A c w' r, 0 ≤ r → r ≤ 1048576 → IsEL 50 w' x.f3 A c → Calls Tryz.prog 66 #[X x.f0 x.f1 x.f2 A x.f3.length c, .int .i64 r] w' fun e w'' => e = .returned (.int .i64 (szI r (cntL x.f3))) ∧ Below w'.heap.size w' w'') :
  Calls Tryz.prog 93 #[.slice A l.length c, .int .i64 left] w fun e w' => e = .returned (.int .i64 (szI left (cntL l))) ∧ Below w.heap.size w w' := by
 have hn := hL.len
 have HL := Aside0.mk hL
 have HE := Aside0.mk hE
 have hlc := len_le_cnt l
 clear hL hE
 by_cases h : left - l.length < 0
 ·have d : decide (left - l.length < 0) = true := decide_eq_true h
  have HI := Aside0.mk (show szI left (cntL l) = -1 from if_pos (by omega))
  clear h hlc
  go_enter Tryz.func93, Tryz.ntmps93
  go_wp2
  go_ret
  exact ⟨by (rw [HI.out]; try rfl), Below.refl _ _⟩
 ·have d : decide (left - l.length < 0) = false := decide_eq_false h
  have h2 : left - l.length ≥ 0 := by omega
  have hll : (l.length : Int) ≤ left := by omega
  clear h hlc
  go_enter Tryz.func93, Tryz.ntmps93
  go_wp2
  go_loopw [1, 5] (fun v1 vi wr => ∃ (k : Nat) (cur : Int), k ≤ l.length ∧ vi = .int .i64 k ∧ v1 = .int .i64 cur ∧ 0 ≤ cur ∧ cur ≤ left ∧ Aside0 (cur + l.length + cntL (l.take k) = left + k) ∧ Aside0 (Below w.heap.size w wr)) (fun _ vi _ => l.length - (intOf vi).toNat)
  case atStart => exact ⟨0, _, Nat.zero_le _, rfl, rfl, h2, by omega, ⟨by simp [cntL_nil]⟩, ⟨Below.refl _ _⟩⟩
  case round =>
   clear d h2
   obtain ⟨k, cur, hk, rfl, rfl, hc0, hc1, HC, HB⟩ := hrel
   by_cases hlt : k < l.length
   ·have g1 : decide (k < l.length) = true := decide_eq_true hlt
    have i1 : (k : Int) < l.length := by omega
    obtain ⟨ad, A3, c3, rfl, pa, pb, pc, pd, pL⟩ := atE (HL.out.below HB.out) k hlt
    have hcs := cntL_snoc l k hlt
    have hcr := cntL_rest l (k + 1)
    have HQ := Aside0.mk (HE.out _ (getE_mem hlt))
    generalize l.getD k zE = o at pa pb pc pd pL hcs HQ
    have hcall := HQ.out A3 c3 wr cur hc0 (by omega) pL
    have hc := HC.out
    by_cases hs : cur - cntL o.f3 < 0
    ·have HI : Aside0 (szI left (cntL l) = -1) := ⟨if_pos (by omega)⟩
     rw [show szI cur (cntL o.f3) = -1 from if_pos hs] at hcall
     have HK := Aside0.mk hcall
     clear hs hcs hcr hcall hc HQ pL HC
     go_wp2_with (go_at_call 66; refine HK.out.mono ?_; rintro e w2 ⟨rfl, hb2⟩; have HB2 := Aside0.mk (below_then HB.out HB.out.size hb2); clear hb2)
     go_ret
     exact ⟨by (rw [HI.out]; try rfl), HB2.out⟩
    ·obtain ⟨r, hr⟩ : ∃ r : Int, r = cur - cntL o.f3 := ⟨_, rfl⟩
     rw [show szI cur (cntL o.f3) = r from (if_neg hs).trans hr.symm] at hcall
     have HK := Aside0.mk hcall
     have d : decide (r < 0) = false := decide_eq_false (by omega)
     have hr0 : 0 ≤ r := by omega
     have hr1 : r ≤ left := by omega
     have HC2 : Aside0 (r + l.length + cntL (l.take (k + 1)) = left + ((k + 1 : Nat) : Int)) := ⟨by omega⟩
     clear hs hr hcs hcr hcall hc HQ pL HC
     go_wp2_with (go_at_call 66; refine HK.out.mono ?_; rintro e w2 ⟨rfl, hb2⟩; have HB2 := Aside0.mk (below_then HB.out HB.out.size hb2); clear hb2)
     go_roundw
     case rel => exact ⟨k + 1, r, by omega, by go_num, rfl, hr0, hr1, HC2, HB2⟩
     case measure => simp [intOf]; omega
   ·have hke : k = l.length := by omega
    subst hke
    have g1 : decide (l.length < l.length) = false := decide_eq_false (by omega)
    have hx := HC.out
    rw [List.take_length] at hx
    have HI : Aside0 (szI left (cntL l) = cur) := ⟨by unfold szI; rw [if_neg (by omega)]; omega⟩
    clear hx HC
    go_wp2
    go_ret
    exact ⟨by (rw [HI.out]; try rfl), HB.out⟩
theorem szExS_any (l : List Ex) (A : Option Addr) (c : Nat) (left : Int) (h0 : 0 ≤ left) (h1 : left ≤ 1048576) (w : World) (hL : IsEL 50 w l A c) :
  Calls Tryz.prog 93 #[.slice A l.length c, .int .i64 left] w fun e w' => e = .returned (.int .i64 (szI left (cntL l))) ∧ Below w.heap.size w w' :=
 szExS_of A c l left h0 h1 w hL (fun x hx A2 c2 w2 r hr0 hr1 hx2 => szEx_of x.f0 x.f1 x.f2 A2 c2 x.f3 r hr0 hr1 w2 hx2 (fun w3 h3 =>
  have := cnt_mem hx
  szExS_any x.f3 A2 c2 r hr0 hr1 w3 h3))
termination_by cntL l
theorem szEx_any (x : Ex) (A : Option Addr) (c : Nat) (left : Int) (h0 : 0 ≤ left) (h1 : left ≤ 1048576) (w : World) (hL : IsEL 50 w x.f3 A c) :
  Calls Tryz.prog 66 #[X x.f0 x.f1 x.f2 A x.f3.length c, .int .i64 left] w fun e w' => e = .returned (.int .i64 (szI left (cntL x.f3))) ∧ Below w.heap.size w w' :=
 szEx_of x.f0 x.f1 x.f2 A c x.f3 left h0 h1 w hL (fun w3 h3 => szExS_any x.f3 A c left h0 h1 w3 h3)
end Go.Proofs.YtckblabkapeigaaGreat.Jc

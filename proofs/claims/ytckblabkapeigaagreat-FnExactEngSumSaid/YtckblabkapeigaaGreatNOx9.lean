
/- A node that is valid: the program's. Printed by genOx9.py. -/
import Derived.Test.YtckblabkapeigaaGreatNOw9
import Derived.Test.YtckblabkapeigaaGreatNOc
set_option linter.unusedVariables false
set_option linter.unusedSimpArgs false
namespace Go.Proofs.YtckblabkapeigaaGreat.Ox9
open Go.RowKit Go.Proofs.YtckblabkapeigaaGreatW.PrintWords Go.Proofs.YtckblabkapeigaaGreat.Ja Go.Proofs.YtckblabkapeigaaGreat.Jb Go.Proofs.YtckblabkapeigaaGreat.Jg Go.Proofs.YtckblabkapeigaaGreat.Jh Go.Proofs.YtckblabkapeigaaGreat.Ka Go.Proofs.YtckblabkapeigaaGreat.Kb Go.Proofs.YtckblabkapeigaaGreat.Ov9 Go.Proofs.YtckblabkapeigaaGreat.Ow9

abbrev okL (l : List TOcc) : Bool := Go.Proofs.YtckblabkapeigaaGreat.Pu.okOs l
theorem isL {w : World} {l : List TOcc} {A : Option Addr} {c : Nat} (h : IsS kOcc w l A c) : Go.Proofs.YtckblabkapeigaaGreat.Oc.IsL w l A c := ⟨h.1, h.2⟩
/-- kind, number of kids, their places -/
def headN (n : TNode) (i : Int) : Bool := inb n.f0 1 7 && (decide ((n.f3.length : Int) = kidsN n.f0) && !n.f3.any (fun k => !inb k 0 (i - 1)))
/-- what a plus has that no other has -/
def plusN (n : TNode) : Bool := if n.f0 = 7 then inb n.f2 1 20 else decide (n.f2 = 0) && decide (n.f6 = [])
def restN (n : TNode) : Bool := inb n.f1 0 4 && (inb n.f7 0 40 && ((okL n.f4.f0 && okL n.f4.f1) && ((okL n.f5.f0 && okL n.f5.f1) && Go.Proofs.YtckblabkapeigaaGreat.Pu.okOs n.f6)))
def dueN (n : TNode) (now : Int) : Bool := n.f6.any (fun x => decide (x.f1 ≤ now))
def nodeB (n : TNode) (i now : Int) : Bool := headN n i && (plusN n && (restN n && !dueN n now))
theorem nodeB_h {n : TNode} {i now : Int} (h : headN n i = false) : nodeB n i now = false := by unfold nodeB; rw [h]; rfl
theorem nodeB_p {n : TNode} {i now : Int} (h : plusN n = false) : nodeB n i now = false := by unfold nodeB; rw [h]; simp
theorem nodeB_r {n : TNode} {i now : Int} (h : restN n = false) : nodeB n i now = false := by unfold nodeB; rw [h]; simp
theorem nodeB_d {n : TNode} {i now : Int} (h : dueN n now = true) : nodeB n i now = false := by unfold nodeB; rw [h]; simp
theorem nodeB_y {n : TNode} {i now : Int} (h1 : headN n i = true) (h2 : plusN n = true) (h3 : restN n = true) (h4 : dueN n now = false) : nodeB n i now = true := by unfold nodeB; rw [h1, h2, h3, h4]; rfl
set_option maxHeartbeats 8000000 in
set_option maxRecDepth 100000 in
theorem nodeOk_any (n : TNode) (A3 : Option Addr) (c3 : Nat) (A4 : Option Addr) (c4 : Nat) (A5 : Option Addr) (c5 : Nat) (A6 : Option Addr) (c6 : Nat) (A7 : Option Addr) (c7 : Nat) (A8 : Option Addr) (c8 : Nat) (i now : Int) (hi : 0 ≤ i ∧ i ≤ 9223372036854775807) (w : World) (h3 : IsS (Kd.int .i64) w n.f3 A3 c3) (h4 : IsS kOcc w n.f4.f0 A4 c4) (h5 : IsS kOcc w n.f4.f1 A5 c5) (h6 : IsS kOcc w n.f5.f0 A6 c6) (h7 : IsS kOcc w n.f5.f1 A7 c7) (h8 : IsS kOcc w n.f6 A8 c8) :
  Calls Tryz.prog 108 #[.agg #[.int .i64 n.f0, .int .i64 n.f1, .int .i64 n.f2, .slice A3 n.f3.length c3, .slice A4 n.f4.f0.length c4, .slice A5 n.f4.f1.length c5, .slice A6 n.f5.f0.length c6, .slice A7 n.f5.f1.length c7, .slice A8 n.f6.length c8, .int .i64 n.f7], .int .i64 i, .int .i64 now] w fun e w' => e = .returned (.bool (nodeB n i now)) ∧ Below w.heap.size w w' := by
 obtain ⟨hb0, b0, b1, b2⟩ := boxes3 w #[.int .i64 n.f0, .int .i64 n.f1, .int .i64 n.f2, .slice A3 n.f3.length c3, .slice A4 n.f4.f0.length c4, .slice A5 n.f4.f1.length c5, .slice A6 n.f5.f0.length c6, .slice A7 n.f5.f1.length c7, .slice A8 n.f6.length c8, .int .i64 n.f7] #[.int .i64 i] #[.int .i64 now] 126 3 3
 have hl3 := h3.len
 have hl8 := h8.len
 have H3 := Aside0.mk (h3.below hb0)
 have H4 := Aside0.mk (h4.below hb0)
 have H5 := Aside0.mk (h5.below hb0)
 have H6 := Aside0.mk (h6.below hb0)
 have H7 := Aside0.mk (h7.below hb0)
 have H8 := Aside0.mk (h8.below hb0)
 obtain ⟨W, hW⟩ : ∃ W, W = ((w.alloc (.cells #[.int .i64 n.f0, .int .i64 n.f1, .int .i64 n.f2, .slice A3 n.f3.length c3, .slice A4 n.f4.f0.length c4, .slice A5 n.f4.f1.length c5, .slice A6 n.f5.f0.length c6, .slice A7 n.f5.f1.length c7, .slice A8 n.f6.length c8, .int .i64 n.f7] 126)).alloc (.cells #[.int .i64 i] 3)).alloc (.cells #[.int .i64 now] 3) := ⟨_, rfl⟩
 rw [← hW] at hb0 b0 b1 b2 H3 H4 H5 H6 H7 H8
 have HW := Aside0.mk hW
 have HX := Aside0.mk hb0
 have B0 := Aside0.mk b0
 have B1 := Aside0.mk b1
 have B2 := Aside0.mk b2
 clear hW hb0 b0 b1 b2 h3 h4 h5 h6 h7 h8
 have e0 : ∀ s : Ext W, s.1.cell? ⟨w.heap.size, 0, none⟩ = some (.int .i64 n.f0) := cellE ((blk_cell B0.out 0).trans rfl)
 have e3 : ∀ s : Ext W, s.1.cell? ⟨w.heap.size, 3, none⟩ = some (.slice A3 n.f3.length c3) := cellE ((blk_cell B0.out 3).trans rfl)
 obtain ⟨bad, hbad⟩ : ∃ b, b = n.f3.any (fun k => !inb k 0 (i - 1)) := ⟨_, rfl⟩
 have hf : ∀ s : Ext W, Calls Tryz.prog 52 #[.slice A3 n.f3.length c3, .func (.func 127) #[] #[.pointer (some ⟨w.heap.size + 1, 0, none⟩)]] s.1 fun e w'' => e = .returned (.bool bad) ∧ Below s.1.heap.size s.1 w'' := fun s => by rw [hbad]; exact kids_has i (w.heap.size + 1) hi A3 c3 n.f3 s.1 (H3.out.below s.2) (pw_cell_below s.2 ((blk_cell B1.out 0).trans rfl))
 have HBAD := Aside0.mk hbad
 clear hbad
 by_cases hkd : 1 ≤ n.f0 ∧ n.f0 ≤ 7
 case' neg =>
  have hk : ∀ s : Ext W, Calls Tryz.prog 125 #[.int .i64 n.f0] s.1 fun e w'' => e = .returned (.bool false) ∧ Below s.1.heap.size s.1 w'' := fun s => (isKind_any n.f0 s.1).mono (fun e w' ⟨q1, q2⟩ => ⟨by rw [q1, inb_f hkd], by rw [q2]; exact Below.refl _ _⟩)
  have hc : True := trivial
  have HE : Aside0 (nodeB n i now = false) := ⟨nodeB_h (by unfold headN; rw [inb_f hkd]; rfl)⟩
  clear hkd
 case' pos =>
  have hk : ∀ s : Ext W, Calls Tryz.prog 125 #[.int .i64 n.f0] s.1 fun e w'' => e = .returned (.bool true) ∧ Below s.1.heap.size s.1 w'' := fun s => (isKind_any n.f0 s.1).mono (fun e w' ⟨q1, q2⟩ => ⟨by rw [q1, inb_t hkd], by rw [q2]; exact Below.refl _ _⟩)
  have hc0 : ∀ s : Ext W, Calls Tryz.prog 126 #[.int .i64 n.f0] s.1 fun e w'' => e = .returned (.int .i64 (kidsN n.f0)) ∧ Below s.1.heap.size s.1 w'' := fun s => kids_any n.f0 hkd.1 hkd.2 s.1
  obtain ⟨kn, hkn⟩ : ∃ kn, kn = kidsN n.f0 := ⟨_, rfl⟩
  rw [← hkn] at hc0
  have hc := hc0
  clear hc0
  by_cases hm : (n.f3.length : Int) = kn
  case' neg =>
   have n0 : ((n.f3.length : Int) != kn) = true := ne_t hm
   have HE : Aside0 (nodeB n i now = false) := ⟨nodeB_h (by unfold headN; rw [← hkn, decide_eq_false hm]; simp)⟩
   clear hkd hm hkn
  case' pos =>
   have n0 : ((n.f3.length : Int) != kn) = false := ne_f hm
   cases hbv : bad
   case' true =>
    have HE : Aside0 (nodeB n i now = false) := ⟨nodeB_h (by unfold headN; rw [← HBAD.out, hbv]; simp)⟩
    rw [hbv] at hf
    clear hkd hm hkn hbv
   case' false =>
    have HH : Aside0 (headN n i = true) := ⟨by unfold headN; rw [inb_t hkd, ← HBAD.out, hbv, ← hkn, decide_eq_true hm]; rfl⟩
    rw [hbv] at hf
    have HKN := Aside0.mk hkn
    clear hbv hm hkn HBAD
    by_cases h7 : n.f0 = 7
    case' pos =>
     have k7 : (n.f0 == 7) = true := eq_t h7
     have k7n : (n.f0 != 7) = false := ne_f h7
     cases hp : inb n.f2 1 20
     case' false =>
      have HE : Aside0 (nodeB n i now = false) := ⟨nodeB_p (by unfold plusN; rw [if_pos h7, hp])⟩
      clear h7 hkd
     case' true =>
      have HPL : Aside0 (plusN n = true) := ⟨by unfold plusN; rw [if_pos h7, hp]⟩
      clear h7 hkd
      cases q0 : (inb n.f1 0 4)
      case' false =>
       have HE : Aside0 (nodeB n i now = false) := ⟨nodeB_r (by unfold restN; rw [q0]; simp)⟩
      case' true =>
       cases q1 : (inb n.f7 0 40)
       case' false =>
        have HE : Aside0 (nodeB n i now = false) := ⟨nodeB_r (by unfold restN; rw [q0, q1]; simp)⟩
       case' true =>
        cases q2 : (okL n.f4.f0 && okL n.f4.f1)
        case' false =>
         have HE : Aside0 (nodeB n i now = false) := ⟨nodeB_r (by unfold restN; rw [q0, q1, q2]; simp)⟩
         have HP := Aside0.mk q2
         clear q2
        case' true =>
         cases q3 : (okL n.f5.f0 && okL n.f5.f1)
         case' false =>
          have HE : Aside0 (nodeB n i now = false) := ⟨nodeB_r (by unfold restN; rw [q0, q1, q2, q3]; simp)⟩
          have HP := Aside0.mk q2
          clear q2
          have HS := Aside0.mk q3
          clear q3
         case' true =>
          cases q4 : (Go.Proofs.YtckblabkapeigaaGreat.Pu.okOs n.f6)
          case' false =>
           have HE : Aside0 (nodeB n i now = false) := ⟨nodeB_r (by unfold restN; rw [q0, q1, q2, q3, q4]; simp)⟩
           have HP := Aside0.mk q2
           clear q2
           have HS := Aside0.mk q3
           clear q3
           have HO := Aside0.mk q4
           clear q4
          case' true =>
           have HR : Aside0 (restN n = true) := ⟨by unfold restN; rw [q0, q1, q2, q3, q4]; rfl⟩
           have HP := Aside0.mk q2
           clear q2
           have HS := Aside0.mk q3
           clear q3
           have HO := Aside0.mk q4
           clear q4
           cases qd : n.f6.any (fun x => decide (x.f1 ≤ now))
           case' true =>
            have HE : Aside0 (nodeB n i now = false) := ⟨nodeB_d qd⟩
            have HD := Aside0.mk qd
            clear qd
           case' false =>
            have HE : Aside0 (nodeB n i now = true) := ⟨nodeB_y HH.out HPL.out HR.out qd⟩
            have HD := Aside0.mk qd
            clear qd
    case' neg =>
     have k7 : (n.f0 == 7) = false := eq_f h7
     have k7n : (n.f0 != 7) = true := ne_t h7
     by_cases h2 : n.f2 = 0
     case' neg =>
      have z2 : (n.f2 != 0) = true := ne_t h2
      have HE : Aside0 (nodeB n i now = false) := ⟨nodeB_p (by unfold plusN; rw [if_neg h7, decide_eq_false h2]; rfl)⟩
      clear h7 h2 hkd
     case' pos =>
      have z2 : (n.f2 != 0) = false := ne_f h2
      by_cases h6 : n.f6 = []
      case' neg =>
       have hl6 : 0 < n.f6.length := List.length_pos_iff.2 h6
       have z6 : decide ((n.f6.length : Int) > 0) = true := decide_eq_true (by omega)
       have z6' : decide (0 < n.f6.length) = true := decide_eq_true hl6
       have HE : Aside0 (nodeB n i now = false) := ⟨nodeB_p (by unfold plusN; rw [if_neg h7, decide_eq_false h6]; simp)⟩
       clear h7 h2 hkd h6 hl6
      case' pos =>
       have hl6 : n.f6.length = 0 := by rw [h6]; rfl
       have z6 : decide ((n.f6.length : Int) > 0) = false := decide_eq_false (by omega)
       have z6' : decide (0 < n.f6.length) = false := decide_eq_false (by omega)
       have HPL : Aside0 (plusN n = true) := ⟨by unfold plusN; rw [if_neg h7, decide_eq_true h2, decide_eq_true h6]; rfl⟩
       clear h7 h2 hkd h6 hl6
       cases q0 : (inb n.f1 0 4)
       case' false =>
        have HE : Aside0 (nodeB n i now = false) := ⟨nodeB_r (by unfold restN; rw [q0]; simp)⟩
       case' true =>
        cases q1 : (inb n.f7 0 40)
        case' false =>
         have HE : Aside0 (nodeB n i now = false) := ⟨nodeB_r (by unfold restN; rw [q0, q1]; simp)⟩
        case' true =>
         cases q2 : (okL n.f4.f0 && okL n.f4.f1)
         case' false =>
          have HE : Aside0 (nodeB n i now = false) := ⟨nodeB_r (by unfold restN; rw [q0, q1, q2]; simp)⟩
          have HP := Aside0.mk q2
          clear q2
         case' true =>
          cases q3 : (okL n.f5.f0 && okL n.f5.f1)
          case' false =>
           have HE : Aside0 (nodeB n i now = false) := ⟨nodeB_r (by unfold restN; rw [q0, q1, q2, q3]; simp)⟩
           have HP := Aside0.mk q2
           clear q2
           have HS := Aside0.mk q3
           clear q3
          case' true =>
           cases q4 : (Go.Proofs.YtckblabkapeigaaGreat.Pu.okOs n.f6)
           case' false =>
            have HE : Aside0 (nodeB n i now = false) := ⟨nodeB_r (by unfold restN; rw [q0, q1, q2, q3, q4]; simp)⟩
            have HP := Aside0.mk q2
            clear q2
            have HS := Aside0.mk q3
            clear q3
            have HO := Aside0.mk q4
            clear q4
           case' true =>
            have HR : Aside0 (restN n = true) := ⟨by unfold restN; rw [q0, q1, q2, q3, q4]; rfl⟩
            have HP := Aside0.mk q2
            clear q2
            have HS := Aside0.mk q3
            clear q3
            have HO := Aside0.mk q4
            clear q4
            cases qd : n.f6.any (fun x => decide (x.f1 ≤ now))
            case' true =>
             have HE : Aside0 (nodeB n i now = false) := ⟨nodeB_d qd⟩
             have HD := Aside0.mk qd
             clear qd
            case' false =>
             have HE : Aside0 (nodeB n i now = true) := ⟨nodeB_y HH.out HPL.out HR.out qd⟩
             have HD := Aside0.mk qd
             clear qd
 all_goals
  go_enter Tryz.func108, Tryz.ntmps108
  go_upto_region 1 with fail
  rw [← HW.out]
  refine region_ext (W := W) (Below.refl _ _) (by kernel_rfl) (by kernel_rfl) ?_
  repeat (first | go_big_quiet_step ((first | (go_at_call 125; exact calls_ext (hk _)) | (go_at_call 126; exact calls_ext (hc _)) | (go_at_call 52; exact calls_ext (hf _)))) | quiet_step ((first | (go_at_call 125; exact calls_ext (hk _)) | (go_at_call 126; exact calls_ext (hc _)) | (go_at_call 52; exact calls_ext (hf _)))))
  refine wpQuiet_nil ?_
  rintro _ ⟨s, rfl⟩
  have HB2 := Aside0.mk s.2
  clear e0 e3 hk hc hf
  generalize s.1 = W2 at HB2 ⊢
  have k0 := (blk_cell (blk_below B0.out HB2.out) 0).trans rfl
  have k1 := (blk_cell (blk_below B0.out HB2.out) 1).trans rfl
  have k2 := (blk_cell (blk_below B0.out HB2.out) 2).trans rfl
  have k4 := (blk_cell (blk_below B0.out HB2.out) 4).trans rfl
  have k5 := (blk_cell (blk_below B0.out HB2.out) 5).trans rfl
  have k6 := (blk_cell (blk_below B0.out HB2.out) 6).trans rfl
  have k7 := (blk_cell (blk_below B0.out HB2.out) 7).trans rfl
  have k8 := (blk_cell (blk_below B0.out HB2.out) 8).trans rfl
  have k9 := (blk_cell (blk_below B0.out HB2.out) 9).trans rfl
  go_wp2_with (first
   | (go_at_call 110; refine (dues_has now (w.heap.size + 1 + 1) A8 c8 n.f6 _ (H8.out.below HB5.out) (pw_cell_below HB5.out ((blk_cell B2.out 0).trans rfl))).mono ?_; rintro e w6 ⟨rfl, hb⟩; rw [HD.out]; have HB6 := Aside0.mk (below_then HB5.out HB5.out.size hb); clear hb)
   | (go_at_call 130; refine (Go.Proofs.YtckblabkapeigaaGreat.Cb.occsOk_any A8 c8 n.f6 _ (H8.out.below HB4.out).2).mono ?_; rintro e w5 ⟨rfl, hb⟩; rw [HO.out]; have HB5 := Aside0.mk (below_then HB4.out HB4.out.size hb); clear hb; have k8_5 := (blk_cell (blk_below B0.out HB5.out) 8).trans rfl)
   | (go_at_call 129; refine (Go.Proofs.YtckblabkapeigaaGreat.Oc.spanOk_any A6 A7 c6 c7 _ _ _ (isL (H6.out.below HB3.out)) (isL (H7.out.below HB3.out))).mono ?_; rintro e w4 ⟨rfl, hb⟩; rw [HS.out]; have HB4 := Aside0.mk (below_then HB3.out HB3.out.size hb); clear hb; have k8_4 := (blk_cell (blk_below B0.out HB4.out) 8).trans rfl)
   | (go_at_call 128; refine (Go.Proofs.YtckblabkapeigaaGreat.Oc.pairOk_any A4 A5 c4 c5 _ _ _ (isL (H4.out.below HB2.out)) (isL (H5.out.below HB2.out))).mono ?_; rintro e w3 ⟨rfl, hb⟩; rw [HP.out]; have HB3 := Aside0.mk (below_then HB2.out HB2.out.size hb); clear hb; have k6_3 := (blk_cell (blk_below B0.out HB3.out) 6).trans rfl; have k7_3 := (blk_cell (blk_below B0.out HB3.out) 7).trans rfl; have k8_3 := (blk_cell (blk_below B0.out HB3.out) 8).trans rfl)
   | (go_at_call 54; refine (in_any _ _ _ _).mono ?_; rintro e w9 ⟨rfl, he⟩; subst he)
   | (go_at_call 107; refine (isSym_any _ _).mono ?_; rintro e w9 ⟨rfl, he⟩; subst he))
  go_ret
  first
   | exact ⟨by rw [HE.out]; rfl, below_then HX.out HX.out.size HB6.out⟩
   | exact ⟨by rw [HE.out]; rfl, below_then HX.out HX.out.size HB5.out⟩
   | exact ⟨by rw [HE.out]; rfl, below_then HX.out HX.out.size HB4.out⟩
   | exact ⟨by rw [HE.out]; rfl, below_then HX.out HX.out.size HB3.out⟩
   | exact ⟨by rw [HE.out]; rfl, below_then HX.out HX.out.size HB2.out⟩
end Go.Proofs.YtckblabkapeigaaGreat.Ox9

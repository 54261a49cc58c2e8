/- What is put into a list of occurrences comes to: many. -/
import Derived.Test.YtjeojdbfpncnkaaCe
set_option linter.unusedVariables false
set_option linter.unusedSimpArgs false
namespace Go.Proofs.Ytjeojdbfpncnkaa.Cf
open Go.RowKit Go.Proofs.YtjeojdbfpncnkaaW.PrintWords Go.Proofs.Ytjeojdbfpncnkaa.Wd Go.Proofs.Ytjeojdbfpncnkaa.Pu Go.Proofs.Ytjeojdbfpncnkaa.Ca Go.Proofs.Ytjeojdbfpncnkaa.Cp Go.Proofs.Ytjeojdbfpncnkaa.Cd Go.Proofs.Ytjeojdbfpncnkaa.Ci Go.Proofs.Ytjeojdbfpncnkaa.Ce

theorem box3 (w : World) (u0 u1 u2 : Value) (t : TypeId) : Below w.heap.size w (w.alloc (.cells #[u0, u1, u2] t)) ∧ (w.alloc (.cells #[u0, u1, u2] t)).cell? ⟨w.heap.size, 0, none⟩ = some u0 ∧
    (w.alloc (.cells #[u0, u1, u2] t)).cell? ⟨w.heap.size, 1, none⟩ = some u1 ∧ (w.alloc (.cells #[u0, u1, u2] t)).cell? ⟨w.heap.size, 2, none⟩ = some u2 := ⟨below_alloc (Below.refl _ _) _, by simp, by simp, by simp⟩
theorem take_succ_getD {α : Type} (l : List α) (k : Nat) (z : α) (h : k < l.length) : l.take (k + 1) = l.take k ++ [l.getD k z] := by
  rw [List.take_add_one, List.getD_eq_getElem?_getD, List.getElem?_eq_getElem h]; rfl
theorem len_putAll (l : List Occ) : ∀ os : List Occ, (putAll l os).length ≤ l.length + os.length := by
  intro os
  induction os generalizing l with
  | nil => simp [putAll]
  | cons x os ih =>
    rw [putAll]
    have := ih (put l x)
    have := len_put l x
    simp only [List.length_cons]
    omega

/-- a list in memory with its capacity -/
structure IsL (w : World) (l : List Occ) (A : Option Addr) (c : Nat) : Prop where
  cap : l.length ≤ c
  rd : kO.C w A l.length l
theorem IsL.below {w w' : World} {l : List Occ} {A : Option Addr} {c : Nat} (h : IsL w l A c) (hb : Below w.heap.size w w') : IsL w' l A c := ⟨h.cap, Kd.C_below h.rd hb⟩
/-- a list in its own new memory, the occurrences in it too -/
def OwnL (w : World) (base : Nat) (v : Value) (l : List Occ) : Prop := kO.R 25 w base (fun _ => True) v l

set_option maxRecDepth 100000 in
theorem putAll_any (A B : Option Addr) (c c2 : Nat) (l m : List Occ) (w : World) (hs : Sorted l) (hl : l.length + m.length ≤ 1048576) (hL : IsL w l A c) (hM : IsL w m B c2) :
    Calls Try.prog 60 #[.slice A l.length c, .slice B m.length c2] w fun e w' =>
      ∃ A' c', e = .returned (.slice A' (putAll l m).length c') ∧ IsL w' (putAll l m) A' c' ∧ Below w.heap.size w w' := by
  go_enter Try.func60, Try.ntmps60
  go_wp2
  go_loopw [0, 9] (fun vl vi wr => ∃ (k : Nat) (A' : Option Addr) (n c' : Nat), k ≤ m.length ∧ vi = .int .i64 k ∧ vl = .slice A' n c' ∧ Aside0 (n = (putAll l (m.take k)).length ∧ IsL wr (putAll l (m.take k)) A' c') ∧ Aside0 (Below w.heap.size w wr)) (fun _ vi _ => m.length - (intOf vi).toNat)
  case atStart => exact ⟨0, A, l.length, c, by omega, rfl, rfl, ⟨by simp [putAll], by simpa [putAll] using hL⟩, ⟨Below.refl _ _⟩⟩
  case round =>
    obtain ⟨k, A1, n, c1, hk, rfl, rfl, HI, HB⟩ := hrel
    by_cases hlt : k < m.length
    · obtain ⟨ad, A2, c3, rfl, ha, hb, hc, hl2, hC2⟩ := atO (hM.below HB.out).rd k hlt
      have hT := take_succ_getD m k zO hlt
      have hIs : IsO wr (m.getD k zO) A2 c3 := ⟨hl2, hC2⟩
      have hln := len_putAll l (m.take k)
      rw [List.length_take] at hln
      clear hl2 hC2
      generalize m.getD k zO = o at ha hb hc hIs hT
      have HT := Aside0.mk hT
      obtain ⟨hn, hL1⟩ := HI.out
      have HL := Aside0.mk hL1
      have hsp : Sorted (putAll l (m.take k)) := sorted_putAll hs
      have HE := Aside0.mk (show putAll l (m.take (k + 1)) = put (putAll l (m.take k)) o by rw [hT, putAll_append]; rfl)
      clear hT HI hL1
      generalize putAll l (m.take k) = L at *
      subst hn
      go_wp2_with ((go_at_call 42; refine (put_any A1 A2 c1 c3 L o _ hsp (by omega) HL.out.cap (HL.out.below (box3 _ _ _ _ _).1).rd (hIs.below (box3 _ _ _ _ _).1)).mono ?_; rintro e w2 ⟨A3, c4, rfl, h1, h2, h3⟩; have HB2 := Aside0.mk (below_then HB.out HB.out.size (below_then (box3 _ _ _ _ _).1 (box3 _ _ _ _ _).1.size h3)); have HL2 := Aside0.mk (IsL.mk h1 h2); clear h1 h2 h3))
      go_roundw
      case rel => exact ⟨k + 1, A3, _, c4, by omega, by go_num, rfl, ⟨by rw [HE.out], by rw [HE.out]; exact HL2.out⟩, HB2⟩
      case measure => simp [intOf]; omega
    · have hke : k = m.length := by omega
      subst hke
      have HL := HI.out
      rw [List.take_length] at HL
      obtain ⟨hn, HL⟩ := HL
      go_wp2
      go_ret
      exact ⟨A1, c1, by rw [← hn]; rfl, HL, HB.out⟩

set_option maxRecDepth 100000 in
theorem clone_any (A : Option Addr) (c : Nat) (o : Occ) (w : World) (ho : IsO w o A c) (hl : o.f2.length ≤ 1048576) :
    Calls Try.prog 77 #[.agg #[.int .i64 o.f0, .int .i64 o.f1, .slice A o.f2.length c]] w fun e w' =>
      ∃ v, e = .returned (.agg #[.int .i64 o.f0, .int .i64 o.f1, v]) ∧ (Kd.int .i64).R 3 w' w.heap.size (fun _ => True) v o.f2 ∧ Below w.heap.size w w' := by
  have hb1 := below_alloc (below_alloc (Below.refl w.heap.size w) (.cells #[.int .i64 o.f0, .int .i64 o.f1, .slice A o.f2.length c] 25)) (.cells #[.int .i64 0, .int .i64 0, .slice none 0 0] 25)
  have hr := Kd.C_below ho.2 hb1
  have b1 : ((w.alloc (.cells #[.int .i64 o.f0, .int .i64 o.f1, .slice A o.f2.length c] 25)).alloc (.cells #[.int .i64 0, .int .i64 0, .slice none 0 0] 25)).heap[w.heap.size]? = some (.cells #[.int .i64 o.f0, .int .i64 o.f1, .slice A o.f2.length c] 25 (0, 0)) := blk_alloc (blk_new _ _) _
  have b2 : ((w.alloc (.cells #[.int .i64 o.f0, .int .i64 o.f1, .slice A o.f2.length c] 25)).alloc (.cells #[.int .i64 0, .int .i64 0, .slice none 0 0] 25)).heap[w.heap.size + 1]? = some (.cells #[.int .i64 0, .int .i64 0, .slice none 0 0] 25 (0, 0)) := by
    have := blk_new (w.alloc (.cells #[.int .i64 o.f0, .int .i64 o.f1, .slice A o.f2.length c] 25)) (.cells #[.int .i64 0, .int .i64 0, .slice none 0 0] 25)
    simpa using this
  have hn1 : w.heap.size ≠ w.heap.size + 1 := by omega
  go_enter Try.func77, Try.ntmps77
  go_wp2_with (first
      | ((with_reducible refine gate_dst (N := 5) rfl ?_); refine Kd.R_append_rows (Kd.int .i64) (w0 := w) w.heap.size rfl _ _ 23 3 (.int .i64 0) 8 rfl Try.underlying23 Cc.infoI rfl (by decide) (by decide) (.slice none 0 0) [] _ _ _ _ (fun _ => True) (fun _ => False) rfl rfl (Kd.R_nil _ _ _ _ _) hr (fun _ _ h => h) (fun _ h => h.elim) (fun _ _ => trivial) hb1 hb1.size (by simp; omega) ?_; intro v2 w2 ho2 hb2 hg2 _; obtain ⟨A2, c2, rfl⟩ := Kd.R_slice ho2; have br := blk_grown b1 hg2 (by simp [Value.ownBlock]); have br2 := blk_grown b2 hg2 (by simp [Value.ownBlock]); have s0 := (blk_cell br 0).trans rfl; have s1 := (blk_cell br 1).trans rfl; have s2 := (blk_cell br 2).trans rfl; have hf2 := blk_frozen br 2; have q0 := (blk_cell br2 0).trans rfl; have q1 := (blk_cell br2 1).trans rfl; have q2 := (blk_cell br2 2).trans rfl; have g0 := blk_frozen br2 0; have g1 := blk_frozen br2 1; have g2 := blk_frozen br2 2; have HO := Aside0.mk ho2; have HB := Aside0.mk hb2; have HG := Aside0.mk hg2; clear ho2 hb2 hg2))
  have e1 := blk_far br2 (p := ⟨w.heap.size, 2, none⟩) (by simp) (.slice A2 ([] ++ o.f2).length c2)
  refine bodyPost_ret (results_cell_row rfl _ _ (w.heap.size + 1) 25 #[.int .i64 o.f0, .int .i64 o.f1, .slice A2 ([] ++ o.f2).length c2] (0, 0) _ rfl (blk_put (cs := #[.int .i64 o.f0, .int .i64 o.f1, .slice none 0 0]) (blk_put (cs := #[.int .i64 o.f0, .int .i64 0, .slice none 0 0]) (blk_put e1 0 _ rfl) 1 _ rfl) 2 _ rfl) Try.underlying25 rfl (by kernel_rfl)) rfl ?_
  have r0 := Kd.R_set HO.out br (by decide) 2 (.slice A2 ([] ++ o.f2).length c2)
  have r1 := Kd.R_set r0 e1 (by decide) 0 (.int .i64 o.f0)
  have d1 := blk_set e1 0 (.int .i64 o.f0)
  have r2 := Kd.R_set r1 d1 (by decide) 1 (.int .i64 o.f1)
  have d2 := blk_set d1 1 (.int .i64 o.f1)
  have r3 := Kd.R_set r2 d2 (by decide) 2 (.slice A2 ([] ++ o.f2).length c2)
  exact ⟨_, rfl, r3, (((HB.out.setCell (p := ⟨w.heap.size, 2, none⟩) (by simp) _).setCell (p := ⟨w.heap.size + 1, 0, none⟩) (by simp) _).setCell (p := ⟨w.heap.size + 1, 1, none⟩) (by simp) _).setCell (p := ⟨w.heap.size + 1, 2, none⟩) (by simp) _⟩

set_option maxRecDepth 100000 in
theorem cloneOccs_any (A : Option Addr) (c : Nat) (l : List Occ) (w : World) (hl : l.length ≤ 1048576) (hi : ∀ x ∈ l, x.f2.length ≤ 1048576) (hL : IsL w l A c) :
    Calls Try.prog 41 #[.slice A l.length c] w fun e w' =>
      ∃ v, e = .returned v ∧ Kd.S kO 25 w' w.heap.size (fun _ => True) v l ∧ Below w.heap.size w w' := by
  go_enter Try.func41, Try.ntmps41
  go_wp2
  go_loopw [3, 8] (fun vl' vi wr => ∃ (k : Nat) (vl : Value), k ≤ l.length ∧ vi = .int .i64 k ∧ vl = vl' ∧ Aside0 (Kd.S kO 25 wr w.heap.size (fun _ => True) vl (l.take k)) ∧ Aside0 (Below w.heap.size w wr)) (fun _ vi _ => l.length - (intOf vi).toNat)
  case atStart => exact ⟨0, _, by omega, rfl, rfl, ⟨by simpa using Kd.S_nil kO 25 w w.heap.size (fun _ => True)⟩, ⟨Below.refl _ _⟩⟩
  case round =>
    obtain ⟨k, vl, hk, rfl, rfl, HS, HB⟩ := hrel
    by_cases hlt : k < l.length
    · obtain ⟨ad, A2, c3, rfl, ha, hb, hc, hl2, hC2⟩ := atO (hL.below HB.out).rd k hlt
      have hT := take_succ_getD l k zO hlt
      have hIs : IsO wr (l.getD k zO) A2 c3 := ⟨hl2, hC2⟩
      have hid : (l.getD k zO).f2.length ≤ 1048576 := hi _ (by rw [List.getD_eq_getElem?_getD, List.getElem?_eq_getElem hlt]; exact List.getElem_mem _)
      have htl : (l.take k).length = k := by rw [List.length_take]; omega
      clear hl2 hC2
      generalize l.getD k zO = o at ha hb hc hIs hT hid
      have HT := Aside0.mk hT
      clear hT
      have hown : ∀ j, vl.ownBlock = some j → j < wr.heap.size := Kd.S_lt HS.out
      go_wp2_with (first
        | (go_at_call 77; refine (clone_any A2 c3 o _ (hIs.below (box3 _ _ _ _ _).1) hid).mono ?_; rintro e w2 ⟨v2, rfl, hr2, hb2⟩; have HR2 := Aside0.mk hr2; have HB2 := Aside0.mk (below_then (box3 _ _ _ _ _).1 (box3 _ _ _ _ _).1.size hb2); clear hr2 hb2)
        | ((with_reducible refine gate_dst (N := 16) rfl ?_); refine Kd.S_append kO (w0 := w) w.heap.size rfl _ _ 27 25 (.agg #[.int .i64 0, .int .i64 0, .slice none 0 0]) 40 rfl Try.underlying27 infoO rfl (by decide) (by decide) vl (l.take k) o [.int .i64 o.f0, .int .i64 o.f1, v2] (fun _ => True) (fun j => wr.heap.size ≤ j) rfl rfl (kO_mkM _ _ _ o (Kd.R_lower (Kd.R_mono (Kd.R_bound HR2.out) (fun j hj => by have h1 := hj.2.1; simp at h1; omega)) (Nat.le_trans HB.out.size (box3 _ _ _ _ _).1.size))) (fun j hj => ⟨trivial, fun h => by have := hown j h.symm; omega⟩) (fun _ _ => trivial) (Kd.S_below (Kd.S_mono (Kd.S_bound HS.out) (fun j hj => ⟨trivial, by have := hj.2.2.1; omega⟩)) HB2.out) (below_then HB.out HB.out.size HB2.out) (Nat.le_trans HB.out.size HB2.out.size) (by rw [htl]; omega) ?_; intro v3 w3 hs3 hb3 _ _; have HS3 := Aside0.mk hs3; have HB3 := Aside0.mk hb3; clear hs3 hb3))
      go_roundw
      case rel => exact ⟨k + 1, _, by omega, by go_num, rfl, ⟨by rw [HT.out]; exact HS3.out⟩, HB3⟩
      case measure => simp [intOf]; omega
    · have hke : k = l.length := by omega
      subst hke
      have HL := HS.out
      rw [List.take_length] at HL
      go_wp2
      go_ret
      exact ⟨_, rfl, HL, HB.out⟩
end Go.Proofs.Ytjeojdbfpncnkaa.Cf


/- Does a graph belong to an engine: the program's. Printed by genPa9.py. -/
import Derived.Test.YtckblabkapeigaaGreatNOz9
set_option linter.unusedVariables false
set_option linter.unusedSimpArgs false
namespace Go.Proofs.YtckblabkapeigaaGreat.Pa9
open Go.RowKit Go.Proofs.YtckblabkapeigaaGreatW.PrintWords Go.Proofs.YtckblabkapeigaaGreat.Ja Go.Proofs.YtckblabkapeigaaGreat.Jb Go.Proofs.YtckblabkapeigaaGreat.Jg Go.Proofs.YtckblabkapeigaaGreat.Jh Go.Proofs.YtckblabkapeigaaGreat.Ka Go.Proofs.YtckblabkapeigaaGreat.Kb Go.Proofs.YtckblabkapeigaaGreat.Ov9 Go.Proofs.YtckblabkapeigaaGreat.Ow9 Go.Proofs.YtckblabkapeigaaGreat.Ox9 Go.Proofs.YtckblabkapeigaaGreat.Oy9 Go.Proofs.YtckblabkapeigaaGreat.Oz9

/-- an engine's cells -/
abbrev eA (E0 E1 E2 E3 E4 : Option Addr) (m0 m1 m2 m3 m4 d0 d1 d2 d3 d4 : Nat) : Array Value := #[.slice E0 m0 d0, .slice E1 m1 d1, .slice E2 m2 d2, .slice E3 m3 d3, .slice E4 m4 d4]
/-- the last event of an occurrence -/
def lastB (x : TOcc) : Int := x.f2.getD (x.f2.length - 1) 0
def knownL (m : Nat) (l : List TOcc) : Bool := l.all (fun x => decide (lastB x < m))
def parts5 (n : TNode) : List (List TOcc) := [n.f4.f0, n.f4.f1, n.f5.f0, n.f5.f1, n.f6]
def nodeKnown (m : Nat) (n : TNode) : Bool := (parts5 n).all (knownL m)
def engGraphB (m : Nat) (en : Int) (g : TGraph) : Bool := graphB g && (!g.f4 && (decide (g.f2 = m) && (decide (g.f3 = en) && g.f1.all (nodeKnown m))))
theorem known_any_eq (m : Nat) (l : List TOcc) : l.any (fun x => decide (lastB x ≥ m)) = !knownL m l := by
 unfold knownL
 induction l with
 | nil => rfl
 | cons x xs ih =>
  rw [List.any_cons, List.all_cons, ih, Bool.not_and]
  congr 1
  by_cases h : lastB x < m
  ·rw [decide_eq_true h, decide_eq_false (by omega)]; rfl
  ·rw [decide_eq_false h, decide_eq_true (by omega)]; rfl
theorem ids_pos {l : List TOcc} (h : okL l = true) : ∀ x ∈ l, 0 < x.f2.length := fun x hx => by
 have h1 := ((Go.Proofs.YtckblabkapeigaaGreat.Pu.okOs_iff.1 h).1.all x hx).ne
 omega
theorem node_pos {n : TNode} (h : restN n = true) : ∀ l ∈ parts5 n, ∀ x ∈ l, 0 < x.f2.length := by
 unfold restN at h
 simp only [Bool.and_eq_true] at h
 obtain ⟨_, _, ⟨h1, h2⟩, ⟨h3, h4⟩, h5⟩ := h
 intro l hl
 unfold parts5 at hl
 simp only [List.mem_cons, List.not_mem_nil, or_false] at hl
 rcases hl with rfl | rfl | rfl | rfl | rfl
 ·exact ids_pos h1
 ·exact ids_pos h2
 ·exact ids_pos h3
 ·exact ids_pos h4
 ·exact ids_pos h5
theorem graph_pos {g : TGraph} (h : graphB g = true) : ∀ n ∈ g.f1, ∀ l ∈ parts5 n, ∀ x ∈ l, 0 < x.f2.length := fun n hn => by
 obtain ⟨i, hi, he⟩ := List.mem_iff_getElem.1 hn
 unfold graphB nodesTo at h
 rw [Bool.and_eq_true] at h
 have h1 := List.all_eq_true.1 h.1 i (List.mem_range.2 hi)
 unfold nodeAt at h1
 rw [List.getD_eq_getElem?_getD, List.getElem?_eq_getElem hi, he] at h1
 unfold nodeB at h1
 simp only [Option.getD_some, Bool.and_eq_true] at h1
 exact node_pos h1.2.2.1
set_option maxRecDepth 100000 in
theorem last_any (x : TOcc) (A2 : Option Addr) (c2 : Nat) (w : World) (hx : 0 < x.f2.length) (hI : IsS (Kd.int .i64) w x.f2 A2 c2) :
  Calls Tryz.prog 58 #[.agg #[.int .i64 x.f0, .int .i64 x.f1, .slice A2 x.f2.length c2]] w fun e w' => e = .returned (.int .i64 (lastB x)) ∧ Below w.heap.size w w' := by
 have hl := hI.len
 have hb0 := below_alloc (Below.refl w.heap.size w) (.cells #[.int .i64 x.f0, .int .i64 x.f1, .slice A2 x.f2.length c2] 54)
 have bX := blk_new w (.cells #[.int .i64 x.f0, .int .i64 x.f1, .slice A2 x.f2.length c2] 54)
 obtain ⟨ad, rfl, y0⟩ := atI (hI.below hb0) (x.f2.length - 1) (by omega)
 obtain ⟨n, hn⟩ : ∃ n, n = x.f2.length := ⟨_, rfl⟩
 have HE : Aside0 (x.f2.getD (n - 1) 0 = lastB x) := ⟨by rw [hn]; rfl⟩
 rw [← hn] at y0 bX hb0 hl hx ⊢
 generalize x.f2.getD (n - 1) 0 = v at y0 HE
 obtain ⟨W, hW⟩ : ∃ W, W = w.alloc (.cells #[.int .i64 x.f0, .int .i64 x.f1, .slice (some ad) n c2] 54) := ⟨_, rfl⟩
 rw [← hW] at hb0 bX y0
 have HW := Aside0.mk hW
 have HX := Aside0.mk hb0
 have p2 := (blk_cell bX 2).trans rfl
 have i0 : 0 ≤ (n : Int) - 1 := by omega
 have i1 : ((n : Int) - 1).toNat = n - 1 := by omega
 have i2 : (n : Int) - 1 < n := by omega
 clear hW hb0 bX hI hn
 go_enter Tryz.func58, Tryz.ntmps58
 go_upto_region 1 with fail
 rw [← HW.out]
 go_wp2
 go_ret
 exact ⟨by rw [← HE.out]; rfl, HX.out⟩
set_option maxRecDepth 100000 in
theorem known1_any (x : TOcc) (A2 : Option Addr) (c2 : Nat) (EB : Nat) (E0 : Option Addr) (m0 d0 : Nat) (E1 : Option Addr) (m1 d1 : Nat) (E2 : Option Addr) (m2 d2 : Nat) (E3 : Option Addr) (m3 d3 : Nat) (E4 : Option Addr) (m4 d4 : Nat) (w : World) (hx : 0 < x.f2.length) (hm : m2 ≤ 9223372036854775807) (hI : IsS (Kd.int .i64) w x.f2 A2 c2) (hE : w.heap[EB]? = some (.cells (eA E0 E1 E2 E3 E4 m0 m1 m2 m3 m4 d0 d1 d2 d3 d4) 36 (0, 0))) :
  Calls Tryz.prog 111 #[.agg #[.int .i64 x.f0, .int .i64 x.f1, .slice A2 x.f2.length c2], .pointer (some ⟨EB, 0, none⟩)] w fun e w' => e = .returned (.bool (decide (lastB x ≥ m2))) ∧ Below w.heap.size w w' := by
 have hb0 := below_alloc (Below.refl w.heap.size w) (.cells #[.int .i64 x.f0, .int .i64 x.f1, .slice A2 x.f2.length c2] 54)
 have bX := blk_new w (.cells #[.int .i64 x.f0, .int .i64 x.f1, .slice A2 x.f2.length c2] 54)
 have HI := Aside0.mk (hI.below hb0)
 have bE := blk_below hE hb0
 obtain ⟨W, hW⟩ : ∃ W, W = w.alloc (.cells #[.int .i64 x.f0, .int .i64 x.f1, .slice A2 x.f2.length c2] 54) := ⟨_, rfl⟩
 rw [← hW] at hb0 bX HI bE
 have HW := Aside0.mk hW
 have HX := Aside0.mk hb0
 have p0 := cellE ((blk_cell bX 0).trans rfl)
 have p1 := cellE ((blk_cell bX 1).trans rfl)
 have p2 := cellE ((blk_cell bX 2).trans rfl)
 have q2 := cellE ((blk_cell bE 2).trans rfl)
 have hk : ∀ s : Ext W, Calls Tryz.prog 58 #[.agg #[.int .i64 x.f0, .int .i64 x.f1, .slice A2 x.f2.length c2]] s.1 fun e w'' => e = .returned (.int .i64 (lastB x)) ∧ Below s.1.heap.size s.1 w'' := fun s => last_any x A2 c2 s.1 hx (HI.out.below s.2)
 clear hW hb0 bX hI hE bE hx
 generalize lastB x = v at hk ⊢
 go_enter Tryz.func111, Tryz.ntmps111
 go_upto_region 1 with fail
 rw [← HW.out]
 refine region_ext (W := W) (Below.refl _ _) (by kernel_rfl) (by kernel_rfl) ?_
 repeat (first | go_big_quiet_step ((go_at_call 58; exact calls_ext (hk _))) | quiet_step ((go_at_call 58; exact calls_ext (hk _))))
 refine wpQuiet_nil ?_
 rintro _ ⟨s, rfl⟩
 have HB2 := Aside0.mk s.2
 generalize s.1 = W2 at HB2 ⊢
 go_wp2
 go_ret
 exact ⟨rfl, below_then HX.out HX.out.size HB2.out⟩
set_option maxHeartbeats 2000000 in
set_option maxRecDepth 100000 in
theorem knw_idx (EB : Nat) (E0 : Option Addr) (m0 d0 : Nat) (E1 : Option Addr) (m1 d1 : Nat) (E2 : Option Addr) (m2 d2 : Nat) (E3 : Option Addr) (m3 d3 : Nat) (E4 : Option Addr) (m4 d4 : Nat) (hm : m2 ≤ 9223372036854775807) (A : Option Addr) (c : Nat) (l : List TOcc) (w : World) (hL : IsS kOcc w l A c) (hE : (World.heap w)[EB]? = some (.cells (eA E0 E1 E2 E3 E4 m0 m1 m2 m3 m4 d0 d1 d2 d3 d4) 36 (0, 0))) (hel : ∀ x ∈ l, 0 < x.f2.length) :
  Calls Tryz.prog 132 #[.slice A l.length c, .func (.func 111) #[] #[.pointer (some ⟨EB, 0, none⟩)]] w fun e w' => (∃ r : Int, e = .returned (.int .i64 r) ∧ decide (r ≥ 0) = l.any (fun x => decide (lastB x ≥ m2))) ∧ Below w.heap.size w w' := by
 have hn := hL.len
 have HL := Aside0.mk hL
 have EhE := Aside0.mk hE
 have HEL := Aside0.mk hel
 clear hL hE hel
 go_enter Tryz.func132, Tryz.ntmps132
 go_wp2
 go_loopw [8] (fun vi wr => ∃ (j : Nat), j ≤ l.length ∧ vi = .int .i64 j ∧ Aside0 ((l.take j).any (fun x => decide (lastB x ≥ m2)) = false) ∧ Aside0 (Below w.heap.size w wr)) (fun vi _ => l.length - (intOf vi).toNat)
 case atStart => exact ⟨0, Nat.zero_le _, rfl, ⟨by simp⟩, ⟨Below.refl _ _⟩⟩
 case round =>
  obtain ⟨j, hj, rfl, HA, HB⟩ := hrel
  by_cases hlt : j < l.length
  ·have g1 : decide (j < l.length) = true := decide_eq_true hlt
   have i1 : (j : Int) < l.length := by omega
   obtain ⟨ad, A2, c2, rfl, y0, y1, y2, j2⟩ := atOcc (HL.out.below HB.out) j hlt
   have HS : Aside0 ((l.take (j + 1)).any (fun x => decide (lastB x ≥ m2)) = ((l.take j).any (fun x => decide (lastB x ≥ m2)) || (fun x => decide (lastB x ≥ m2)) (l.getD j zOcc))) := ⟨by rw [take_snoc l j zOcc hlt, List.any_append]; simp⟩
   have HM : Aside0 (l.getD j zOcc ∈ l) := ⟨by rw [List.getD_eq_getElem?_getD, List.getElem?_eq_getElem hlt]; exact List.getElem_mem hlt⟩
   have HF : Aside0 ((fun x => decide (lastB x ≥ m2)) (l.getD j zOcc) = true → l.any (fun x => decide (lastB x ≥ m2)) = true) := ⟨fun h => List.any_eq_true.2 ⟨_, HM.out, h⟩⟩
   have HEO := Aside0.mk (HEL.out _ HM.out)
   have ehE : (World.heap wr)[EB]? = some (.cells (eA E0 E1 E2 E3 E4 m0 m1 m2 m3 m4 d0 d1 d2 d3 d4) 36 (0, 0)) := blk_below EhE.out HB.out
   generalize l.getD j zOcc = o at y0 y1 y2 j2 HS HF HEO
   have hcl : Calls Tryz.prog 111 #[.agg #[.int .i64 o.f0, .int .i64 o.f1, .slice A2 o.f2.length c2], .pointer (some ⟨EB, 0, none⟩)] wr (fun e w'' => e = .returned (.bool ((fun x => decide (lastB x ≥ m2)) o)) ∧ Below wr.heap.size wr w'') := known1_any o A2 c2 EB E0 m0 d0 E1 m1 d1 E2 m2 d2 E3 m3 d3 E4 m4 d4 wr HEO.out hm j2 ehE
   clear j2 ehE HM
   cases hd : (fun x => decide (lastB x ≥ m2)) o with
   | false =>
    have HE2 : Aside0 ((l.take (j + 1)).any (fun x => decide (lastB x ≥ m2)) = false) := ⟨by rw [HS.out, HA.out, hd]; rfl⟩
    rw [hd] at hcl
    clear hd
    go_wp2_with (go_at_call 111; refine hcl.mono ?_; rintro e w1 ⟨rfl, hb1⟩; have HB1 := Aside0.mk (below_then HB.out HB.out.size hb1); clear hb1)
    go_roundw
    case rel => exact ⟨j + 1, by omega, by go_num, HE2, HB1⟩
    case measure => simp [intOf]; omega
   | true =>
    have HF2 := Aside0.mk (HF.out hd)
    rw [hd] at hcl
    clear hd
    go_wp2_with (go_at_call 111; refine hcl.mono ?_; rintro e w1 ⟨rfl, hb1⟩; have HB1 := Aside0.mk (below_then HB.out HB.out.size hb1); clear hb1)
    go_ret
    exact ⟨⟨(j : Int), rfl, by rw [HF2.out]; exact decide_eq_true (by omega)⟩, HB1.out⟩
  ·have hke : j = l.length := by omega
   subst hke
   have g1 : decide (l.length < l.length) = false := decide_eq_false (by omega)
   have HF : Aside0 (l.any (fun x => decide (lastB x ≥ m2)) = false) := ⟨by have h := HA.out; rwa [List.take_length] at h⟩
   go_wp2
   go_ret
   exact ⟨⟨-1, rfl, by rw [HF.out]; decide⟩, HB.out⟩
set_option maxRecDepth 100000 in
theorem knw_has (EB : Nat) (E0 : Option Addr) (m0 d0 : Nat) (E1 : Option Addr) (m1 d1 : Nat) (E2 : Option Addr) (m2 d2 : Nat) (E3 : Option Addr) (m3 d3 : Nat) (E4 : Option Addr) (m4 d4 : Nat) (hm : m2 ≤ 9223372036854775807) (A : Option Addr) (c : Nat) (l : List TOcc) (w : World) (hL : IsS kOcc w l A c) (hE : (World.heap w)[EB]? = some (.cells (eA E0 E1 E2 E3 E4 m0 m1 m2 m3 m4 d0 d1 d2 d3 d4) 36 (0, 0))) (hel : ∀ x ∈ l, 0 < x.f2.length) :
  Calls Tryz.prog 110 #[.slice A l.length c, .func (.func 111) #[] #[.pointer (some ⟨EB, 0, none⟩)]] w fun e w' => e = .returned (.bool (l.any (fun x => decide (lastB x ≥ m2)))) ∧ Below w.heap.size w w' := by
 have HC := Aside0.mk (knw_idx EB E0 m0 d0 E1 m1 d1 E2 m2 d2 E3 m3 d3 E4 m4 d4 hm A c l w hL hE hel)
 clear hL hE hel
 go_enter Tryz.func110, Tryz.ntmps110
 go_wp2_with (go_at_call 132; refine HC.out.mono ?_; rintro e w2 ⟨⟨r, rfl, hr⟩, hb⟩; have HR := Aside0.mk hr; have HB2 := Aside0.mk hb; clear hr hb)
 go_ret
 exact ⟨by (rw [← HR.out]; rfl), HB2.out⟩
/-- a row of rows, read -/
def RdL (w : World) (ad : Addr) (ls : List (List TOcc)) : Prop := ∀ k, k < ls.length → ∃ A c, w.cell? (ad.add k) = some (.slice A (ls.getD k []).length c) ∧ IsS kOcc w (ls.getD k []) A c
theorem RdL.below {w w' : World} {ad : Addr} {ls : List (List TOcc)} (h : RdL w ad ls) (hb : Below w.heap.size w w') : RdL w' ad ls := fun k hk => by
 obtain ⟨A, c, h1, h2⟩ := h k hk
 exact ⟨A, c, pw_cell_below hb h1, h2.below hb⟩
set_option maxHeartbeats 2000000 in
set_option maxRecDepth 100000 in
theorem known_any (ad : Addr) (ls : List (List TOcc)) (E0 : Option Addr) (m0 d0 : Nat) (E1 : Option Addr) (m1 d1 : Nat) (E2 : Option Addr) (m2 d2 : Nat) (E3 : Option Addr) (m3 d3 : Nat) (E4 : Option Addr) (m4 d4 : Nat) (w : World) (hm : m2 ≤ 9223372036854775807) (hl : ls.length ≤ 1000) (hp : ∀ l ∈ ls, ∀ x ∈ l, 0 < x.f2.length) (hR : RdL w ad ls) :
  Calls Tryz.prog 86 #[.agg (eA E0 E1 E2 E3 E4 m0 m1 m2 m3 m4 d0 d1 d2 d3 d4), .slice (some ad) ls.length ls.length] w fun e w' => e = .returned (.bool (ls.all (knownL m2))) ∧ Below w.heap.size w w' := by
 have hb0 := below_alloc (Below.refl w.heap.size w) (.cells (eA E0 E1 E2 E3 E4 m0 m1 m2 m3 m4 d0 d1 d2 d3 d4) 36)
 have bX := blk_new w (.cells (eA E0 E1 E2 E3 E4 m0 m1 m2 m3 m4 d0 d1 d2 d3 d4) 36)
 have HR := Aside0.mk (hR.below hb0)
 have HP := Aside0.mk hp
 obtain ⟨W, hW⟩ : ∃ W, W = w.alloc (.cells (eA E0 E1 E2 E3 E4 m0 m1 m2 m3 m4 d0 d1 d2 d3 d4) 36) := ⟨_, rfl⟩
 rw [← hW] at hb0 bX HR
 have HW := Aside0.mk hW
 have HX := Aside0.mk hb0
 have BX := Aside0.mk bX
 clear hW hb0 bX hR hp
 go_enter Tryz.func86, Tryz.ntmps86
 go_upto_region 1 with fail
 rw [← HW.out]
 go_upto_region 2 with fail
 go_loopw [9] (fun vi wr => ∃ (j : Nat), j ≤ ls.length ∧ vi = .int .i64 j ∧ Aside0 ((ls.take j).all (knownL m2) = true) ∧ Aside0 (Below W.heap.size W wr)) (fun vi _ => ls.length - (intOf vi).toNat)
 case atStart => exact ⟨0, Nat.zero_le _, rfl, ⟨by simp⟩, ⟨Below.refl _ _⟩⟩
 case round =>
  obtain ⟨j, hj, rfl, HA, HB⟩ := hrel
  by_cases hlt : j < ls.length
  ·have g1 : decide (j < ls.length) = true := decide_eq_true hlt
   have i1 : (j : Int) < ls.length := by omega
   obtain ⟨A2, c2, y0, hI⟩ := HR.out.below HB.out j hlt
   have HS : Aside0 ((ls.take (j + 1)).all (knownL m2) = ((ls.take j).all (knownL m2) && knownL m2 (ls.getD j []))) := ⟨by rw [take_snoc ls j [] hlt, List.all_append]; simp⟩
   have hM : ls.getD j [] ∈ ls := by rw [List.getD_eq_getElem?_getD, List.getElem?_eq_getElem hlt]; exact List.getElem_mem hlt
   have HF : Aside0 (knownL m2 (ls.getD j []) = false → ls.all (knownL m2) = false) := ⟨fun h => List.all_eq_false.2 ⟨_, hM, by rw [h]; simp⟩⟩
   have HEO := Aside0.mk (HP.out _ hM)
   clear hM
   generalize ls.getD j [] = o at y0 hI HS HF HEO
   have HI := Aside0.mk hI
   clear hI
   cases hd : knownL m2 o with
   | true =>
    have HE2 : Aside0 ((ls.take (j + 1)).all (knownL m2) = true) := ⟨by rw [HS.out, HA.out, hd]; rfl⟩
    have HD : Aside0 (o.any (fun x => decide (lastB x ≥ m2)) = false) := ⟨by rw [known_any_eq, hd]; rfl⟩
    clear hd
    go_wp2_with (go_at_call 110; refine (knw_has w.heap.size E0 m0 d0 E1 m1 d1 E2 m2 d2 E3 m3 d3 E4 m4 d4 hm A2 c2 o _ HI.out (blk_below BX.out HB.out) HEO.out).mono ?_; rintro e w1 ⟨rfl, hb1⟩; rw [HD.out]; have HB1 := Aside0.mk (below_then HB.out HB.out.size hb1); clear hb1)
    go_roundw
    case rel => exact ⟨j + 1, by omega, by go_num, HE2, HB1⟩
    case measure => simp [intOf]; omega
   | false =>
    have HE2 := Aside0.mk (HF.out hd)
    have HD : Aside0 (o.any (fun x => decide (lastB x ≥ m2)) = true) := ⟨by rw [known_any_eq, hd]; rfl⟩
    clear hd
    go_wp2_with (go_at_call 110; refine (knw_has w.heap.size E0 m0 d0 E1 m1 d1 E2 m2 d2 E3 m3 d3 E4 m4 d4 hm A2 c2 o _ HI.out (blk_below BX.out HB.out) HEO.out).mono ?_; rintro e w1 ⟨rfl, hb1⟩; rw [HD.out]; have HB1 := Aside0.mk (below_then HB.out HB.out.size hb1); clear hb1)
    go_ret
    exact ⟨by rw [HE2.out]; rfl, below_then HX.out HX.out.size HB1.out⟩
  ·have hje : j = ls.length := by omega
   subst hje
   have g1 : decide (ls.length < ls.length) = false := decide_eq_false (by omega)
   have HE2 : Aside0 (ls.all (knownL m2) = true) := ⟨by have h := HA.out; rwa [List.take_length] at h⟩
   go_wp2
   go_ret
   exact ⟨by rw [HE2.out]; rfl, below_then HX.out HX.out.size HB.out⟩
set_option maxHeartbeats 4000000 in
set_option maxRecDepth 100000 in
theorem graphOk1_any (n : TNode) (A3 : Option Addr) (c3 : Nat) (A4 : Option Addr) (c4 : Nat) (A5 : Option Addr) (c5 : Nat) (A6 : Option Addr) (c6 : Nat) (A7 : Option Addr) (c7 : Nat) (A8 : Option Addr) (c8 : Nat) (EB : Nat) (E0 : Option Addr) (m0 d0 : Nat) (E1 : Option Addr) (m1 d1 : Nat) (E2 : Option Addr) (m2 d2 : Nat) (E3 : Option Addr) (m3 d3 : Nat) (E4 : Option Addr) (m4 d4 : Nat) (w : World) (hm : m2 ≤ 9223372036854775807) (hp : ∀ l ∈ parts5 n, ∀ x ∈ l, 0 < x.f2.length) (h3 : IsS (Kd.int .i64) w n.f3 A3 c3) (h4 : IsS kOcc w n.f4.f0 A4 c4) (h5 : IsS kOcc w n.f4.f1 A5 c5) (h6 : IsS kOcc w n.f5.f0 A6 c6) (h7 : IsS kOcc w n.f5.f1 A7 c7) (h8 : IsS kOcc w n.f6 A8 c8) (hE : w.heap[EB]? = some (.cells (eA E0 E1 E2 E3 E4 m0 m1 m2 m3 m4 d0 d1 d2 d3 d4) 36 (0, 0))) :
  Calls Tryz.prog 85 #[.agg #[.int .i64 n.f0, .int .i64 n.f1, .int .i64 n.f2, .slice A3 n.f3.length c3, .slice A4 n.f4.f0.length c4, .slice A5 n.f4.f1.length c5, .slice A6 n.f5.f0.length c6, .slice A7 n.f5.f1.length c7, .slice A8 n.f6.length c8, .int .i64 n.f7], .pointer (some ⟨EB, 0, none⟩)] w fun e w' => e = .returned (.bool (!nodeKnown m2 n)) ∧ Below w.heap.size w w' := by
 have hb0 := below_alloc (Below.refl w.heap.size w) (.cells #[.int .i64 n.f0, .int .i64 n.f1, .int .i64 n.f2, .slice A3 n.f3.length c3, .slice A4 n.f4.f0.length c4, .slice A5 n.f4.f1.length c5, .slice A6 n.f5.f0.length c6, .slice A7 n.f5.f1.length c7, .slice A8 n.f6.length c8, .int .i64 n.f7] 126)
 have bX := blk_new w (.cells #[.int .i64 n.f0, .int .i64 n.f1, .int .i64 n.f2, .slice A3 n.f3.length c3, .slice A4 n.f4.f0.length c4, .slice A5 n.f4.f1.length c5, .slice A6 n.f5.f0.length c6, .slice A7 n.f5.f1.length c7, .slice A8 n.f6.length c8, .int .i64 n.f7] 126)
 have bE := blk_below hE hb0
 have H3 := Aside0.mk (h3.below hb0)
 have H4 := Aside0.mk (h4.below hb0)
 have H5 := Aside0.mk (h5.below hb0)
 have H6 := Aside0.mk (h6.below hb0)
 have H7 := Aside0.mk (h7.below hb0)
 have H8 := Aside0.mk (h8.below hb0)
 clear h3 h4 h5 h6 h7 h8
 have HP := Aside0.mk hp
 obtain ⟨W, hW⟩ : ∃ W, W = w.alloc (.cells #[.int .i64 n.f0, .int .i64 n.f1, .int .i64 n.f2, .slice A3 n.f3.length c3, .slice A4 n.f4.f0.length c4, .slice A5 n.f4.f1.length c5, .slice A6 n.f5.f0.length c6, .slice A7 n.f5.f1.length c7, .slice A8 n.f6.length c8, .int .i64 n.f7] 126) := ⟨_, rfl⟩
 rw [← hW] at hb0 bX bE H3 H4 H5 H6 H7 H8
 have HW := Aside0.mk hW
 have HX := Aside0.mk hb0
 have p4 := (blk_cell bX 4).trans rfl
 have p5 := (blk_cell bX 5).trans rfl
 have p6 := (blk_cell bX 6).trans rfl
 have p7 := (blk_cell bX 7).trans rfl
 have p8 := (blk_cell bX 8).trans rfl
 have q0 := (blk_cell bE 0).trans rfl
 have q1 := (blk_cell bE 1).trans rfl
 have q2 := (blk_cell bE 2).trans rfl
 have q3 := (blk_cell bE 3).trans rfl
 have q4 := (blk_cell bE 4).trans rfl
 have h5b := below_alloc (Below.refl W.heap.size W) (.cells #[.slice A4 n.f4.f0.length c4, .slice A5 n.f4.f1.length c5, .slice A6 n.f5.f0.length c6, .slice A7 n.f5.f1.length c7, .slice A8 n.f6.length c8] 120)
 have b5 := blk_new W (.cells #[.slice A4 n.f4.f0.length c4, .slice A5 n.f4.f1.length c5, .slice A6 n.f5.f0.length c6, .slice A7 n.f5.f1.length c7, .slice A8 n.f6.length c8] 120)
 have HR : Aside0 (RdL (W.alloc (.cells #[.slice A4 n.f4.f0.length c4, .slice A5 n.f4.f1.length c5, .slice A6 n.f5.f0.length c6, .slice A7 n.f5.f1.length c7, .slice A8 n.f6.length c8] 120)) ⟨W.heap.size, 0, none⟩ (parts5 n)) := ⟨fun k hk => by
  have hk5 : k < 5 := hk
  rcases (show k = 0 ∨ k = 1 ∨ k = 2 ∨ k = 3 ∨ k = 4 by omega) with rfl | rfl | rfl | rfl | rfl
  ·exact ⟨A4, c4, by rw [add_plain]; exact (blk_cell b5 0).trans rfl, H4.out.below h5b⟩
  ·exact ⟨A5, c5, by rw [add_plain]; exact (blk_cell b5 1).trans rfl, H5.out.below h5b⟩
  ·exact ⟨A6, c6, by rw [add_plain]; exact (blk_cell b5 2).trans rfl, H6.out.below h5b⟩
  ·exact ⟨A7, c7, by rw [add_plain]; exact (blk_cell b5 3).trans rfl, H7.out.below h5b⟩
  ·exact ⟨A8, c8, by rw [add_plain]; exact (blk_cell b5 4).trans rfl, H8.out.below h5b⟩⟩
 have H5B := Aside0.mk h5b
 clear hW hb0 bX hE bE h5b b5 hp
 go_enter Tryz.func85, Tryz.ntmps85
 go_upto_region 1 with fail
 rw [← HW.out]
 go_wp2_with (go_at_call 86; refine (known_any ⟨W.heap.size, 0, none⟩ (parts5 n) E0 m0 d0 E1 m1 d1 E2 m2 d2 E3 m3 d3 E4 m4 d4 _ hm (by show 5 ≤ 1000; decide) HP.out HR.out).mono ?_; rintro e w2 ⟨rfl, hb⟩; have HB2 := Aside0.mk (below_then HX.out HX.out.size (below_then H5B.out H5B.out.size hb)); clear hb)
 go_ret
 exact ⟨rfl, HB2.out⟩
set_option maxHeartbeats 2000000 in
set_option maxRecDepth 100000 in
theorem gnk_idx (EB : Nat) (E0 : Option Addr) (m0 d0 : Nat) (E1 : Option Addr) (m1 d1 : Nat) (E2 : Option Addr) (m2 d2 : Nat) (E3 : Option Addr) (m3 d3 : Nat) (E4 : Option Addr) (m4 d4 : Nat) (hm : m2 ≤ 9223372036854775807) (A : Option Addr) (c : Nat) (l : List TNode) (w : World) (hL : IsS kNode w l A c) (hE : (World.heap w)[EB]? = some (.cells (eA E0 E1 E2 E3 E4 m0 m1 m2 m3 m4 d0 d1 d2 d3 d4) 36 (0, 0))) (hel : ∀ x ∈ l, ∀ l ∈ parts5 x, ∀ y ∈ l, 0 < y.f2.length) :
  Calls Tryz.prog 109 #[.slice A l.length c, .func (.func 85) #[] #[.pointer (some ⟨EB, 0, none⟩)]] w fun e w' => (∃ r : Int, e = .returned (.int .i64 r) ∧ decide (r ≥ 0) = l.any (fun x => !nodeKnown m2 x)) ∧ Below w.heap.size w w' := by
 have hn := hL.len
 have HL := Aside0.mk hL
 have EhE := Aside0.mk hE
 have HEL := Aside0.mk hel
 clear hL hE hel
 go_enter Tryz.func109, Tryz.ntmps109
 go_wp2
 go_loopw [8] (fun vi wr => ∃ (j : Nat), j ≤ l.length ∧ vi = .int .i64 j ∧ Aside0 ((l.take j).any (fun x => !nodeKnown m2 x) = false) ∧ Aside0 (Below w.heap.size w wr)) (fun vi _ => l.length - (intOf vi).toNat)
 case atStart => exact ⟨0, Nat.zero_le _, rfl, ⟨by simp⟩, ⟨Below.refl _ _⟩⟩
 case round =>
  obtain ⟨j, hj, rfl, HA, HB⟩ := hrel
  by_cases hlt : j < l.length
  ·have g1 : decide (j < l.length) = true := decide_eq_true hlt
   have i1 : (j : Int) < l.length := by omega
   obtain ⟨ad, A3, c3, A4, c4, A5, c5, A6, c6, A7, c7, A8, c8, rfl, y0, y1, y2, y3, y4, y5, y6, y7, y8, y9, j3, j4, j5, j6, j7, j8⟩ := atNode (HL.out.below HB.out) j hlt
   have HS : Aside0 ((l.take (j + 1)).any (fun x => !nodeKnown m2 x) = ((l.take j).any (fun x => !nodeKnown m2 x) || (fun x => !nodeKnown m2 x) (l.getD j zNode))) := ⟨by rw [take_snoc l j zNode hlt, List.any_append]; simp⟩
   have HM : Aside0 (l.getD j zNode ∈ l) := ⟨by rw [List.getD_eq_getElem?_getD, List.getElem?_eq_getElem hlt]; exact List.getElem_mem hlt⟩
   have HF : Aside0 ((fun x => !nodeKnown m2 x) (l.getD j zNode) = true → l.any (fun x => !nodeKnown m2 x) = true) := ⟨fun h => List.any_eq_true.2 ⟨_, HM.out, h⟩⟩
   have HEO := Aside0.mk (HEL.out _ HM.out)
   have ehE : (World.heap wr)[EB]? = some (.cells (eA E0 E1 E2 E3 E4 m0 m1 m2 m3 m4 d0 d1 d2 d3 d4) 36 (0, 0)) := blk_below EhE.out HB.out
   generalize l.getD j zNode = o at y0 y1 y2 y3 y4 y5 y6 y7 y8 y9 j3 j4 j5 j6 j7 j8 HS HF HEO
   have hcl : Calls Tryz.prog 85 #[.agg #[.int .i64 o.f0, .int .i64 o.f1, .int .i64 o.f2, .slice A3 o.f3.length c3, .slice A4 o.f4.f0.length c4, .slice A5 o.f4.f1.length c5, .slice A6 o.f5.f0.length c6, .slice A7 o.f5.f1.length c7, .slice A8 o.f6.length c8, .int .i64 o.f7], .pointer (some ⟨EB, 0, none⟩)] wr (fun e w'' => e = .returned (.bool ((fun x => !nodeKnown m2 x) o)) ∧ Below wr.heap.size wr w'') := graphOk1_any o A3 c3 A4 c4 A5 c5 A6 c6 A7 c7 A8 c8 EB E0 m0 d0 E1 m1 d1 E2 m2 d2 E3 m3 d3 E4 m4 d4 wr hm HEO.out j3 j4 j5 j6 j7 j8 ehE
   clear j3 j4 j5 j6 j7 j8 ehE HM
   cases hd : (fun x => !nodeKnown m2 x) o with
   | false =>
    have HE2 : Aside0 ((l.take (j + 1)).any (fun x => !nodeKnown m2 x) = false) := ⟨by rw [HS.out, HA.out, hd]; rfl⟩
    rw [hd] at hcl
    clear hd
    go_wp2_with (go_at_call 85; refine hcl.mono ?_; rintro e w1 ⟨rfl, hb1⟩; have HB1 := Aside0.mk (below_then HB.out HB.out.size hb1); clear hb1)
    go_roundw
    case rel => exact ⟨j + 1, by omega, by go_num, HE2, HB1⟩
    case measure => simp [intOf]; omega
   | true =>
    have HF2 := Aside0.mk (HF.out hd)
    rw [hd] at hcl
    clear hd
    go_wp2_with (go_at_call 85; refine hcl.mono ?_; rintro e w1 ⟨rfl, hb1⟩; have HB1 := Aside0.mk (below_then HB.out HB.out.size hb1); clear hb1)
    go_ret
    exact ⟨⟨(j : Int), rfl, by rw [HF2.out]; exact decide_eq_true (by omega)⟩, HB1.out⟩
  ·have hke : j = l.length := by omega
   subst hke
   have g1 : decide (l.length < l.length) = false := decide_eq_false (by omega)
   have HF : Aside0 (l.any (fun x => !nodeKnown m2 x) = false) := ⟨by have h := HA.out; rwa [List.take_length] at h⟩
   go_wp2
   go_ret
   exact ⟨⟨-1, rfl, by rw [HF.out]; decide⟩, HB.out⟩
set_option maxRecDepth 100000 in
theorem gnk_has (EB : Nat) (E0 : Option Addr) (m0 d0 : Nat) (E1 : Option Addr) (m1 d1 : Nat) (E2 : Option Addr) (m2 d2 : Nat) (E3 : Option Addr) (m3 d3 : Nat) (E4 : Option Addr) (m4 d4 : Nat) (hm : m2 ≤ 9223372036854775807) (A : Option Addr) (c : Nat) (l : List TNode) (w : World) (hL : IsS kNode w l A c) (hE : (World.heap w)[EB]? = some (.cells (eA E0 E1 E2 E3 E4 m0 m1 m2 m3 m4 d0 d1 d2 d3 d4) 36 (0, 0))) (hel : ∀ x ∈ l, ∀ l ∈ parts5 x, ∀ y ∈ l, 0 < y.f2.length) :
  Calls Tryz.prog 84 #[.slice A l.length c, .func (.func 85) #[] #[.pointer (some ⟨EB, 0, none⟩)]] w fun e w' => e = .returned (.bool (l.any (fun x => !nodeKnown m2 x))) ∧ Below w.heap.size w w' := by
 have HC := Aside0.mk (gnk_idx EB E0 m0 d0 E1 m1 d1 E2 m2 d2 E3 m3 d3 E4 m4 d4 hm A c l w hL hE hel)
 clear hL hE hel
 go_enter Tryz.func84, Tryz.ntmps84
 go_wp2_with (go_at_call 109; refine HC.out.mono ?_; rintro e w2 ⟨⟨r, rfl, hr⟩, hb⟩; have HR := Aside0.mk hr; have HB2 := Aside0.mk hb; clear hr hb)
 go_ret
 exact ⟨by (rw [← HR.out]; rfl), HB2.out⟩
end Go.Proofs.YtckblabkapeigaaGreat.Pa9

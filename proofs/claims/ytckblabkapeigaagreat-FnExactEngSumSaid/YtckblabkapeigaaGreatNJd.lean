
/- Copies of expressions: the laws' own functions. -/
import Derived.Test.YtckblabkapeigaaGreatNJc
set_option linter.unusedVariables false
set_option linter.unusedSimpArgs false
namespace Go.Proofs.YtckblabkapeigaaGreat.Jd
open Go.RowKit Go.Proofs.YtckblabkapeigaaGreatW.PrintWords Go.Proofs.YtckblabkapeigaaGreat.Ja Go.Proofs.YtckblabkapeigaaGreat.Jb Go.Proofs.YtckblabkapeigaaGreat.Jc

abbrev SE (w : World) (base : Nat) (ok : Nat → Prop) (v : Value) (l : List Ex) : Prop := Kd.S (kE 50) 50 w base ok v l
theorem infoE : (Tryz.prog.info? 50).map (fun i => (i.zero, i.size, i.bytes)) = some (some (.agg #[.int .i64 0, .int .i64 0, .int .i64 0, .slice none 0 0]), 4, 48) := by kernel_rfl
def set4 (w : World) (G : Nat) (u0 u1 u2 u3 : Value) : World := (((w.setCell ⟨G, 0, none⟩ u0).setCell ⟨G, 1, none⟩ u1).setCell ⟨G, 2, none⟩ u2).setCell ⟨G, 3, none⟩ u3
theorem set4_blk {w : World} {G : Nat} {t : TypeId} {z0 z1 z2 z3 : Value} (u0 u1 u2 u3 : Value) (b : w.heap[G]? = some (.cells #[z0, z1, z2, z3] t (0, 0))) : (set4 w G u0 u1 u2 u3).heap[G]? = some (.cells #[u0, u1, u2, u3] t (0, 0)) :=
 blk_put (cs := #[u0, u1, u2, z3]) (blk_put (cs := #[u0, u1, z2, z3]) (blk_put (cs := #[u0, z1, z2, z3]) (blk_put b 0 _ rfl) 1 _ rfl) 2 _ rfl) 3 _ rfl
theorem set4_below {w0 w : World} {B G : Nat} (h : Below B w0 w) (hG : B ≤ G) (u0 u1 u2 u3 : Value) : Below B w0 (set4 w G u0 u1 u2 u3) := (((h.setCell (p := ⟨G, 0, none⟩) hG _).setCell (p := ⟨G, 1, none⟩) hG _).setCell (p := ⟨G, 2, none⟩) hG _).setCell (p := ⟨G, 3, none⟩) hG _
theorem set4_S {w : World} {base G : Nat} {ok : Nat → Prop} {v : Value} {xs : List Ex} (h : SE w base ok v xs) (hok : ∀ k, ok k → k ≠ G) (u0 u1 u2 u3 : Value) : SE (set4 w G u0 u1 u2 u3) base ok v xs :=
 Kd.S_far (p := ⟨G, 3, none⟩) (Kd.S_far (p := ⟨G, 2, none⟩) (Kd.S_far (p := ⟨G, 1, none⟩) (Kd.S_far (p := ⟨G, 0, none⟩) h hok u0) hok u1) hok u2) hok u3
def ToOutE (w w' : World) (f0 f1 f2 : Int) (l : List Ex) (e : Ending) : Prop := ∃ v, e = .returned (.agg #[.int .i64 f0, .int .i64 f1, .int .i64 f2, v]) ∧ SE w' w.heap.size (fun _ => True) v l ∧ Below w.heap.size w w'
def ToOutL (w w' : World) (l : List Ex) (e : Ending) : Prop := ∃ v, e = .returned v ∧ SE w' w.heap.size (fun _ => True) v l ∧ Below w.heap.size w w'
/-- rows made behind a box, and the box -/
theorem S_behind {w w3 : World} {g : Nat} {ok : Nat → Prop} {v : Value} {xs : List Ex} {base : Nat} (h : SE w3 w.heap.size ok v xs) (hg : g < w.heap.size) (hb : base ≤ w.heap.size) : SE w3 base (fun k => g < k) v xs :=
 Kd.S_lower (Kd.S_mono (Kd.S_bound h) (fun k hk => Nat.lt_of_lt_of_le hg hk.2.1)) hb
set_option maxHeartbeats 1000000 in
set_option maxRecDepth 100000 in
theorem toEx_of (f0 f1 f2 : Int) (A : Option Addr) (c : Nat) (l : List Ex) (w : World) (hL : IsEL 50 w l A c)
  (hS : ∀ w', IsEL 50 w' l A c → Calls Tryz.prog 101 #[.slice A l.length c] w' fun e w'' => ToOutL w' w'' l e) :
  Calls Tryz.prog 74 #[X f0 f1 f2 A l.length c] w fun e w' => ToOutE w w' f0 f1 f2 l e := by
 obtain ⟨hb0, b0, b1, b2⟩ := boxes3 w #[.int .i64 f0, .int .i64 f1, .int .i64 f2, .slice A l.length c] #[.int .i64 0, .int .i64 0, .int .i64 0, .slice none 0 0] #[.int .i64 0, .int .i64 0, .int .i64 0, .slice none 0 0] 73 50 50
 have HL := Aside0.mk hL
 have HS := Aside0.mk hS
 clear hL hS
 go_enter Tryz.func74, Tryz.ntmps74
 go_upto_region 2 with fail
 generalize ((w.alloc (.cells #[.int .i64 f0, .int .i64 f1, .int .i64 f2, .slice A l.length c] 73)).alloc (.cells #[.int .i64 0, .int .i64 0, .int .i64 0, .slice none 0 0] 50)).alloc (.cells #[.int .i64 0, .int .i64 0, .int .i64 0, .slice none 0 0] 50) = W at hb0 b0 b1 b2 ⊢
 have p0 := (blk_cell b0 0).trans rfl
 have z0 := blk_frozen b2 0
 have q0 := (blk_cell b2 0).trans rfl
 go_upto_region 3 with fail
 have d0 := blk_far b0 (p := ⟨w.heap.size + 1 + 1, 0, none⟩) (by simp; omega) (.int .i64 f0)
 have d1 := blk_far b1 (p := ⟨w.heap.size + 1 + 1, 0, none⟩) (by simp) (.int .i64 f0)
 have d2 : (W.setCell ⟨w.heap.size + 1 + 1, 0, none⟩ (.int .i64 f0)).heap[w.heap.size + 1 + 1]? = some (.cells #[.int .i64 f0, .int .i64 0, .int .i64 0, .slice none 0 0] 50 (0, 0)) := blk_put b2 0 _ rfl
 have hb1 := hb0.setCell (p := ⟨w.heap.size + 1 + 1, 0, none⟩) (by simp; omega) (.int .i64 f0)
 clear p0 z0 q0 hb0 b0 b1 b2
 generalize W.setCell ⟨w.heap.size + 1 + 1, 0, none⟩ (.int .i64 f0) = W1 at d0 d1 d2 hb1 ⊢
 have p1 := (blk_cell d0 1).trans rfl
 have z1 := blk_frozen d2 1
 have q1 := (blk_cell d2 1).trans rfl
 go_upto_region 4 with fail
 have e0 := blk_far d0 (p := ⟨w.heap.size + 1 + 1, 1, none⟩) (by simp; omega) (.int .i64 f1)
 have e1 := blk_far d1 (p := ⟨w.heap.size + 1 + 1, 1, none⟩) (by simp) (.int .i64 f1)
 have e2 : (W1.setCell ⟨w.heap.size + 1 + 1, 1, none⟩ (.int .i64 f1)).heap[w.heap.size + 1 + 1]? = some (.cells #[.int .i64 f0, .int .i64 f1, .int .i64 0, .slice none 0 0] 50 (0, 0)) := blk_put d2 1 _ rfl
 have hb2 := hb1.setCell (p := ⟨w.heap.size + 1 + 1, 1, none⟩) (by simp; omega) (.int .i64 f1)
 clear p1 z1 q1 hb1 d0 d1 d2
 generalize W1.setCell ⟨w.heap.size + 1 + 1, 1, none⟩ (.int .i64 f1) = W2 at e0 e1 e2 hb2 ⊢
 have p2 := (blk_cell e0 2).trans rfl
 have z2 := blk_frozen e2 2
 have q2 := (blk_cell e2 2).trans rfl
 go_upto_region 5 with fail
 have k0 := blk_far e0 (p := ⟨w.heap.size + 1 + 1, 2, none⟩) (by simp; omega) (.int .i64 f2)
 have k1 := blk_far e1 (p := ⟨w.heap.size + 1 + 1, 2, none⟩) (by simp) (.int .i64 f2)
 have k2 : (W2.setCell ⟨w.heap.size + 1 + 1, 2, none⟩ (.int .i64 f2)).heap[w.heap.size + 1 + 1]? = some (.cells #[.int .i64 f0, .int .i64 f1, .int .i64 f2, .slice none 0 0] 50 (0, 0)) := blk_put e2 2 _ rfl
 have hb3 := hb2.setCell (p := ⟨w.heap.size + 1 + 1, 2, none⟩) (by simp; omega) (.int .i64 f2)
 clear p2 z2 q2 hb2 e0 e1 e2
 generalize W2.setCell ⟨w.heap.size + 1 + 1, 2, none⟩ (.int .i64 f2) = W3 at k0 k1 k2 hb3 ⊢
 have p3 := (blk_cell k0 3).trans rfl
 have HL2 := Aside0.mk (HL.out.below hb3)
 have HB2 := Aside0.mk hb3
 have HLT := Aside0.mk (blk_lt k2)
 clear hb3
 go_upto_region 6 with (go_at_call 101; refine (HS.out _ HL2.out).mono ?_; rintro e w3 ⟨v3, rfl, hr3, hb3⟩; obtain ⟨A3, c3, rfl⟩ := Kd.S_slice hr3; have z2 := blk_frozen (blk_below k2 hb3) 3; have q2 := (blk_cell (blk_below k2 hb3) 3).trans rfl; have y1 := blk_below k1 hb3; have y2 := blk_below k2 hb3; have HR3 := Aside0.mk (S_behind hr3 HLT.out HB2.out.size); have HB3 := Aside0.mk (below_then HB2.out HB2.out.size hb3); clear hr3 hb3)
 clear k0 k1 k2 p3
 have g1 := blk_far y1 (p := ⟨w.heap.size + 1 + 1, 3, none⟩) (by simp) (.slice A3 l.length c3)
 have g2 : (w3.setCell ⟨w.heap.size + 1 + 1, 3, none⟩ (.slice A3 l.length c3)).heap[w.heap.size + 1 + 1]? = some (.cells #[.int .i64 f0, .int .i64 f1, .int .i64 f2, .slice A3 l.length c3] 50 (0, 0)) := blk_put y2 3 _ rfl
 have HB4 := Aside0.mk (HB3.out.setCell (p := ⟨w.heap.size + 1 + 1, 3, none⟩) (by simp; omega) (.slice A3 l.length c3))
 have HR4 := Aside0.mk (Kd.S_far (p := ⟨w.heap.size + 1 + 1, 3, none⟩) HR3.out (fun k hk => Nat.ne_of_gt hk) (.slice A3 l.length c3))
 clear y1 y2 z2 q2
 generalize w3.setCell ⟨w.heap.size + 1 + 1, 3, none⟩ (.slice A3 l.length c3) = W4 at g1 g2 HB4 HR4 ⊢
 have r0 := (blk_cell g2 0).trans rfl
 have r1 := (blk_cell g2 1).trans rfl
 have r2 := (blk_cell g2 2).trans rfl
 have r3 := (blk_cell g2 3).trans rfl
 have s0 := (blk_cell g1 0).trans rfl
 have s1 := (blk_cell g1 1).trans rfl
 have s2 := (blk_cell g1 2).trans rfl
 have s3 := (blk_cell g1 3).trans rfl
 have t0 := blk_frozen g1 0
 have t1 := blk_frozen g1 1
 have t2 := blk_frozen g1 2
 have t3 := blk_frozen g1 3
 go_wp2
 refine bodyPost_ret (results_cell_row rfl _ _ (w.heap.size + 1) 50 #[.int .i64 f0, .int .i64 f1, .int .i64 f2, .slice A3 l.length c3] (0, 0) _ rfl (set4_blk _ _ _ _ g1) Tryz.underlying50 rfl (by kernel_rfl)) rfl ?_
 exact ⟨_, rfl, Kd.S_mono (set4_S (G := w.heap.size + 1) HR4.out (fun k hk => Nat.ne_of_gt (Nat.lt_trans (Nat.lt_succ_self _) hk)) _ _ _ _) (fun _ _ => trivial), set4_below HB4.out (by omega) _ _ _ _⟩
set_option maxHeartbeats 2000000 in
set_option maxRecDepth 100000 in
theorem toExS_of (A : Option Addr) (c : Nat) (l : List Ex) (w : World) (hl : cntL l ≤ 1048576) (hL : IsEL 50 w l A c)
  (hE : ∀ x, x ∈ l → ∀ A c w', IsEL 50 w' x.f3 A c → Calls Tryz.prog 74 #[X x.f0 x.f1 x.f2 A x.f3.length c] w' fun e w'' => ToOutE w' w'' x.f0 x.f1 x.f2 x.f3 e) :
  Calls Tryz.prog 101 #[.slice A l.length c] w fun e w' => ToOutL w w' l e := by
 have hlc := len_le_cnt l
 have hll : l.length ≤ 1048576 := by omega
 have hn : (0 : Int) ≤ l.length := by omega
 have hlb : ((l.length : Int)).toNat * 48 ≤ 281474976710656 := by omega
 have HL := Aside0.mk hL
 have HE := Aside0.mk hE
 clear hL hE hlc hl
 go_enter Tryz.func101, Tryz.ntmps101
 go_wp2_with ((with_reducible refine gate_dst (N := 7) rfl ?_); refine Kd.S_make (kE 50) (w0 := w) w.heap.size 50 rfl (N := 7) rfl 48 _ _ rfl (l.length : Int) rfl rfl Tryz.underlying48 (.agg #[.int .i64 0, .int .i64 0, .int .i64 0, .slice none 0 0]) 48 infoE rfl (by decide) (by omega) zE (ok := fun _ => True) (okp := fun _ => True) (kE_mkM zE (Kd.S_nil _ _ _ _ _)) (fun _ hk => hk) trivial hn hlb (Below.refl _ _) (Nat.le_refl _) ?_; intro v7 w7 hr7 hb7 hg7 _; simp only [Int.toNat_natCast] at hr7; have HR := Aside0.mk hr7; have HB := Aside0.mk hb7; clear hr7 hb7 hg7)
 clear hlb hn
 go_loopw [4] (fun vi wr => ∃ k : Nat, k ≤ l.length ∧ vi = .int .i64 k ∧ Aside0 (SE wr w.heap.size (fun _ => True) v7 (l.take k ++ (List.replicate l.length zE).drop k)) ∧ Aside0 (Below w.heap.size w wr)) (fun vi _ => l.length - (intOf vi).toNat)
 case atStart => exact ⟨0, Nat.zero_le _, rfl, by simpa using HR, HB⟩
 case round =>
  clear HR HB
  obtain ⟨k, hk, rfl, HR, HB⟩ := hrel
  by_cases hlt : k < l.length
  ·have g1 : decide (k < l.length) = true := decide_eq_true hlt
   have i1 : (k : Int) < l.length := by omega
   have hlen : (l.take k ++ (List.replicate l.length zE).drop k).length = l.length := by simp; omega
   have HSET := Aside0.mk (show (l.take k ++ (List.replicate l.length zE).drop k).set ((k : Int)).toNat (l.getD k zE) = l.take (k + 1) ++ (List.replicate l.length zE).drop (k + 1) by
    rw [Int.toNat_natCast, mid_set _ _ _ _ (by rw [List.length_take]; omega) (by simpa using hlt), take_snoc l k zE hlt])
   obtain ⟨g, cap, rfl, hgb, hgl, hG⟩ := Kd.S_form HR.out (by omega)
   rw [hlen] at HR ⊢
   obtain ⟨ad, A3, c3, rfl, pa, pb, pc, pd, pL⟩ := atE (HL.out.below HB.out) k hlt
   have HIO := Aside0.mk pL
   have HQ := Aside0.mk (HE.out _ (getE_mem hlt))
   generalize l.getD k zE = o at pa pb pc pd HIO HSET HQ
   have HWB := Aside0.mk HB.out.size
   clear pL hlen
   go_wp2_with (first
    | ((with_reducible refine gate_store (t := 50) (p := 21) rfl ?_); obtain ⟨oki, ce, hce1, hce2, hce3, hce4, hH⟩ := Kd.S_lend HR.out zE (k : Int) (by omega) (by omega); refine Kd.H_store (kE 50) (w0 := w) w.heap.size rfl rfl 50 _ _ rfl 50 (k : Int) 0 (l.take k ++ (List.replicate l.length zE).drop k) o (.agg #[.int .i64 o.f0, .int .i64 o.f1, .int .i64 o.f2, .slice Ac o.f3.length cc]) [.int .i64 o.f0, .int .i64 o.f1, .int .i64 o.f2, .slice Ac o.f3.length cc] ce (fun _ => True) (fun j => oki j ∨ True ∧ wr.heap.size ≤ j) (fun j => wr.heap.size ≤ j) rfl (show k * 4 = ((k : Int)).toNat * 4 + 0 by simp) rfl rfl (by kernel_rfl) ?h1 (Kd.H_below (Kd.H_widen hH) HB4.out) (by omega) (by omega) (Nat.le_refl 4) ?hM (fun _ h => .inr ⟨trivial, h⟩) (below_then HB.out HB.out.size HB4.out) ?_; (case h1 => intro q hq; simp at hq; rcases hq with rfl | rfl | rfl | rfl <;> rfl); (case hM => rw [List.drop_of_length_le (by rw [hce1]; exact Nat.le_refl 4), List.append_nil]; exact kE_mkM o (Kd.S_lower (Kd.S_mono (Kd.S_bound HC4.out) (fun j hj => hj.2.1)) HWB.out)); intro w5 hs5 hb5 _; rw [HSET.out] at hs5; have HS5 := Aside0.mk hs5; have HB5 := Aside0.mk hb5; clear hs5 hb5 hce1 hce2 hce3 hce4 hH)
    | (go_at_call 74; refine (HQ.out A3 c3 _ HIO.out).mono ?_; rintro e w4 ⟨v4, rfl, hc4, hb4⟩; obtain ⟨Ac, cc, rfl⟩ := Kd.S_slice hc4; have HC4 := Aside0.mk hc4; have HB4 := Aside0.mk hb4; clear hc4 hb4))
   go_roundw
   case rel => exact ⟨k + 1, by omega, by go_num, HS5, HB5⟩
   case measure => simp [intOf]; omega
  ·have hke : k = l.length := by omega
   subst hke
   have g1 : decide (l.length < l.length) = false := decide_eq_false (by omega)
   have hR := HR.out
   rw [List.take_length, List.drop_of_length_le (by simp), List.append_nil] at hR
   have HR2 := Aside0.mk hR
   clear hR
   go_wp2
   go_ret
   exact ⟨v7, rfl, HR2.out, HB.out⟩
theorem toExS_any (l : List Ex) (A : Option Addr) (c : Nat) (w : World) (hl : cntL l ≤ 1048576) (hL : IsEL 50 w l A c) : Calls Tryz.prog 101 #[.slice A l.length c] w fun e w' => ToOutL w w' l e :=
 toExS_of A c l w hl hL (fun x hx A2 c2 w2 hx2 => toEx_of x.f0 x.f1 x.f2 A2 c2 x.f3 w2 hx2 (fun w3 h3 =>
  have := cnt_mem hx
  toExS_any x.f3 A2 c2 w3 (by omega) h3))
termination_by cntL l
theorem toEx_any (x : Ex) (A : Option Addr) (c : Nat) (w : World) (hl : cntL x.f3 ≤ 1048576) (hL : IsEL 50 w x.f3 A c) : Calls Tryz.prog 74 #[X x.f0 x.f1 x.f2 A x.f3.length c] w fun e w' => ToOutE w w' x.f0 x.f1 x.f2 x.f3 e :=
 toEx_of x.f0 x.f1 x.f2 A c x.f3 w hL (fun w3 h3 => toExS_any x.f3 A c w3 hl h3)
end Go.Proofs.YtckblabkapeigaaGreat.Jd

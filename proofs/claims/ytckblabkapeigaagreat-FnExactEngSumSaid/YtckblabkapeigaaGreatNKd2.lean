
/- Copies of the program's struct types: the laws' own functions. Printed by genTy.py. -/
import Derived.Test.YtckblabkapeigaaGreatNKb
import Derived.Test.YtckblabkapeigaaGreatNJd
set_option linter.unusedVariables false
set_option linter.unusedSimpArgs false
namespace Go.Proofs.YtckblabkapeigaaGreat.Kd2
open Go.RowKit Go.Proofs.YtckblabkapeigaaGreatW.PrintWords Go.Proofs.YtckblabkapeigaaGreat.Ja Go.Proofs.YtckblabkapeigaaGreat.Jb Go.Proofs.YtckblabkapeigaaGreat.Jc Go.Proofs.YtckblabkapeigaaGreat.Jd Go.Proofs.YtckblabkapeigaaGreat.Ka Go.Proofs.YtckblabkapeigaaGreat.Kb
theorem S_behind' {α : Type} {d : Kd α} {e : Nat} {w w3 : World} {g : Nat} {ok : Nat → Prop} {v : Value} {xs : List α} {base : Nat} (h : Kd.S d e w3 w.heap.size ok v xs) (hg : g < w.heap.size) (hb : base ≤ w.heap.size) : Kd.S d e w3 base (fun k => g < k) v xs :=
 Kd.S_lower (Kd.S_mono (Kd.S_bound h) (fun k hk => Nat.lt_of_lt_of_le hg hk.2.1)) hb
/-- a row of numbers has no rows inside: it is apart -/
theorem S_ints {e : Nat} {w : World} {base : Nat} {ok : Nat → Prop} {v : Value} {xs : List Int} (h : (Kd.int .i64).R e w base ok v xs) : Kd.S (Kd.int .i64) e w base ok v xs := Kd.S_bare h
def ToL {α : Type} (d : Kd α) (e : Nat) (w w' : World) (l : List α) (r : Ending) : Prop := ∃ v, r = .returned v ∧ Kd.S d e w' w.heap.size (fun _ => True) v l ∧ Below w.heap.size w w'
theorem size_set (w : World) (p : Addr) (u : Value) : (w.setCell p u).heap.size = w.heap.size := by simp [World.setCell]
theorem Ap.mono : ∀ {os : List (Nat → Prop)} {ok ok' : Nat → Prop}, Ap ok os → (∀ k, ok k → ok' k) → Ap ok' os
 | [], _, _, _, _ => trivial
 | _ :: _, _, _, h, hk => ⟨fun k h2 => hk k (h.1 k h2), h.2.1, Ap.mono h.2.2 hk⟩
theorem infoI : (Tryz.prog.info? 3).map (fun i => (i.zero, i.size, i.bytes)) = some (some (.int .i64 0), 1, 8) := by kernel_rfl
set_option maxHeartbeats 1000000 in
set_option maxRecDepth 100000 in
theorem toIntS_any (A : Option Addr) (c : Nat) (xs : List Int) (w : World) (hm : xs.length ≤ 1048576) (hC : IsS (Kd.int .i64) w xs A c) :
  Calls Tryz.prog 22 #[.slice A xs.length c] w fun e w' => ToL (Kd.int .i64) 3 w w' xs e := by
 have hn : (0 : Int) ≤ xs.length := by omega
 have hlb : ((xs.length : Int)).toNat * 8 ≤ 281474976710656 := by omega
 have HC := Aside0.mk hC
 clear hC
 go_enter Tryz.func22, Tryz.ntmps22
 go_wp2_with ((with_reducible refine gate_dst (N := 7) rfl ?_); refine Kd.R_make (Kd.int .i64) (w0 := w) w.heap.size 3 rfl (N := 7) rfl 25 _ _ rfl (xs.length : Int) rfl rfl Tryz.underlying25 (.int .i64 0) 8 infoI rfl (by decide) (by omega) (0 : Int) (ok := fun _ => True) (okp := fun _ => True) rfl (fun _ hk => hk) trivial hn hlb (Below.refl _ _) (Nat.le_refl _) ?_; intro v7 w7 hr7 hb7 hg7 _; simp only [Int.toNat_natCast] at hr7; have HR := Aside0.mk hr7; have HB := Aside0.mk hb7; clear hr7 hb7 hg7)
 clear hlb hn
 go_loopw [4] (fun vi wr => ∃ k : Nat, k ≤ xs.length ∧ vi = .int .i64 k ∧ Aside0 ((Kd.int .i64).R 3 wr w.heap.size (fun _ => True) v7 (xs.take k ++ (List.replicate xs.length (0 : Int)).drop k)) ∧ Aside0 (Below w.heap.size w wr)) (fun vi _ => xs.length - (intOf vi).toNat)
 case atStart => exact ⟨0, Nat.zero_le _, rfl, by simpa using HR, HB⟩
 case round =>
  clear HR HB
  obtain ⟨k, hk, rfl, HR, HB⟩ := hrel
  by_cases hlt : k < xs.length
  ·have g1 : decide (k < xs.length) = true := decide_eq_true hlt
   have i1 : (k : Int) < xs.length := by omega
   have hlen : (xs.take k ++ (List.replicate xs.length (0 : Int)).drop k).length = xs.length := by simp; omega
   have hset : (xs.take k ++ (List.replicate xs.length (0 : Int)).drop k).set k (xs.getD k 0) = xs.take (k + 1) ++ (List.replicate xs.length (0 : Int)).drop (k + 1) := by
    rw [mid_set _ _ _ _ (by rw [List.length_take]; omega) (by simpa using hlt), take_snoc xs k 0 hlt]
   obtain ⟨g, cap, rfl, hgb, hgl, hcl⟩ := Kd.R_form HR.out (by omega)
   rw [hlen] at HR ⊢
   obtain ⟨ad, rfl, hc⟩ := atI (HC.out.below HB.out) k hlt
   have hce := Kd.R_celln (0 : Int) HR.out (k : Int) (by omega) (by omega)
   have hpp := Kd.R_putg HR.out (k : Int) (xs.getD k 0)
   rw [Int.toNat_natCast] at hce hpp
   rw [hset] at hpp
   generalize xs.getD k 0 = x at hc hpp
   obtain ⟨h0, h1⟩ := hce
   have HS := Aside0.mk hpp.1
   have HBS := Aside0.mk (HB.out.setCell (p := ⟨g, k, none⟩) hgb (.int .i64 x))
   clear hpp hlen hset hcl hgl
   go_wp2
   go_roundw
   case rel => exact ⟨k + 1, by omega, by go_num, HS, HBS⟩
   case measure => simp [intOf]; omega
  ·have hke : k = xs.length := by omega
   subst hke
   have g1 : decide (xs.length < xs.length) = false := decide_eq_false (by omega)
   have hR := HR.out
   rw [List.take_length, List.drop_of_length_le (by simp), List.append_nil] at hR
   have HR2 := Aside0.mk hR
   clear hR
   go_wp2
   go_ret
   exact ⟨v7, rfl, S_ints HR2.out, HB.out⟩
theorem infoOcc : (Tryz.prog.info? 54).map (fun i => (i.zero, i.size, i.bytes)) = some (some (.agg #[.int .i64 0, .int .i64 0, .slice none 0 0]), 3, 40) := by kernel_rfl
def ToOcc (w w' : World) (x : TOcc) (r : Ending) : Prop := ∃ v2, r = .returned (.agg #[.int .i64 x.f0, .int .i64 x.f1, v2]) ∧ Kd.S (Kd.int .i64) 3 w' w.heap.size (fun _ => True) v2 x.f2 ∧ Below w.heap.size w w'
set_option maxHeartbeats 4000000 in
set_option maxRecDepth 100000 in
theorem toOcc_any (x : TOcc) (A2 : Option Addr) (c2 : Nat) (w : World) (hx : cOcc x ≤ 1048576) (hL2 : IsS (Kd.int .i64) w x.f2 A2 c2) :
  Calls Tryz.prog 76 #[.agg #[.int .i64 x.f0, .int .i64 x.f1, .slice A2 x.f2.length c2]] w fun e w' => ToOcc w w' x e := by
 obtain ⟨hb0, b0, b1, b2⟩ := boxes3 w #[.int .i64 x.f0, .int .i64 x.f1, .slice A2 x.f2.length c2] #[.int .i64 0, .int .i64 0, .slice none 0 0] #[.int .i64 0, .int .i64 0, .slice none 0 0] 81 54 54
 have HL2 := Aside0.mk hL2
 clear hL2
 have hx' : x.f2.length ≤ 1048576 := hx
 have hz0 : x.f2.length ≤ 1048576 := by omega
 have HZ := Aside0.mk hx'
 clear hx hx'
 go_enter Tryz.func76, Tryz.ntmps76
 go_upto_region 2 with fail
 generalize ((w.alloc (.cells #[.int .i64 x.f0, .int .i64 x.f1, .slice A2 x.f2.length c2] 81)).alloc (.cells #[.int .i64 0, .int .i64 0, .slice none 0 0] 54)).alloc (.cells #[.int .i64 0, .int .i64 0, .slice none 0 0] 54) = W0 at hb0 b0 b1 b2 ⊢
 have HB := Aside0.mk hb0
 have BA := Aside0.mk b0
 have BR := Aside0.mk b1
 have BO := Aside0.mk b2
 clear hb0 b0 b1 b2
 have p0 := (blk_cell BA.out 0).trans rfl
 have z0 := blk_frozen BO.out 0
 have q0 := (blk_cell BO.out 0).trans rfl
 go_upto_region 3 with fail
 have BA' := Aside0.mk (blk_far BA.out (p := ⟨w.heap.size + 1 + 1, 0, none⟩) (by simp; omega) (.int .i64 x.f0))
 have BR' := Aside0.mk (blk_far BR.out (p := ⟨w.heap.size + 1 + 1, 0, none⟩) (by simp) (.int .i64 x.f0))
 have BO' := Aside0.mk (show (W0.setCell ⟨w.heap.size + 1 + 1, 0, none⟩ (.int .i64 x.f0)).heap[w.heap.size + 1 + 1]? = some (.cells #[.int .i64 x.f0, .int .i64 0, .slice none 0 0] 54 (0, 0)) from blk_put BO.out 0 _ rfl)
 have HB' := Aside0.mk (HB.out.setCell (p := ⟨w.heap.size + 1 + 1, 0, none⟩) (by simp; omega) (.int .i64 x.f0))
 clear BA BR BO HB p0 z0 q0
 generalize (W0.setCell ⟨w.heap.size + 1 + 1, 0, none⟩ (.int .i64 x.f0)) = W1 at BA' BR' BO' HB'   ⊢
 have BA := BA'
 have BR := BR'
 have BO := BO'
 have HB := HB'
 clear BA' BR' BO' HB'
 have p1 := (blk_cell BA.out 1).trans rfl
 have z1 := blk_frozen BO.out 1
 have q1 := (blk_cell BO.out 1).trans rfl
 go_upto_region 4 with fail
 have BA' := Aside0.mk (blk_far BA.out (p := ⟨w.heap.size + 1 + 1, 1, none⟩) (by simp; omega) (.int .i64 x.f1))
 have BR' := Aside0.mk (blk_far BR.out (p := ⟨w.heap.size + 1 + 1, 1, none⟩) (by simp) (.int .i64 x.f1))
 have BO' := Aside0.mk (show (W1.setCell ⟨w.heap.size + 1 + 1, 1, none⟩ (.int .i64 x.f1)).heap[w.heap.size + 1 + 1]? = some (.cells #[.int .i64 x.f0, .int .i64 x.f1, .slice none 0 0] 54 (0, 0)) from blk_put BO.out 1 _ rfl)
 have HB' := Aside0.mk (HB.out.setCell (p := ⟨w.heap.size + 1 + 1, 1, none⟩) (by simp; omega) (.int .i64 x.f1))
 clear BA BR BO HB p1 z1 q1
 generalize (W1.setCell ⟨w.heap.size + 1 + 1, 1, none⟩ (.int .i64 x.f1)) = W2 at BA' BR' BO' HB'   ⊢
 have BA := BA'
 have BR := BR'
 have BO := BO'
 have HB := HB'
 clear BA' BR' BO' HB'
 have p2 := (blk_cell BA.out 2).trans rfl
 go_upto_region 5 with (go_at_call 22; refine (toIntS_any A2 c2 x.f2 _ hz0 (HL2.out.below HB.out)).mono ?_; rintro e w2_ ⟨v0, rfl, hr0, hb3⟩; obtain ⟨P2, r2, rfl⟩ := Kd.S_slice hr0; have z2 := blk_frozen (blk_below BO.out hb3) 2; have q2 := (blk_cell (blk_below BO.out hb3) 2).trans rfl; have BA2 := Aside0.mk (blk_below BA.out hb3); have BR2 := Aside0.mk (blk_below BR.out hb3); have BO2 := Aside0.mk (blk_below BO.out hb3); have HS2 := Aside0.mk (S_behind' hr0 (blk_lt BO.out) HB.out.size); have HB2 := Aside0.mk (below_then HB.out HB.out.size hb3); clear hb3 hr0)
 clear BA BR BO HB
 have BA := BA2
 have BR := BR2
 have BO := BO2
 have HB := HB2
 clear BA2 BR2 BO2 HB2
 have BA' := Aside0.mk (blk_far BA.out (p := ⟨w.heap.size + 1 + 1, 2, none⟩) (by simp; omega) (.slice P2 x.f2.length r2))
 have BR' := Aside0.mk (blk_far BR.out (p := ⟨w.heap.size + 1 + 1, 2, none⟩) (by simp) (.slice P2 x.f2.length r2))
 have BO' := Aside0.mk (show (w2_.setCell ⟨w.heap.size + 1 + 1, 2, none⟩ (.slice P2 x.f2.length r2)).heap[w.heap.size + 1 + 1]? = some (.cells #[.int .i64 x.f0, .int .i64 x.f1, .slice P2 x.f2.length r2] 54 (0, 0)) from blk_put BO.out 2 _ rfl)
 have HB' := Aside0.mk (HB.out.setCell (p := ⟨w.heap.size + 1 + 1, 2, none⟩) (by simp; omega) (.slice P2 x.f2.length r2))
 have HS2' := Aside0.mk (Kd.S_far (p := ⟨w.heap.size + 1 + 1, 2, none⟩) HS2.out (fun k hk => Nat.ne_of_gt hk) (.slice P2 x.f2.length r2))
 clear BA BR BO HB p2 z2 q2 HS2
 generalize (w2_.setCell ⟨w.heap.size + 1 + 1, 2, none⟩ (.slice P2 x.f2.length r2)) = W3 at BA' BR' BO' HB' HS2'  ⊢
 have BA := BA'
 have BR := BR'
 have BO := BO'
 have HB := HB'
 have HS2 := HS2'
 clear BA' BR' BO' HB' HS2'
 have r0_ := (blk_cell BO.out 0).trans rfl
 have s0_ := (blk_cell BR.out 0).trans rfl
 have t0_ := blk_frozen BR.out 0
 have r1_ := (blk_cell BO.out 1).trans rfl
 have s1_ := (blk_cell BR.out 1).trans rfl
 have t1_ := blk_frozen BR.out 1
 have r2_ := (blk_cell BO.out 2).trans rfl
 have s2_ := (blk_cell BR.out 2).trans rfl
 have t2_ := blk_frozen BR.out 2
 go_wp2
 refine bodyPost_ret (results_cell_row rfl _ _ (w.heap.size + 1) 54 #[.int .i64 x.f0, .int .i64 x.f1, .slice P2 x.f2.length r2] (0, 0) _ rfl (blk_put (cs := #[.int .i64 x.f0, .int .i64 x.f1, .slice none 0 0]) (blk_put (cs := #[.int .i64 x.f0, .int .i64 0, .slice none 0 0]) (blk_put BR.out 0 _ rfl) 1 _ rfl) 2 _ rfl) Tryz.underlying54 rfl (by kernel_rfl)) rfl ?_
 exact ⟨_, rfl, Kd.S_mono (Kd.S_far (p := ⟨w.heap.size + 1, 2, none⟩) (Kd.S_far (p := ⟨w.heap.size + 1, 1, none⟩) (Kd.S_far (p := ⟨w.heap.size + 1, 0, none⟩) HS2.out (fun k hk => Nat.ne_of_gt (Nat.lt_trans (Nat.lt_succ_self _) hk)) _) (fun k hk => Nat.ne_of_gt (Nat.lt_trans (Nat.lt_succ_self _) hk)) _) (fun k hk => Nat.ne_of_gt (Nat.lt_trans (Nat.lt_succ_self _) hk)) _) (fun _ _ => trivial), (((HB.out.setCell (p := ⟨w.heap.size + 1, 0, none⟩) (by simp) _).setCell (p := ⟨w.heap.size + 1, 1, none⟩) (by simp) _).setCell (p := ⟨w.heap.size + 1, 2, none⟩) (by simp) _)⟩
set_option maxHeartbeats 4000000 in
set_option maxRecDepth 100000 in
theorem toOccS_any (A : Option Addr) (c : Nat) (l : List TOcc) (w : World) (hx : cS cOcc l ≤ 1048576) (hL : IsS kOcc w l A c) :
  Calls Tryz.prog 122 #[.slice A l.length c] w fun e w' => ToL kOcc 54 w w' l e := by
 have hll : l.length ≤ 1048576 := by have h : l.length + (l.map cOcc).sum ≤ 1048576 := hx; omega
 have hn : (0 : Int) ≤ l.length := by omega
 have hlb : ((l.length : Int)).toNat * 40 ≤ 281474976710656 := by omega
 have HL := Aside0.mk hL
 have HXL := Aside0.mk hx
 clear hL hx
 go_enter Tryz.func122, Tryz.ntmps122
 go_wp2_with ((with_reducible refine gate_dst (N := 7) rfl ?_); refine Kd.S_make kOcc (w0 := w) w.heap.size 54 rfl (N := 7) rfl 120 _ _ rfl (l.length : Int) rfl rfl Tryz.underlying120 (.agg #[.int .i64 0, .int .i64 0, .slice none 0 0]) 40 infoOcc rfl (by decide) (by omega) zOcc (ok := fun _ => True) (okp := fun _ => True) (kOcc_mkM w w.heap.size (fun _ => False) zOcc (Kd.S_nil _ _ _ _ _)) (fun _ hk => hk) trivial hn hlb (Below.refl _ _) (Nat.le_refl _) ?_; intro v7 w7 hr7 hb7 hg7 _; simp only [Int.toNat_natCast] at hr7; have HR := Aside0.mk hr7; have HB := Aside0.mk hb7; clear hr7 hb7 hg7)
 clear hlb hn
 go_loopw [4] (fun vi wr => ∃ k : Nat, k ≤ l.length ∧ vi = .int .i64 k ∧ Aside0 (Kd.S kOcc 54 wr w.heap.size (fun _ => True) v7 (l.take k ++ (List.replicate l.length zOcc).drop k)) ∧ Aside0 (Below w.heap.size w wr)) (fun vi _ => l.length - (intOf vi).toNat)
 case atStart => exact ⟨0, Nat.zero_le _, rfl, by simpa using HR, HB⟩
 case round =>
  clear HR HB
  obtain ⟨k, hk, rfl, HR, HB⟩ := hrel
  by_cases hlt : k < l.length
  ·have g1 : decide (k < l.length) = true := decide_eq_true hlt
   have i1 : (k : Int) < l.length := by omega
   have hlen : (l.take k ++ (List.replicate l.length zOcc).drop k).length = l.length := by simp; omega
   have HSET := Aside0.mk (show (l.take k ++ (List.replicate l.length zOcc).drop k).set ((k : Int)).toNat (l.getD k zOcc) = l.take (k + 1) ++ (List.replicate l.length zOcc).drop (k + 1) by
    rw [Int.toNat_natCast, mid_set _ _ _ _ (by rw [List.length_take]; omega) (by simpa using hlt), take_snoc l k zOcc hlt])
   obtain ⟨g, cap, rfl, hgb, hgl, hG⟩ := Kd.S_form HR.out (by omega)
   rw [hlen] at HR ⊢
   obtain ⟨ad, A2_, c2_, rfl, y0_, y1_, y2_, j2_⟩ := atOcc (HL.out.below HB.out) k hlt
   have helm : cOcc (l.getD k zOcc) ≤ 1048576 := by have h1 := sum_snoc cOcc zOcc l k hlt; have h2 := sum_le cOcc l (k + 1); have h3 : l.length + (l.map cOcc).sum ≤ 1048576 := HXL.out; omega
   generalize l.getD k zOcc = o at y0_ y1_ y2_ j2_ HSET helm
   have HJ2 := Aside0.mk j2_
   have HWB := Aside0.mk HB.out.size
   clear j2_ hlen
   go_wp2_with (first
    | ((with_reducible refine gate_store (t := 54) (p := 21) rfl ?_); obtain ⟨oki, ce, hce1, hce2, hce3, hce4, hH⟩ := Kd.S_lend HR.out zOcc (k : Int) (by omega) (by omega); refine Kd.H_store kOcc (w0 := w) w.heap.size rfl rfl 54 _ _ rfl 54 (k : Int) 0 (l.take k ++ (List.replicate l.length zOcc).drop k) o (.agg #[.int .i64 o.f0, .int .i64 o.f1, .slice Q2 o.f2.length u2]) [.int .i64 o.f0, .int .i64 o.f1, .slice Q2 o.f2.length u2] ce (fun _ => True) (fun j => oki j ∨ True ∧ wr.heap.size ≤ j) (fun j => wr.heap.size ≤ j) rfl (show k * 3 = ((k : Int)).toNat * 3 + 0 by simp) rfl rfl (by kernel_rfl) ?h1 (Kd.H_below (Kd.H_widen hH) HB4.out) (by omega) (by omega) (Nat.le_refl 3) ?hM (fun _ h => .inr ⟨trivial, h⟩) (below_then HB.out HB.out.size HB4.out) ?_; (case h1 => intro q hq; simp at hq; rcases hq with rfl | rfl | rfl <;> rfl); (case hM => rw [List.drop_of_length_le (by rw [hce1]; exact Nat.le_refl 3), List.append_nil]; exact kOcc_mkM _ _ _ o (Kd.S_lower (Kd.S_mono (Kd.S_bound HC2.out) (fun j hj => hj.2.1)) HWB.out)); intro w5 hs5 hb5 _; rw [HSET.out] at hs5; have HS5 := Aside0.mk hs5; have HB5 := Aside0.mk hb5; clear hs5 hb5 hce1 hce2 hce3 hce4 hH)
    | (go_at_call 76; refine (toOcc_any o A2_ c2_ _ helm HJ2.out).mono ?_; rintro e w4 ⟨v2, rfl, hc2, hb4⟩; obtain ⟨Q2, u2, rfl⟩ := Kd.S_slice hc2; have HC2 := Aside0.mk hc2; have HB4 := Aside0.mk hb4; clear hb4 hc2))
   go_roundw
   case rel => exact ⟨k + 1, by omega, by go_num, HS5, HB5⟩
   case measure => simp [intOf]; omega
  ·have hke : k = l.length := by omega
   subst hke
   have g1 : decide (l.length < l.length) = false := decide_eq_false (by omega)
   have hR := HR.out
   rw [List.take_length, List.drop_of_length_le (by simp), List.append_nil] at hR
   have HR2 := Aside0.mk hR
   clear hR
   go_wp2
   go_ret
   exact ⟨v7, rfl, HR2.out, HB.out⟩
def ToPair (w w' : World) (x : TPair) (r : Ending) : Prop := ∃ v0, ∃ v1, ∃ o0, ∃ o1, r = .returned (.agg #[v0, v1]) ∧ Kd.S kOcc 54 w' w.heap.size o0 v0 x.f0 ∧ Kd.S kOcc 54 w' w.heap.size o1 v1 x.f1 ∧ Ap (fun k => w.heap.size ≤ k ∧ k < w'.heap.size) [o0, o1] ∧ Below w.heap.size w w'
set_option maxHeartbeats 4000000 in
set_option maxRecDepth 100000 in
theorem toPair_any (x : TPair) (A0 : Option Addr) (c0 : Nat) (A1 : Option Addr) (c1 : Nat) (w : World) (hx : cPair x ≤ 1048576) (hL0 : IsS kOcc w x.f0 A0 c0) (hL1 : IsS kOcc w x.f1 A1 c1) :
  Calls Tryz.prog 120 #[.agg #[.slice A0 x.f0.length c0, .slice A1 x.f1.length c1]] w fun e w' => ToPair w w' x e := by
 obtain ⟨hb0, b0, b1, b2⟩ := boxes3 w #[.slice A0 x.f0.length c0, .slice A1 x.f1.length c1] #[.slice none 0 0, .slice none 0 0] #[.slice none 0 0, .slice none 0 0] 147 122 122
 have HL0 := Aside0.mk hL0
 have HL1 := Aside0.mk hL1
 clear hL0 hL1
 have hx' : cS cOcc x.f0 + cS cOcc x.f1 ≤ 1048576 := hx
 have hz0 : cS cOcc x.f0 ≤ 1048576 := by omega
 have hz1 : cS cOcc x.f1 ≤ 1048576 := by omega
 have HZ := Aside0.mk hx'
 clear hx hx'
 go_enter Tryz.func120, Tryz.ntmps120
 go_upto_region 2 with fail
 generalize ((w.alloc (.cells #[.slice A0 x.f0.length c0, .slice A1 x.f1.length c1] 147)).alloc (.cells #[.slice none 0 0, .slice none 0 0] 122)).alloc (.cells #[.slice none 0 0, .slice none 0 0] 122) = W0 at hb0 b0 b1 b2 ⊢
 have HB := Aside0.mk hb0
 have BA := Aside0.mk b0
 have BR := Aside0.mk b1
 have BO := Aside0.mk b2
 clear hb0 b0 b1 b2
 have p0 := (blk_cell BA.out 0).trans rfl
 go_upto_region 3 with (go_at_call 122; refine (toOccS_any A0 c0 x.f0 _ hz0 (HL0.out.below HB.out)).mono ?_; rintro e w0_ ⟨v0, rfl, hr0, hb3⟩; obtain ⟨P0, r0, rfl⟩ := Kd.S_slice hr0; have z0 := blk_frozen (blk_below BO.out hb3) 0; have q0 := (blk_cell (blk_below BO.out hb3) 0).trans rfl; have BA2 := Aside0.mk (blk_below BA.out hb3); have BR2 := Aside0.mk (blk_below BR.out hb3); have BO2 := Aside0.mk (blk_below BO.out hb3); have HS0 := Aside0.mk (Kd.S_lower (Kd.S_mono (Kd.S_bound hr0) (ok' := fun k => W0.heap.size ≤ k ∧ k < w0_.heap.size) (fun k hk => ⟨hk.2.1, hk.2.2.1⟩)) HB.out.size); have IN0 : Aside0 (∀ k, (fun k => W0.heap.size ≤ k ∧ k < w0_.heap.size) k → W0.heap.size ≤ k ∧ k < w0_.heap.size) := ⟨fun k hk => hk⟩; have LO0 := Aside0.mk (blk_lt BO.out); have LE0 := Aside0.mk hb3.size; have HB2 := Aside0.mk (below_then HB.out HB.out.size hb3); clear hb3 hr0)
 clear BA BR BO HB
 have BA := BA2
 have BR := BR2
 have BO := BO2
 have HB := HB2
 clear BA2 BR2 BO2 HB2
 have BA' := Aside0.mk (blk_far BA.out (p := ⟨w.heap.size + 1 + 1, 0, none⟩) (by simp; omega) (.slice P0 x.f0.length r0))
 have BR' := Aside0.mk (blk_far BR.out (p := ⟨w.heap.size + 1 + 1, 0, none⟩) (by simp) (.slice P0 x.f0.length r0))
 have BO' := Aside0.mk (show (w0_.setCell ⟨w.heap.size + 1 + 1, 0, none⟩ (.slice P0 x.f0.length r0)).heap[w.heap.size + 1 + 1]? = some (.cells #[.slice P0 x.f0.length r0, .slice none 0 0] 122 (0, 0)) from blk_put BO.out 0 _ rfl)
 have HB' := Aside0.mk (HB.out.setCell (p := ⟨w.heap.size + 1 + 1, 0, none⟩) (by simp; omega) (.slice P0 x.f0.length r0))
 have HS0' := Aside0.mk (Kd.S_far (p := ⟨w.heap.size + 1 + 1, 0, none⟩) HS0.out (fun k hk => Nat.ne_of_gt (Nat.lt_of_lt_of_le LO0.out (IN0.out k hk).1)) (.slice P0 x.f0.length r0))
 clear BA BR BO HB p0 z0 q0 HS0
 have SZ0 : Aside0 (w0_.heap.size ≤ ((w0_.setCell ⟨w.heap.size + 1 + 1, 0, none⟩ (.slice P0 x.f0.length r0))).heap.size) := ⟨by simp only [size_set]; exact Nat.le_refl _⟩
 generalize (w0_.setCell ⟨w.heap.size + 1 + 1, 0, none⟩ (.slice P0 x.f0.length r0)) = W1 at BA' BR' BO' HB' HS0' SZ0 ⊢
 have BA := BA'
 have BR := BR'
 have BO := BO'
 have HB := HB'
 have HS0 := HS0'
 clear BA' BR' BO' HB' HS0'
 have p1 := (blk_cell BA.out 1).trans rfl
 go_upto_region 4 with (go_at_call 122; refine (toOccS_any A1 c1 x.f1 _ hz1 (HL1.out.below HB.out)).mono ?_; rintro e w1_ ⟨v0, rfl, hr0, hb3⟩; obtain ⟨P1, r1, rfl⟩ := Kd.S_slice hr0; have z1 := blk_frozen (blk_below BO.out hb3) 1; have q1 := (blk_cell (blk_below BO.out hb3) 1).trans rfl; have BA2 := Aside0.mk (blk_below BA.out hb3); have BR2 := Aside0.mk (blk_below BR.out hb3); have BO2 := Aside0.mk (blk_below BO.out hb3); have HS1 := Aside0.mk (Kd.S_lower (Kd.S_mono (Kd.S_bound hr0) (ok' := fun k => W1.heap.size ≤ k ∧ k < w1_.heap.size) (fun k hk => ⟨hk.2.1, hk.2.2.1⟩)) HB.out.size); have IN1 : Aside0 (∀ k, (fun k => W1.heap.size ≤ k ∧ k < w1_.heap.size) k → W1.heap.size ≤ k ∧ k < w1_.heap.size) := ⟨fun k hk => hk⟩; have LO1 := Aside0.mk (blk_lt BO.out); have LE1 := Aside0.mk hb3.size; replace HS0 := Aside0.mk (Kd.S_below HS0.out hb3); have HB2 := Aside0.mk (below_then HB.out HB.out.size hb3); clear hb3 hr0)
 clear BA BR BO HB
 have BA := BA2
 have BR := BR2
 have BO := BO2
 have HB := HB2
 clear BA2 BR2 BO2 HB2
 have BA' := Aside0.mk (blk_far BA.out (p := ⟨w.heap.size + 1 + 1, 1, none⟩) (by simp; omega) (.slice P1 x.f1.length r1))
 have BR' := Aside0.mk (blk_far BR.out (p := ⟨w.heap.size + 1 + 1, 1, none⟩) (by simp) (.slice P1 x.f1.length r1))
 have BO' := Aside0.mk (show (w1_.setCell ⟨w.heap.size + 1 + 1, 1, none⟩ (.slice P1 x.f1.length r1)).heap[w.heap.size + 1 + 1]? = some (.cells #[.slice P0 x.f0.length r0, .slice P1 x.f1.length r1] 122 (0, 0)) from blk_put BO.out 1 _ rfl)
 have HB' := Aside0.mk (HB.out.setCell (p := ⟨w.heap.size + 1 + 1, 1, none⟩) (by simp; omega) (.slice P1 x.f1.length r1))
 have HS0' := Aside0.mk (Kd.S_far (p := ⟨w.heap.size + 1 + 1, 1, none⟩) HS0.out (fun k hk => Nat.ne_of_gt (Nat.lt_of_lt_of_le LO0.out (IN0.out k hk).1)) (.slice P1 x.f1.length r1))
 have HS1' := Aside0.mk (Kd.S_far (p := ⟨w.heap.size + 1 + 1, 1, none⟩) HS1.out (fun k hk => Nat.ne_of_gt (Nat.lt_of_lt_of_le LO1.out (IN1.out k hk).1)) (.slice P1 x.f1.length r1))
 clear BA BR BO HB p1 z1 q1 HS0 HS1
 have SZ1 : Aside0 (w1_.heap.size ≤ ((w1_.setCell ⟨w.heap.size + 1 + 1, 1, none⟩ (.slice P1 x.f1.length r1))).heap.size) := ⟨by simp only [size_set]; exact Nat.le_refl _⟩
 generalize (w1_.setCell ⟨w.heap.size + 1 + 1, 1, none⟩ (.slice P1 x.f1.length r1)) = W2 at BA' BR' BO' HB' HS0' HS1' SZ1 ⊢
 have BA := BA'
 have BR := BR'
 have BO := BO'
 have HB := HB'
 have HS0 := HS0'
 have HS1 := HS1'
 clear BA' BR' BO' HB' HS0' HS1'
 have r0_ := (blk_cell BO.out 0).trans rfl
 have s0_ := (blk_cell BR.out 0).trans rfl
 have t0_ := blk_frozen BR.out 0
 have r1_ := (blk_cell BO.out 1).trans rfl
 have s1_ := (blk_cell BR.out 1).trans rfl
 have t1_ := blk_frozen BR.out 1
 go_wp2
 refine bodyPost_ret (results_cell_row rfl _ _ (w.heap.size + 1) 122 #[.slice P0 x.f0.length r0, .slice P1 x.f1.length r1] (0, 0) _ rfl (blk_put (cs := #[.slice P0 x.f0.length r0, .slice none 0 0]) (blk_put BR.out 0 _ rfl) 1 _ rfl) Tryz.underlying122 rfl (by kernel_rfl)) rfl ?_
 refine ⟨_, _, _, _, rfl, (Kd.S_far (p := ⟨w.heap.size + 1, 1, none⟩) (Kd.S_far (p := ⟨w.heap.size + 1, 0, none⟩) HS0.out (fun k hk => Nat.ne_of_gt (Nat.lt_trans (Nat.lt_succ_self _) (Nat.lt_of_lt_of_le LO0.out (IN0.out k hk).1))) _) (fun k hk => Nat.ne_of_gt (Nat.lt_trans (Nat.lt_succ_self _) (Nat.lt_of_lt_of_le LO0.out (IN0.out k hk).1))) _), (Kd.S_far (p := ⟨w.heap.size + 1, 1, none⟩) (Kd.S_far (p := ⟨w.heap.size + 1, 0, none⟩) HS1.out (fun k hk => Nat.ne_of_gt (Nat.lt_trans (Nat.lt_succ_self _) (Nat.lt_of_lt_of_le LO1.out (IN1.out k hk).1))) _) (fun k hk => Nat.ne_of_gt (Nat.lt_trans (Nat.lt_succ_self _) (Nat.lt_of_lt_of_le LO1.out (IN1.out k hk).1))) _), ?_, ((HB.out.setCell (p := ⟨w.heap.size + 1, 0, none⟩) (by simp) _).setCell (p := ⟨w.heap.size + 1, 1, none⟩) (by simp) _)⟩
 simp only [size_set, Ap, List.mem_cons, List.not_mem_nil, or_false, forall_eq_or_imp, forall_eq, false_imp_iff, implies_true, and_true]
 have in0 := IN0.out
 have lo0 := LO0.out
 have le0 := LE0.out
 have in1 := IN1.out
 have lo1 := LO1.out
 have le1 := LE1.out
 have sz0 := SZ0.out
 have sz1 := SZ1.out
 clear IN0 LO0 LE0 IN1 LO1 LE1 SZ0 SZ1 BA BR BO HB HS0 HL0 HS1 HL1 r0_ s0_ t0_ r1_ s1_ t1_
 and_intros <;> grind
def ToSpan (w w' : World) (x : TSpan) (r : Ending) : Prop := ∃ v0, ∃ v1, ∃ o0, ∃ o1, r = .returned (.agg #[v0, v1]) ∧ Kd.S kOcc 54 w' w.heap.size o0 v0 x.f0 ∧ Kd.S kOcc 54 w' w.heap.size o1 v1 x.f1 ∧ Ap (fun k => w.heap.size ≤ k ∧ k < w'.heap.size) [o0, o1] ∧ Below w.heap.size w w'
set_option maxHeartbeats 4000000 in
set_option maxRecDepth 100000 in
theorem toSpan_any (x : TSpan) (A0 : Option Addr) (c0 : Nat) (A1 : Option Addr) (c1 : Nat) (w : World) (hx : cSpan x ≤ 1048576) (hL0 : IsS kOcc w x.f0 A0 c0) (hL1 : IsS kOcc w x.f1 A1 c1) :
  Calls Tryz.prog 121 #[.agg #[.slice A0 x.f0.length c0, .slice A1 x.f1.length c1]] w fun e w' => ToSpan w w' x e := by
 obtain ⟨hb0, b0, b1, b2⟩ := boxes3 w #[.slice A0 x.f0.length c0, .slice A1 x.f1.length c1] #[.slice none 0 0, .slice none 0 0] #[.slice none 0 0, .slice none 0 0] 149 124 124
 have HL0 := Aside0.mk hL0
 have HL1 := Aside0.mk hL1
 clear hL0 hL1
 have hx' : cS cOcc x.f0 + cS cOcc x.f1 ≤ 1048576 := hx
 have hz0 : cS cOcc x.f0 ≤ 1048576 := by omega
 have hz1 : cS cOcc x.f1 ≤ 1048576 := by omega
 have HZ := Aside0.mk hx'
 clear hx hx'
 go_enter Tryz.func121, Tryz.ntmps121
 go_upto_region 2 with fail
 generalize ((w.alloc (.cells #[.slice A0 x.f0.length c0, .slice A1 x.f1.length c1] 149)).alloc (.cells #[.slice none 0 0, .slice none 0 0] 124)).alloc (.cells #[.slice none 0 0, .slice none 0 0] 124) = W0 at hb0 b0 b1 b2 ⊢
 have HB := Aside0.mk hb0
 have BA := Aside0.mk b0
 have BR := Aside0.mk b1
 have BO := Aside0.mk b2
 clear hb0 b0 b1 b2
 have p0 := (blk_cell BA.out 0).trans rfl
 go_upto_region 3 with (go_at_call 122; refine (toOccS_any A0 c0 x.f0 _ hz0 (HL0.out.below HB.out)).mono ?_; rintro e w0_ ⟨v0, rfl, hr0, hb3⟩; obtain ⟨P0, r0, rfl⟩ := Kd.S_slice hr0; have z0 := blk_frozen (blk_below BO.out hb3) 0; have q0 := (blk_cell (blk_below BO.out hb3) 0).trans rfl; have BA2 := Aside0.mk (blk_below BA.out hb3); have BR2 := Aside0.mk (blk_below BR.out hb3); have BO2 := Aside0.mk (blk_below BO.out hb3); have HS0 := Aside0.mk (Kd.S_lower (Kd.S_mono (Kd.S_bound hr0) (ok' := fun k => W0.heap.size ≤ k ∧ k < w0_.heap.size) (fun k hk => ⟨hk.2.1, hk.2.2.1⟩)) HB.out.size); have IN0 : Aside0 (∀ k, (fun k => W0.heap.size ≤ k ∧ k < w0_.heap.size) k → W0.heap.size ≤ k ∧ k < w0_.heap.size) := ⟨fun k hk => hk⟩; have LO0 := Aside0.mk (blk_lt BO.out); have LE0 := Aside0.mk hb3.size; have HB2 := Aside0.mk (below_then HB.out HB.out.size hb3); clear hb3 hr0)
 clear BA BR BO HB
 have BA := BA2
 have BR := BR2
 have BO := BO2
 have HB := HB2
 clear BA2 BR2 BO2 HB2
 have BA' := Aside0.mk (blk_far BA.out (p := ⟨w.heap.size + 1 + 1, 0, none⟩) (by simp; omega) (.slice P0 x.f0.length r0))
 have BR' := Aside0.mk (blk_far BR.out (p := ⟨w.heap.size + 1 + 1, 0, none⟩) (by simp) (.slice P0 x.f0.length r0))
 have BO' := Aside0.mk (show (w0_.setCell ⟨w.heap.size + 1 + 1, 0, none⟩ (.slice P0 x.f0.length r0)).heap[w.heap.size + 1 + 1]? = some (.cells #[.slice P0 x.f0.length r0, .slice none 0 0] 124 (0, 0)) from blk_put BO.out 0 _ rfl)
 have HB' := Aside0.mk (HB.out.setCell (p := ⟨w.heap.size + 1 + 1, 0, none⟩) (by simp; omega) (.slice P0 x.f0.length r0))
 have HS0' := Aside0.mk (Kd.S_far (p := ⟨w.heap.size + 1 + 1, 0, none⟩) HS0.out (fun k hk => Nat.ne_of_gt (Nat.lt_of_lt_of_le LO0.out (IN0.out k hk).1)) (.slice P0 x.f0.length r0))
 clear BA BR BO HB p0 z0 q0 HS0
 have SZ0 : Aside0 (w0_.heap.size ≤ ((w0_.setCell ⟨w.heap.size + 1 + 1, 0, none⟩ (.slice P0 x.f0.length r0))).heap.size) := ⟨by simp only [size_set]; exact Nat.le_refl _⟩
 generalize (w0_.setCell ⟨w.heap.size + 1 + 1, 0, none⟩ (.slice P0 x.f0.length r0)) = W1 at BA' BR' BO' HB' HS0' SZ0 ⊢
 have BA := BA'
 have BR := BR'
 have BO := BO'
 have HB := HB'
 have HS0 := HS0'
 clear BA' BR' BO' HB' HS0'
 have p1 := (blk_cell BA.out 1).trans rfl
 go_upto_region 4 with (go_at_call 122; refine (toOccS_any A1 c1 x.f1 _ hz1 (HL1.out.below HB.out)).mono ?_; rintro e w1_ ⟨v0, rfl, hr0, hb3⟩; obtain ⟨P1, r1, rfl⟩ := Kd.S_slice hr0; have z1 := blk_frozen (blk_below BO.out hb3) 1; have q1 := (blk_cell (blk_below BO.out hb3) 1).trans rfl; have BA2 := Aside0.mk (blk_below BA.out hb3); have BR2 := Aside0.mk (blk_below BR.out hb3); have BO2 := Aside0.mk (blk_below BO.out hb3); have HS1 := Aside0.mk (Kd.S_lower (Kd.S_mono (Kd.S_bound hr0) (ok' := fun k => W1.heap.size ≤ k ∧ k < w1_.heap.size) (fun k hk => ⟨hk.2.1, hk.2.2.1⟩)) HB.out.size); have IN1 : Aside0 (∀ k, (fun k => W1.heap.size ≤ k ∧ k < w1_.heap.size) k → W1.heap.size ≤ k ∧ k < w1_.heap.size) := ⟨fun k hk => hk⟩; have LO1 := Aside0.mk (blk_lt BO.out); have LE1 := Aside0.mk hb3.size; replace HS0 := Aside0.mk (Kd.S_below HS0.out hb3); have HB2 := Aside0.mk (below_then HB.out HB.out.size hb3); clear hb3 hr0)
 clear BA BR BO HB
 have BA := BA2
 have BR := BR2
 have BO := BO2
 have HB := HB2
 clear BA2 BR2 BO2 HB2
 have BA' := Aside0.mk (blk_far BA.out (p := ⟨w.heap.size + 1 + 1, 1, none⟩) (by simp; omega) (.slice P1 x.f1.length r1))
 have BR' := Aside0.mk (blk_far BR.out (p := ⟨w.heap.size + 1 + 1, 1, none⟩) (by simp) (.slice P1 x.f1.length r1))
 have BO' := Aside0.mk (show (w1_.setCell ⟨w.heap.size + 1 + 1, 1, none⟩ (.slice P1 x.f1.length r1)).heap[w.heap.size + 1 + 1]? = some (.cells #[.slice P0 x.f0.length r0, .slice P1 x.f1.length r1] 124 (0, 0)) from blk_put BO.out 1 _ rfl)
 have HB' := Aside0.mk (HB.out.setCell (p := ⟨w.heap.size + 1 + 1, 1, none⟩) (by simp; omega) (.slice P1 x.f1.length r1))
 have HS0' := Aside0.mk (Kd.S_far (p := ⟨w.heap.size + 1 + 1, 1, none⟩) HS0.out (fun k hk => Nat.ne_of_gt (Nat.lt_of_lt_of_le LO0.out (IN0.out k hk).1)) (.slice P1 x.f1.length r1))
 have HS1' := Aside0.mk (Kd.S_far (p := ⟨w.heap.size + 1 + 1, 1, none⟩) HS1.out (fun k hk => Nat.ne_of_gt (Nat.lt_of_lt_of_le LO1.out (IN1.out k hk).1)) (.slice P1 x.f1.length r1))
 clear BA BR BO HB p1 z1 q1 HS0 HS1
 have SZ1 : Aside0 (w1_.heap.size ≤ ((w1_.setCell ⟨w.heap.size + 1 + 1, 1, none⟩ (.slice P1 x.f1.length r1))).heap.size) := ⟨by simp only [size_set]; exact Nat.le_refl _⟩
 generalize (w1_.setCell ⟨w.heap.size + 1 + 1, 1, none⟩ (.slice P1 x.f1.length r1)) = W2 at BA' BR' BO' HB' HS0' HS1' SZ1 ⊢
 have BA := BA'
 have BR := BR'
 have BO := BO'
 have HB := HB'
 have HS0 := HS0'
 have HS1 := HS1'
 clear BA' BR' BO' HB' HS0' HS1'
 have r0_ := (blk_cell BO.out 0).trans rfl
 have s0_ := (blk_cell BR.out 0).trans rfl
 have t0_ := blk_frozen BR.out 0
 have r1_ := (blk_cell BO.out 1).trans rfl
 have s1_ := (blk_cell BR.out 1).trans rfl
 have t1_ := blk_frozen BR.out 1
 go_wp2
 refine bodyPost_ret (results_cell_row rfl _ _ (w.heap.size + 1) 124 #[.slice P0 x.f0.length r0, .slice P1 x.f1.length r1] (0, 0) _ rfl (blk_put (cs := #[.slice P0 x.f0.length r0, .slice none 0 0]) (blk_put BR.out 0 _ rfl) 1 _ rfl) Tryz.underlying124 rfl (by kernel_rfl)) rfl ?_
 refine ⟨_, _, _, _, rfl, (Kd.S_far (p := ⟨w.heap.size + 1, 1, none⟩) (Kd.S_far (p := ⟨w.heap.size + 1, 0, none⟩) HS0.out (fun k hk => Nat.ne_of_gt (Nat.lt_trans (Nat.lt_succ_self _) (Nat.lt_of_lt_of_le LO0.out (IN0.out k hk).1))) _) (fun k hk => Nat.ne_of_gt (Nat.lt_trans (Nat.lt_succ_self _) (Nat.lt_of_lt_of_le LO0.out (IN0.out k hk).1))) _), (Kd.S_far (p := ⟨w.heap.size + 1, 1, none⟩) (Kd.S_far (p := ⟨w.heap.size + 1, 0, none⟩) HS1.out (fun k hk => Nat.ne_of_gt (Nat.lt_trans (Nat.lt_succ_self _) (Nat.lt_of_lt_of_le LO1.out (IN1.out k hk).1))) _) (fun k hk => Nat.ne_of_gt (Nat.lt_trans (Nat.lt_succ_self _) (Nat.lt_of_lt_of_le LO1.out (IN1.out k hk).1))) _), ?_, ((HB.out.setCell (p := ⟨w.heap.size + 1, 0, none⟩) (by simp) _).setCell (p := ⟨w.heap.size + 1, 1, none⟩) (by simp) _)⟩
 simp only [size_set, Ap, List.mem_cons, List.not_mem_nil, or_false, forall_eq_or_imp, forall_eq, false_imp_iff, implies_true, and_true]
 have in0 := IN0.out
 have lo0 := LO0.out
 have le0 := LE0.out
 have in1 := IN1.out
 have lo1 := LO1.out
 have le1 := LE1.out
 have sz0 := SZ0.out
 have sz1 := SZ1.out
 clear IN0 LO0 LE0 IN1 LO1 LE1 SZ0 SZ1 BA BR BO HB HS0 HL0 HS1 HL1 r0_ s0_ t0_ r1_ s1_ t1_
 and_intros <;> grind
theorem infoNode : (Tryz.prog.info? 126).map (fun i => (i.zero, i.size, i.bytes)) = some (some (.agg #[.int .i64 0, .int .i64 0, .int .i64 0, .slice none 0 0, .slice none 0 0, .slice none 0 0, .slice none 0 0, .slice none 0 0, .slice none 0 0, .int .i64 0]), 10, 176) := by kernel_rfl
def ToNode (w w' : World) (x : TNode) (r : Ending) : Prop := ∃ v3, ∃ v4, ∃ v5, ∃ v6, ∃ v7, ∃ v8, ∃ o3, ∃ o4, ∃ o5, ∃ o6, ∃ o7, ∃ o8, r = .returned (.agg #[.int .i64 x.f0, .int .i64 x.f1, .int .i64 x.f2, v3, v4, v5, v6, v7, v8, .int .i64 x.f7]) ∧ Kd.S (Kd.int .i64) 3 w' w.heap.size o3 v3 x.f3 ∧ Kd.S kOcc 54 w' w.heap.size o4 v4 x.f4.f0 ∧ Kd.S kOcc 54 w' w.heap.size o5 v5 x.f4.f1 ∧ Kd.S kOcc 54 w' w.heap.size o6 v6 x.f5.f0 ∧ Kd.S kOcc 54 w' w.heap.size o7 v7 x.f5.f1 ∧ Kd.S kOcc 54 w' w.heap.size o8 v8 x.f6 ∧ Ap (fun k => w.heap.size ≤ k ∧ k < w'.heap.size) [o3, o4, o5, o6, o7, o8] ∧ Below w.heap.size w w'
set_option maxHeartbeats 4000000 in
set_option maxRecDepth 100000 in
theorem toNode_any (x : TNode) (A3 : Option Addr) (c3 : Nat) (A4 : Option Addr) (c4 : Nat) (A5 : Option Addr) (c5 : Nat) (A6 : Option Addr) (c6 : Nat) (A7 : Option Addr) (c7 : Nat) (A8 : Option Addr) (c8 : Nat) (w : World) (hx : cNode x ≤ 1048576) (hL3 : IsS (Kd.int .i64) w x.f3 A3 c3) (hL4 : IsS kOcc w x.f4.f0 A4 c4) (hL5 : IsS kOcc w x.f4.f1 A5 c5) (hL6 : IsS kOcc w x.f5.f0 A6 c6) (hL7 : IsS kOcc w x.f5.f1 A7 c7) (hL8 : IsS kOcc w x.f6 A8 c8) :
  Calls Tryz.prog 102 #[.agg #[.int .i64 x.f0, .int .i64 x.f1, .int .i64 x.f2, .slice A3 x.f3.length c3, .slice A4 x.f4.f0.length c4, .slice A5 x.f4.f1.length c5, .slice A6 x.f5.f0.length c6, .slice A7 x.f5.f1.length c7, .slice A8 x.f6.length c8, .int .i64 x.f7]] w fun e w' => ToNode w w' x e := by
 obtain ⟨hb0, b0, b1, b2⟩ := boxes3 w #[.int .i64 x.f0, .int .i64 x.f1, .int .i64 x.f2, .slice A3 x.f3.length c3, .slice A4 x.f4.f0.length c4, .slice A5 x.f4.f1.length c5, .slice A6 x.f5.f0.length c6, .slice A7 x.f5.f1.length c7, .slice A8 x.f6.length c8, .int .i64 x.f7] #[.int .i64 0, .int .i64 0, .int .i64 0, .slice none 0 0, .slice none 0 0, .slice none 0 0, .slice none 0 0, .slice none 0 0, .slice none 0 0, .int .i64 0] #[.int .i64 0, .int .i64 0, .int .i64 0, .slice none 0 0, .slice none 0 0, .slice none 0 0, .slice none 0 0, .slice none 0 0, .slice none 0 0, .int .i64 0] 151 126 126
 have HL3 := Aside0.mk hL3
 have HL4 := Aside0.mk hL4
 have HL5 := Aside0.mk hL5
 have HL6 := Aside0.mk hL6
 have HL7 := Aside0.mk hL7
 have HL8 := Aside0.mk hL8
 clear hL3 hL4 hL5 hL6 hL7 hL8
 have hx' : x.f3.length + cPair x.f4 + cSpan x.f5 + cS cOcc x.f6 ≤ 1048576 := hx
 have hz0 : x.f3.length ≤ 1048576 := by omega
 have hz1 : cPair x.f4 ≤ 1048576 := by omega
 have hz2 : cSpan x.f5 ≤ 1048576 := by omega
 have hz3 : cS cOcc x.f6 ≤ 1048576 := by omega
 have HZ := Aside0.mk hx'
 clear hx hx'
 go_enter Tryz.func102, Tryz.ntmps102
 go_upto_region 2 with fail
 generalize ((w.alloc (.cells #[.int .i64 x.f0, .int .i64 x.f1, .int .i64 x.f2, .slice A3 x.f3.length c3, .slice A4 x.f4.f0.length c4, .slice A5 x.f4.f1.length c5, .slice A6 x.f5.f0.length c6, .slice A7 x.f5.f1.length c7, .slice A8 x.f6.length c8, .int .i64 x.f7] 151)).alloc (.cells #[.int .i64 0, .int .i64 0, .int .i64 0, .slice none 0 0, .slice none 0 0, .slice none 0 0, .slice none 0 0, .slice none 0 0, .slice none 0 0, .int .i64 0] 126)).alloc (.cells #[.int .i64 0, .int .i64 0, .int .i64 0, .slice none 0 0, .slice none 0 0, .slice none 0 0, .slice none 0 0, .slice none 0 0, .slice none 0 0, .int .i64 0] 126) = W0 at hb0 b0 b1 b2 ⊢
 have HB := Aside0.mk hb0
 have BA := Aside0.mk b0
 have BR := Aside0.mk b1
 have BO := Aside0.mk b2
 clear hb0 b0 b1 b2
 have p0 := (blk_cell BA.out 0).trans rfl
 have z0 := blk_frozen BO.out 0
 have q0 := (blk_cell BO.out 0).trans rfl
 go_upto_region 3 with fail
 have BA' := Aside0.mk (blk_far BA.out (p := ⟨w.heap.size + 1 + 1, 0, none⟩) (by simp; omega) (.int .i64 x.f0))
 have BR' := Aside0.mk (blk_far BR.out (p := ⟨w.heap.size + 1 + 1, 0, none⟩) (by simp) (.int .i64 x.f0))
 have BO' := Aside0.mk (show (W0.setCell ⟨w.heap.size + 1 + 1, 0, none⟩ (.int .i64 x.f0)).heap[w.heap.size + 1 + 1]? = some (.cells #[.int .i64 x.f0, .int .i64 0, .int .i64 0, .slice none 0 0, .slice none 0 0, .slice none 0 0, .slice none 0 0, .slice none 0 0, .slice none 0 0, .int .i64 0] 126 (0, 0)) from blk_put BO.out 0 _ rfl)
 have HB' := Aside0.mk (HB.out.setCell (p := ⟨w.heap.size + 1 + 1, 0, none⟩) (by simp; omega) (.int .i64 x.f0))
 clear BA BR BO HB p0 z0 q0
 have SZ0 : Aside0 (W0.heap.size ≤ ((W0.setCell ⟨w.heap.size + 1 + 1, 0, none⟩ (.int .i64 x.f0))).heap.size) := ⟨by simp only [size_set]; exact Nat.le_refl _⟩
 generalize (W0.setCell ⟨w.heap.size + 1 + 1, 0, none⟩ (.int .i64 x.f0)) = W1 at BA' BR' BO' HB'  SZ0 ⊢
 have BA := BA'
 have BR := BR'
 have BO := BO'
 have HB := HB'
 clear BA' BR' BO' HB'
 have p1 := (blk_cell BA.out 1).trans rfl
 have z1 := blk_frozen BO.out 1
 have q1 := (blk_cell BO.out 1).trans rfl
 go_upto_region 4 with fail
 have BA' := Aside0.mk (blk_far BA.out (p := ⟨w.heap.size + 1 + 1, 1, none⟩) (by simp; omega) (.int .i64 x.f1))
 have BR' := Aside0.mk (blk_far BR.out (p := ⟨w.heap.size + 1 + 1, 1, none⟩) (by simp) (.int .i64 x.f1))
 have BO' := Aside0.mk (show (W1.setCell ⟨w.heap.size + 1 + 1, 1, none⟩ (.int .i64 x.f1)).heap[w.heap.size + 1 + 1]? = some (.cells #[.int .i64 x.f0, .int .i64 x.f1, .int .i64 0, .slice none 0 0, .slice none 0 0, .slice none 0 0, .slice none 0 0, .slice none 0 0, .slice none 0 0, .int .i64 0] 126 (0, 0)) from blk_put BO.out 1 _ rfl)
 have HB' := Aside0.mk (HB.out.setCell (p := ⟨w.heap.size + 1 + 1, 1, none⟩) (by simp; omega) (.int .i64 x.f1))
 clear BA BR BO HB p1 z1 q1
 have SZ1 : Aside0 (W1.heap.size ≤ ((W1.setCell ⟨w.heap.size + 1 + 1, 1, none⟩ (.int .i64 x.f1))).heap.size) := ⟨by simp only [size_set]; exact Nat.le_refl _⟩
 generalize (W1.setCell ⟨w.heap.size + 1 + 1, 1, none⟩ (.int .i64 x.f1)) = W2 at BA' BR' BO' HB'  SZ1 ⊢
 have BA := BA'
 have BR := BR'
 have BO := BO'
 have HB := HB'
 clear BA' BR' BO' HB'
 have p2 := (blk_cell BA.out 2).trans rfl
 have z2 := blk_frozen BO.out 2
 have q2 := (blk_cell BO.out 2).trans rfl
 go_upto_region 5 with fail
 have BA' := Aside0.mk (blk_far BA.out (p := ⟨w.heap.size + 1 + 1, 2, none⟩) (by simp; omega) (.int .i64 x.f2))
 have BR' := Aside0.mk (blk_far BR.out (p := ⟨w.heap.size + 1 + 1, 2, none⟩) (by simp) (.int .i64 x.f2))
 have BO' := Aside0.mk (show (W2.setCell ⟨w.heap.size + 1 + 1, 2, none⟩ (.int .i64 x.f2)).heap[w.heap.size + 1 + 1]? = some (.cells #[.int .i64 x.f0, .int .i64 x.f1, .int .i64 x.f2, .slice none 0 0, .slice none 0 0, .slice none 0 0, .slice none 0 0, .slice none 0 0, .slice none 0 0, .int .i64 0] 126 (0, 0)) from blk_put BO.out 2 _ rfl)
 have HB' := Aside0.mk (HB.out.setCell (p := ⟨w.heap.size + 1 + 1, 2, none⟩) (by simp; omega) (.int .i64 x.f2))
 clear BA BR BO HB p2 z2 q2
 have SZ2 : Aside0 (W2.heap.size ≤ ((W2.setCell ⟨w.heap.size + 1 + 1, 2, none⟩ (.int .i64 x.f2))).heap.size) := ⟨by simp only [size_set]; exact Nat.le_refl _⟩
 generalize (W2.setCell ⟨w.heap.size + 1 + 1, 2, none⟩ (.int .i64 x.f2)) = W3 at BA' BR' BO' HB'  SZ2 ⊢
 have BA := BA'
 have BR := BR'
 have BO := BO'
 have HB := HB'
 clear BA' BR' BO' HB'
 have p3 := (blk_cell BA.out 3).trans rfl
 go_upto_region 6 with (go_at_call 22; refine (toIntS_any A3 c3 x.f3 _ hz0 (HL3.out.below HB.out)).mono ?_; rintro e w3_ ⟨v0, rfl, hr0, hb3⟩; obtain ⟨P3, r3, rfl⟩ := Kd.S_slice hr0; have z3 := blk_frozen (blk_below BO.out hb3) 3; have q3 := (blk_cell (blk_below BO.out hb3) 3).trans rfl; have BA2 := Aside0.mk (blk_below BA.out hb3); have BR2 := Aside0.mk (blk_below BR.out hb3); have BO2 := Aside0.mk (blk_below BO.out hb3); have HS3 := Aside0.mk (Kd.S_lower (Kd.S_mono (Kd.S_bound hr0) (ok' := fun k => W3.heap.size ≤ k ∧ k < w3_.heap.size) (fun k hk => ⟨hk.2.1, hk.2.2.1⟩)) HB.out.size); have IN3 : Aside0 (∀ k, (fun k => W3.heap.size ≤ k ∧ k < w3_.heap.size) k → W3.heap.size ≤ k ∧ k < w3_.heap.size) := ⟨fun k hk => hk⟩; have LO3 := Aside0.mk (blk_lt BO.out); have LE3 := Aside0.mk hb3.size; have HB2 := Aside0.mk (below_then HB.out HB.out.size hb3); clear hb3 hr0)
 clear BA BR BO HB
 have BA := BA2
 have BR := BR2
 have BO := BO2
 have HB := HB2
 clear BA2 BR2 BO2 HB2
 have BA' := Aside0.mk (blk_far BA.out (p := ⟨w.heap.size + 1 + 1, 3, none⟩) (by simp; omega) (.slice P3 x.f3.length r3))
 have BR' := Aside0.mk (blk_far BR.out (p := ⟨w.heap.size + 1 + 1, 3, none⟩) (by simp) (.slice P3 x.f3.length r3))
 have BO' := Aside0.mk (show (w3_.setCell ⟨w.heap.size + 1 + 1, 3, none⟩ (.slice P3 x.f3.length r3)).heap[w.heap.size + 1 + 1]? = some (.cells #[.int .i64 x.f0, .int .i64 x.f1, .int .i64 x.f2, .slice P3 x.f3.length r3, .slice none 0 0, .slice none 0 0, .slice none 0 0, .slice none 0 0, .slice none 0 0, .int .i64 0] 126 (0, 0)) from blk_put BO.out 3 _ rfl)
 have HB' := Aside0.mk (HB.out.setCell (p := ⟨w.heap.size + 1 + 1, 3, none⟩) (by simp; omega) (.slice P3 x.f3.length r3))
 have HS3' := Aside0.mk (Kd.S_far (p := ⟨w.heap.size + 1 + 1, 3, none⟩) HS3.out (fun k hk => Nat.ne_of_gt (Nat.lt_of_lt_of_le LO3.out (IN3.out k hk).1)) (.slice P3 x.f3.length r3))
 clear BA BR BO HB p3 z3 q3 HS3
 have SZ3 : Aside0 (w3_.heap.size ≤ ((w3_.setCell ⟨w.heap.size + 1 + 1, 3, none⟩ (.slice P3 x.f3.length r3))).heap.size) := ⟨by simp only [size_set]; exact Nat.le_refl _⟩
 generalize (w3_.setCell ⟨w.heap.size + 1 + 1, 3, none⟩ (.slice P3 x.f3.length r3)) = W4 at BA' BR' BO' HB' HS3' SZ3 ⊢
 have BA := BA'
 have BR := BR'
 have BO := BO'
 have HB := HB'
 have HS3 := HS3'
 clear BA' BR' BO' HB' HS3'
 have p4 := (blk_cell BA.out 4).trans rfl
 have p5 := (blk_cell BA.out 5).trans rfl
 go_upto_region 7 with (go_at_call 120; refine (toPair_any x.f4 A4 c4 A5 c5 _ hz1 (HL4.out.below HB.out) (HL5.out.below HB.out)).mono ?_; rintro e w4_ ⟨v0, v1, o4, o5, rfl, hr0, hr1, hap, hb3⟩; obtain ⟨P4, r4, rfl⟩ := Kd.S_slice hr0; obtain ⟨P5, r5, rfl⟩ := Kd.S_slice hr1; have z4 := blk_frozen (blk_below BO.out hb3) 4; have q4 := (blk_cell (blk_below BO.out hb3) 4).trans rfl; have z5 := blk_frozen (blk_below BO.out hb3) 5; have q5 := (blk_cell (blk_below BO.out hb3) 5).trans rfl; have BA2 := Aside0.mk (blk_below BA.out hb3); have BR2 := Aside0.mk (blk_below BR.out hb3); have BO2 := Aside0.mk (blk_below BO.out hb3); have HS4 := Aside0.mk (Kd.S_lower hr0 HB.out.size); have IN4 : Aside0 (∀ k, o4 k → W4.heap.size ≤ k ∧ k < w4_.heap.size) := ⟨by simp only [Ap, List.mem_cons, List.not_mem_nil, or_false, forall_eq_or_imp, forall_eq, false_imp_iff, implies_true, and_true] at hap; exact hap.1⟩; have LO4 := Aside0.mk (blk_lt BO.out); have LE4 := Aside0.mk hb3.size; have HS5 := Aside0.mk (Kd.S_lower hr1 HB.out.size); have IN5 : Aside0 (∀ k, o5 k → W4.heap.size ≤ k ∧ k < w4_.heap.size) := ⟨by simp only [Ap, List.mem_cons, List.not_mem_nil, or_false, forall_eq_or_imp, forall_eq, false_imp_iff, implies_true, and_true] at hap; exact hap.2.2⟩; have LO5 := Aside0.mk (blk_lt BO.out); have LE5 := Aside0.mk hb3.size; have AP4 := Aside0.mk hap; replace HS3 := Aside0.mk (Kd.S_below HS3.out hb3); have HB2 := Aside0.mk (below_then HB.out HB.out.size hb3); clear hb3 hr0 hr1 hap)
 clear BA BR BO HB
 have BA := BA2
 have BR := BR2
 have BO := BO2
 have HB := HB2
 clear BA2 BR2 BO2 HB2
 have BA' := Aside0.mk (blk_far (blk_far BA.out (p := ⟨w.heap.size + 1 + 1, 4, none⟩) (by simp; omega) (.slice P4 x.f4.f0.length r4)) (p := ⟨w.heap.size + 1 + 1, 5, none⟩) (by simp; omega) (.slice P5 x.f4.f1.length r5))
 have BR' := Aside0.mk (blk_far (blk_far BR.out (p := ⟨w.heap.size + 1 + 1, 4, none⟩) (by simp) (.slice P4 x.f4.f0.length r4)) (p := ⟨w.heap.size + 1 + 1, 5, none⟩) (by simp) (.slice P5 x.f4.f1.length r5))
 have BO' := Aside0.mk (show ((w4_.setCell ⟨w.heap.size + 1 + 1, 4, none⟩ (.slice P4 x.f4.f0.length r4)).setCell ⟨w.heap.size + 1 + 1, 5, none⟩ (.slice P5 x.f4.f1.length r5)).heap[w.heap.size + 1 + 1]? = some (.cells #[.int .i64 x.f0, .int .i64 x.f1, .int .i64 x.f2, .slice P3 x.f3.length r3, .slice P4 x.f4.f0.length r4, .slice P5 x.f4.f1.length r5, .slice none 0 0, .slice none 0 0, .slice none 0 0, .int .i64 0] 126 (0, 0)) from blk_put (show (w4_.setCell ⟨w.heap.size + 1 + 1, 4, none⟩ (.slice P4 x.f4.f0.length r4)).heap[w.heap.size + 1 + 1]? = some (.cells #[.int .i64 x.f0, .int .i64 x.f1, .int .i64 x.f2, .slice P3 x.f3.length r3, .slice P4 x.f4.f0.length r4, .slice none 0 0, .slice none 0 0, .slice none 0 0, .slice none 0 0, .int .i64 0] 126 (0, 0)) from blk_put BO.out 4 _ rfl) 5 _ rfl)
 have HB' := Aside0.mk ((HB.out.setCell (p := ⟨w.heap.size + 1 + 1, 4, none⟩) (by simp; omega) (.slice P4 x.f4.f0.length r4)).setCell (p := ⟨w.heap.size + 1 + 1, 5, none⟩) (by simp; omega) (.slice P5 x.f4.f1.length r5))
 have HS3' := Aside0.mk (Kd.S_far (p := ⟨w.heap.size + 1 + 1, 5, none⟩) (Kd.S_far (p := ⟨w.heap.size + 1 + 1, 4, none⟩) HS3.out (fun k hk => Nat.ne_of_gt (Nat.lt_of_lt_of_le LO3.out (IN3.out k hk).1)) (.slice P4 x.f4.f0.length r4)) (fun k hk => Nat.ne_of_gt (Nat.lt_of_lt_of_le LO3.out (IN3.out k hk).1)) (.slice P5 x.f4.f1.length r5))
 have HS4' := Aside0.mk (Kd.S_far (p := ⟨w.heap.size + 1 + 1, 5, none⟩) (Kd.S_far (p := ⟨w.heap.size + 1 + 1, 4, none⟩) HS4.out (fun k hk => Nat.ne_of_gt (Nat.lt_of_lt_of_le LO4.out (IN4.out k hk).1)) (.slice P4 x.f4.f0.length r4)) (fun k hk => Nat.ne_of_gt (Nat.lt_of_lt_of_le LO4.out (IN4.out k hk).1)) (.slice P5 x.f4.f1.length r5))
 have HS5' := Aside0.mk (Kd.S_far (p := ⟨w.heap.size + 1 + 1, 5, none⟩) (Kd.S_far (p := ⟨w.heap.size + 1 + 1, 4, none⟩) HS5.out (fun k hk => Nat.ne_of_gt (Nat.lt_of_lt_of_le LO5.out (IN5.out k hk).1)) (.slice P4 x.f4.f0.length r4)) (fun k hk => Nat.ne_of_gt (Nat.lt_of_lt_of_le LO5.out (IN5.out k hk).1)) (.slice P5 x.f4.f1.length r5))
 clear BA BR BO HB p4 z4 q4 p5 z5 q5 HS3 HS4 HS5
 have SZ4 : Aside0 (w4_.heap.size ≤ (((w4_.setCell ⟨w.heap.size + 1 + 1, 4, none⟩ (.slice P4 x.f4.f0.length r4)).setCell ⟨w.heap.size + 1 + 1, 5, none⟩ (.slice P5 x.f4.f1.length r5))).heap.size) := ⟨by simp only [size_set]; exact Nat.le_refl _⟩
 generalize ((w4_.setCell ⟨w.heap.size + 1 + 1, 4, none⟩ (.slice P4 x.f4.f0.length r4)).setCell ⟨w.heap.size + 1 + 1, 5, none⟩ (.slice P5 x.f4.f1.length r5)) = W5 at BA' BR' BO' HB' HS3' HS4' HS5' SZ4 ⊢
 have BA := BA'
 have BR := BR'
 have BO := BO'
 have HB := HB'
 have HS3 := HS3'
 have HS4 := HS4'
 have HS5 := HS5'
 clear BA' BR' BO' HB' HS3' HS4' HS5'
 have p6 := (blk_cell BA.out 6).trans rfl
 have p7 := (blk_cell BA.out 7).trans rfl
 go_upto_region 8 with (go_at_call 121; refine (toSpan_any x.f5 A6 c6 A7 c7 _ hz2 (HL6.out.below HB.out) (HL7.out.below HB.out)).mono ?_; rintro e w5_ ⟨v0, v1, o6, o7, rfl, hr0, hr1, hap, hb3⟩; obtain ⟨P6, r6, rfl⟩ := Kd.S_slice hr0; obtain ⟨P7, r7, rfl⟩ := Kd.S_slice hr1; have z6 := blk_frozen (blk_below BO.out hb3) 6; have q6 := (blk_cell (blk_below BO.out hb3) 6).trans rfl; have z7 := blk_frozen (blk_below BO.out hb3) 7; have q7 := (blk_cell (blk_below BO.out hb3) 7).trans rfl; have BA2 := Aside0.mk (blk_below BA.out hb3); have BR2 := Aside0.mk (blk_below BR.out hb3); have BO2 := Aside0.mk (blk_below BO.out hb3); have HS6 := Aside0.mk (Kd.S_lower hr0 HB.out.size); have IN6 : Aside0 (∀ k, o6 k → W5.heap.size ≤ k ∧ k < w5_.heap.size) := ⟨by simp only [Ap, List.mem_cons, List.not_mem_nil, or_false, forall_eq_or_imp, forall_eq, false_imp_iff, implies_true, and_true] at hap; exact hap.1⟩; have LO6 := Aside0.mk (blk_lt BO.out); have LE6 := Aside0.mk hb3.size; have HS7 := Aside0.mk (Kd.S_lower hr1 HB.out.size); have IN7 : Aside0 (∀ k, o7 k → W5.heap.size ≤ k ∧ k < w5_.heap.size) := ⟨by simp only [Ap, List.mem_cons, List.not_mem_nil, or_false, forall_eq_or_imp, forall_eq, false_imp_iff, implies_true, and_true] at hap; exact hap.2.2⟩; have LO7 := Aside0.mk (blk_lt BO.out); have LE7 := Aside0.mk hb3.size; have AP5 := Aside0.mk hap; replace HS3 := Aside0.mk (Kd.S_below HS3.out hb3); replace HS4 := Aside0.mk (Kd.S_below HS4.out hb3); replace HS5 := Aside0.mk (Kd.S_below HS5.out hb3); have HB2 := Aside0.mk (below_then HB.out HB.out.size hb3); clear hb3 hr0 hr1 hap)
 clear BA BR BO HB
 have BA := BA2
 have BR := BR2
 have BO := BO2
 have HB := HB2
 clear BA2 BR2 BO2 HB2
 have BA' := Aside0.mk (blk_far (blk_far BA.out (p := ⟨w.heap.size + 1 + 1, 6, none⟩) (by simp; omega) (.slice P6 x.f5.f0.length r6)) (p := ⟨w.heap.size + 1 + 1, 7, none⟩) (by simp; omega) (.slice P7 x.f5.f1.length r7))
 have BR' := Aside0.mk (blk_far (blk_far BR.out (p := ⟨w.heap.size + 1 + 1, 6, none⟩) (by simp) (.slice P6 x.f5.f0.length r6)) (p := ⟨w.heap.size + 1 + 1, 7, none⟩) (by simp) (.slice P7 x.f5.f1.length r7))
 have BO' := Aside0.mk (show ((w5_.setCell ⟨w.heap.size + 1 + 1, 6, none⟩ (.slice P6 x.f5.f0.length r6)).setCell ⟨w.heap.size + 1 + 1, 7, none⟩ (.slice P7 x.f5.f1.length r7)).heap[w.heap.size + 1 + 1]? = some (.cells #[.int .i64 x.f0, .int .i64 x.f1, .int .i64 x.f2, .slice P3 x.f3.length r3, .slice P4 x.f4.f0.length r4, .slice P5 x.f4.f1.length r5, .slice P6 x.f5.f0.length r6, .slice P7 x.f5.f1.length r7, .slice none 0 0, .int .i64 0] 126 (0, 0)) from blk_put (show (w5_.setCell ⟨w.heap.size + 1 + 1, 6, none⟩ (.slice P6 x.f5.f0.length r6)).heap[w.heap.size + 1 + 1]? = some (.cells #[.int .i64 x.f0, .int .i64 x.f1, .int .i64 x.f2, .slice P3 x.f3.length r3, .slice P4 x.f4.f0.length r4, .slice P5 x.f4.f1.length r5, .slice P6 x.f5.f0.length r6, .slice none 0 0, .slice none 0 0, .int .i64 0] 126 (0, 0)) from blk_put BO.out 6 _ rfl) 7 _ rfl)
 have HB' := Aside0.mk ((HB.out.setCell (p := ⟨w.heap.size + 1 + 1, 6, none⟩) (by simp; omega) (.slice P6 x.f5.f0.length r6)).setCell (p := ⟨w.heap.size + 1 + 1, 7, none⟩) (by simp; omega) (.slice P7 x.f5.f1.length r7))
 have HS3' := Aside0.mk (Kd.S_far (p := ⟨w.heap.size + 1 + 1, 7, none⟩) (Kd.S_far (p := ⟨w.heap.size + 1 + 1, 6, none⟩) HS3.out (fun k hk => Nat.ne_of_gt (Nat.lt_of_lt_of_le LO3.out (IN3.out k hk).1)) (.slice P6 x.f5.f0.length r6)) (fun k hk => Nat.ne_of_gt (Nat.lt_of_lt_of_le LO3.out (IN3.out k hk).1)) (.slice P7 x.f5.f1.length r7))
 have HS4' := Aside0.mk (Kd.S_far (p := ⟨w.heap.size + 1 + 1, 7, none⟩) (Kd.S_far (p := ⟨w.heap.size + 1 + 1, 6, none⟩) HS4.out (fun k hk => Nat.ne_of_gt (Nat.lt_of_lt_of_le LO4.out (IN4.out k hk).1)) (.slice P6 x.f5.f0.length r6)) (fun k hk => Nat.ne_of_gt (Nat.lt_of_lt_of_le LO4.out (IN4.out k hk).1)) (.slice P7 x.f5.f1.length r7))
 have HS5' := Aside0.mk (Kd.S_far (p := ⟨w.heap.size + 1 + 1, 7, none⟩) (Kd.S_far (p := ⟨w.heap.size + 1 + 1, 6, none⟩) HS5.out (fun k hk => Nat.ne_of_gt (Nat.lt_of_lt_of_le LO5.out (IN5.out k hk).1)) (.slice P6 x.f5.f0.length r6)) (fun k hk => Nat.ne_of_gt (Nat.lt_of_lt_of_le LO5.out (IN5.out k hk).1)) (.slice P7 x.f5.f1.length r7))
 have HS6' := Aside0.mk (Kd.S_far (p := ⟨w.heap.size + 1 + 1, 7, none⟩) (Kd.S_far (p := ⟨w.heap.size + 1 + 1, 6, none⟩) HS6.out (fun k hk => Nat.ne_of_gt (Nat.lt_of_lt_of_le LO6.out (IN6.out k hk).1)) (.slice P6 x.f5.f0.length r6)) (fun k hk => Nat.ne_of_gt (Nat.lt_of_lt_of_le LO6.out (IN6.out k hk).1)) (.slice P7 x.f5.f1.length r7))
 have HS7' := Aside0.mk (Kd.S_far (p := ⟨w.heap.size + 1 + 1, 7, none⟩) (Kd.S_far (p := ⟨w.heap.size + 1 + 1, 6, none⟩) HS7.out (fun k hk => Nat.ne_of_gt (Nat.lt_of_lt_of_le LO7.out (IN7.out k hk).1)) (.slice P6 x.f5.f0.length r6)) (fun k hk => Nat.ne_of_gt (Nat.lt_of_lt_of_le LO7.out (IN7.out k hk).1)) (.slice P7 x.f5.f1.length r7))
 clear BA BR BO HB p6 z6 q6 p7 z7 q7 HS3 HS4 HS5 HS6 HS7
 have SZ5 : Aside0 (w5_.heap.size ≤ (((w5_.setCell ⟨w.heap.size + 1 + 1, 6, none⟩ (.slice P6 x.f5.f0.length r6)).setCell ⟨w.heap.size + 1 + 1, 7, none⟩ (.slice P7 x.f5.f1.length r7))).heap.size) := ⟨by simp only [size_set]; exact Nat.le_refl _⟩
 generalize ((w5_.setCell ⟨w.heap.size + 1 + 1, 6, none⟩ (.slice P6 x.f5.f0.length r6)).setCell ⟨w.heap.size + 1 + 1, 7, none⟩ (.slice P7 x.f5.f1.length r7)) = W6 at BA' BR' BO' HB' HS3' HS4' HS5' HS6' HS7' SZ5 ⊢
 have BA := BA'
 have BR := BR'
 have BO := BO'
 have HB := HB'
 have HS3 := HS3'
 have HS4 := HS4'
 have HS5 := HS5'
 have HS6 := HS6'
 have HS7 := HS7'
 clear BA' BR' BO' HB' HS3' HS4' HS5' HS6' HS7'
 have p8 := (blk_cell BA.out 8).trans rfl
 go_upto_region 9 with (go_at_call 122; refine (toOccS_any A8 c8 x.f6 _ hz3 (HL8.out.below HB.out)).mono ?_; rintro e w6_ ⟨v0, rfl, hr0, hb3⟩; obtain ⟨P8, r8, rfl⟩ := Kd.S_slice hr0; have z8 := blk_frozen (blk_below BO.out hb3) 8; have q8 := (blk_cell (blk_below BO.out hb3) 8).trans rfl; have BA2 := Aside0.mk (blk_below BA.out hb3); have BR2 := Aside0.mk (blk_below BR.out hb3); have BO2 := Aside0.mk (blk_below BO.out hb3); have HS8 := Aside0.mk (Kd.S_lower (Kd.S_mono (Kd.S_bound hr0) (ok' := fun k => W6.heap.size ≤ k ∧ k < w6_.heap.size) (fun k hk => ⟨hk.2.1, hk.2.2.1⟩)) HB.out.size); have IN8 : Aside0 (∀ k, (fun k => W6.heap.size ≤ k ∧ k < w6_.heap.size) k → W6.heap.size ≤ k ∧ k < w6_.heap.size) := ⟨fun k hk => hk⟩; have LO8 := Aside0.mk (blk_lt BO.out); have LE8 := Aside0.mk hb3.size; replace HS3 := Aside0.mk (Kd.S_below HS3.out hb3); replace HS4 := Aside0.mk (Kd.S_below HS4.out hb3); replace HS5 := Aside0.mk (Kd.S_below HS5.out hb3); replace HS6 := Aside0.mk (Kd.S_below HS6.out hb3); replace HS7 := Aside0.mk (Kd.S_below HS7.out hb3); have HB2 := Aside0.mk (below_then HB.out HB.out.size hb3); clear hb3 hr0)
 clear BA BR BO HB
 have BA := BA2
 have BR := BR2
 have BO := BO2
 have HB := HB2
 clear BA2 BR2 BO2 HB2
 have BA' := Aside0.mk (blk_far BA.out (p := ⟨w.heap.size + 1 + 1, 8, none⟩) (by simp; omega) (.slice P8 x.f6.length r8))
 have BR' := Aside0.mk (blk_far BR.out (p := ⟨w.heap.size + 1 + 1, 8, none⟩) (by simp) (.slice P8 x.f6.length r8))
 have BO' := Aside0.mk (show (w6_.setCell ⟨w.heap.size + 1 + 1, 8, none⟩ (.slice P8 x.f6.length r8)).heap[w.heap.size + 1 + 1]? = some (.cells #[.int .i64 x.f0, .int .i64 x.f1, .int .i64 x.f2, .slice P3 x.f3.length r3, .slice P4 x.f4.f0.length r4, .slice P5 x.f4.f1.length r5, .slice P6 x.f5.f0.length r6, .slice P7 x.f5.f1.length r7, .slice P8 x.f6.length r8, .int .i64 0] 126 (0, 0)) from blk_put BO.out 8 _ rfl)
 have HB' := Aside0.mk (HB.out.setCell (p := ⟨w.heap.size + 1 + 1, 8, none⟩) (by simp; omega) (.slice P8 x.f6.length r8))
 have HS3' := Aside0.mk (Kd.S_far (p := ⟨w.heap.size + 1 + 1, 8, none⟩) HS3.out (fun k hk => Nat.ne_of_gt (Nat.lt_of_lt_of_le LO3.out (IN3.out k hk).1)) (.slice P8 x.f6.length r8))
 have HS4' := Aside0.mk (Kd.S_far (p := ⟨w.heap.size + 1 + 1, 8, none⟩) HS4.out (fun k hk => Nat.ne_of_gt (Nat.lt_of_lt_of_le LO4.out (IN4.out k hk).1)) (.slice P8 x.f6.length r8))
 have HS5' := Aside0.mk (Kd.S_far (p := ⟨w.heap.size + 1 + 1, 8, none⟩) HS5.out (fun k hk => Nat.ne_of_gt (Nat.lt_of_lt_of_le LO5.out (IN5.out k hk).1)) (.slice P8 x.f6.length r8))
 have HS6' := Aside0.mk (Kd.S_far (p := ⟨w.heap.size + 1 + 1, 8, none⟩) HS6.out (fun k hk => Nat.ne_of_gt (Nat.lt_of_lt_of_le LO6.out (IN6.out k hk).1)) (.slice P8 x.f6.length r8))
 have HS7' := Aside0.mk (Kd.S_far (p := ⟨w.heap.size + 1 + 1, 8, none⟩) HS7.out (fun k hk => Nat.ne_of_gt (Nat.lt_of_lt_of_le LO7.out (IN7.out k hk).1)) (.slice P8 x.f6.length r8))
 have HS8' := Aside0.mk (Kd.S_far (p := ⟨w.heap.size + 1 + 1, 8, none⟩) HS8.out (fun k hk => Nat.ne_of_gt (Nat.lt_of_lt_of_le LO8.out (IN8.out k hk).1)) (.slice P8 x.f6.length r8))
 clear BA BR BO HB p8 z8 q8 HS3 HS4 HS5 HS6 HS7 HS8
 have SZ6 : Aside0 (w6_.heap.size ≤ ((w6_.setCell ⟨w.heap.size + 1 + 1, 8, none⟩ (.slice P8 x.f6.length r8))).heap.size) := ⟨by simp only [size_set]; exact Nat.le_refl _⟩
 generalize (w6_.setCell ⟨w.heap.size + 1 + 1, 8, none⟩ (.slice P8 x.f6.length r8)) = W7 at BA' BR' BO' HB' HS3' HS4' HS5' HS6' HS7' HS8' SZ6 ⊢
 have BA := BA'
 have BR := BR'
 have BO := BO'
 have HB := HB'
 have HS3 := HS3'
 have HS4 := HS4'
 have HS5 := HS5'
 have HS6 := HS6'
 have HS7 := HS7'
 have HS8 := HS8'
 clear BA' BR' BO' HB' HS3' HS4' HS5' HS6' HS7' HS8'
 have p9 := (blk_cell BA.out 9).trans rfl
 have z9 := blk_frozen BO.out 9
 have q9 := (blk_cell BO.out 9).trans rfl
 go_upto_region 10 with fail
 have BA' := Aside0.mk (blk_far BA.out (p := ⟨w.heap.size + 1 + 1, 9, none⟩) (by simp; omega) (.int .i64 x.f7))
 have BR' := Aside0.mk (blk_far BR.out (p := ⟨w.heap.size + 1 + 1, 9, none⟩) (by simp) (.int .i64 x.f7))
 have BO' := Aside0.mk (show (W7.setCell ⟨w.heap.size + 1 + 1, 9, none⟩ (.int .i64 x.f7)).heap[w.heap.size + 1 + 1]? = some (.cells #[.int .i64 x.f0, .int .i64 x.f1, .int .i64 x.f2, .slice P3 x.f3.length r3, .slice P4 x.f4.f0.length r4, .slice P5 x.f4.f1.length r5, .slice P6 x.f5.f0.length r6, .slice P7 x.f5.f1.length r7, .slice P8 x.f6.length r8, .int .i64 x.f7] 126 (0, 0)) from blk_put BO.out 9 _ rfl)
 have HB' := Aside0.mk (HB.out.setCell (p := ⟨w.heap.size + 1 + 1, 9, none⟩) (by simp; omega) (.int .i64 x.f7))
 have HS3' := Aside0.mk (Kd.S_far (p := ⟨w.heap.size + 1 + 1, 9, none⟩) HS3.out (fun k hk => Nat.ne_of_gt (Nat.lt_of_lt_of_le LO3.out (IN3.out k hk).1)) (.int .i64 x.f7))
 have HS4' := Aside0.mk (Kd.S_far (p := ⟨w.heap.size + 1 + 1, 9, none⟩) HS4.out (fun k hk => Nat.ne_of_gt (Nat.lt_of_lt_of_le LO4.out (IN4.out k hk).1)) (.int .i64 x.f7))
 have HS5' := Aside0.mk (Kd.S_far (p := ⟨w.heap.size + 1 + 1, 9, none⟩) HS5.out (fun k hk => Nat.ne_of_gt (Nat.lt_of_lt_of_le LO5.out (IN5.out k hk).1)) (.int .i64 x.f7))
 have HS6' := Aside0.mk (Kd.S_far (p := ⟨w.heap.size + 1 + 1, 9, none⟩) HS6.out (fun k hk => Nat.ne_of_gt (Nat.lt_of_lt_of_le LO6.out (IN6.out k hk).1)) (.int .i64 x.f7))
 have HS7' := Aside0.mk (Kd.S_far (p := ⟨w.heap.size + 1 + 1, 9, none⟩) HS7.out (fun k hk => Nat.ne_of_gt (Nat.lt_of_lt_of_le LO7.out (IN7.out k hk).1)) (.int .i64 x.f7))
 have HS8' := Aside0.mk (Kd.S_far (p := ⟨w.heap.size + 1 + 1, 9, none⟩) HS8.out (fun k hk => Nat.ne_of_gt (Nat.lt_of_lt_of_le LO8.out (IN8.out k hk).1)) (.int .i64 x.f7))
 clear BA BR BO HB p9 z9 q9 HS3 HS4 HS5 HS6 HS7 HS8
 have SZ7 : Aside0 (W7.heap.size ≤ ((W7.setCell ⟨w.heap.size + 1 + 1, 9, none⟩ (.int .i64 x.f7))).heap.size) := ⟨by simp only [size_set]; exact Nat.le_refl _⟩
 generalize (W7.setCell ⟨w.heap.size + 1 + 1, 9, none⟩ (.int .i64 x.f7)) = W8 at BA' BR' BO' HB' HS3' HS4' HS5' HS6' HS7' HS8' SZ7 ⊢
 have BA := BA'
 have BR := BR'
 have BO := BO'
 have HB := HB'
 have HS3 := HS3'
 have HS4 := HS4'
 have HS5 := HS5'
 have HS6 := HS6'
 have HS7 := HS7'
 have HS8 := HS8'
 clear BA' BR' BO' HB' HS3' HS4' HS5' HS6' HS7' HS8'
 have r0_ := (blk_cell BO.out 0).trans rfl
 have s0_ := (blk_cell BR.out 0).trans rfl
 have t0_ := blk_frozen BR.out 0
 have r1_ := (blk_cell BO.out 1).trans rfl
 have s1_ := (blk_cell BR.out 1).trans rfl
 have t1_ := blk_frozen BR.out 1
 have r2_ := (blk_cell BO.out 2).trans rfl
 have s2_ := (blk_cell BR.out 2).trans rfl
 have t2_ := blk_frozen BR.out 2
 have r3_ := (blk_cell BO.out 3).trans rfl
 have s3_ := (blk_cell BR.out 3).trans rfl
 have t3_ := blk_frozen BR.out 3
 have r4_ := (blk_cell BO.out 4).trans rfl
 have s4_ := (blk_cell BR.out 4).trans rfl
 have t4_ := blk_frozen BR.out 4
 have r5_ := (blk_cell BO.out 5).trans rfl
 have s5_ := (blk_cell BR.out 5).trans rfl
 have t5_ := blk_frozen BR.out 5
 have r6_ := (blk_cell BO.out 6).trans rfl
 have s6_ := (blk_cell BR.out 6).trans rfl
 have t6_ := blk_frozen BR.out 6
 have r7_ := (blk_cell BO.out 7).trans rfl
 have s7_ := (blk_cell BR.out 7).trans rfl
 have t7_ := blk_frozen BR.out 7
 have r8_ := (blk_cell BO.out 8).trans rfl
 have s8_ := (blk_cell BR.out 8).trans rfl
 have t8_ := blk_frozen BR.out 8
 have r9_ := (blk_cell BO.out 9).trans rfl
 have s9_ := (blk_cell BR.out 9).trans rfl
 have t9_ := blk_frozen BR.out 9
 go_wp2
 refine bodyPost_ret (results_cell_row rfl _ _ (w.heap.size + 1) 126 #[.int .i64 x.f0, .int .i64 x.f1, .int .i64 x.f2, .slice P3 x.f3.length r3, .slice P4 x.f4.f0.length r4, .slice P5 x.f4.f1.length r5, .slice P6 x.f5.f0.length r6, .slice P7 x.f5.f1.length r7, .slice P8 x.f6.length r8, .int .i64 x.f7] (0, 0) _ rfl (blk_put (cs := #[.int .i64 x.f0, .int .i64 x.f1, .int .i64 x.f2, .slice P3 x.f3.length r3, .slice P4 x.f4.f0.length r4, .slice P5 x.f4.f1.length r5, .slice P6 x.f5.f0.length r6, .slice P7 x.f5.f1.length r7, .slice P8 x.f6.length r8, .int .i64 0]) (blk_put (cs := #[.int .i64 x.f0, .int .i64 x.f1, .int .i64 x.f2, .slice P3 x.f3.length r3, .slice P4 x.f4.f0.length r4, .slice P5 x.f4.f1.length r5, .slice P6 x.f5.f0.length r6, .slice P7 x.f5.f1.length r7, .slice none 0 0, .int .i64 0]) (blk_put (cs := #[.int .i64 x.f0, .int .i64 x.f1, .int .i64 x.f2, .slice P3 x.f3.length r3, .slice P4 x.f4.f0.length r4, .slice P5 x.f4.f1.length r5, .slice P6 x.f5.f0.length r6, .slice none 0 0, .slice none 0 0, .int .i64 0]) (blk_put (cs := #[.int .i64 x.f0, .int .i64 x.f1, .int .i64 x.f2, .slice P3 x.f3.length r3, .slice P4 x.f4.f0.length r4, .slice P5 x.f4.f1.length r5, .slice none 0 0, .slice none 0 0, .slice none 0 0, .int .i64 0]) (blk_put (cs := #[.int .i64 x.f0, .int .i64 x.f1, .int .i64 x.f2, .slice P3 x.f3.length r3, .slice P4 x.f4.f0.length r4, .slice none 0 0, .slice none 0 0, .slice none 0 0, .slice none 0 0, .int .i64 0]) (blk_put (cs := #[.int .i64 x.f0, .int .i64 x.f1, .int .i64 x.f2, .slice P3 x.f3.length r3, .slice none 0 0, .slice none 0 0, .slice none 0 0, .slice none 0 0, .slice none 0 0, .int .i64 0]) (blk_put (cs := #[.int .i64 x.f0, .int .i64 x.f1, .int .i64 x.f2, .slice none 0 0, .slice none 0 0, .slice none 0 0, .slice none 0 0, .slice none 0 0, .slice none 0 0, .int .i64 0]) (blk_put (cs := #[.int .i64 x.f0, .int .i64 x.f1, .int .i64 0, .slice none 0 0, .slice none 0 0, .slice none 0 0, .slice none 0 0, .slice none 0 0, .slice none 0 0, .int .i64 0]) (blk_put (cs := #[.int .i64 x.f0, .int .i64 0, .int .i64 0, .slice none 0 0, .slice none 0 0, .slice none 0 0, .slice none 0 0, .slice none 0 0, .slice none 0 0, .int .i64 0]) (blk_put BR.out 0 _ rfl) 1 _ rfl) 2 _ rfl) 3 _ rfl) 4 _ rfl) 5 _ rfl) 6 _ rfl) 7 _ rfl) 8 _ rfl) 9 _ rfl) Tryz.underlying126 rfl (by kernel_rfl)) rfl ?_
 refine ⟨_, _, _, _, _, _, _, _, _, _, _, _, rfl, (Kd.S_far (p := ⟨w.heap.size + 1, 9, none⟩) (Kd.S_far (p := ⟨w.heap.size + 1, 8, none⟩) (Kd.S_far (p := ⟨w.heap.size + 1, 7, none⟩) (Kd.S_far (p := ⟨w.heap.size + 1, 6, none⟩) (Kd.S_far (p := ⟨w.heap.size + 1, 5, none⟩) (Kd.S_far (p := ⟨w.heap.size + 1, 4, none⟩) (Kd.S_far (p := ⟨w.heap.size + 1, 3, none⟩) (Kd.S_far (p := ⟨w.heap.size + 1, 2, none⟩) (Kd.S_far (p := ⟨w.heap.size + 1, 1, none⟩) (Kd.S_far (p := ⟨w.heap.size + 1, 0, none⟩) HS3.out (fun k hk => Nat.ne_of_gt (Nat.lt_trans (Nat.lt_succ_self _) (Nat.lt_of_lt_of_le LO3.out (IN3.out k hk).1))) _) (fun k hk => Nat.ne_of_gt (Nat.lt_trans (Nat.lt_succ_self _) (Nat.lt_of_lt_of_le LO3.out (IN3.out k hk).1))) _) (fun k hk => Nat.ne_of_gt (Nat.lt_trans (Nat.lt_succ_self _) (Nat.lt_of_lt_of_le LO3.out (IN3.out k hk).1))) _) (fun k hk => Nat.ne_of_gt (Nat.lt_trans (Nat.lt_succ_self _) (Nat.lt_of_lt_of_le LO3.out (IN3.out k hk).1))) _) (fun k hk => Nat.ne_of_gt (Nat.lt_trans (Nat.lt_succ_self _) (Nat.lt_of_lt_of_le LO3.out (IN3.out k hk).1))) _) (fun k hk => Nat.ne_of_gt (Nat.lt_trans (Nat.lt_succ_self _) (Nat.lt_of_lt_of_le LO3.out (IN3.out k hk).1))) _) (fun k hk => Nat.ne_of_gt (Nat.lt_trans (Nat.lt_succ_self _) (Nat.lt_of_lt_of_le LO3.out (IN3.out k hk).1))) _) (fun k hk => Nat.ne_of_gt (Nat.lt_trans (Nat.lt_succ_self _) (Nat.lt_of_lt_of_le LO3.out (IN3.out k hk).1))) _) (fun k hk => Nat.ne_of_gt (Nat.lt_trans (Nat.lt_succ_self _) (Nat.lt_of_lt_of_le LO3.out (IN3.out k hk).1))) _) (fun k hk => Nat.ne_of_gt (Nat.lt_trans (Nat.lt_succ_self _) (Nat.lt_of_lt_of_le LO3.out (IN3.out k hk).1))) _), (Kd.S_far (p := ⟨w.heap.size + 1, 9, none⟩) (Kd.S_far (p := ⟨w.heap.size + 1, 8, none⟩) (Kd.S_far (p := ⟨w.heap.size + 1, 7, none⟩) (Kd.S_far (p := ⟨w.heap.size + 1, 6, none⟩) (Kd.S_far (p := ⟨w.heap.size + 1, 5, none⟩) (Kd.S_far (p := ⟨w.heap.size + 1, 4, none⟩) (Kd.S_far (p := ⟨w.heap.size + 1, 3, none⟩) (Kd.S_far (p := ⟨w.heap.size + 1, 2, none⟩) (Kd.S_far (p := ⟨w.heap.size + 1, 1, none⟩) (Kd.S_far (p := ⟨w.heap.size + 1, 0, none⟩) HS4.out (fun k hk => Nat.ne_of_gt (Nat.lt_trans (Nat.lt_succ_self _) (Nat.lt_of_lt_of_le LO4.out (IN4.out k hk).1))) _) (fun k hk => Nat.ne_of_gt (Nat.lt_trans (Nat.lt_succ_self _) (Nat.lt_of_lt_of_le LO4.out (IN4.out k hk).1))) _) (fun k hk => Nat.ne_of_gt (Nat.lt_trans (Nat.lt_succ_self _) (Nat.lt_of_lt_of_le LO4.out (IN4.out k hk).1))) _) (fun k hk => Nat.ne_of_gt (Nat.lt_trans (Nat.lt_succ_self _) (Nat.lt_of_lt_of_le LO4.out (IN4.out k hk).1))) _) (fun k hk => Nat.ne_of_gt (Nat.lt_trans (Nat.lt_succ_self _) (Nat.lt_of_lt_of_le LO4.out (IN4.out k hk).1))) _) (fun k hk => Nat.ne_of_gt (Nat.lt_trans (Nat.lt_succ_self _) (Nat.lt_of_lt_of_le LO4.out (IN4.out k hk).1))) _) (fun k hk => Nat.ne_of_gt (Nat.lt_trans (Nat.lt_succ_self _) (Nat.lt_of_lt_of_le LO4.out (IN4.out k hk).1))) _) (fun k hk => Nat.ne_of_gt (Nat.lt_trans (Nat.lt_succ_self _) (Nat.lt_of_lt_of_le LO4.out (IN4.out k hk).1))) _) (fun k hk => Nat.ne_of_gt (Nat.lt_trans (Nat.lt_succ_self _) (Nat.lt_of_lt_of_le LO4.out (IN4.out k hk).1))) _) (fun k hk => Nat.ne_of_gt (Nat.lt_trans (Nat.lt_succ_self _) (Nat.lt_of_lt_of_le LO4.out (IN4.out k hk).1))) _), (Kd.S_far (p := ⟨w.heap.size + 1, 9, none⟩) (Kd.S_far (p := ⟨w.heap.size + 1, 8, none⟩) (Kd.S_far (p := ⟨w.heap.size + 1, 7, none⟩) (Kd.S_far (p := ⟨w.heap.size + 1, 6, none⟩) (Kd.S_far (p := ⟨w.heap.size + 1, 5, none⟩) (Kd.S_far (p := ⟨w.heap.size + 1, 4, none⟩) (Kd.S_far (p := ⟨w.heap.size + 1, 3, none⟩) (Kd.S_far (p := ⟨w.heap.size + 1, 2, none⟩) (Kd.S_far (p := ⟨w.heap.size + 1, 1, none⟩) (Kd.S_far (p := ⟨w.heap.size + 1, 0, none⟩) HS5.out (fun k hk => Nat.ne_of_gt (Nat.lt_trans (Nat.lt_succ_self _) (Nat.lt_of_lt_of_le LO5.out (IN5.out k hk).1))) _) (fun k hk => Nat.ne_of_gt (Nat.lt_trans (Nat.lt_succ_self _) (Nat.lt_of_lt_of_le LO5.out (IN5.out k hk).1))) _) (fun k hk => Nat.ne_of_gt (Nat.lt_trans (Nat.lt_succ_self _) (Nat.lt_of_lt_of_le LO5.out (IN5.out k hk).1))) _) (fun k hk => Nat.ne_of_gt (Nat.lt_trans (Nat.lt_succ_self _) (Nat.lt_of_lt_of_le LO5.out (IN5.out k hk).1))) _) (fun k hk => Nat.ne_of_gt (Nat.lt_trans (Nat.lt_succ_self _) (Nat.lt_of_lt_of_le LO5.out (IN5.out k hk).1))) _) (fun k hk => Nat.ne_of_gt (Nat.lt_trans (Nat.lt_succ_self _) (Nat.lt_of_lt_of_le LO5.out (IN5.out k hk).1))) _) (fun k hk => Nat.ne_of_gt (Nat.lt_trans (Nat.lt_succ_self _) (Nat.lt_of_lt_of_le LO5.out (IN5.out k hk).1))) _) (fun k hk => Nat.ne_of_gt (Nat.lt_trans (Nat.lt_succ_self _) (Nat.lt_of_lt_of_le LO5.out (IN5.out k hk).1))) _) (fun k hk => Nat.ne_of_gt (Nat.lt_trans (Nat.lt_succ_self _) (Nat.lt_of_lt_of_le LO5.out (IN5.out k hk).1))) _) (fun k hk => Nat.ne_of_gt (Nat.lt_trans (Nat.lt_succ_self _) (Nat.lt_of_lt_of_le LO5.out (IN5.out k hk).1))) _), (Kd.S_far (p := ⟨w.heap.size + 1, 9, none⟩) (Kd.S_far (p := ⟨w.heap.size + 1, 8, none⟩) (Kd.S_far (p := ⟨w.heap.size + 1, 7, none⟩) (Kd.S_far (p := ⟨w.heap.size + 1, 6, none⟩) (Kd.S_far (p := ⟨w.heap.size + 1, 5, none⟩) (Kd.S_far (p := ⟨w.heap.size + 1, 4, none⟩) (Kd.S_far (p := ⟨w.heap.size + 1, 3, none⟩) (Kd.S_far (p := ⟨w.heap.size + 1, 2, none⟩) (Kd.S_far (p := ⟨w.heap.size + 1, 1, none⟩) (Kd.S_far (p := ⟨w.heap.size + 1, 0, none⟩) HS6.out (fun k hk => Nat.ne_of_gt (Nat.lt_trans (Nat.lt_succ_self _) (Nat.lt_of_lt_of_le LO6.out (IN6.out k hk).1))) _) (fun k hk => Nat.ne_of_gt (Nat.lt_trans (Nat.lt_succ_self _) (Nat.lt_of_lt_of_le LO6.out (IN6.out k hk).1))) _) (fun k hk => Nat.ne_of_gt (Nat.lt_trans (Nat.lt_succ_self _) (Nat.lt_of_lt_of_le LO6.out (IN6.out k hk).1))) _) (fun k hk => Nat.ne_of_gt (Nat.lt_trans (Nat.lt_succ_self _) (Nat.lt_of_lt_of_le LO6.out (IN6.out k hk).1))) _) (fun k hk => Nat.ne_of_gt (Nat.lt_trans (Nat.lt_succ_self _) (Nat.lt_of_lt_of_le LO6.out (IN6.out k hk).1))) _) (fun k hk => Nat.ne_of_gt (Nat.lt_trans (Nat.lt_succ_self _) (Nat.lt_of_lt_of_le LO6.out (IN6.out k hk).1))) _) (fun k hk => Nat.ne_of_gt (Nat.lt_trans (Nat.lt_succ_self _) (Nat.lt_of_lt_of_le LO6.out (IN6.out k hk).1))) _) (fun k hk => Nat.ne_of_gt (Nat.lt_trans (Nat.lt_succ_self _) (Nat.lt_of_lt_of_le LO6.out (IN6.out k hk).1))) _) (fun k hk => Nat.ne_of_gt (Nat.lt_trans (Nat.lt_succ_self _) (Nat.lt_of_lt_of_le LO6.out (IN6.out k hk).1))) _) (fun k hk => Nat.ne_of_gt (Nat.lt_trans (Nat.lt_succ_self _) (Nat.lt_of_lt_of_le LO6.out (IN6.out k hk).1))) _), (Kd.S_far (p := ⟨w.heap.size + 1, 9, none⟩) (Kd.S_far (p := ⟨w.heap.size + 1, 8, none⟩) (Kd.S_far (p := ⟨w.heap.size + 1, 7, none⟩) (Kd.S_far (p := ⟨w.heap.size + 1, 6, none⟩) (Kd.S_far (p := ⟨w.heap.size + 1, 5, none⟩) (Kd.S_far (p := ⟨w.heap.size + 1, 4, none⟩) (Kd.S_far (p := ⟨w.heap.size + 1, 3, none⟩) (Kd.S_far (p := ⟨w.heap.size + 1, 2, none⟩) (Kd.S_far (p := ⟨w.heap.size + 1, 1, none⟩) (Kd.S_far (p := ⟨w.heap.size + 1, 0, none⟩) HS7.out (fun k hk => Nat.ne_of_gt (Nat.lt_trans (Nat.lt_succ_self _) (Nat.lt_of_lt_of_le LO7.out (IN7.out k hk).1))) _) (fun k hk => Nat.ne_of_gt (Nat.lt_trans (Nat.lt_succ_self _) (Nat.lt_of_lt_of_le LO7.out (IN7.out k hk).1))) _) (fun k hk => Nat.ne_of_gt (Nat.lt_trans (Nat.lt_succ_self _) (Nat.lt_of_lt_of_le LO7.out (IN7.out k hk).1))) _) (fun k hk => Nat.ne_of_gt (Nat.lt_trans (Nat.lt_succ_self _) (Nat.lt_of_lt_of_le LO7.out (IN7.out k hk).1))) _) (fun k hk => Nat.ne_of_gt (Nat.lt_trans (Nat.lt_succ_self _) (Nat.lt_of_lt_of_le LO7.out (IN7.out k hk).1))) _) (fun k hk => Nat.ne_of_gt (Nat.lt_trans (Nat.lt_succ_self _) (Nat.lt_of_lt_of_le LO7.out (IN7.out k hk).1))) _) (fun k hk => Nat.ne_of_gt (Nat.lt_trans (Nat.lt_succ_self _) (Nat.lt_of_lt_of_le LO7.out (IN7.out k hk).1))) _) (fun k hk => Nat.ne_of_gt (Nat.lt_trans (Nat.lt_succ_self _) (Nat.lt_of_lt_of_le LO7.out (IN7.out k hk).1))) _) (fun k hk => Nat.ne_of_gt (Nat.lt_trans (Nat.lt_succ_self _) (Nat.lt_of_lt_of_le LO7.out (IN7.out k hk).1))) _) (fun k hk => Nat.ne_of_gt (Nat.lt_trans (Nat.lt_succ_self _) (Nat.lt_of_lt_of_le LO7.out (IN7.out k hk).1))) _), (Kd.S_far (p := ⟨w.heap.size + 1, 9, none⟩) (Kd.S_far (p := ⟨w.heap.size + 1, 8, none⟩) (Kd.S_far (p := ⟨w.heap.size + 1, 7, none⟩) (Kd.S_far (p := ⟨w.heap.size + 1, 6, none⟩) (Kd.S_far (p := ⟨w.heap.size + 1, 5, none⟩) (Kd.S_far (p := ⟨w.heap.size + 1, 4, none⟩) (Kd.S_far (p := ⟨w.heap.size + 1, 3, none⟩) (Kd.S_far (p := ⟨w.heap.size + 1, 2, none⟩) (Kd.S_far (p := ⟨w.heap.size + 1, 1, none⟩) (Kd.S_far (p := ⟨w.heap.size + 1, 0, none⟩) HS8.out (fun k hk => Nat.ne_of_gt (Nat.lt_trans (Nat.lt_succ_self _) (Nat.lt_of_lt_of_le LO8.out (IN8.out k hk).1))) _) (fun k hk => Nat.ne_of_gt (Nat.lt_trans (Nat.lt_succ_self _) (Nat.lt_of_lt_of_le LO8.out (IN8.out k hk).1))) _) (fun k hk => Nat.ne_of_gt (Nat.lt_trans (Nat.lt_succ_self _) (Nat.lt_of_lt_of_le LO8.out (IN8.out k hk).1))) _) (fun k hk => Nat.ne_of_gt (Nat.lt_trans (Nat.lt_succ_self _) (Nat.lt_of_lt_of_le LO8.out (IN8.out k hk).1))) _) (fun k hk => Nat.ne_of_gt (Nat.lt_trans (Nat.lt_succ_self _) (Nat.lt_of_lt_of_le LO8.out (IN8.out k hk).1))) _) (fun k hk => Nat.ne_of_gt (Nat.lt_trans (Nat.lt_succ_self _) (Nat.lt_of_lt_of_le LO8.out (IN8.out k hk).1))) _) (fun k hk => Nat.ne_of_gt (Nat.lt_trans (Nat.lt_succ_self _) (Nat.lt_of_lt_of_le LO8.out (IN8.out k hk).1))) _) (fun k hk => Nat.ne_of_gt (Nat.lt_trans (Nat.lt_succ_self _) (Nat.lt_of_lt_of_le LO8.out (IN8.out k hk).1))) _) (fun k hk => Nat.ne_of_gt (Nat.lt_trans (Nat.lt_succ_self _) (Nat.lt_of_lt_of_le LO8.out (IN8.out k hk).1))) _) (fun k hk => Nat.ne_of_gt (Nat.lt_trans (Nat.lt_succ_self _) (Nat.lt_of_lt_of_le LO8.out (IN8.out k hk).1))) _), ?_, ((((((((((HB.out.setCell (p := ⟨w.heap.size + 1, 0, none⟩) (by simp) _).setCell (p := ⟨w.heap.size + 1, 1, none⟩) (by simp) _).setCell (p := ⟨w.heap.size + 1, 2, none⟩) (by simp) _).setCell (p := ⟨w.heap.size + 1, 3, none⟩) (by simp) _).setCell (p := ⟨w.heap.size + 1, 4, none⟩) (by simp) _).setCell (p := ⟨w.heap.size + 1, 5, none⟩) (by simp) _).setCell (p := ⟨w.heap.size + 1, 6, none⟩) (by simp) _).setCell (p := ⟨w.heap.size + 1, 7, none⟩) (by simp) _).setCell (p := ⟨w.heap.size + 1, 8, none⟩) (by simp) _).setCell (p := ⟨w.heap.size + 1, 9, none⟩) (by simp) _)⟩
 simp only [size_set, Ap, List.mem_cons, List.not_mem_nil, or_false, forall_eq_or_imp, forall_eq, false_imp_iff, implies_true, and_true]
 have in3 := IN3.out
 have lo3 := LO3.out
 have le3 := LE3.out
 have in4 := IN4.out
 have lo4 := LO4.out
 have le4 := LE4.out
 have in5 := IN5.out
 have lo5 := LO5.out
 have le5 := LE5.out
 have in6 := IN6.out
 have lo6 := LO6.out
 have le6 := LE6.out
 have in7 := IN7.out
 have lo7 := LO7.out
 have le7 := LE7.out
 have in8 := IN8.out
 have lo8 := LO8.out
 have le8 := LE8.out
 have sz0 := SZ0.out
 have sz1 := SZ1.out
 have sz2 := SZ2.out
 have sz3 := SZ3.out
 have sz4 := SZ4.out
 have sz5 := SZ5.out
 have sz6 := SZ6.out
 have sz7 := SZ7.out
 have ap4 := AP4.out
 simp only [Ap, List.mem_cons, List.not_mem_nil, or_false, forall_eq_or_imp, forall_eq, false_imp_iff, implies_true, and_true] at ap4
 have ap5 := AP5.out
 simp only [Ap, List.mem_cons, List.not_mem_nil, or_false, forall_eq_or_imp, forall_eq, false_imp_iff, implies_true, and_true] at ap5
 clear IN3 LO3 LE3 IN4 LO4 LE4 IN5 LO5 LE5 IN6 LO6 LE6 IN7 LO7 LE7 IN8 LO8 LE8 SZ0 SZ1 SZ2 SZ3 SZ4 SZ5 SZ6 SZ7 BA BR BO HB HS3 HL3 HS4 HL4 HS5 HL5 HS6 HL6 HS7 HL7 HS8 HL8 r0_ s0_ t0_ r1_ s1_ t1_ r2_ s2_ t2_ r3_ s3_ t3_ r4_ s4_ t4_ r5_ s5_ t5_ r6_ s6_ t6_ r7_ s7_ t7_ r8_ s8_ t8_ r9_ s9_ t9_
 and_intros <;> grind
set_option maxHeartbeats 4000000 in
set_option maxRecDepth 100000 in
theorem toNodeS_any (A : Option Addr) (c : Nat) (l : List TNode) (w : World) (hx : cS cNode l ≤ 1048576) (hL : IsS kNode w l A c) :
  Calls Tryz.prog 75 #[.slice A l.length c] w fun e w' => ToL kNode 126 w w' l e := by
 have hll : l.length ≤ 1048576 := by have h : l.length + (l.map cNode).sum ≤ 1048576 := hx; omega
 have hn : (0 : Int) ≤ l.length := by omega
 have hlb : ((l.length : Int)).toNat * 176 ≤ 281474976710656 := by omega
 have HL := Aside0.mk hL
 have HXL := Aside0.mk hx
 clear hL hx
 go_enter Tryz.func75, Tryz.ntmps75
 go_wp2_with ((with_reducible refine gate_dst (N := 7) rfl ?_); refine Kd.S_make kNode (w0 := w) w.heap.size 126 rfl (N := 7) rfl 87 _ _ rfl (l.length : Int) rfl rfl Tryz.underlying87 (.agg #[.int .i64 0, .int .i64 0, .int .i64 0, .slice none 0 0, .slice none 0 0, .slice none 0 0, .slice none 0 0, .slice none 0 0, .slice none 0 0, .int .i64 0]) 176 infoNode rfl (by decide) (by omega) zNode (ok := fun _ => True) (okp := fun _ => True) (zNode_mkM w w.heap.size) (fun _ hk => hk) trivial hn hlb (Below.refl _ _) (Nat.le_refl _) ?_; intro v7 w7 hr7 hb7 hg7 _; simp only [Int.toNat_natCast] at hr7; have HR := Aside0.mk hr7; have HB := Aside0.mk hb7; clear hr7 hb7 hg7)
 clear hlb hn
 go_loopw [4] (fun vi wr => ∃ k : Nat, k ≤ l.length ∧ vi = .int .i64 k ∧ Aside0 (Kd.S kNode 126 wr w.heap.size (fun _ => True) v7 (l.take k ++ (List.replicate l.length zNode).drop k)) ∧ Aside0 (Below w.heap.size w wr)) (fun vi _ => l.length - (intOf vi).toNat)
 case atStart => exact ⟨0, Nat.zero_le _, rfl, by simpa using HR, HB⟩
 case round =>
  clear HR HB
  obtain ⟨k, hk, rfl, HR, HB⟩ := hrel
  by_cases hlt : k < l.length
  ·have g1 : decide (k < l.length) = true := decide_eq_true hlt
   have i1 : (k : Int) < l.length := by omega
   have hlen : (l.take k ++ (List.replicate l.length zNode).drop k).length = l.length := by simp; omega
   have HSET := Aside0.mk (show (l.take k ++ (List.replicate l.length zNode).drop k).set ((k : Int)).toNat (l.getD k zNode) = l.take (k + 1) ++ (List.replicate l.length zNode).drop (k + 1) by
    rw [Int.toNat_natCast, mid_set _ _ _ _ (by rw [List.length_take]; omega) (by simpa using hlt), take_snoc l k zNode hlt])
   obtain ⟨g, cap, rfl, hgb, hgl, hG⟩ := Kd.S_form HR.out (by omega)
   rw [hlen] at HR ⊢
   obtain ⟨ad, A3_, c3_, A4_, c4_, A5_, c5_, A6_, c6_, A7_, c7_, A8_, c8_, rfl, y0_, y1_, y2_, y3_, y4_, y5_, y6_, y7_, y8_, y9_, j3_, j4_, j5_, j6_, j7_, j8_⟩ := atNode (HL.out.below HB.out) k hlt
   have helm : cNode (l.getD k zNode) ≤ 1048576 := by have h1 := sum_snoc cNode zNode l k hlt; have h2 := sum_le cNode l (k + 1); have h3 : l.length + (l.map cNode).sum ≤ 1048576 := HXL.out; omega
   generalize l.getD k zNode = o at y0_ y1_ y2_ y3_ y4_ y5_ y6_ y7_ y8_ y9_ j3_ j4_ j5_ j6_ j7_ j8_ HSET helm
   have HJ3 := Aside0.mk j3_
   have HJ4 := Aside0.mk j4_
   have HJ5 := Aside0.mk j5_
   have HJ6 := Aside0.mk j6_
   have HJ7 := Aside0.mk j7_
   have HJ8 := Aside0.mk j8_
   have HWB := Aside0.mk HB.out.size
   clear j3_ j4_ j5_ j6_ j7_ j8_ hlen
   go_wp2_with (first
    | ((with_reducible refine gate_store (t := 126) (p := 21) rfl ?_); obtain ⟨oki, ce, hce1, hce2, hce3, hce4, hH⟩ := Kd.S_lend HR.out zNode (k : Int) (by omega) (by omega); refine Kd.H_store kNode (w0 := w) w.heap.size rfl rfl 126 _ _ rfl 126 (k : Int) 0 (l.take k ++ (List.replicate l.length zNode).drop k) o (.agg #[.int .i64 o.f0, .int .i64 o.f1, .int .i64 o.f2, .slice Q3 o.f3.length u3, .slice Q4 o.f4.f0.length u4, .slice Q5 o.f4.f1.length u5, .slice Q6 o.f5.f0.length u6, .slice Q7 o.f5.f1.length u7, .slice Q8 o.f6.length u8, .int .i64 o.f7]) [.int .i64 o.f0, .int .i64 o.f1, .int .i64 o.f2, .slice Q3 o.f3.length u3, .slice Q4 o.f4.f0.length u4, .slice Q5 o.f4.f1.length u5, .slice Q6 o.f5.f0.length u6, .slice Q7 o.f5.f1.length u7, .slice Q8 o.f6.length u8, .int .i64 o.f7] ce (fun _ => True) (fun j => oki j ∨ True ∧ wr.heap.size ≤ j) (fun j => wr.heap.size ≤ j) rfl (show k * 10 = ((k : Int)).toNat * 10 + 0 by simp) rfl rfl (by kernel_rfl) ?h1 (Kd.H_below (Kd.H_widen hH) HB4.out) (by omega) (by omega) (Nat.le_refl 10) ?hM (fun _ h => .inr ⟨trivial, h⟩) (below_then HB.out HB.out.size HB4.out) ?_; (case h1 => intro q hq; simp at hq; rcases hq with rfl | rfl | rfl | rfl | rfl | rfl | rfl | rfl | rfl | rfl <;> rfl); (case hM => rw [List.drop_of_length_le (by rw [hce1]; exact Nat.le_refl 10), List.append_nil]; exact kNode_mkM _ _ _ o (Kd.S_lower HC3.out HWB.out) (Kd.S_lower HC4.out HWB.out) (Kd.S_lower HC5.out HWB.out) (Kd.S_lower HC6.out HWB.out) (Kd.S_lower HC7.out HWB.out) (Kd.S_lower HC8.out HWB.out) (Ap.mono HAP.out (fun k hk => hk.1))); intro w5 hs5 hb5 _; rw [HSET.out] at hs5; have HS5 := Aside0.mk hs5; have HB5 := Aside0.mk hb5; clear hs5 hb5 hce1 hce2 hce3 hce4 hH)
    | (go_at_call 102; refine (toNode_any o A3_ c3_ A4_ c4_ A5_ c5_ A6_ c6_ A7_ c7_ A8_ c8_ _ helm HJ3.out HJ4.out HJ5.out HJ6.out HJ7.out HJ8.out).mono ?_; rintro e w4 ⟨v3, v4, v5, v6, v7, v8, q3, q4, q5, q6, q7, q8, rfl, hc3, hc4, hc5, hc6, hc7, hc8, hap, hb4⟩; have HAP := Aside0.mk hap; clear hap; obtain ⟨Q3, u3, rfl⟩ := Kd.S_slice hc3; have HC3 := Aside0.mk hc3; obtain ⟨Q4, u4, rfl⟩ := Kd.S_slice hc4; have HC4 := Aside0.mk hc4; obtain ⟨Q5, u5, rfl⟩ := Kd.S_slice hc5; have HC5 := Aside0.mk hc5; obtain ⟨Q6, u6, rfl⟩ := Kd.S_slice hc6; have HC6 := Aside0.mk hc6; obtain ⟨Q7, u7, rfl⟩ := Kd.S_slice hc7; have HC7 := Aside0.mk hc7; obtain ⟨Q8, u8, rfl⟩ := Kd.S_slice hc8; have HC8 := Aside0.mk hc8; have HB4 := Aside0.mk hb4; clear hb4 hc3 hc4 hc5 hc6 hc7 hc8))
   go_roundw
   case rel => exact ⟨k + 1, by omega, by go_num, HS5, HB5⟩
   case measure => simp [intOf]; omega
  ·have hke : k = l.length := by omega
   subst hke
   have g1 : decide (l.length < l.length) = false := decide_eq_false (by omega)
   have hR := HR.out
   rw [List.take_length, List.drop_of_length_le (by simp), List.append_nil] at hR
   have HR2 := Aside0.mk hR
   clear hR
   go_wp2
   go_ret
   exact ⟨v7, rfl, HR2.out, HB.out⟩
theorem infoGraph : (Tryz.prog.info? 89).map (fun i => (i.zero, i.size, i.bytes)) = some (some (.agg #[.int .i64 0, .slice none 0 0, .int .i64 0, .int .i64 0, .bool false]), 5, 56) := by kernel_rfl
def ToGraph (w w' : World) (x : TGraph) (r : Ending) : Prop := ∃ v1, r = .returned (.agg #[.int .i64 x.f0, v1, .int .i64 x.f2, .int .i64 x.f3, .bool x.f4]) ∧ Kd.S kNode 126 w' w.heap.size (fun _ => True) v1 x.f1 ∧ Below w.heap.size w w'
set_option maxHeartbeats 4000000 in
set_option maxRecDepth 100000 in
theorem toGraph_any (x : TGraph) (A1 : Option Addr) (c1 : Nat) (w : World) (hx : cGraph x ≤ 1048576) (hL1 : IsS kNode w x.f1 A1 c1) :
  Calls Tryz.prog 44 #[.agg #[.int .i64 x.f0, .slice A1 x.f1.length c1, .int .i64 x.f2, .int .i64 x.f3, .bool x.f4]] w fun e w' => ToGraph w w' x e := by
 obtain ⟨hb0, b0, b1, b2⟩ := boxes3 w #[.int .i64 x.f0, .slice A1 x.f1.length c1, .int .i64 x.f2, .int .i64 x.f3, .bool x.f4] #[.int .i64 0, .slice none 0 0, .int .i64 0, .int .i64 0, .bool false] #[.int .i64 0, .slice none 0 0, .int .i64 0, .int .i64 0, .bool false] 79 89 89
 have HL1 := Aside0.mk hL1
 clear hL1
 have hx' : cS cNode x.f1 ≤ 1048576 := hx
 have hz0 : cS cNode x.f1 ≤ 1048576 := by omega
 have HZ := Aside0.mk hx'
 clear hx hx'
 go_enter Tryz.func44, Tryz.ntmps44
 go_upto_region 2 with fail
 generalize ((w.alloc (.cells #[.int .i64 x.f0, .slice A1 x.f1.length c1, .int .i64 x.f2, .int .i64 x.f3, .bool x.f4] 79)).alloc (.cells #[.int .i64 0, .slice none 0 0, .int .i64 0, .int .i64 0, .bool false] 89)).alloc (.cells #[.int .i64 0, .slice none 0 0, .int .i64 0, .int .i64 0, .bool false] 89) = W0 at hb0 b0 b1 b2 ⊢
 have HB := Aside0.mk hb0
 have BA := Aside0.mk b0
 have BR := Aside0.mk b1
 have BO := Aside0.mk b2
 clear hb0 b0 b1 b2
 have p0 := (blk_cell BA.out 0).trans rfl
 have z0 := blk_frozen BO.out 0
 have q0 := (blk_cell BO.out 0).trans rfl
 go_upto_region 3 with fail
 have BA' := Aside0.mk (blk_far BA.out (p := ⟨w.heap.size + 1 + 1, 0, none⟩) (by simp; omega) (.int .i64 x.f0))
 have BR' := Aside0.mk (blk_far BR.out (p := ⟨w.heap.size + 1 + 1, 0, none⟩) (by simp) (.int .i64 x.f0))
 have BO' := Aside0.mk (show (W0.setCell ⟨w.heap.size + 1 + 1, 0, none⟩ (.int .i64 x.f0)).heap[w.heap.size + 1 + 1]? = some (.cells #[.int .i64 x.f0, .slice none 0 0, .int .i64 0, .int .i64 0, .bool false] 89 (0, 0)) from blk_put BO.out 0 _ rfl)
 have HB' := Aside0.mk (HB.out.setCell (p := ⟨w.heap.size + 1 + 1, 0, none⟩) (by simp; omega) (.int .i64 x.f0))
 clear BA BR BO HB p0 z0 q0
 generalize (W0.setCell ⟨w.heap.size + 1 + 1, 0, none⟩ (.int .i64 x.f0)) = W1 at BA' BR' BO' HB'   ⊢
 have BA := BA'
 have BR := BR'
 have BO := BO'
 have HB := HB'
 clear BA' BR' BO' HB'
 have p1 := (blk_cell BA.out 1).trans rfl
 go_upto_region 4 with (go_at_call 75; refine (toNodeS_any A1 c1 x.f1 _ hz0 (HL1.out.below HB.out)).mono ?_; rintro e w1_ ⟨v0, rfl, hr0, hb3⟩; obtain ⟨P1, r1, rfl⟩ := Kd.S_slice hr0; have z1 := blk_frozen (blk_below BO.out hb3) 1; have q1 := (blk_cell (blk_below BO.out hb3) 1).trans rfl; have BA2 := Aside0.mk (blk_below BA.out hb3); have BR2 := Aside0.mk (blk_below BR.out hb3); have BO2 := Aside0.mk (blk_below BO.out hb3); have HS1 := Aside0.mk (S_behind' hr0 (blk_lt BO.out) HB.out.size); have HB2 := Aside0.mk (below_then HB.out HB.out.size hb3); clear hb3 hr0)
 clear BA BR BO HB
 have BA := BA2
 have BR := BR2
 have BO := BO2
 have HB := HB2
 clear BA2 BR2 BO2 HB2
 have BA' := Aside0.mk (blk_far BA.out (p := ⟨w.heap.size + 1 + 1, 1, none⟩) (by simp; omega) (.slice P1 x.f1.length r1))
 have BR' := Aside0.mk (blk_far BR.out (p := ⟨w.heap.size + 1 + 1, 1, none⟩) (by simp) (.slice P1 x.f1.length r1))
 have BO' := Aside0.mk (show (w1_.setCell ⟨w.heap.size + 1 + 1, 1, none⟩ (.slice P1 x.f1.length r1)).heap[w.heap.size + 1 + 1]? = some (.cells #[.int .i64 x.f0, .slice P1 x.f1.length r1, .int .i64 0, .int .i64 0, .bool false] 89 (0, 0)) from blk_put BO.out 1 _ rfl)
 have HB' := Aside0.mk (HB.out.setCell (p := ⟨w.heap.size + 1 + 1, 1, none⟩) (by simp; omega) (.slice P1 x.f1.length r1))
 have HS1' := Aside0.mk (Kd.S_far (p := ⟨w.heap.size + 1 + 1, 1, none⟩) HS1.out (fun k hk => Nat.ne_of_gt hk) (.slice P1 x.f1.length r1))
 clear BA BR BO HB p1 z1 q1 HS1
 generalize (w1_.setCell ⟨w.heap.size + 1 + 1, 1, none⟩ (.slice P1 x.f1.length r1)) = W2 at BA' BR' BO' HB' HS1'  ⊢
 have BA := BA'
 have BR := BR'
 have BO := BO'
 have HB := HB'
 have HS1 := HS1'
 clear BA' BR' BO' HB' HS1'
 have p2 := (blk_cell BA.out 2).trans rfl
 have z2 := blk_frozen BO.out 2
 have q2 := (blk_cell BO.out 2).trans rfl
 go_upto_region 5 with fail
 have BA' := Aside0.mk (blk_far BA.out (p := ⟨w.heap.size + 1 + 1, 2, none⟩) (by simp; omega) (.int .i64 x.f2))
 have BR' := Aside0.mk (blk_far BR.out (p := ⟨w.heap.size + 1 + 1, 2, none⟩) (by simp) (.int .i64 x.f2))
 have BO' := Aside0.mk (show (W2.setCell ⟨w.heap.size + 1 + 1, 2, none⟩ (.int .i64 x.f2)).heap[w.heap.size + 1 + 1]? = some (.cells #[.int .i64 x.f0, .slice P1 x.f1.length r1, .int .i64 x.f2, .int .i64 0, .bool false] 89 (0, 0)) from blk_put BO.out 2 _ rfl)
 have HB' := Aside0.mk (HB.out.setCell (p := ⟨w.heap.size + 1 + 1, 2, none⟩) (by simp; omega) (.int .i64 x.f2))
 have HS1' := Aside0.mk (Kd.S_far (p := ⟨w.heap.size + 1 + 1, 2, none⟩) HS1.out (fun k hk => Nat.ne_of_gt hk) (.int .i64 x.f2))
 clear BA BR BO HB p2 z2 q2 HS1
 generalize (W2.setCell ⟨w.heap.size + 1 + 1, 2, none⟩ (.int .i64 x.f2)) = W3 at BA' BR' BO' HB' HS1'  ⊢
 have BA := BA'
 have BR := BR'
 have BO := BO'
 have HB := HB'
 have HS1 := HS1'
 clear BA' BR' BO' HB' HS1'
 have p3 := (blk_cell BA.out 3).trans rfl
 have z3 := blk_frozen BO.out 3
 have q3 := (blk_cell BO.out 3).trans rfl
 go_upto_region 6 with fail
 have BA' := Aside0.mk (blk_far BA.out (p := ⟨w.heap.size + 1 + 1, 3, none⟩) (by simp; omega) (.int .i64 x.f3))
 have BR' := Aside0.mk (blk_far BR.out (p := ⟨w.heap.size + 1 + 1, 3, none⟩) (by simp) (.int .i64 x.f3))
 have BO' := Aside0.mk (show (W3.setCell ⟨w.heap.size + 1 + 1, 3, none⟩ (.int .i64 x.f3)).heap[w.heap.size + 1 + 1]? = some (.cells #[.int .i64 x.f0, .slice P1 x.f1.length r1, .int .i64 x.f2, .int .i64 x.f3, .bool false] 89 (0, 0)) from blk_put BO.out 3 _ rfl)
 have HB' := Aside0.mk (HB.out.setCell (p := ⟨w.heap.size + 1 + 1, 3, none⟩) (by simp; omega) (.int .i64 x.f3))
 have HS1' := Aside0.mk (Kd.S_far (p := ⟨w.heap.size + 1 + 1, 3, none⟩) HS1.out (fun k hk => Nat.ne_of_gt hk) (.int .i64 x.f3))
 clear BA BR BO HB p3 z3 q3 HS1
 generalize (W3.setCell ⟨w.heap.size + 1 + 1, 3, none⟩ (.int .i64 x.f3)) = W4 at BA' BR' BO' HB' HS1'  ⊢
 have BA := BA'
 have BR := BR'
 have BO := BO'
 have HB := HB'
 have HS1 := HS1'
 clear BA' BR' BO' HB' HS1'
 have p4 := (blk_cell BA.out 4).trans rfl
 have z4 := blk_frozen BO.out 4
 have q4 := (blk_cell BO.out 4).trans rfl
 go_upto_region 7 with fail
 have BA' := Aside0.mk (blk_far BA.out (p := ⟨w.heap.size + 1 + 1, 4, none⟩) (by simp; omega) (.bool x.f4))
 have BR' := Aside0.mk (blk_far BR.out (p := ⟨w.heap.size + 1 + 1, 4, none⟩) (by simp) (.bool x.f4))
 have BO' := Aside0.mk (show (W4.setCell ⟨w.heap.size + 1 + 1, 4, none⟩ (.bool x.f4)).heap[w.heap.size + 1 + 1]? = some (.cells #[.int .i64 x.f0, .slice P1 x.f1.length r1, .int .i64 x.f2, .int .i64 x.f3, .bool x.f4] 89 (0, 0)) from blk_put BO.out 4 _ rfl)
 have HB' := Aside0.mk (HB.out.setCell (p := ⟨w.heap.size + 1 + 1, 4, none⟩) (by simp; omega) (.bool x.f4))
 have HS1' := Aside0.mk (Kd.S_far (p := ⟨w.heap.size + 1 + 1, 4, none⟩) HS1.out (fun k hk => Nat.ne_of_gt hk) (.bool x.f4))
 clear BA BR BO HB p4 z4 q4 HS1
 generalize (W4.setCell ⟨w.heap.size + 1 + 1, 4, none⟩ (.bool x.f4)) = W5 at BA' BR' BO' HB' HS1'  ⊢
 have BA := BA'
 have BR := BR'
 have BO := BO'
 have HB := HB'
 have HS1 := HS1'
 clear BA' BR' BO' HB' HS1'
 have r0_ := (blk_cell BO.out 0).trans rfl
 have s0_ := (blk_cell BR.out 0).trans rfl
 have t0_ := blk_frozen BR.out 0
 have r1_ := (blk_cell BO.out 1).trans rfl
 have s1_ := (blk_cell BR.out 1).trans rfl
 have t1_ := blk_frozen BR.out 1
 have r2_ := (blk_cell BO.out 2).trans rfl
 have s2_ := (blk_cell BR.out 2).trans rfl
 have t2_ := blk_frozen BR.out 2
 have r3_ := (blk_cell BO.out 3).trans rfl
 have s3_ := (blk_cell BR.out 3).trans rfl
 have t3_ := blk_frozen BR.out 3
 have r4_ := (blk_cell BO.out 4).trans rfl
 have s4_ := (blk_cell BR.out 4).trans rfl
 have t4_ := blk_frozen BR.out 4
 go_wp2
 refine bodyPost_ret (results_cell_row rfl _ _ (w.heap.size + 1) 89 #[.int .i64 x.f0, .slice P1 x.f1.length r1, .int .i64 x.f2, .int .i64 x.f3, .bool x.f4] (0, 0) _ rfl (blk_put (cs := #[.int .i64 x.f0, .slice P1 x.f1.length r1, .int .i64 x.f2, .int .i64 x.f3, .bool false]) (blk_put (cs := #[.int .i64 x.f0, .slice P1 x.f1.length r1, .int .i64 x.f2, .int .i64 0, .bool false]) (blk_put (cs := #[.int .i64 x.f0, .slice P1 x.f1.length r1, .int .i64 0, .int .i64 0, .bool false]) (blk_put (cs := #[.int .i64 x.f0, .slice none 0 0, .int .i64 0, .int .i64 0, .bool false]) (blk_put BR.out 0 _ rfl) 1 _ rfl) 2 _ rfl) 3 _ rfl) 4 _ rfl) Tryz.underlying89 rfl (by kernel_rfl)) rfl ?_
 exact ⟨_, rfl, Kd.S_mono (Kd.S_far (p := ⟨w.heap.size + 1, 4, none⟩) (Kd.S_far (p := ⟨w.heap.size + 1, 3, none⟩) (Kd.S_far (p := ⟨w.heap.size + 1, 2, none⟩) (Kd.S_far (p := ⟨w.heap.size + 1, 1, none⟩) (Kd.S_far (p := ⟨w.heap.size + 1, 0, none⟩) HS1.out (fun k hk => Nat.ne_of_gt (Nat.lt_trans (Nat.lt_succ_self _) hk)) _) (fun k hk => Nat.ne_of_gt (Nat.lt_trans (Nat.lt_succ_self _) hk)) _) (fun k hk => Nat.ne_of_gt (Nat.lt_trans (Nat.lt_succ_self _) hk)) _) (fun k hk => Nat.ne_of_gt (Nat.lt_trans (Nat.lt_succ_self _) hk)) _) (fun k hk => Nat.ne_of_gt (Nat.lt_trans (Nat.lt_succ_self _) hk)) _) (fun _ _ => trivial), (((((HB.out.setCell (p := ⟨w.heap.size + 1, 0, none⟩) (by simp) _).setCell (p := ⟨w.heap.size + 1, 1, none⟩) (by simp) _).setCell (p := ⟨w.heap.size + 1, 2, none⟩) (by simp) _).setCell (p := ⟨w.heap.size + 1, 3, none⟩) (by simp) _).setCell (p := ⟨w.heap.size + 1, 4, none⟩) (by simp) _)⟩
set_option maxHeartbeats 4000000 in
set_option maxRecDepth 100000 in
theorem toGraphS_any (A : Option Addr) (c : Nat) (l : List TGraph) (w : World) (hx : cS cGraph l ≤ 1048576) (hL : IsS kGraph w l A c) :
  Calls Tryz.prog 20 #[.slice A l.length c] w fun e w' => ToL kGraph 89 w w' l e := by
 have hll : l.length ≤ 1048576 := by have h : l.length + (l.map cGraph).sum ≤ 1048576 := hx; omega
 have hn : (0 : Int) ≤ l.length := by omega
 have hlb : ((l.length : Int)).toNat * 56 ≤ 281474976710656 := by omega
 have HL := Aside0.mk hL
 have HXL := Aside0.mk hx
 clear hL hx
 go_enter Tryz.func20, Tryz.ntmps20
 go_wp2_with ((with_reducible refine gate_dst (N := 7) rfl ?_); refine Kd.S_make kGraph (w0 := w) w.heap.size 89 rfl (N := 7) rfl 32 _ _ rfl (l.length : Int) rfl rfl Tryz.underlying32 (.agg #[.int .i64 0, .slice none 0 0, .int .i64 0, .int .i64 0, .bool false]) 56 infoGraph rfl (by decide) (by omega) zGraph (ok := fun _ => True) (okp := fun _ => True) (kGraph_mkM w w.heap.size (fun _ => False) zGraph (Kd.S_nil _ _ _ _ _)) (fun _ hk => hk) trivial hn hlb (Below.refl _ _) (Nat.le_refl _) ?_; intro v7 w7 hr7 hb7 hg7 _; simp only [Int.toNat_natCast] at hr7; have HR := Aside0.mk hr7; have HB := Aside0.mk hb7; clear hr7 hb7 hg7)
 clear hlb hn
 go_loopw [4] (fun vi wr => ∃ k : Nat, k ≤ l.length ∧ vi = .int .i64 k ∧ Aside0 (Kd.S kGraph 89 wr w.heap.size (fun _ => True) v7 (l.take k ++ (List.replicate l.length zGraph).drop k)) ∧ Aside0 (Below w.heap.size w wr)) (fun vi _ => l.length - (intOf vi).toNat)
 case atStart => exact ⟨0, Nat.zero_le _, rfl, by simpa using HR, HB⟩
 case round =>
  clear HR HB
  obtain ⟨k, hk, rfl, HR, HB⟩ := hrel
  by_cases hlt : k < l.length
  ·have g1 : decide (k < l.length) = true := decide_eq_true hlt
   have i1 : (k : Int) < l.length := by omega
   have hlen : (l.take k ++ (List.replicate l.length zGraph).drop k).length = l.length := by simp; omega
   have HSET := Aside0.mk (show (l.take k ++ (List.replicate l.length zGraph).drop k).set ((k : Int)).toNat (l.getD k zGraph) = l.take (k + 1) ++ (List.replicate l.length zGraph).drop (k + 1) by
    rw [Int.toNat_natCast, mid_set _ _ _ _ (by rw [List.length_take]; omega) (by simpa using hlt), take_snoc l k zGraph hlt])
   obtain ⟨g, cap, rfl, hgb, hgl, hG⟩ := Kd.S_form HR.out (by omega)
   rw [hlen] at HR ⊢
   obtain ⟨ad, A1_, c1_, rfl, y0_, y1_, y2_, y3_, y4_, j1_⟩ := atGraph (HL.out.below HB.out) k hlt
   have helm : cGraph (l.getD k zGraph) ≤ 1048576 := by have h1 := sum_snoc cGraph zGraph l k hlt; have h2 := sum_le cGraph l (k + 1); have h3 : l.length + (l.map cGraph).sum ≤ 1048576 := HXL.out; omega
   generalize l.getD k zGraph = o at y0_ y1_ y2_ y3_ y4_ j1_ HSET helm
   have HJ1 := Aside0.mk j1_
   have HWB := Aside0.mk HB.out.size
   clear j1_ hlen
   go_wp2_with (first
    | ((with_reducible refine gate_store (t := 89) (p := 21) rfl ?_); obtain ⟨oki, ce, hce1, hce2, hce3, hce4, hH⟩ := Kd.S_lend HR.out zGraph (k : Int) (by omega) (by omega); refine Kd.H_store kGraph (w0 := w) w.heap.size rfl rfl 89 _ _ rfl 89 (k : Int) 0 (l.take k ++ (List.replicate l.length zGraph).drop k) o (.agg #[.int .i64 o.f0, .slice Q1 o.f1.length u1, .int .i64 o.f2, .int .i64 o.f3, .bool o.f4]) [.int .i64 o.f0, .slice Q1 o.f1.length u1, .int .i64 o.f2, .int .i64 o.f3, .bool o.f4] ce (fun _ => True) (fun j => oki j ∨ True ∧ wr.heap.size ≤ j) (fun j => wr.heap.size ≤ j) rfl (show k * 5 = ((k : Int)).toNat * 5 + 0 by simp) rfl rfl (by kernel_rfl) ?h1 (Kd.H_below (Kd.H_widen hH) HB4.out) (by omega) (by omega) (Nat.le_refl 5) ?hM (fun _ h => .inr ⟨trivial, h⟩) (below_then HB.out HB.out.size HB4.out) ?_; (case h1 => intro q hq; simp at hq; rcases hq with rfl | rfl | rfl | rfl | rfl <;> rfl); (case hM => rw [List.drop_of_length_le (by rw [hce1]; exact Nat.le_refl 5), List.append_nil]; exact kGraph_mkM _ _ _ o (Kd.S_lower (Kd.S_mono (Kd.S_bound HC1.out) (fun j hj => hj.2.1)) HWB.out)); intro w5 hs5 hb5 _; rw [HSET.out] at hs5; have HS5 := Aside0.mk hs5; have HB5 := Aside0.mk hb5; clear hs5 hb5 hce1 hce2 hce3 hce4 hH)
    | (go_at_call 44; refine (toGraph_any o A1_ c1_ _ helm HJ1.out).mono ?_; rintro e w4 ⟨v1, rfl, hc1, hb4⟩; obtain ⟨Q1, u1, rfl⟩ := Kd.S_slice hc1; have HC1 := Aside0.mk hc1; have HB4 := Aside0.mk hb4; clear hb4 hc1))
   go_roundw
   case rel => exact ⟨k + 1, by omega, by go_num, HS5, HB5⟩
   case measure => simp [intOf]; omega
  ·have hke : k = l.length := by omega
   subst hke
   have g1 : decide (l.length < l.length) = false := decide_eq_false (by omega)
   have hR := HR.out
   rw [List.take_length, List.drop_of_length_le (by simp), List.append_nil] at hR
   have HR2 := Aside0.mk hR
   clear hR
   go_wp2
   go_ret
   exact ⟨v7, rfl, HR2.out, HB.out⟩
theorem infoEv : (Tryz.prog.info? 97).map (fun i => (i.zero, i.size, i.bytes)) = some (some (.agg #[.int .i64 0, .int .i64 0, .int .i64 0]), 3, 24) := by kernel_rfl
def ToEv (w w' : World) (x : TEv) (r : Ending) : Prop := r = .returned (.agg #[.int .i64 x.f0, .int .i64 x.f1, .int .i64 x.f2]) ∧ Below w.heap.size w w'
set_option maxHeartbeats 4000000 in
set_option maxRecDepth 100000 in
theorem toEv_any (x : TEv)  (w : World)   :
  Calls Tryz.prog 45 #[.agg #[.int .i64 x.f0, .int .i64 x.f1, .int .i64 x.f2]] w fun e w' => ToEv w w' x e := by
 obtain ⟨hb0, b0, b1, b2⟩ := boxes3 w #[.int .i64 x.f0, .int .i64 x.f1, .int .i64 x.f2] #[.int .i64 0, .int .i64 0, .int .i64 0] #[.int .i64 0, .int .i64 0, .int .i64 0] 99 97 97
 go_enter Tryz.func45, Tryz.ntmps45
 go_upto_region 2 with fail
 generalize ((w.alloc (.cells #[.int .i64 x.f0, .int .i64 x.f1, .int .i64 x.f2] 99)).alloc (.cells #[.int .i64 0, .int .i64 0, .int .i64 0] 97)).alloc (.cells #[.int .i64 0, .int .i64 0, .int .i64 0] 97) = W0 at hb0 b0 b1 b2 ⊢
 have HB := Aside0.mk hb0
 have BA := Aside0.mk b0
 have BR := Aside0.mk b1
 have BO := Aside0.mk b2
 clear hb0 b0 b1 b2
 have p0 := (blk_cell BA.out 0).trans rfl
 have z0 := blk_frozen BO.out 0
 have q0 := (blk_cell BO.out 0).trans rfl
 go_upto_region 3 with fail
 have BA' := Aside0.mk (blk_far BA.out (p := ⟨w.heap.size + 1 + 1, 0, none⟩) (by simp; omega) (.int .i64 x.f0))
 have BR' := Aside0.mk (blk_far BR.out (p := ⟨w.heap.size + 1 + 1, 0, none⟩) (by simp) (.int .i64 x.f0))
 have BO' := Aside0.mk (show (W0.setCell ⟨w.heap.size + 1 + 1, 0, none⟩ (.int .i64 x.f0)).heap[w.heap.size + 1 + 1]? = some (.cells #[.int .i64 x.f0, .int .i64 0, .int .i64 0] 97 (0, 0)) from blk_put BO.out 0 _ rfl)
 have HB' := Aside0.mk (HB.out.setCell (p := ⟨w.heap.size + 1 + 1, 0, none⟩) (by simp; omega) (.int .i64 x.f0))
 clear BA BR BO HB p0 z0 q0
 generalize (W0.setCell ⟨w.heap.size + 1 + 1, 0, none⟩ (.int .i64 x.f0)) = W1 at BA' BR' BO' HB'   ⊢
 have BA := BA'
 have BR := BR'
 have BO := BO'
 have HB := HB'
 clear BA' BR' BO' HB'
 have p1 := (blk_cell BA.out 1).trans rfl
 have z1 := blk_frozen BO.out 1
 have q1 := (blk_cell BO.out 1).trans rfl
 go_upto_region 4 with fail
 have BA' := Aside0.mk (blk_far BA.out (p := ⟨w.heap.size + 1 + 1, 1, none⟩) (by simp; omega) (.int .i64 x.f1))
 have BR' := Aside0.mk (blk_far BR.out (p := ⟨w.heap.size + 1 + 1, 1, none⟩) (by simp) (.int .i64 x.f1))
 have BO' := Aside0.mk (show (W1.setCell ⟨w.heap.size + 1 + 1, 1, none⟩ (.int .i64 x.f1)).heap[w.heap.size + 1 + 1]? = some (.cells #[.int .i64 x.f0, .int .i64 x.f1, .int .i64 0] 97 (0, 0)) from blk_put BO.out 1 _ rfl)
 have HB' := Aside0.mk (HB.out.setCell (p := ⟨w.heap.size + 1 + 1, 1, none⟩) (by simp; omega) (.int .i64 x.f1))
 clear BA BR BO HB p1 z1 q1
 generalize (W1.setCell ⟨w.heap.size + 1 + 1, 1, none⟩ (.int .i64 x.f1)) = W2 at BA' BR' BO' HB'   ⊢
 have BA := BA'
 have BR := BR'
 have BO := BO'
 have HB := HB'
 clear BA' BR' BO' HB'
 have p2 := (blk_cell BA.out 2).trans rfl
 have z2 := blk_frozen BO.out 2
 have q2 := (blk_cell BO.out 2).trans rfl
 go_upto_region 5 with fail
 have BA' := Aside0.mk (blk_far BA.out (p := ⟨w.heap.size + 1 + 1, 2, none⟩) (by simp; omega) (.int .i64 x.f2))
 have BR' := Aside0.mk (blk_far BR.out (p := ⟨w.heap.size + 1 + 1, 2, none⟩) (by simp) (.int .i64 x.f2))
 have BO' := Aside0.mk (show (W2.setCell ⟨w.heap.size + 1 + 1, 2, none⟩ (.int .i64 x.f2)).heap[w.heap.size + 1 + 1]? = some (.cells #[.int .i64 x.f0, .int .i64 x.f1, .int .i64 x.f2] 97 (0, 0)) from blk_put BO.out 2 _ rfl)
 have HB' := Aside0.mk (HB.out.setCell (p := ⟨w.heap.size + 1 + 1, 2, none⟩) (by simp; omega) (.int .i64 x.f2))
 clear BA BR BO HB p2 z2 q2
 generalize (W2.setCell ⟨w.heap.size + 1 + 1, 2, none⟩ (.int .i64 x.f2)) = W3 at BA' BR' BO' HB'   ⊢
 have BA := BA'
 have BR := BR'
 have BO := BO'
 have HB := HB'
 clear BA' BR' BO' HB'
 have r0_ := (blk_cell BO.out 0).trans rfl
 have s0_ := (blk_cell BR.out 0).trans rfl
 have t0_ := blk_frozen BR.out 0
 have r1_ := (blk_cell BO.out 1).trans rfl
 have s1_ := (blk_cell BR.out 1).trans rfl
 have t1_ := blk_frozen BR.out 1
 have r2_ := (blk_cell BO.out 2).trans rfl
 have s2_ := (blk_cell BR.out 2).trans rfl
 have t2_ := blk_frozen BR.out 2
 go_wp2
 refine bodyPost_ret (results_cell_row rfl _ _ (w.heap.size + 1) 97 #[.int .i64 x.f0, .int .i64 x.f1, .int .i64 x.f2] (0, 0) _ rfl (blk_put (cs := #[.int .i64 x.f0, .int .i64 x.f1, .int .i64 0]) (blk_put (cs := #[.int .i64 x.f0, .int .i64 0, .int .i64 0]) (blk_put BR.out 0 _ rfl) 1 _ rfl) 2 _ rfl) Tryz.underlying97 rfl (by kernel_rfl)) rfl ?_
 exact ⟨rfl, (((HB.out.setCell (p := ⟨w.heap.size + 1, 0, none⟩) (by simp) _).setCell (p := ⟨w.heap.size + 1, 1, none⟩) (by simp) _).setCell (p := ⟨w.heap.size + 1, 2, none⟩) (by simp) _)⟩
set_option maxHeartbeats 4000000 in
set_option maxRecDepth 100000 in
theorem toEvS_any (A : Option Addr) (c : Nat) (l : List TEv) (w : World) (hx : l.length ≤ 1048576) (hL : IsS kEv w l A c) :
  Calls Tryz.prog 21 #[.slice A l.length c] w fun e w' => ToL kEv 97 w w' l e := by
 have hll : l.length ≤ 1048576 := hx
 have hn : (0 : Int) ≤ l.length := by omega
 have hlb : ((l.length : Int)).toNat * 24 ≤ 281474976710656 := by omega
 have HL := Aside0.mk hL
 have HXL := Aside0.mk hx
 clear hL hx
 go_enter Tryz.func21, Tryz.ntmps21
 go_wp2_with ((with_reducible refine gate_dst (N := 7) rfl ?_); refine Kd.S_make kEv (w0 := w) w.heap.size 97 rfl (N := 7) rfl 33 _ _ rfl (l.length : Int) rfl rfl Tryz.underlying33 (.agg #[.int .i64 0, .int .i64 0, .int .i64 0]) 24 infoEv rfl (by decide) (by omega) zEv (ok := fun _ => True) (okp := fun _ => True) (kEv_mkM w w.heap.size (fun _ => False) zEv) (fun _ hk => hk) trivial hn hlb (Below.refl _ _) (Nat.le_refl _) ?_; intro v7 w7 hr7 hb7 hg7 _; simp only [Int.toNat_natCast] at hr7; have HR := Aside0.mk hr7; have HB := Aside0.mk hb7; clear hr7 hb7 hg7)
 clear hlb hn
 go_loopw [4] (fun vi wr => ∃ k : Nat, k ≤ l.length ∧ vi = .int .i64 k ∧ Aside0 (Kd.S kEv 97 wr w.heap.size (fun _ => True) v7 (l.take k ++ (List.replicate l.length zEv).drop k)) ∧ Aside0 (Below w.heap.size w wr)) (fun vi _ => l.length - (intOf vi).toNat)
 case atStart => exact ⟨0, Nat.zero_le _, rfl, by simpa using HR, HB⟩
 case round =>
  clear HR HB
  obtain ⟨k, hk, rfl, HR, HB⟩ := hrel
  by_cases hlt : k < l.length
  ·have g1 : decide (k < l.length) = true := decide_eq_true hlt
   have i1 : (k : Int) < l.length := by omega
   have hlen : (l.take k ++ (List.replicate l.length zEv).drop k).length = l.length := by simp; omega
   have HSET := Aside0.mk (show (l.take k ++ (List.replicate l.length zEv).drop k).set ((k : Int)).toNat (l.getD k zEv) = l.take (k + 1) ++ (List.replicate l.length zEv).drop (k + 1) by
    rw [Int.toNat_natCast, mid_set _ _ _ _ (by rw [List.length_take]; omega) (by simpa using hlt), take_snoc l k zEv hlt])
   obtain ⟨g, cap, rfl, hgb, hgl, hG⟩ := Kd.S_form HR.out (by omega)
   rw [hlen] at HR ⊢
   obtain ⟨ad, rfl, y0_, y1_, y2_⟩ := atEv (HL.out.below HB.out) k hlt
   skip
   generalize l.getD k zEv = o at y0_ y1_ y2_  HSET
   have HWB := Aside0.mk HB.out.size
   clear  hlen
   go_wp2_with (first
    | ((with_reducible refine gate_store (t := 97) (p := 21) rfl ?_); obtain ⟨oki, ce, hce1, hce2, hce3, hce4, hH⟩ := Kd.S_lend HR.out zEv (k : Int) (by omega) (by omega); refine Kd.H_store kEv (w0 := w) w.heap.size rfl rfl 97 _ _ rfl 97 (k : Int) 0 (l.take k ++ (List.replicate l.length zEv).drop k) o (.agg #[.int .i64 o.f0, .int .i64 o.f1, .int .i64 o.f2]) [.int .i64 o.f0, .int .i64 o.f1, .int .i64 o.f2] ce (fun _ => True) (fun j => oki j ∨ True ∧ wr.heap.size ≤ j) (fun j => wr.heap.size ≤ j) rfl (show k * 3 = ((k : Int)).toNat * 3 + 0 by simp) rfl rfl (by kernel_rfl) ?h1 (Kd.H_below (Kd.H_widen hH) HB4.out) (by omega) (by omega) (Nat.le_refl 3) ?hM (fun _ h => .inr ⟨trivial, h⟩) (below_then HB.out HB.out.size HB4.out) ?_; (case h1 => intro q hq; simp at hq; rcases hq with rfl | rfl | rfl <;> rfl); (case hM => rw [List.drop_of_length_le (by rw [hce1]; exact Nat.le_refl 3), List.append_nil]; exact kEv_mkM _ _ _ o); intro w5 hs5 hb5 _; rw [HSET.out] at hs5; have HS5 := Aside0.mk hs5; have HB5 := Aside0.mk hb5; clear hs5 hb5 hce1 hce2 hce3 hce4 hH)
    | (go_at_call 45; refine (toEv_any o  _ ).mono ?_; rintro e w4 ⟨rfl, hb4⟩; have HB4 := Aside0.mk hb4; clear hb4))
   go_roundw
   case rel => exact ⟨k + 1, by omega, by go_num, HS5, HB5⟩
   case measure => simp [intOf]; omega
  ·have hke : k = l.length := by omega
   subst hke
   have g1 : decide (l.length < l.length) = false := decide_eq_false (by omega)
   have hR := HR.out
   rw [List.take_length, List.drop_of_length_le (by simp), List.append_nil] at hR
   have HR2 := Aside0.mk hR
   clear hR
   go_wp2
   go_ret
   exact ⟨v7, rfl, HR2.out, HB.out⟩
theorem infoFire : (Tryz.prog.info? 56).map (fun i => (i.zero, i.size, i.bytes)) = some (some (.agg #[.int .i64 0, .int .i64 0, .int .i64 0, .slice none 0 0]), 4, 48) := by kernel_rfl
def ToFire (w w' : World) (x : TFire) (r : Ending) : Prop := ∃ v3, r = .returned (.agg #[.int .i64 x.f0, .int .i64 x.f1.f0, .int .i64 x.f1.f1, v3]) ∧ Kd.S (Kd.int .i64) 3 w' w.heap.size (fun _ => True) v3 x.f1.f2 ∧ Below w.heap.size w w'
set_option maxHeartbeats 4000000 in
set_option maxRecDepth 100000 in
theorem toFire_any (x : TFire) (A3 : Option Addr) (c3 : Nat) (w : World) (hx : cFire x ≤ 1048576) (hL3 : IsS (Kd.int .i64) w x.f1.f2 A3 c3) :
  Calls Tryz.prog 46 #[.agg #[.int .i64 x.f0, .int .i64 x.f1.f0, .int .i64 x.f1.f1, .slice A3 x.f1.f2.length c3]] w fun e w' => ToFire w w' x e := by
 obtain ⟨hb0, b0, b1, b2⟩ := boxes3 w #[.int .i64 x.f0, .int .i64 x.f1.f0, .int .i64 x.f1.f1, .slice A3 x.f1.f2.length c3] #[.int .i64 0, .int .i64 0, .int .i64 0, .slice none 0 0] #[.int .i64 0, .int .i64 0, .int .i64 0, .slice none 0 0] 83 56 56
 have HL3 := Aside0.mk hL3
 clear hL3
 have hx' : cOcc x.f1 ≤ 1048576 := hx
 have hz0 : cOcc x.f1 ≤ 1048576 := by omega
 have HZ := Aside0.mk hx'
 clear hx hx'
 go_enter Tryz.func46, Tryz.ntmps46
 go_upto_region 2 with fail
 generalize ((w.alloc (.cells #[.int .i64 x.f0, .int .i64 x.f1.f0, .int .i64 x.f1.f1, .slice A3 x.f1.f2.length c3] 83)).alloc (.cells #[.int .i64 0, .int .i64 0, .int .i64 0, .slice none 0 0] 56)).alloc (.cells #[.int .i64 0, .int .i64 0, .int .i64 0, .slice none 0 0] 56) = W0 at hb0 b0 b1 b2 ⊢
 have HB := Aside0.mk hb0
 have BA := Aside0.mk b0
 have BR := Aside0.mk b1
 have BO := Aside0.mk b2
 clear hb0 b0 b1 b2
 have p0 := (blk_cell BA.out 0).trans rfl
 have z0 := blk_frozen BO.out 0
 have q0 := (blk_cell BO.out 0).trans rfl
 go_upto_region 3 with fail
 have BA' := Aside0.mk (blk_far BA.out (p := ⟨w.heap.size + 1 + 1, 0, none⟩) (by simp; omega) (.int .i64 x.f0))
 have BR' := Aside0.mk (blk_far BR.out (p := ⟨w.heap.size + 1 + 1, 0, none⟩) (by simp) (.int .i64 x.f0))
 have BO' := Aside0.mk (show (W0.setCell ⟨w.heap.size + 1 + 1, 0, none⟩ (.int .i64 x.f0)).heap[w.heap.size + 1 + 1]? = some (.cells #[.int .i64 x.f0, .int .i64 0, .int .i64 0, .slice none 0 0] 56 (0, 0)) from blk_put BO.out 0 _ rfl)
 have HB' := Aside0.mk (HB.out.setCell (p := ⟨w.heap.size + 1 + 1, 0, none⟩) (by simp; omega) (.int .i64 x.f0))
 clear BA BR BO HB p0 z0 q0
 generalize (W0.setCell ⟨w.heap.size + 1 + 1, 0, none⟩ (.int .i64 x.f0)) = W1 at BA' BR' BO' HB'   ⊢
 have BA := BA'
 have BR := BR'
 have BO := BO'
 have HB := HB'
 clear BA' BR' BO' HB'
 have p1 := (blk_cell BA.out 1).trans rfl
 have p2 := (blk_cell BA.out 2).trans rfl
 have p3 := (blk_cell BA.out 3).trans rfl
 go_upto_region 4 with (go_at_call 76; refine (toOcc_any x.f1 A3 c3 _ hz0 (HL3.out.below HB.out)).mono ?_; rintro e w1_ ⟨v2, rfl, hr2, hb3⟩; obtain ⟨P3, r3, rfl⟩ := Kd.S_slice hr2; have z1 := blk_frozen (blk_below BO.out hb3) 1; have q1 := (blk_cell (blk_below BO.out hb3) 1).trans rfl; have z2 := blk_frozen (blk_below BO.out hb3) 2; have q2 := (blk_cell (blk_below BO.out hb3) 2).trans rfl; have z3 := blk_frozen (blk_below BO.out hb3) 3; have q3 := (blk_cell (blk_below BO.out hb3) 3).trans rfl; have BA2 := Aside0.mk (blk_below BA.out hb3); have BR2 := Aside0.mk (blk_below BR.out hb3); have BO2 := Aside0.mk (blk_below BO.out hb3); have HS3 := Aside0.mk (S_behind' hr2 (blk_lt BO.out) HB.out.size); have HB2 := Aside0.mk (below_then HB.out HB.out.size hb3); clear hb3 hr2)
 clear BA BR BO HB
 have BA := BA2
 have BR := BR2
 have BO := BO2
 have HB := HB2
 clear BA2 BR2 BO2 HB2
 have BA' := Aside0.mk (blk_far (blk_far (blk_far BA.out (p := ⟨w.heap.size + 1 + 1, 1, none⟩) (by simp; omega) (.int .i64 x.f1.f0)) (p := ⟨w.heap.size + 1 + 1, 2, none⟩) (by simp; omega) (.int .i64 x.f1.f1)) (p := ⟨w.heap.size + 1 + 1, 3, none⟩) (by simp; omega) (.slice P3 x.f1.f2.length r3))
 have BR' := Aside0.mk (blk_far (blk_far (blk_far BR.out (p := ⟨w.heap.size + 1 + 1, 1, none⟩) (by simp) (.int .i64 x.f1.f0)) (p := ⟨w.heap.size + 1 + 1, 2, none⟩) (by simp) (.int .i64 x.f1.f1)) (p := ⟨w.heap.size + 1 + 1, 3, none⟩) (by simp) (.slice P3 x.f1.f2.length r3))
 have BO' := Aside0.mk (show (((w1_.setCell ⟨w.heap.size + 1 + 1, 1, none⟩ (.int .i64 x.f1.f0)).setCell ⟨w.heap.size + 1 + 1, 2, none⟩ (.int .i64 x.f1.f1)).setCell ⟨w.heap.size + 1 + 1, 3, none⟩ (.slice P3 x.f1.f2.length r3)).heap[w.heap.size + 1 + 1]? = some (.cells #[.int .i64 x.f0, .int .i64 x.f1.f0, .int .i64 x.f1.f1, .slice P3 x.f1.f2.length r3] 56 (0, 0)) from blk_put (show ((w1_.setCell ⟨w.heap.size + 1 + 1, 1, none⟩ (.int .i64 x.f1.f0)).setCell ⟨w.heap.size + 1 + 1, 2, none⟩ (.int .i64 x.f1.f1)).heap[w.heap.size + 1 + 1]? = some (.cells #[.int .i64 x.f0, .int .i64 x.f1.f0, .int .i64 x.f1.f1, .slice none 0 0] 56 (0, 0)) from blk_put (show (w1_.setCell ⟨w.heap.size + 1 + 1, 1, none⟩ (.int .i64 x.f1.f0)).heap[w.heap.size + 1 + 1]? = some (.cells #[.int .i64 x.f0, .int .i64 x.f1.f0, .int .i64 0, .slice none 0 0] 56 (0, 0)) from blk_put BO.out 1 _ rfl) 2 _ rfl) 3 _ rfl)
 have HB' := Aside0.mk (((HB.out.setCell (p := ⟨w.heap.size + 1 + 1, 1, none⟩) (by simp; omega) (.int .i64 x.f1.f0)).setCell (p := ⟨w.heap.size + 1 + 1, 2, none⟩) (by simp; omega) (.int .i64 x.f1.f1)).setCell (p := ⟨w.heap.size + 1 + 1, 3, none⟩) (by simp; omega) (.slice P3 x.f1.f2.length r3))
 have HS3' := Aside0.mk (Kd.S_far (p := ⟨w.heap.size + 1 + 1, 3, none⟩) (Kd.S_far (p := ⟨w.heap.size + 1 + 1, 2, none⟩) (Kd.S_far (p := ⟨w.heap.size + 1 + 1, 1, none⟩) HS3.out (fun k hk => Nat.ne_of_gt hk) (.int .i64 x.f1.f0)) (fun k hk => Nat.ne_of_gt hk) (.int .i64 x.f1.f1)) (fun k hk => Nat.ne_of_gt hk) (.slice P3 x.f1.f2.length r3))
 clear BA BR BO HB p1 z1 q1 p2 z2 q2 p3 z3 q3 HS3
 generalize (((w1_.setCell ⟨w.heap.size + 1 + 1, 1, none⟩ (.int .i64 x.f1.f0)).setCell ⟨w.heap.size + 1 + 1, 2, none⟩ (.int .i64 x.f1.f1)).setCell ⟨w.heap.size + 1 + 1, 3, none⟩ (.slice P3 x.f1.f2.length r3)) = W2 at BA' BR' BO' HB' HS3'  ⊢
 have BA := BA'
 have BR := BR'
 have BO := BO'
 have HB := HB'
 have HS3 := HS3'
 clear BA' BR' BO' HB' HS3'
 have r0_ := (blk_cell BO.out 0).trans rfl
 have s0_ := (blk_cell BR.out 0).trans rfl
 have t0_ := blk_frozen BR.out 0
 have r1_ := (blk_cell BO.out 1).trans rfl
 have s1_ := (blk_cell BR.out 1).trans rfl
 have t1_ := blk_frozen BR.out 1
 have r2_ := (blk_cell BO.out 2).trans rfl
 have s2_ := (blk_cell BR.out 2).trans rfl
 have t2_ := blk_frozen BR.out 2
 have r3_ := (blk_cell BO.out 3).trans rfl
 have s3_ := (blk_cell BR.out 3).trans rfl
 have t3_ := blk_frozen BR.out 3
 go_wp2
 refine bodyPost_ret (results_cell_row rfl _ _ (w.heap.size + 1) 56 #[.int .i64 x.f0, .int .i64 x.f1.f0, .int .i64 x.f1.f1, .slice P3 x.f1.f2.length r3] (0, 0) _ rfl (blk_put (cs := #[.int .i64 x.f0, .int .i64 x.f1.f0, .int .i64 x.f1.f1, .slice none 0 0]) (blk_put (cs := #[.int .i64 x.f0, .int .i64 x.f1.f0, .int .i64 0, .slice none 0 0]) (blk_put (cs := #[.int .i64 x.f0, .int .i64 0, .int .i64 0, .slice none 0 0]) (blk_put BR.out 0 _ rfl) 1 _ rfl) 2 _ rfl) 3 _ rfl) Tryz.underlying56 rfl (by kernel_rfl)) rfl ?_
 exact ⟨_, rfl, Kd.S_mono (Kd.S_far (p := ⟨w.heap.size + 1, 3, none⟩) (Kd.S_far (p := ⟨w.heap.size + 1, 2, none⟩) (Kd.S_far (p := ⟨w.heap.size + 1, 1, none⟩) (Kd.S_far (p := ⟨w.heap.size + 1, 0, none⟩) HS3.out (fun k hk => Nat.ne_of_gt (Nat.lt_trans (Nat.lt_succ_self _) hk)) _) (fun k hk => Nat.ne_of_gt (Nat.lt_trans (Nat.lt_succ_self _) hk)) _) (fun k hk => Nat.ne_of_gt (Nat.lt_trans (Nat.lt_succ_self _) hk)) _) (fun k hk => Nat.ne_of_gt (Nat.lt_trans (Nat.lt_succ_self _) hk)) _) (fun _ _ => trivial), ((((HB.out.setCell (p := ⟨w.heap.size + 1, 0, none⟩) (by simp) _).setCell (p := ⟨w.heap.size + 1, 1, none⟩) (by simp) _).setCell (p := ⟨w.heap.size + 1, 2, none⟩) (by simp) _).setCell (p := ⟨w.heap.size + 1, 3, none⟩) (by simp) _)⟩
set_option maxHeartbeats 4000000 in
set_option maxRecDepth 100000 in
theorem toFireS_any (A : Option Addr) (c : Nat) (l : List TFire) (w : World) (hx : cS cFire l ≤ 1048576) (hL : IsS kFire w l A c) :
  Calls Tryz.prog 23 #[.slice A l.length c] w fun e w' => ToL kFire 56 w w' l e := by
 have hll : l.length ≤ 1048576 := by have h : l.length + (l.map cFire).sum ≤ 1048576 := hx; omega
 have hn : (0 : Int) ≤ l.length := by omega
 have hlb : ((l.length : Int)).toNat * 48 ≤ 281474976710656 := by omega
 have HL := Aside0.mk hL
 have HXL := Aside0.mk hx
 clear hL hx
 go_enter Tryz.func23, Tryz.ntmps23
 go_wp2_with ((with_reducible refine gate_dst (N := 7) rfl ?_); refine Kd.S_make kFire (w0 := w) w.heap.size 56 rfl (N := 7) rfl 34 _ _ rfl (l.length : Int) rfl rfl Tryz.underlying34 (.agg #[.int .i64 0, .int .i64 0, .int .i64 0, .slice none 0 0]) 48 infoFire rfl (by decide) (by omega) zFire (ok := fun _ => True) (okp := fun _ => True) (kFire_mkM w w.heap.size (fun _ => False) zFire (Kd.S_nil _ _ _ _ _)) (fun _ hk => hk) trivial hn hlb (Below.refl _ _) (Nat.le_refl _) ?_; intro v7 w7 hr7 hb7 hg7 _; simp only [Int.toNat_natCast] at hr7; have HR := Aside0.mk hr7; have HB := Aside0.mk hb7; clear hr7 hb7 hg7)
 clear hlb hn
 go_loopw [4] (fun vi wr => ∃ k : Nat, k ≤ l.length ∧ vi = .int .i64 k ∧ Aside0 (Kd.S kFire 56 wr w.heap.size (fun _ => True) v7 (l.take k ++ (List.replicate l.length zFire).drop k)) ∧ Aside0 (Below w.heap.size w wr)) (fun vi _ => l.length - (intOf vi).toNat)
 case atStart => exact ⟨0, Nat.zero_le _, rfl, by simpa using HR, HB⟩
 case round =>
  clear HR HB
  obtain ⟨k, hk, rfl, HR, HB⟩ := hrel
  by_cases hlt : k < l.length
  ·have g1 : decide (k < l.length) = true := decide_eq_true hlt
   have i1 : (k : Int) < l.length := by omega
   have hlen : (l.take k ++ (List.replicate l.length zFire).drop k).length = l.length := by simp; omega
   have HSET := Aside0.mk (show (l.take k ++ (List.replicate l.length zFire).drop k).set ((k : Int)).toNat (l.getD k zFire) = l.take (k + 1) ++ (List.replicate l.length zFire).drop (k + 1) by
    rw [Int.toNat_natCast, mid_set _ _ _ _ (by rw [List.length_take]; omega) (by simpa using hlt), take_snoc l k zFire hlt])
   obtain ⟨g, cap, rfl, hgb, hgl, hG⟩ := Kd.S_form HR.out (by omega)
   rw [hlen] at HR ⊢
   obtain ⟨ad, A3_, c3_, rfl, y0_, y1_, y2_, y3_, j3_⟩ := atFire (HL.out.below HB.out) k hlt
   have helm : cFire (l.getD k zFire) ≤ 1048576 := by have h1 := sum_snoc cFire zFire l k hlt; have h2 := sum_le cFire l (k + 1); have h3 : l.length + (l.map cFire).sum ≤ 1048576 := HXL.out; omega
   generalize l.getD k zFire = o at y0_ y1_ y2_ y3_ j3_ HSET helm
   have HJ3 := Aside0.mk j3_
   have HWB := Aside0.mk HB.out.size
   clear j3_ hlen
   go_wp2_with (first
    | ((with_reducible refine gate_store (t := 56) (p := 21) rfl ?_); obtain ⟨oki, ce, hce1, hce2, hce3, hce4, hH⟩ := Kd.S_lend HR.out zFire (k : Int) (by omega) (by omega); refine Kd.H_store kFire (w0 := w) w.heap.size rfl rfl 56 _ _ rfl 56 (k : Int) 0 (l.take k ++ (List.replicate l.length zFire).drop k) o (.agg #[.int .i64 o.f0, .int .i64 o.f1.f0, .int .i64 o.f1.f1, .slice Q3 o.f1.f2.length u3]) [.int .i64 o.f0, .int .i64 o.f1.f0, .int .i64 o.f1.f1, .slice Q3 o.f1.f2.length u3] ce (fun _ => True) (fun j => oki j ∨ True ∧ wr.heap.size ≤ j) (fun j => wr.heap.size ≤ j) rfl (show k * 4 = ((k : Int)).toNat * 4 + 0 by simp) rfl rfl (by kernel_rfl) ?h1 (Kd.H_below (Kd.H_widen hH) HB4.out) (by omega) (by omega) (Nat.le_refl 4) ?hM (fun _ h => .inr ⟨trivial, h⟩) (below_then HB.out HB.out.size HB4.out) ?_; (case h1 => intro q hq; simp at hq; rcases hq with rfl | rfl | rfl | rfl <;> rfl); (case hM => rw [List.drop_of_length_le (by rw [hce1]; exact Nat.le_refl 4), List.append_nil]; exact kFire_mkM _ _ _ o (Kd.S_lower (Kd.S_mono (Kd.S_bound HC3.out) (fun j hj => hj.2.1)) HWB.out)); intro w5 hs5 hb5 _; rw [HSET.out] at hs5; have HS5 := Aside0.mk hs5; have HB5 := Aside0.mk hb5; clear hs5 hb5 hce1 hce2 hce3 hce4 hH)
    | (go_at_call 46; refine (toFire_any o A3_ c3_ _ helm HJ3.out).mono ?_; rintro e w4 ⟨v3, rfl, hc3, hb4⟩; obtain ⟨Q3, u3, rfl⟩ := Kd.S_slice hc3; have HC3 := Aside0.mk hc3; have HB4 := Aside0.mk hb4; clear hb4 hc3))
   go_roundw
   case rel => exact ⟨k + 1, by omega, by go_num, HS5, HB5⟩
   case measure => simp [intOf]; omega
  ·have hke : k = l.length := by omega
   subst hke
   have g1 : decide (l.length < l.length) = false := decide_eq_false (by omega)
   have hR := HR.out
   rw [List.take_length, List.drop_of_length_le (by simp), List.append_nil] at hR
   have HR2 := Aside0.mk hR
   clear hR
   go_wp2
   go_ret
   exact ⟨v7, rfl, HR2.out, HB.out⟩
theorem infoRule : (Tryz.prog.info? 52).map (fun i => (i.zero, i.size, i.bytes)) = some (some (.agg #[.string ⟨#[]⟩, .int .i64 0, .int .i64 0, .int .i64 0, .int .i64 0, .int .i64 0, .slice none 0 0, .int .i64 0, .int .i64 0, .int .i64 0, .int .i64 0, .int .i64 0]), 12, 120) := by kernel_rfl
def ToRule (w w' : World) (x : TRule) (r : Ending) : Prop := ∃ v6, r = .returned (.agg #[.string x.f0, .int .i64 x.f1, .int .i64 x.f2, .int .i64 x.f3.f0, .int .i64 x.f3.f1, .int .i64 x.f3.f2, v6, .int .i64 x.f4, .int .i64 x.f5, .int .i64 x.f6, .int .i64 x.f7, .int .i64 x.f8]) ∧ Kd.S (kE 50) 50 w' w.heap.size (fun _ => True) v6 x.f3.f3 ∧ Below w.heap.size w w'
set_option maxHeartbeats 4000000 in
set_option maxRecDepth 100000 in
theorem toRule_any (x : TRule) (A6 : Option Addr) (c6 : Nat) (w : World) (hx : cRule x ≤ 1048576) (hL6 : IsS (kE 50) w x.f3.f3 A6 c6) :
  Calls Tryz.prog 43 #[.agg #[.string x.f0, .int .i64 x.f1, .int .i64 x.f2, .int .i64 x.f3.f0, .int .i64 x.f3.f1, .int .i64 x.f3.f2, .slice A6 x.f3.f3.length c6, .int .i64 x.f4, .int .i64 x.f5, .int .i64 x.f6, .int .i64 x.f7, .int .i64 x.f8]] w fun e w' => ToRule w w' x e := by
 obtain ⟨hb0, b0, b1, b2⟩ := boxes3 w #[.string x.f0, .int .i64 x.f1, .int .i64 x.f2, .int .i64 x.f3.f0, .int .i64 x.f3.f1, .int .i64 x.f3.f2, .slice A6 x.f3.f3.length c6, .int .i64 x.f4, .int .i64 x.f5, .int .i64 x.f6, .int .i64 x.f7, .int .i64 x.f8] #[.string ⟨#[]⟩, .int .i64 0, .int .i64 0, .int .i64 0, .int .i64 0, .int .i64 0, .slice none 0 0, .int .i64 0, .int .i64 0, .int .i64 0, .int .i64 0, .int .i64 0] #[.string ⟨#[]⟩, .int .i64 0, .int .i64 0, .int .i64 0, .int .i64 0, .int .i64 0, .slice none 0 0, .int .i64 0, .int .i64 0, .int .i64 0, .int .i64 0, .int .i64 0] 75 52 52
 have HL6 := Aside0.mk hL6
 clear hL6
 have hx' : x.f0.size + cntL x.f3.f3 ≤ 1048576 := hx
 have hz0 : x.f0.size ≤ 1048576 := by omega
 have hz1 : cntL x.f3.f3 ≤ 1048576 := by omega
 have HZ := Aside0.mk hx'
 clear hx hx'
 go_enter Tryz.func43, Tryz.ntmps43
 go_upto_region 2 with fail
 generalize ((w.alloc (.cells #[.string x.f0, .int .i64 x.f1, .int .i64 x.f2, .int .i64 x.f3.f0, .int .i64 x.f3.f1, .int .i64 x.f3.f2, .slice A6 x.f3.f3.length c6, .int .i64 x.f4, .int .i64 x.f5, .int .i64 x.f6, .int .i64 x.f7, .int .i64 x.f8] 75)).alloc (.cells #[.string ⟨#[]⟩, .int .i64 0, .int .i64 0, .int .i64 0, .int .i64 0, .int .i64 0, .slice none 0 0, .int .i64 0, .int .i64 0, .int .i64 0, .int .i64 0, .int .i64 0] 52)).alloc (.cells #[.string ⟨#[]⟩, .int .i64 0, .int .i64 0, .int .i64 0, .int .i64 0, .int .i64 0, .slice none 0 0, .int .i64 0, .int .i64 0, .int .i64 0, .int .i64 0, .int .i64 0] 52) = W0 at hb0 b0 b1 b2 ⊢
 have HB := Aside0.mk hb0
 have BA := Aside0.mk b0
 have BR := Aside0.mk b1
 have BO := Aside0.mk b2
 clear hb0 b0 b1 b2
 have p0 := (blk_cell BA.out 0).trans rfl
 have z0 := blk_frozen BO.out 0
 have q0 := (blk_cell BO.out 0).trans rfl
 go_upto_region 3 with fail
 have BA' := Aside0.mk (blk_far BA.out (p := ⟨w.heap.size + 1 + 1, 0, none⟩) (by simp; omega) (.string x.f0))
 have BR' := Aside0.mk (blk_far BR.out (p := ⟨w.heap.size + 1 + 1, 0, none⟩) (by simp) (.string x.f0))
 have BO' := Aside0.mk (show (W0.setCell ⟨w.heap.size + 1 + 1, 0, none⟩ (.string x.f0)).heap[w.heap.size + 1 + 1]? = some (.cells #[.string x.f0, .int .i64 0, .int .i64 0, .int .i64 0, .int .i64 0, .int .i64 0, .slice none 0 0, .int .i64 0, .int .i64 0, .int .i64 0, .int .i64 0, .int .i64 0] 52 (0, 0)) from blk_put BO.out 0 _ rfl)
 have HB' := Aside0.mk (HB.out.setCell (p := ⟨w.heap.size + 1 + 1, 0, none⟩) (by simp; omega) (.string x.f0))
 clear BA BR BO HB p0 z0 q0
 generalize (W0.setCell ⟨w.heap.size + 1 + 1, 0, none⟩ (.string x.f0)) = W1 at BA' BR' BO' HB'   ⊢
 have BA := BA'
 have BR := BR'
 have BO := BO'
 have HB := HB'
 clear BA' BR' BO' HB'
 have p1 := (blk_cell BA.out 1).trans rfl
 have z1 := blk_frozen BO.out 1
 have q1 := (blk_cell BO.out 1).trans rfl
 go_upto_region 4 with fail
 have BA' := Aside0.mk (blk_far BA.out (p := ⟨w.heap.size + 1 + 1, 1, none⟩) (by simp; omega) (.int .i64 x.f1))
 have BR' := Aside0.mk (blk_far BR.out (p := ⟨w.heap.size + 1 + 1, 1, none⟩) (by simp) (.int .i64 x.f1))
 have BO' := Aside0.mk (show (W1.setCell ⟨w.heap.size + 1 + 1, 1, none⟩ (.int .i64 x.f1)).heap[w.heap.size + 1 + 1]? = some (.cells #[.string x.f0, .int .i64 x.f1, .int .i64 0, .int .i64 0, .int .i64 0, .int .i64 0, .slice none 0 0, .int .i64 0, .int .i64 0, .int .i64 0, .int .i64 0, .int .i64 0] 52 (0, 0)) from blk_put BO.out 1 _ rfl)
 have HB' := Aside0.mk (HB.out.setCell (p := ⟨w.heap.size + 1 + 1, 1, none⟩) (by simp; omega) (.int .i64 x.f1))
 clear BA BR BO HB p1 z1 q1
 generalize (W1.setCell ⟨w.heap.size + 1 + 1, 1, none⟩ (.int .i64 x.f1)) = W2 at BA' BR' BO' HB'   ⊢
 have BA := BA'
 have BR := BR'
 have BO := BO'
 have HB := HB'
 clear BA' BR' BO' HB'
 have p2 := (blk_cell BA.out 2).trans rfl
 have z2 := blk_frozen BO.out 2
 have q2 := (blk_cell BO.out 2).trans rfl
 go_upto_region 5 with fail
 have BA' := Aside0.mk (blk_far BA.out (p := ⟨w.heap.size + 1 + 1, 2, none⟩) (by simp; omega) (.int .i64 x.f2))
 have BR' := Aside0.mk (blk_far BR.out (p := ⟨w.heap.size + 1 + 1, 2, none⟩) (by simp) (.int .i64 x.f2))
 have BO' := Aside0.mk (show (W2.setCell ⟨w.heap.size + 1 + 1, 2, none⟩ (.int .i64 x.f2)).heap[w.heap.size + 1 + 1]? = some (.cells #[.string x.f0, .int .i64 x.f1, .int .i64 x.f2, .int .i64 0, .int .i64 0, .int .i64 0, .slice none 0 0, .int .i64 0, .int .i64 0, .int .i64 0, .int .i64 0, .int .i64 0] 52 (0, 0)) from blk_put BO.out 2 _ rfl)
 have HB' := Aside0.mk (HB.out.setCell (p := ⟨w.heap.size + 1 + 1, 2, none⟩) (by simp; omega) (.int .i64 x.f2))
 clear BA BR BO HB p2 z2 q2
 generalize (W2.setCell ⟨w.heap.size + 1 + 1, 2, none⟩ (.int .i64 x.f2)) = W3 at BA' BR' BO' HB'   ⊢
 have BA := BA'
 have BR := BR'
 have BO := BO'
 have HB := HB'
 clear BA' BR' BO' HB'
 have p3 := (blk_cell BA.out 3).trans rfl
 have p4 := (blk_cell BA.out 4).trans rfl
 have p5 := (blk_cell BA.out 5).trans rfl
 have p6 := (blk_cell BA.out 6).trans rfl
 go_upto_region 6 with (go_at_call 74; refine (toEx_any x.f3 A6 c6 _ hz1 (HL6.out.below HB.out)).mono ?_; rintro e w3_ ⟨v3, rfl, hr3, hb3⟩; obtain ⟨P6, r6, rfl⟩ := Kd.S_slice hr3; have z3 := blk_frozen (blk_below BO.out hb3) 3; have q3 := (blk_cell (blk_below BO.out hb3) 3).trans rfl; have z4 := blk_frozen (blk_below BO.out hb3) 4; have q4 := (blk_cell (blk_below BO.out hb3) 4).trans rfl; have z5 := blk_frozen (blk_below BO.out hb3) 5; have q5 := (blk_cell (blk_below BO.out hb3) 5).trans rfl; have z6 := blk_frozen (blk_below BO.out hb3) 6; have q6 := (blk_cell (blk_below BO.out hb3) 6).trans rfl; have BA2 := Aside0.mk (blk_below BA.out hb3); have BR2 := Aside0.mk (blk_below BR.out hb3); have BO2 := Aside0.mk (blk_below BO.out hb3); have HS6 := Aside0.mk (S_behind' hr3 (blk_lt BO.out) HB.out.size); have HB2 := Aside0.mk (below_then HB.out HB.out.size hb3); clear hb3 hr3)
 clear BA BR BO HB
 have BA := BA2
 have BR := BR2
 have BO := BO2
 have HB := HB2
 clear BA2 BR2 BO2 HB2
 have BA' := Aside0.mk (blk_far (blk_far (blk_far (blk_far BA.out (p := ⟨w.heap.size + 1 + 1, 3, none⟩) (by simp; omega) (.int .i64 x.f3.f0)) (p := ⟨w.heap.size + 1 + 1, 4, none⟩) (by simp; omega) (.int .i64 x.f3.f1)) (p := ⟨w.heap.size + 1 + 1, 5, none⟩) (by simp; omega) (.int .i64 x.f3.f2)) (p := ⟨w.heap.size + 1 + 1, 6, none⟩) (by simp; omega) (.slice P6 x.f3.f3.length r6))
 have BR' := Aside0.mk (blk_far (blk_far (blk_far (blk_far BR.out (p := ⟨w.heap.size + 1 + 1, 3, none⟩) (by simp) (.int .i64 x.f3.f0)) (p := ⟨w.heap.size + 1 + 1, 4, none⟩) (by simp) (.int .i64 x.f3.f1)) (p := ⟨w.heap.size + 1 + 1, 5, none⟩) (by simp) (.int .i64 x.f3.f2)) (p := ⟨w.heap.size + 1 + 1, 6, none⟩) (by simp) (.slice P6 x.f3.f3.length r6))
 have BO' := Aside0.mk (show ((((w3_.setCell ⟨w.heap.size + 1 + 1, 3, none⟩ (.int .i64 x.f3.f0)).setCell ⟨w.heap.size + 1 + 1, 4, none⟩ (.int .i64 x.f3.f1)).setCell ⟨w.heap.size + 1 + 1, 5, none⟩ (.int .i64 x.f3.f2)).setCell ⟨w.heap.size + 1 + 1, 6, none⟩ (.slice P6 x.f3.f3.length r6)).heap[w.heap.size + 1 + 1]? = some (.cells #[.string x.f0, .int .i64 x.f1, .int .i64 x.f2, .int .i64 x.f3.f0, .int .i64 x.f3.f1, .int .i64 x.f3.f2, .slice P6 x.f3.f3.length r6, .int .i64 0, .int .i64 0, .int .i64 0, .int .i64 0, .int .i64 0] 52 (0, 0)) from blk_put (show (((w3_.setCell ⟨w.heap.size + 1 + 1, 3, none⟩ (.int .i64 x.f3.f0)).setCell ⟨w.heap.size + 1 + 1, 4, none⟩ (.int .i64 x.f3.f1)).setCell ⟨w.heap.size + 1 + 1, 5, none⟩ (.int .i64 x.f3.f2)).heap[w.heap.size + 1 + 1]? = some (.cells #[.string x.f0, .int .i64 x.f1, .int .i64 x.f2, .int .i64 x.f3.f0, .int .i64 x.f3.f1, .int .i64 x.f3.f2, .slice none 0 0, .int .i64 0, .int .i64 0, .int .i64 0, .int .i64 0, .int .i64 0] 52 (0, 0)) from blk_put (show ((w3_.setCell ⟨w.heap.size + 1 + 1, 3, none⟩ (.int .i64 x.f3.f0)).setCell ⟨w.heap.size + 1 + 1, 4, none⟩ (.int .i64 x.f3.f1)).heap[w.heap.size + 1 + 1]? = some (.cells #[.string x.f0, .int .i64 x.f1, .int .i64 x.f2, .int .i64 x.f3.f0, .int .i64 x.f3.f1, .int .i64 0, .slice none 0 0, .int .i64 0, .int .i64 0, .int .i64 0, .int .i64 0, .int .i64 0] 52 (0, 0)) from blk_put (show (w3_.setCell ⟨w.heap.size + 1 + 1, 3, none⟩ (.int .i64 x.f3.f0)).heap[w.heap.size + 1 + 1]? = some (.cells #[.string x.f0, .int .i64 x.f1, .int .i64 x.f2, .int .i64 x.f3.f0, .int .i64 0, .int .i64 0, .slice none 0 0, .int .i64 0, .int .i64 0, .int .i64 0, .int .i64 0, .int .i64 0] 52 (0, 0)) from blk_put BO.out 3 _ rfl) 4 _ rfl) 5 _ rfl) 6 _ rfl)
 have HB' := Aside0.mk ((((HB.out.setCell (p := ⟨w.heap.size + 1 + 1, 3, none⟩) (by simp; omega) (.int .i64 x.f3.f0)).setCell (p := ⟨w.heap.size + 1 + 1, 4, none⟩) (by simp; omega) (.int .i64 x.f3.f1)).setCell (p := ⟨w.heap.size + 1 + 1, 5, none⟩) (by simp; omega) (.int .i64 x.f3.f2)).setCell (p := ⟨w.heap.size + 1 + 1, 6, none⟩) (by simp; omega) (.slice P6 x.f3.f3.length r6))
 have HS6' := Aside0.mk (Kd.S_far (p := ⟨w.heap.size + 1 + 1, 6, none⟩) (Kd.S_far (p := ⟨w.heap.size + 1 + 1, 5, none⟩) (Kd.S_far (p := ⟨w.heap.size + 1 + 1, 4, none⟩) (Kd.S_far (p := ⟨w.heap.size + 1 + 1, 3, none⟩) HS6.out (fun k hk => Nat.ne_of_gt hk) (.int .i64 x.f3.f0)) (fun k hk => Nat.ne_of_gt hk) (.int .i64 x.f3.f1)) (fun k hk => Nat.ne_of_gt hk) (.int .i64 x.f3.f2)) (fun k hk => Nat.ne_of_gt hk) (.slice P6 x.f3.f3.length r6))
 clear BA BR BO HB p3 z3 q3 p4 z4 q4 p5 z5 q5 p6 z6 q6 HS6
 generalize ((((w3_.setCell ⟨w.heap.size + 1 + 1, 3, none⟩ (.int .i64 x.f3.f0)).setCell ⟨w.heap.size + 1 + 1, 4, none⟩ (.int .i64 x.f3.f1)).setCell ⟨w.heap.size + 1 + 1, 5, none⟩ (.int .i64 x.f3.f2)).setCell ⟨w.heap.size + 1 + 1, 6, none⟩ (.slice P6 x.f3.f3.length r6)) = W4 at BA' BR' BO' HB' HS6'  ⊢
 have BA := BA'
 have BR := BR'
 have BO := BO'
 have HB := HB'
 have HS6 := HS6'
 clear BA' BR' BO' HB' HS6'
 have p7 := (blk_cell BA.out 7).trans rfl
 have z7 := blk_frozen BO.out 7
 have q7 := (blk_cell BO.out 7).trans rfl
 go_upto_region 7 with fail
 have BA' := Aside0.mk (blk_far BA.out (p := ⟨w.heap.size + 1 + 1, 7, none⟩) (by simp; omega) (.int .i64 x.f4))
 have BR' := Aside0.mk (blk_far BR.out (p := ⟨w.heap.size + 1 + 1, 7, none⟩) (by simp) (.int .i64 x.f4))
 have BO' := Aside0.mk (show (W4.setCell ⟨w.heap.size + 1 + 1, 7, none⟩ (.int .i64 x.f4)).heap[w.heap.size + 1 + 1]? = some (.cells #[.string x.f0, .int .i64 x.f1, .int .i64 x.f2, .int .i64 x.f3.f0, .int .i64 x.f3.f1, .int .i64 x.f3.f2, .slice P6 x.f3.f3.length r6, .int .i64 x.f4, .int .i64 0, .int .i64 0, .int .i64 0, .int .i64 0] 52 (0, 0)) from blk_put BO.out 7 _ rfl)
 have HB' := Aside0.mk (HB.out.setCell (p := ⟨w.heap.size + 1 + 1, 7, none⟩) (by simp; omega) (.int .i64 x.f4))
 have HS6' := Aside0.mk (Kd.S_far (p := ⟨w.heap.size + 1 + 1, 7, none⟩) HS6.out (fun k hk => Nat.ne_of_gt hk) (.int .i64 x.f4))
 clear BA BR BO HB p7 z7 q7 HS6
 generalize (W4.setCell ⟨w.heap.size + 1 + 1, 7, none⟩ (.int .i64 x.f4)) = W5 at BA' BR' BO' HB' HS6'  ⊢
 have BA := BA'
 have BR := BR'
 have BO := BO'
 have HB := HB'
 have HS6 := HS6'
 clear BA' BR' BO' HB' HS6'
 have p8 := (blk_cell BA.out 8).trans rfl
 have z8 := blk_frozen BO.out 8
 have q8 := (blk_cell BO.out 8).trans rfl
 go_upto_region 8 with fail
 have BA' := Aside0.mk (blk_far BA.out (p := ⟨w.heap.size + 1 + 1, 8, none⟩) (by simp; omega) (.int .i64 x.f5))
 have BR' := Aside0.mk (blk_far BR.out (p := ⟨w.heap.size + 1 + 1, 8, none⟩) (by simp) (.int .i64 x.f5))
 have BO' := Aside0.mk (show (W5.setCell ⟨w.heap.size + 1 + 1, 8, none⟩ (.int .i64 x.f5)).heap[w.heap.size + 1 + 1]? = some (.cells #[.string x.f0, .int .i64 x.f1, .int .i64 x.f2, .int .i64 x.f3.f0, .int .i64 x.f3.f1, .int .i64 x.f3.f2, .slice P6 x.f3.f3.length r6, .int .i64 x.f4, .int .i64 x.f5, .int .i64 0, .int .i64 0, .int .i64 0] 52 (0, 0)) from blk_put BO.out 8 _ rfl)
 have HB' := Aside0.mk (HB.out.setCell (p := ⟨w.heap.size + 1 + 1, 8, none⟩) (by simp; omega) (.int .i64 x.f5))
 have HS6' := Aside0.mk (Kd.S_far (p := ⟨w.heap.size + 1 + 1, 8, none⟩) HS6.out (fun k hk => Nat.ne_of_gt hk) (.int .i64 x.f5))
 clear BA BR BO HB p8 z8 q8 HS6
 generalize (W5.setCell ⟨w.heap.size + 1 + 1, 8, none⟩ (.int .i64 x.f5)) = W6 at BA' BR' BO' HB' HS6'  ⊢
 have BA := BA'
 have BR := BR'
 have BO := BO'
 have HB := HB'
 have HS6 := HS6'
 clear BA' BR' BO' HB' HS6'
 have p9 := (blk_cell BA.out 9).trans rfl
 have z9 := blk_frozen BO.out 9
 have q9 := (blk_cell BO.out 9).trans rfl
 go_upto_region 9 with fail
 have BA' := Aside0.mk (blk_far BA.out (p := ⟨w.heap.size + 1 + 1, 9, none⟩) (by simp; omega) (.int .i64 x.f6))
 have BR' := Aside0.mk (blk_far BR.out (p := ⟨w.heap.size + 1 + 1, 9, none⟩) (by simp) (.int .i64 x.f6))
 have BO' := Aside0.mk (show (W6.setCell ⟨w.heap.size + 1 + 1, 9, none⟩ (.int .i64 x.f6)).heap[w.heap.size + 1 + 1]? = some (.cells #[.string x.f0, .int .i64 x.f1, .int .i64 x.f2, .int .i64 x.f3.f0, .int .i64 x.f3.f1, .int .i64 x.f3.f2, .slice P6 x.f3.f3.length r6, .int .i64 x.f4, .int .i64 x.f5, .int .i64 x.f6, .int .i64 0, .int .i64 0] 52 (0, 0)) from blk_put BO.out 9 _ rfl)
 have HB' := Aside0.mk (HB.out.setCell (p := ⟨w.heap.size + 1 + 1, 9, none⟩) (by simp; omega) (.int .i64 x.f6))
 have HS6' := Aside0.mk (Kd.S_far (p := ⟨w.heap.size + 1 + 1, 9, none⟩) HS6.out (fun k hk => Nat.ne_of_gt hk) (.int .i64 x.f6))
 clear BA BR BO HB p9 z9 q9 HS6
 generalize (W6.setCell ⟨w.heap.size + 1 + 1, 9, none⟩ (.int .i64 x.f6)) = W7 at BA' BR' BO' HB' HS6'  ⊢
 have BA := BA'
 have BR := BR'
 have BO := BO'
 have HB := HB'
 have HS6 := HS6'
 clear BA' BR' BO' HB' HS6'
 have p10 := (blk_cell BA.out 10).trans rfl
 have z10 := blk_frozen BO.out 10
 have q10 := (blk_cell BO.out 10).trans rfl
 go_upto_region 10 with fail
 have BA' := Aside0.mk (blk_far BA.out (p := ⟨w.heap.size + 1 + 1, 10, none⟩) (by simp; omega) (.int .i64 x.f7))
 have BR' := Aside0.mk (blk_far BR.out (p := ⟨w.heap.size + 1 + 1, 10, none⟩) (by simp) (.int .i64 x.f7))
 have BO' := Aside0.mk (show (W7.setCell ⟨w.heap.size + 1 + 1, 10, none⟩ (.int .i64 x.f7)).heap[w.heap.size + 1 + 1]? = some (.cells #[.string x.f0, .int .i64 x.f1, .int .i64 x.f2, .int .i64 x.f3.f0, .int .i64 x.f3.f1, .int .i64 x.f3.f2, .slice P6 x.f3.f3.length r6, .int .i64 x.f4, .int .i64 x.f5, .int .i64 x.f6, .int .i64 x.f7, .int .i64 0] 52 (0, 0)) from blk_put BO.out 10 _ rfl)
 have HB' := Aside0.mk (HB.out.setCell (p := ⟨w.heap.size + 1 + 1, 10, none⟩) (by simp; omega) (.int .i64 x.f7))
 have HS6' := Aside0.mk (Kd.S_far (p := ⟨w.heap.size + 1 + 1, 10, none⟩) HS6.out (fun k hk => Nat.ne_of_gt hk) (.int .i64 x.f7))
 clear BA BR BO HB p10 z10 q10 HS6
 generalize (W7.setCell ⟨w.heap.size + 1 + 1, 10, none⟩ (.int .i64 x.f7)) = W8 at BA' BR' BO' HB' HS6'  ⊢
 have BA := BA'
 have BR := BR'
 have BO := BO'
 have HB := HB'
 have HS6 := HS6'
 clear BA' BR' BO' HB' HS6'
 have p11 := (blk_cell BA.out 11).trans rfl
 have z11 := blk_frozen BO.out 11
 have q11 := (blk_cell BO.out 11).trans rfl
 go_upto_region 11 with fail
 have BA' := Aside0.mk (blk_far BA.out (p := ⟨w.heap.size + 1 + 1, 11, none⟩) (by simp; omega) (.int .i64 x.f8))
 have BR' := Aside0.mk (blk_far BR.out (p := ⟨w.heap.size + 1 + 1, 11, none⟩) (by simp) (.int .i64 x.f8))
 have BO' := Aside0.mk (show (W8.setCell ⟨w.heap.size + 1 + 1, 11, none⟩ (.int .i64 x.f8)).heap[w.heap.size + 1 + 1]? = some (.cells #[.string x.f0, .int .i64 x.f1, .int .i64 x.f2, .int .i64 x.f3.f0, .int .i64 x.f3.f1, .int .i64 x.f3.f2, .slice P6 x.f3.f3.length r6, .int .i64 x.f4, .int .i64 x.f5, .int .i64 x.f6, .int .i64 x.f7, .int .i64 x.f8] 52 (0, 0)) from blk_put BO.out 11 _ rfl)
 have HB' := Aside0.mk (HB.out.setCell (p := ⟨w.heap.size + 1 + 1, 11, none⟩) (by simp; omega) (.int .i64 x.f8))
 have HS6' := Aside0.mk (Kd.S_far (p := ⟨w.heap.size + 1 + 1, 11, none⟩) HS6.out (fun k hk => Nat.ne_of_gt hk) (.int .i64 x.f8))
 clear BA BR BO HB p11 z11 q11 HS6
 generalize (W8.setCell ⟨w.heap.size + 1 + 1, 11, none⟩ (.int .i64 x.f8)) = W9 at BA' BR' BO' HB' HS6'  ⊢
 have BA := BA'
 have BR := BR'
 have BO := BO'
 have HB := HB'
 have HS6 := HS6'
 clear BA' BR' BO' HB' HS6'
 have r0_ := (blk_cell BO.out 0).trans rfl
 have s0_ := (blk_cell BR.out 0).trans rfl
 have t0_ := blk_frozen BR.out 0
 have r1_ := (blk_cell BO.out 1).trans rfl
 have s1_ := (blk_cell BR.out 1).trans rfl
 have t1_ := blk_frozen BR.out 1
 have r2_ := (blk_cell BO.out 2).trans rfl
 have s2_ := (blk_cell BR.out 2).trans rfl
 have t2_ := blk_frozen BR.out 2
 have r3_ := (blk_cell BO.out 3).trans rfl
 have s3_ := (blk_cell BR.out 3).trans rfl
 have t3_ := blk_frozen BR.out 3
 have r4_ := (blk_cell BO.out 4).trans rfl
 have s4_ := (blk_cell BR.out 4).trans rfl
 have t4_ := blk_frozen BR.out 4
 have r5_ := (blk_cell BO.out 5).trans rfl
 have s5_ := (blk_cell BR.out 5).trans rfl
 have t5_ := blk_frozen BR.out 5
 have r6_ := (blk_cell BO.out 6).trans rfl
 have s6_ := (blk_cell BR.out 6).trans rfl
 have t6_ := blk_frozen BR.out 6
 have r7_ := (blk_cell BO.out 7).trans rfl
 have s7_ := (blk_cell BR.out 7).trans rfl
 have t7_ := blk_frozen BR.out 7
 have r8_ := (blk_cell BO.out 8).trans rfl
 have s8_ := (blk_cell BR.out 8).trans rfl
 have t8_ := blk_frozen BR.out 8
 have r9_ := (blk_cell BO.out 9).trans rfl
 have s9_ := (blk_cell BR.out 9).trans rfl
 have t9_ := blk_frozen BR.out 9
 have r10_ := (blk_cell BO.out 10).trans rfl
 have s10_ := (blk_cell BR.out 10).trans rfl
 have t10_ := blk_frozen BR.out 10
 have r11_ := (blk_cell BO.out 11).trans rfl
 have s11_ := (blk_cell BR.out 11).trans rfl
 have t11_ := blk_frozen BR.out 11
 go_wp2
 refine bodyPost_ret (results_cell_row rfl _ _ (w.heap.size + 1) 52 #[.string x.f0, .int .i64 x.f1, .int .i64 x.f2, .int .i64 x.f3.f0, .int .i64 x.f3.f1, .int .i64 x.f3.f2, .slice P6 x.f3.f3.length r6, .int .i64 x.f4, .int .i64 x.f5, .int .i64 x.f6, .int .i64 x.f7, .int .i64 x.f8] (0, 0) _ rfl (blk_put (cs := #[.string x.f0, .int .i64 x.f1, .int .i64 x.f2, .int .i64 x.f3.f0, .int .i64 x.f3.f1, .int .i64 x.f3.f2, .slice P6 x.f3.f3.length r6, .int .i64 x.f4, .int .i64 x.f5, .int .i64 x.f6, .int .i64 x.f7, .int .i64 0]) (blk_put (cs := #[.string x.f0, .int .i64 x.f1, .int .i64 x.f2, .int .i64 x.f3.f0, .int .i64 x.f3.f1, .int .i64 x.f3.f2, .slice P6 x.f3.f3.length r6, .int .i64 x.f4, .int .i64 x.f5, .int .i64 x.f6, .int .i64 0, .int .i64 0]) (blk_put (cs := #[.string x.f0, .int .i64 x.f1, .int .i64 x.f2, .int .i64 x.f3.f0, .int .i64 x.f3.f1, .int .i64 x.f3.f2, .slice P6 x.f3.f3.length r6, .int .i64 x.f4, .int .i64 x.f5, .int .i64 0, .int .i64 0, .int .i64 0]) (blk_put (cs := #[.string x.f0, .int .i64 x.f1, .int .i64 x.f2, .int .i64 x.f3.f0, .int .i64 x.f3.f1, .int .i64 x.f3.f2, .slice P6 x.f3.f3.length r6, .int .i64 x.f4, .int .i64 0, .int .i64 0, .int .i64 0, .int .i64 0]) (blk_put (cs := #[.string x.f0, .int .i64 x.f1, .int .i64 x.f2, .int .i64 x.f3.f0, .int .i64 x.f3.f1, .int .i64 x.f3.f2, .slice P6 x.f3.f3.length r6, .int .i64 0, .int .i64 0, .int .i64 0, .int .i64 0, .int .i64 0]) (blk_put (cs := #[.string x.f0, .int .i64 x.f1, .int .i64 x.f2, .int .i64 x.f3.f0, .int .i64 x.f3.f1, .int .i64 x.f3.f2, .slice none 0 0, .int .i64 0, .int .i64 0, .int .i64 0, .int .i64 0, .int .i64 0]) (blk_put (cs := #[.string x.f0, .int .i64 x.f1, .int .i64 x.f2, .int .i64 x.f3.f0, .int .i64 x.f3.f1, .int .i64 0, .slice none 0 0, .int .i64 0, .int .i64 0, .int .i64 0, .int .i64 0, .int .i64 0]) (blk_put (cs := #[.string x.f0, .int .i64 x.f1, .int .i64 x.f2, .int .i64 x.f3.f0, .int .i64 0, .int .i64 0, .slice none 0 0, .int .i64 0, .int .i64 0, .int .i64 0, .int .i64 0, .int .i64 0]) (blk_put (cs := #[.string x.f0, .int .i64 x.f1, .int .i64 x.f2, .int .i64 0, .int .i64 0, .int .i64 0, .slice none 0 0, .int .i64 0, .int .i64 0, .int .i64 0, .int .i64 0, .int .i64 0]) (blk_put (cs := #[.string x.f0, .int .i64 x.f1, .int .i64 0, .int .i64 0, .int .i64 0, .int .i64 0, .slice none 0 0, .int .i64 0, .int .i64 0, .int .i64 0, .int .i64 0, .int .i64 0]) (blk_put (cs := #[.string x.f0, .int .i64 0, .int .i64 0, .int .i64 0, .int .i64 0, .int .i64 0, .slice none 0 0, .int .i64 0, .int .i64 0, .int .i64 0, .int .i64 0, .int .i64 0]) (blk_put BR.out 0 _ rfl) 1 _ rfl) 2 _ rfl) 3 _ rfl) 4 _ rfl) 5 _ rfl) 6 _ rfl) 7 _ rfl) 8 _ rfl) 9 _ rfl) 10 _ rfl) 11 _ rfl) Tryz.underlying52 rfl (by kernel_rfl)) rfl ?_
 exact ⟨_, rfl, Kd.S_mono (Kd.S_far (p := ⟨w.heap.size + 1, 11, none⟩) (Kd.S_far (p := ⟨w.heap.size + 1, 10, none⟩) (Kd.S_far (p := ⟨w.heap.size + 1, 9, none⟩) (Kd.S_far (p := ⟨w.heap.size + 1, 8, none⟩) (Kd.S_far (p := ⟨w.heap.size + 1, 7, none⟩) (Kd.S_far (p := ⟨w.heap.size + 1, 6, none⟩) (Kd.S_far (p := ⟨w.heap.size + 1, 5, none⟩) (Kd.S_far (p := ⟨w.heap.size + 1, 4, none⟩) (Kd.S_far (p := ⟨w.heap.size + 1, 3, none⟩) (Kd.S_far (p := ⟨w.heap.size + 1, 2, none⟩) (Kd.S_far (p := ⟨w.heap.size + 1, 1, none⟩) (Kd.S_far (p := ⟨w.heap.size + 1, 0, none⟩) HS6.out (fun k hk => Nat.ne_of_gt (Nat.lt_trans (Nat.lt_succ_self _) hk)) _) (fun k hk => Nat.ne_of_gt (Nat.lt_trans (Nat.lt_succ_self _) hk)) _) (fun k hk => Nat.ne_of_gt (Nat.lt_trans (Nat.lt_succ_self _) hk)) _) (fun k hk => Nat.ne_of_gt (Nat.lt_trans (Nat.lt_succ_self _) hk)) _) (fun k hk => Nat.ne_of_gt (Nat.lt_trans (Nat.lt_succ_self _) hk)) _) (fun k hk => Nat.ne_of_gt (Nat.lt_trans (Nat.lt_succ_self _) hk)) _) (fun k hk => Nat.ne_of_gt (Nat.lt_trans (Nat.lt_succ_self _) hk)) _) (fun k hk => Nat.ne_of_gt (Nat.lt_trans (Nat.lt_succ_self _) hk)) _) (fun k hk => Nat.ne_of_gt (Nat.lt_trans (Nat.lt_succ_self _) hk)) _) (fun k hk => Nat.ne_of_gt (Nat.lt_trans (Nat.lt_succ_self _) hk)) _) (fun k hk => Nat.ne_of_gt (Nat.lt_trans (Nat.lt_succ_self _) hk)) _) (fun k hk => Nat.ne_of_gt (Nat.lt_trans (Nat.lt_succ_self _) hk)) _) (fun _ _ => trivial), ((((((((((((HB.out.setCell (p := ⟨w.heap.size + 1, 0, none⟩) (by simp) _).setCell (p := ⟨w.heap.size + 1, 1, none⟩) (by simp) _).setCell (p := ⟨w.heap.size + 1, 2, none⟩) (by simp) _).setCell (p := ⟨w.heap.size + 1, 3, none⟩) (by simp) _).setCell (p := ⟨w.heap.size + 1, 4, none⟩) (by simp) _).setCell (p := ⟨w.heap.size + 1, 5, none⟩) (by simp) _).setCell (p := ⟨w.heap.size + 1, 6, none⟩) (by simp) _).setCell (p := ⟨w.heap.size + 1, 7, none⟩) (by simp) _).setCell (p := ⟨w.heap.size + 1, 8, none⟩) (by simp) _).setCell (p := ⟨w.heap.size + 1, 9, none⟩) (by simp) _).setCell (p := ⟨w.heap.size + 1, 10, none⟩) (by simp) _).setCell (p := ⟨w.heap.size + 1, 11, none⟩) (by simp) _)⟩
set_option maxHeartbeats 4000000 in
set_option maxRecDepth 100000 in
theorem toRuleS_any (A : Option Addr) (c : Nat) (l : List TRule) (w : World) (hx : cS cRule l ≤ 1048576) (hL : IsS kRule w l A c) :
  Calls Tryz.prog 19 #[.slice A l.length c] w fun e w' => ToL kRule 52 w w' l e := by
 have hll : l.length ≤ 1048576 := by have h : l.length + (l.map cRule).sum ≤ 1048576 := hx; omega
 have hn : (0 : Int) ≤ l.length := by omega
 have hlb : ((l.length : Int)).toNat * 120 ≤ 281474976710656 := by omega
 have HL := Aside0.mk hL
 have HXL := Aside0.mk hx
 clear hL hx
 go_enter Tryz.func19, Tryz.ntmps19
 go_wp2_with ((with_reducible refine gate_dst (N := 7) rfl ?_); refine Kd.S_make kRule (w0 := w) w.heap.size 52 rfl (N := 7) rfl 31 _ _ rfl (l.length : Int) rfl rfl Tryz.underlying31 (.agg #[.string ⟨#[]⟩, .int .i64 0, .int .i64 0, .int .i64 0, .int .i64 0, .int .i64 0, .slice none 0 0, .int .i64 0, .int .i64 0, .int .i64 0, .int .i64 0, .int .i64 0]) 120 infoRule rfl (by decide) (by omega) zRule (ok := fun _ => True) (okp := fun _ => True) (kRule_mkM w w.heap.size (fun _ => False) zRule (Kd.S_nil _ _ _ _ _)) (fun _ hk => hk) trivial hn hlb (Below.refl _ _) (Nat.le_refl _) ?_; intro v7 w7 hr7 hb7 hg7 _; simp only [Int.toNat_natCast] at hr7; have HR := Aside0.mk hr7; have HB := Aside0.mk hb7; clear hr7 hb7 hg7)
 clear hlb hn
 go_loopw [4] (fun vi wr => ∃ k : Nat, k ≤ l.length ∧ vi = .int .i64 k ∧ Aside0 (Kd.S kRule 52 wr w.heap.size (fun _ => True) v7 (l.take k ++ (List.replicate l.length zRule).drop k)) ∧ Aside0 (Below w.heap.size w wr)) (fun vi _ => l.length - (intOf vi).toNat)
 case atStart => exact ⟨0, Nat.zero_le _, rfl, by simpa using HR, HB⟩
 case round =>
  clear HR HB
  obtain ⟨k, hk, rfl, HR, HB⟩ := hrel
  by_cases hlt : k < l.length
  ·have g1 : decide (k < l.length) = true := decide_eq_true hlt
   have i1 : (k : Int) < l.length := by omega
   have hlen : (l.take k ++ (List.replicate l.length zRule).drop k).length = l.length := by simp; omega
   have HSET := Aside0.mk (show (l.take k ++ (List.replicate l.length zRule).drop k).set ((k : Int)).toNat (l.getD k zRule) = l.take (k + 1) ++ (List.replicate l.length zRule).drop (k + 1) by
    rw [Int.toNat_natCast, mid_set _ _ _ _ (by rw [List.length_take]; omega) (by simpa using hlt), take_snoc l k zRule hlt])
   obtain ⟨g, cap, rfl, hgb, hgl, hG⟩ := Kd.S_form HR.out (by omega)
   rw [hlen] at HR ⊢
   obtain ⟨ad, A6_, c6_, rfl, y0_, y1_, y2_, y3_, y4_, y5_, y6_, y7_, y8_, y9_, y10_, y11_, j6_⟩ := atRule (HL.out.below HB.out) k hlt
   have helm : cRule (l.getD k zRule) ≤ 1048576 := by have h1 := sum_snoc cRule zRule l k hlt; have h2 := sum_le cRule l (k + 1); have h3 : l.length + (l.map cRule).sum ≤ 1048576 := HXL.out; omega
   generalize l.getD k zRule = o at y0_ y1_ y2_ y3_ y4_ y5_ y6_ y7_ y8_ y9_ y10_ y11_ j6_ HSET helm
   have HJ6 := Aside0.mk j6_
   have HWB := Aside0.mk HB.out.size
   clear j6_ hlen
   go_wp2_with (first
    | ((with_reducible refine gate_store (t := 52) (p := 21) rfl ?_); obtain ⟨oki, ce, hce1, hce2, hce3, hce4, hH⟩ := Kd.S_lend HR.out zRule (k : Int) (by omega) (by omega); refine Kd.H_store kRule (w0 := w) w.heap.size rfl rfl 52 _ _ rfl 52 (k : Int) 0 (l.take k ++ (List.replicate l.length zRule).drop k) o (.agg #[.string o.f0, .int .i64 o.f1, .int .i64 o.f2, .int .i64 o.f3.f0, .int .i64 o.f3.f1, .int .i64 o.f3.f2, .slice Q6 o.f3.f3.length u6, .int .i64 o.f4, .int .i64 o.f5, .int .i64 o.f6, .int .i64 o.f7, .int .i64 o.f8]) [.string o.f0, .int .i64 o.f1, .int .i64 o.f2, .int .i64 o.f3.f0, .int .i64 o.f3.f1, .int .i64 o.f3.f2, .slice Q6 o.f3.f3.length u6, .int .i64 o.f4, .int .i64 o.f5, .int .i64 o.f6, .int .i64 o.f7, .int .i64 o.f8] ce (fun _ => True) (fun j => oki j ∨ True ∧ wr.heap.size ≤ j) (fun j => wr.heap.size ≤ j) rfl (show k * 12 = ((k : Int)).toNat * 12 + 0 by simp) rfl rfl (by kernel_rfl) ?h1 (Kd.H_below (Kd.H_widen hH) HB4.out) (by omega) (by omega) (Nat.le_refl 12) ?hM (fun _ h => .inr ⟨trivial, h⟩) (below_then HB.out HB.out.size HB4.out) ?_; (case h1 => intro q hq; simp at hq; rcases hq with rfl | rfl | rfl | rfl | rfl | rfl | rfl | rfl | rfl | rfl | rfl | rfl <;> rfl); (case hM => rw [List.drop_of_length_le (by rw [hce1]; exact Nat.le_refl 12), List.append_nil]; exact kRule_mkM _ _ _ o (Kd.S_lower (Kd.S_mono (Kd.S_bound HC6.out) (fun j hj => hj.2.1)) HWB.out)); intro w5 hs5 hb5 _; rw [HSET.out] at hs5; have HS5 := Aside0.mk hs5; have HB5 := Aside0.mk hb5; clear hs5 hb5 hce1 hce2 hce3 hce4 hH)
    | (go_at_call 43; refine (toRule_any o A6_ c6_ _ helm HJ6.out).mono ?_; rintro e w4 ⟨v6, rfl, hc6, hb4⟩; obtain ⟨Q6, u6, rfl⟩ := Kd.S_slice hc6; have HC6 := Aside0.mk hc6; have HB4 := Aside0.mk hb4; clear hb4 hc6))
   go_roundw
   case rel => exact ⟨k + 1, by omega, by go_num, HS5, HB5⟩
   case measure => simp [intOf]; omega
  ·have hke : k = l.length := by omega
   subst hke
   have g1 : decide (l.length < l.length) = false := decide_eq_false (by omega)
   have hR := HR.out
   rw [List.take_length, List.drop_of_length_le (by simp), List.append_nil] at hR
   have HR2 := Aside0.mk hR
   clear hR
   go_wp2
   go_ret
   exact ⟨v7, rfl, HR2.out, HB.out⟩
def ToEng (w w' : World) (x : TEng) (r : Ending) : Prop := ∃ v0, ∃ v1, ∃ v2, ∃ v3, ∃ v4, ∃ o0, ∃ o1, ∃ o2, ∃ o3, ∃ o4, r = .returned (.agg #[v0, v1, v2, v3, v4]) ∧ Kd.S kRule 52 w' w.heap.size o0 v0 x.f0 ∧ Kd.S kGraph 89 w' w.heap.size o1 v1 x.f1 ∧ Kd.S kEv 97 w' w.heap.size o2 v2 x.f2 ∧ Kd.S (Kd.int .i64) 3 w' w.heap.size o3 v3 x.f3 ∧ Kd.S kFire 56 w' w.heap.size o4 v4 x.f4 ∧ Ap (fun k => w.heap.size ≤ k ∧ k < w'.heap.size) [o0, o1, o2, o3, o4] ∧ Below w.heap.size w w'
set_option maxHeartbeats 4000000 in
set_option maxRecDepth 100000 in
theorem toEng_any (x : TEng) (A0 : Option Addr) (c0 : Nat) (A1 : Option Addr) (c1 : Nat) (A2 : Option Addr) (c2 : Nat) (A3 : Option Addr) (c3 : Nat) (A4 : Option Addr) (c4 : Nat) (w : World) (hx : cEng x ≤ 1048576) (hL0 : IsS kRule w x.f0 A0 c0) (hL1 : IsS kGraph w x.f1 A1 c1) (hL2 : IsS kEv w x.f2 A2 c2) (hL3 : IsS (Kd.int .i64) w x.f3 A3 c3) (hL4 : IsS kFire w x.f4 A4 c4) :
  Calls Tryz.prog 6 #[.agg #[.slice A0 x.f0.length c0, .slice A1 x.f1.length c1, .slice A2 x.f2.length c2, .slice A3 x.f3.length c3, .slice A4 x.f4.length c4]] w fun e w' => ToEng w w' x e := by
 obtain ⟨hb0, b0, b1, b2⟩ := boxes3 w #[.slice A0 x.f0.length c0, .slice A1 x.f1.length c1, .slice A2 x.f2.length c2, .slice A3 x.f3.length c3, .slice A4 x.f4.length c4] #[.slice none 0 0, .slice none 0 0, .slice none 0 0, .slice none 0 0, .slice none 0 0] #[.slice none 0 0, .slice none 0 0, .slice none 0 0, .slice none 0 0, .slice none 0 0] 28 36 36
 have HL0 := Aside0.mk hL0
 have HL1 := Aside0.mk hL1
 have HL2 := Aside0.mk hL2
 have HL3 := Aside0.mk hL3
 have HL4 := Aside0.mk hL4
 clear hL0 hL1 hL2 hL3 hL4
 have hx' : cS cRule x.f0 + cS cGraph x.f1 + x.f2.length + x.f3.length + cS cFire x.f4 ≤ 1048576 := hx
 have hz0 : cS cRule x.f0 ≤ 1048576 := by omega
 have hz1 : cS cGraph x.f1 ≤ 1048576 := by omega
 have hz2 : x.f2.length ≤ 1048576 := by omega
 have hz3 : x.f3.length ≤ 1048576 := by omega
 have hz4 : cS cFire x.f4 ≤ 1048576 := by omega
 have HZ := Aside0.mk hx'
 clear hx hx'
 go_enter Tryz.func6, Tryz.ntmps6
 go_upto_region 2 with fail
 generalize ((w.alloc (.cells #[.slice A0 x.f0.length c0, .slice A1 x.f1.length c1, .slice A2 x.f2.length c2, .slice A3 x.f3.length c3, .slice A4 x.f4.length c4] 28)).alloc (.cells #[.slice none 0 0, .slice none 0 0, .slice none 0 0, .slice none 0 0, .slice none 0 0] 36)).alloc (.cells #[.slice none 0 0, .slice none 0 0, .slice none 0 0, .slice none 0 0, .slice none 0 0] 36) = W0 at hb0 b0 b1 b2 ⊢
 have HB := Aside0.mk hb0
 have BA := Aside0.mk b0
 have BR := Aside0.mk b1
 have BO := Aside0.mk b2
 clear hb0 b0 b1 b2
 have p0 := (blk_cell BA.out 0).trans rfl
 go_upto_region 3 with (go_at_call 19; refine (toRuleS_any A0 c0 x.f0 _ hz0 (HL0.out.below HB.out)).mono ?_; rintro e w0_ ⟨v0, rfl, hr0, hb3⟩; obtain ⟨P0, r0, rfl⟩ := Kd.S_slice hr0; have z0 := blk_frozen (blk_below BO.out hb3) 0; have q0 := (blk_cell (blk_below BO.out hb3) 0).trans rfl; have BA2 := Aside0.mk (blk_below BA.out hb3); have BR2 := Aside0.mk (blk_below BR.out hb3); have BO2 := Aside0.mk (blk_below BO.out hb3); have HS0 := Aside0.mk (Kd.S_lower (Kd.S_mono (Kd.S_bound hr0) (ok' := fun k => W0.heap.size ≤ k ∧ k < w0_.heap.size) (fun k hk => ⟨hk.2.1, hk.2.2.1⟩)) HB.out.size); have IN0 : Aside0 (∀ k, (fun k => W0.heap.size ≤ k ∧ k < w0_.heap.size) k → W0.heap.size ≤ k ∧ k < w0_.heap.size) := ⟨fun k hk => hk⟩; have LO0 := Aside0.mk (blk_lt BO.out); have LE0 := Aside0.mk hb3.size; have HB2 := Aside0.mk (below_then HB.out HB.out.size hb3); clear hb3 hr0)
 clear BA BR BO HB
 have BA := BA2
 have BR := BR2
 have BO := BO2
 have HB := HB2
 clear BA2 BR2 BO2 HB2
 have BA' := Aside0.mk (blk_far BA.out (p := ⟨w.heap.size + 1 + 1, 0, none⟩) (by simp; omega) (.slice P0 x.f0.length r0))
 have BR' := Aside0.mk (blk_far BR.out (p := ⟨w.heap.size + 1 + 1, 0, none⟩) (by simp) (.slice P0 x.f0.length r0))
 have BO' := Aside0.mk (show (w0_.setCell ⟨w.heap.size + 1 + 1, 0, none⟩ (.slice P0 x.f0.length r0)).heap[w.heap.size + 1 + 1]? = some (.cells #[.slice P0 x.f0.length r0, .slice none 0 0, .slice none 0 0, .slice none 0 0, .slice none 0 0] 36 (0, 0)) from blk_put BO.out 0 _ rfl)
 have HB' := Aside0.mk (HB.out.setCell (p := ⟨w.heap.size + 1 + 1, 0, none⟩) (by simp; omega) (.slice P0 x.f0.length r0))
 have HS0' := Aside0.mk (Kd.S_far (p := ⟨w.heap.size + 1 + 1, 0, none⟩) HS0.out (fun k hk => Nat.ne_of_gt (Nat.lt_of_lt_of_le LO0.out (IN0.out k hk).1)) (.slice P0 x.f0.length r0))
 clear BA BR BO HB p0 z0 q0 HS0
 have SZ0 : Aside0 (w0_.heap.size ≤ ((w0_.setCell ⟨w.heap.size + 1 + 1, 0, none⟩ (.slice P0 x.f0.length r0))).heap.size) := ⟨by simp only [size_set]; exact Nat.le_refl _⟩
 generalize (w0_.setCell ⟨w.heap.size + 1 + 1, 0, none⟩ (.slice P0 x.f0.length r0)) = W1 at BA' BR' BO' HB' HS0' SZ0 ⊢
 have BA := BA'
 have BR := BR'
 have BO := BO'
 have HB := HB'
 have HS0 := HS0'
 clear BA' BR' BO' HB' HS0'
 have p1 := (blk_cell BA.out 1).trans rfl
 go_upto_region 4 with (go_at_call 20; refine (toGraphS_any A1 c1 x.f1 _ hz1 (HL1.out.below HB.out)).mono ?_; rintro e w1_ ⟨v0, rfl, hr0, hb3⟩; obtain ⟨P1, r1, rfl⟩ := Kd.S_slice hr0; have z1 := blk_frozen (blk_below BO.out hb3) 1; have q1 := (blk_cell (blk_below BO.out hb3) 1).trans rfl; have BA2 := Aside0.mk (blk_below BA.out hb3); have BR2 := Aside0.mk (blk_below BR.out hb3); have BO2 := Aside0.mk (blk_below BO.out hb3); have HS1 := Aside0.mk (Kd.S_lower (Kd.S_mono (Kd.S_bound hr0) (ok' := fun k => W1.heap.size ≤ k ∧ k < w1_.heap.size) (fun k hk => ⟨hk.2.1, hk.2.2.1⟩)) HB.out.size); have IN1 : Aside0 (∀ k, (fun k => W1.heap.size ≤ k ∧ k < w1_.heap.size) k → W1.heap.size ≤ k ∧ k < w1_.heap.size) := ⟨fun k hk => hk⟩; have LO1 := Aside0.mk (blk_lt BO.out); have LE1 := Aside0.mk hb3.size; replace HS0 := Aside0.mk (Kd.S_below HS0.out hb3); have HB2 := Aside0.mk (below_then HB.out HB.out.size hb3); clear hb3 hr0)
 clear BA BR BO HB
 have BA := BA2
 have BR := BR2
 have BO := BO2
 have HB := HB2
 clear BA2 BR2 BO2 HB2
 have BA' := Aside0.mk (blk_far BA.out (p := ⟨w.heap.size + 1 + 1, 1, none⟩) (by simp; omega) (.slice P1 x.f1.length r1))
 have BR' := Aside0.mk (blk_far BR.out (p := ⟨w.heap.size + 1 + 1, 1, none⟩) (by simp) (.slice P1 x.f1.length r1))
 have BO' := Aside0.mk (show (w1_.setCell ⟨w.heap.size + 1 + 1, 1, none⟩ (.slice P1 x.f1.length r1)).heap[w.heap.size + 1 + 1]? = some (.cells #[.slice P0 x.f0.length r0, .slice P1 x.f1.length r1, .slice none 0 0, .slice none 0 0, .slice none 0 0] 36 (0, 0)) from blk_put BO.out 1 _ rfl)
 have HB' := Aside0.mk (HB.out.setCell (p := ⟨w.heap.size + 1 + 1, 1, none⟩) (by simp; omega) (.slice P1 x.f1.length r1))
 have HS0' := Aside0.mk (Kd.S_far (p := ⟨w.heap.size + 1 + 1, 1, none⟩) HS0.out (fun k hk => Nat.ne_of_gt (Nat.lt_of_lt_of_le LO0.out (IN0.out k hk).1)) (.slice P1 x.f1.length r1))
 have HS1' := Aside0.mk (Kd.S_far (p := ⟨w.heap.size + 1 + 1, 1, none⟩) HS1.out (fun k hk => Nat.ne_of_gt (Nat.lt_of_lt_of_le LO1.out (IN1.out k hk).1)) (.slice P1 x.f1.length r1))
 clear BA BR BO HB p1 z1 q1 HS0 HS1
 have SZ1 : Aside0 (w1_.heap.size ≤ ((w1_.setCell ⟨w.heap.size + 1 + 1, 1, none⟩ (.slice P1 x.f1.length r1))).heap.size) := ⟨by simp only [size_set]; exact Nat.le_refl _⟩
 generalize (w1_.setCell ⟨w.heap.size + 1 + 1, 1, none⟩ (.slice P1 x.f1.length r1)) = W2 at BA' BR' BO' HB' HS0' HS1' SZ1 ⊢
 have BA := BA'
 have BR := BR'
 have BO := BO'
 have HB := HB'
 have HS0 := HS0'
 have HS1 := HS1'
 clear BA' BR' BO' HB' HS0' HS1'
 have p2 := (blk_cell BA.out 2).trans rfl
 go_upto_region 5 with (go_at_call 21; refine (toEvS_any A2 c2 x.f2 _ hz2 (HL2.out.below HB.out)).mono ?_; rintro e w2_ ⟨v0, rfl, hr0, hb3⟩; obtain ⟨P2, r2, rfl⟩ := Kd.S_slice hr0; have z2 := blk_frozen (blk_below BO.out hb3) 2; have q2 := (blk_cell (blk_below BO.out hb3) 2).trans rfl; have BA2 := Aside0.mk (blk_below BA.out hb3); have BR2 := Aside0.mk (blk_below BR.out hb3); have BO2 := Aside0.mk (blk_below BO.out hb3); have HS2 := Aside0.mk (Kd.S_lower (Kd.S_mono (Kd.S_bound hr0) (ok' := fun k => W2.heap.size ≤ k ∧ k < w2_.heap.size) (fun k hk => ⟨hk.2.1, hk.2.2.1⟩)) HB.out.size); have IN2 : Aside0 (∀ k, (fun k => W2.heap.size ≤ k ∧ k < w2_.heap.size) k → W2.heap.size ≤ k ∧ k < w2_.heap.size) := ⟨fun k hk => hk⟩; have LO2 := Aside0.mk (blk_lt BO.out); have LE2 := Aside0.mk hb3.size; replace HS0 := Aside0.mk (Kd.S_below HS0.out hb3); replace HS1 := Aside0.mk (Kd.S_below HS1.out hb3); have HB2 := Aside0.mk (below_then HB.out HB.out.size hb3); clear hb3 hr0)
 clear BA BR BO HB
 have BA := BA2
 have BR := BR2
 have BO := BO2
 have HB := HB2
 clear BA2 BR2 BO2 HB2
 have BA' := Aside0.mk (blk_far BA.out (p := ⟨w.heap.size + 1 + 1, 2, none⟩) (by simp; omega) (.slice P2 x.f2.length r2))
 have BR' := Aside0.mk (blk_far BR.out (p := ⟨w.heap.size + 1 + 1, 2, none⟩) (by simp) (.slice P2 x.f2.length r2))
 have BO' := Aside0.mk (show (w2_.setCell ⟨w.heap.size + 1 + 1, 2, none⟩ (.slice P2 x.f2.length r2)).heap[w.heap.size + 1 + 1]? = some (.cells #[.slice P0 x.f0.length r0, .slice P1 x.f1.length r1, .slice P2 x.f2.length r2, .slice none 0 0, .slice none 0 0] 36 (0, 0)) from blk_put BO.out 2 _ rfl)
 have HB' := Aside0.mk (HB.out.setCell (p := ⟨w.heap.size + 1 + 1, 2, none⟩) (by simp; omega) (.slice P2 x.f2.length r2))
 have HS0' := Aside0.mk (Kd.S_far (p := ⟨w.heap.size + 1 + 1, 2, none⟩) HS0.out (fun k hk => Nat.ne_of_gt (Nat.lt_of_lt_of_le LO0.out (IN0.out k hk).1)) (.slice P2 x.f2.length r2))
 have HS1' := Aside0.mk (Kd.S_far (p := ⟨w.heap.size + 1 + 1, 2, none⟩) HS1.out (fun k hk => Nat.ne_of_gt (Nat.lt_of_lt_of_le LO1.out (IN1.out k hk).1)) (.slice P2 x.f2.length r2))
 have HS2' := Aside0.mk (Kd.S_far (p := ⟨w.heap.size + 1 + 1, 2, none⟩) HS2.out (fun k hk => Nat.ne_of_gt (Nat.lt_of_lt_of_le LO2.out (IN2.out k hk).1)) (.slice P2 x.f2.length r2))
 clear BA BR BO HB p2 z2 q2 HS0 HS1 HS2
 have SZ2 : Aside0 (w2_.heap.size ≤ ((w2_.setCell ⟨w.heap.size + 1 + 1, 2, none⟩ (.slice P2 x.f2.length r2))).heap.size) := ⟨by simp only [size_set]; exact Nat.le_refl _⟩
 generalize (w2_.setCell ⟨w.heap.size + 1 + 1, 2, none⟩ (.slice P2 x.f2.length r2)) = W3 at BA' BR' BO' HB' HS0' HS1' HS2' SZ2 ⊢
 have BA := BA'
 have BR := BR'
 have BO := BO'
 have HB := HB'
 have HS0 := HS0'
 have HS1 := HS1'
 have HS2 := HS2'
 clear BA' BR' BO' HB' HS0' HS1' HS2'
 have p3 := (blk_cell BA.out 3).trans rfl
 go_upto_region 6 with (go_at_call 22; refine (toIntS_any A3 c3 x.f3 _ hz3 (HL3.out.below HB.out)).mono ?_; rintro e w3_ ⟨v0, rfl, hr0, hb3⟩; obtain ⟨P3, r3, rfl⟩ := Kd.S_slice hr0; have z3 := blk_frozen (blk_below BO.out hb3) 3; have q3 := (blk_cell (blk_below BO.out hb3) 3).trans rfl; have BA2 := Aside0.mk (blk_below BA.out hb3); have BR2 := Aside0.mk (blk_below BR.out hb3); have BO2 := Aside0.mk (blk_below BO.out hb3); have HS3 := Aside0.mk (Kd.S_lower (Kd.S_mono (Kd.S_bound hr0) (ok' := fun k => W3.heap.size ≤ k ∧ k < w3_.heap.size) (fun k hk => ⟨hk.2.1, hk.2.2.1⟩)) HB.out.size); have IN3 : Aside0 (∀ k, (fun k => W3.heap.size ≤ k ∧ k < w3_.heap.size) k → W3.heap.size ≤ k ∧ k < w3_.heap.size) := ⟨fun k hk => hk⟩; have LO3 := Aside0.mk (blk_lt BO.out); have LE3 := Aside0.mk hb3.size; replace HS0 := Aside0.mk (Kd.S_below HS0.out hb3); replace HS1 := Aside0.mk (Kd.S_below HS1.out hb3); replace HS2 := Aside0.mk (Kd.S_below HS2.out hb3); have HB2 := Aside0.mk (below_then HB.out HB.out.size hb3); clear hb3 hr0)
 clear BA BR BO HB
 have BA := BA2
 have BR := BR2
 have BO := BO2
 have HB := HB2
 clear BA2 BR2 BO2 HB2
 have BA' := Aside0.mk (blk_far BA.out (p := ⟨w.heap.size + 1 + 1, 3, none⟩) (by simp; omega) (.slice P3 x.f3.length r3))
 have BR' := Aside0.mk (blk_far BR.out (p := ⟨w.heap.size + 1 + 1, 3, none⟩) (by simp) (.slice P3 x.f3.length r3))
 have BO' := Aside0.mk (show (w3_.setCell ⟨w.heap.size + 1 + 1, 3, none⟩ (.slice P3 x.f3.length r3)).heap[w.heap.size + 1 + 1]? = some (.cells #[.slice P0 x.f0.length r0, .slice P1 x.f1.length r1, .slice P2 x.f2.length r2, .slice P3 x.f3.length r3, .slice none 0 0] 36 (0, 0)) from blk_put BO.out 3 _ rfl)
 have HB' := Aside0.mk (HB.out.setCell (p := ⟨w.heap.size + 1 + 1, 3, none⟩) (by simp; omega) (.slice P3 x.f3.length r3))
 have HS0' := Aside0.mk (Kd.S_far (p := ⟨w.heap.size + 1 + 1, 3, none⟩) HS0.out (fun k hk => Nat.ne_of_gt (Nat.lt_of_lt_of_le LO0.out (IN0.out k hk).1)) (.slice P3 x.f3.length r3))
 have HS1' := Aside0.mk (Kd.S_far (p := ⟨w.heap.size + 1 + 1, 3, none⟩) HS1.out (fun k hk => Nat.ne_of_gt (Nat.lt_of_lt_of_le LO1.out (IN1.out k hk).1)) (.slice P3 x.f3.length r3))
 have HS2' := Aside0.mk (Kd.S_far (p := ⟨w.heap.size + 1 + 1, 3, none⟩) HS2.out (fun k hk => Nat.ne_of_gt (Nat.lt_of_lt_of_le LO2.out (IN2.out k hk).1)) (.slice P3 x.f3.length r3))
 have HS3' := Aside0.mk (Kd.S_far (p := ⟨w.heap.size + 1 + 1, 3, none⟩) HS3.out (fun k hk => Nat.ne_of_gt (Nat.lt_of_lt_of_le LO3.out (IN3.out k hk).1)) (.slice P3 x.f3.length r3))
 clear BA BR BO HB p3 z3 q3 HS0 HS1 HS2 HS3
 have SZ3 : Aside0 (w3_.heap.size ≤ ((w3_.setCell ⟨w.heap.size + 1 + 1, 3, none⟩ (.slice P3 x.f3.length r3))).heap.size) := ⟨by simp only [size_set]; exact Nat.le_refl _⟩
 generalize (w3_.setCell ⟨w.heap.size + 1 + 1, 3, none⟩ (.slice P3 x.f3.length r3)) = W4 at BA' BR' BO' HB' HS0' HS1' HS2' HS3' SZ3 ⊢
 have BA := BA'
 have BR := BR'
 have BO := BO'
 have HB := HB'
 have HS0 := HS0'
 have HS1 := HS1'
 have HS2 := HS2'
 have HS3 := HS3'
 clear BA' BR' BO' HB' HS0' HS1' HS2' HS3'
 have p4 := (blk_cell BA.out 4).trans rfl
 go_upto_region 7 with (go_at_call 23; refine (toFireS_any A4 c4 x.f4 _ hz4 (HL4.out.below HB.out)).mono ?_; rintro e w4_ ⟨v0, rfl, hr0, hb3⟩; obtain ⟨P4, r4, rfl⟩ := Kd.S_slice hr0; have z4 := blk_frozen (blk_below BO.out hb3) 4; have q4 := (blk_cell (blk_below BO.out hb3) 4).trans rfl; have BA2 := Aside0.mk (blk_below BA.out hb3); have BR2 := Aside0.mk (blk_below BR.out hb3); have BO2 := Aside0.mk (blk_below BO.out hb3); have HS4 := Aside0.mk (Kd.S_lower (Kd.S_mono (Kd.S_bound hr0) (ok' := fun k => W4.heap.size ≤ k ∧ k < w4_.heap.size) (fun k hk => ⟨hk.2.1, hk.2.2.1⟩)) HB.out.size); have IN4 : Aside0 (∀ k, (fun k => W4.heap.size ≤ k ∧ k < w4_.heap.size) k → W4.heap.size ≤ k ∧ k < w4_.heap.size) := ⟨fun k hk => hk⟩; have LO4 := Aside0.mk (blk_lt BO.out); have LE4 := Aside0.mk hb3.size; replace HS0 := Aside0.mk (Kd.S_below HS0.out hb3); replace HS1 := Aside0.mk (Kd.S_below HS1.out hb3); replace HS2 := Aside0.mk (Kd.S_below HS2.out hb3); replace HS3 := Aside0.mk (Kd.S_below HS3.out hb3); have HB2 := Aside0.mk (below_then HB.out HB.out.size hb3); clear hb3 hr0)
 clear BA BR BO HB
 have BA := BA2
 have BR := BR2
 have BO := BO2
 have HB := HB2
 clear BA2 BR2 BO2 HB2
 have BA' := Aside0.mk (blk_far BA.out (p := ⟨w.heap.size + 1 + 1, 4, none⟩) (by simp; omega) (.slice P4 x.f4.length r4))
 have BR' := Aside0.mk (blk_far BR.out (p := ⟨w.heap.size + 1 + 1, 4, none⟩) (by simp) (.slice P4 x.f4.length r4))
 have BO' := Aside0.mk (show (w4_.setCell ⟨w.heap.size + 1 + 1, 4, none⟩ (.slice P4 x.f4.length r4)).heap[w.heap.size + 1 + 1]? = some (.cells #[.slice P0 x.f0.length r0, .slice P1 x.f1.length r1, .slice P2 x.f2.length r2, .slice P3 x.f3.length r3, .slice P4 x.f4.length r4] 36 (0, 0)) from blk_put BO.out 4 _ rfl)
 have HB' := Aside0.mk (HB.out.setCell (p := ⟨w.heap.size + 1 + 1, 4, none⟩) (by simp; omega) (.slice P4 x.f4.length r4))
 have HS0' := Aside0.mk (Kd.S_far (p := ⟨w.heap.size + 1 + 1, 4, none⟩) HS0.out (fun k hk => Nat.ne_of_gt (Nat.lt_of_lt_of_le LO0.out (IN0.out k hk).1)) (.slice P4 x.f4.length r4))
 have HS1' := Aside0.mk (Kd.S_far (p := ⟨w.heap.size + 1 + 1, 4, none⟩) HS1.out (fun k hk => Nat.ne_of_gt (Nat.lt_of_lt_of_le LO1.out (IN1.out k hk).1)) (.slice P4 x.f4.length r4))
 have HS2' := Aside0.mk (Kd.S_far (p := ⟨w.heap.size + 1 + 1, 4, none⟩) HS2.out (fun k hk => Nat.ne_of_gt (Nat.lt_of_lt_of_le LO2.out (IN2.out k hk).1)) (.slice P4 x.f4.length r4))
 have HS3' := Aside0.mk (Kd.S_far (p := ⟨w.heap.size + 1 + 1, 4, none⟩) HS3.out (fun k hk => Nat.ne_of_gt (Nat.lt_of_lt_of_le LO3.out (IN3.out k hk).1)) (.slice P4 x.f4.length r4))
 have HS4' := Aside0.mk (Kd.S_far (p := ⟨w.heap.size + 1 + 1, 4, none⟩) HS4.out (fun k hk => Nat.ne_of_gt (Nat.lt_of_lt_of_le LO4.out (IN4.out k hk).1)) (.slice P4 x.f4.length r4))
 clear BA BR BO HB p4 z4 q4 HS0 HS1 HS2 HS3 HS4
 have SZ4 : Aside0 (w4_.heap.size ≤ ((w4_.setCell ⟨w.heap.size + 1 + 1, 4, none⟩ (.slice P4 x.f4.length r4))).heap.size) := ⟨by simp only [size_set]; exact Nat.le_refl _⟩
 generalize (w4_.setCell ⟨w.heap.size + 1 + 1, 4, none⟩ (.slice P4 x.f4.length r4)) = W5 at BA' BR' BO' HB' HS0' HS1' HS2' HS3' HS4' SZ4 ⊢
 have BA := BA'
 have BR := BR'
 have BO := BO'
 have HB := HB'
 have HS0 := HS0'
 have HS1 := HS1'
 have HS2 := HS2'
 have HS3 := HS3'
 have HS4 := HS4'
 clear BA' BR' BO' HB' HS0' HS1' HS2' HS3' HS4'
 have r0_ := (blk_cell BO.out 0).trans rfl
 have s0_ := (blk_cell BR.out 0).trans rfl
 have t0_ := blk_frozen BR.out 0
 have r1_ := (blk_cell BO.out 1).trans rfl
 have s1_ := (blk_cell BR.out 1).trans rfl
 have t1_ := blk_frozen BR.out 1
 have r2_ := (blk_cell BO.out 2).trans rfl
 have s2_ := (blk_cell BR.out 2).trans rfl
 have t2_ := blk_frozen BR.out 2
 have r3_ := (blk_cell BO.out 3).trans rfl
 have s3_ := (blk_cell BR.out 3).trans rfl
 have t3_ := blk_frozen BR.out 3
 have r4_ := (blk_cell BO.out 4).trans rfl
 have s4_ := (blk_cell BR.out 4).trans rfl
 have t4_ := blk_frozen BR.out 4
 go_wp2
 refine bodyPost_ret (results_cell_row rfl _ _ (w.heap.size + 1) 36 #[.slice P0 x.f0.length r0, .slice P1 x.f1.length r1, .slice P2 x.f2.length r2, .slice P3 x.f3.length r3, .slice P4 x.f4.length r4] (0, 0) _ rfl (blk_put (cs := #[.slice P0 x.f0.length r0, .slice P1 x.f1.length r1, .slice P2 x.f2.length r2, .slice P3 x.f3.length r3, .slice none 0 0]) (blk_put (cs := #[.slice P0 x.f0.length r0, .slice P1 x.f1.length r1, .slice P2 x.f2.length r2, .slice none 0 0, .slice none 0 0]) (blk_put (cs := #[.slice P0 x.f0.length r0, .slice P1 x.f1.length r1, .slice none 0 0, .slice none 0 0, .slice none 0 0]) (blk_put (cs := #[.slice P0 x.f0.length r0, .slice none 0 0, .slice none 0 0, .slice none 0 0, .slice none 0 0]) (blk_put BR.out 0 _ rfl) 1 _ rfl) 2 _ rfl) 3 _ rfl) 4 _ rfl) Tryz.underlying36 rfl (by kernel_rfl)) rfl ?_
 refine ⟨_, _, _, _, _, _, _, _, _, _, rfl, (Kd.S_far (p := ⟨w.heap.size + 1, 4, none⟩) (Kd.S_far (p := ⟨w.heap.size + 1, 3, none⟩) (Kd.S_far (p := ⟨w.heap.size + 1, 2, none⟩) (Kd.S_far (p := ⟨w.heap.size + 1, 1, none⟩) (Kd.S_far (p := ⟨w.heap.size + 1, 0, none⟩) HS0.out (fun k hk => Nat.ne_of_gt (Nat.lt_trans (Nat.lt_succ_self _) (Nat.lt_of_lt_of_le LO0.out (IN0.out k hk).1))) _) (fun k hk => Nat.ne_of_gt (Nat.lt_trans (Nat.lt_succ_self _) (Nat.lt_of_lt_of_le LO0.out (IN0.out k hk).1))) _) (fun k hk => Nat.ne_of_gt (Nat.lt_trans (Nat.lt_succ_self _) (Nat.lt_of_lt_of_le LO0.out (IN0.out k hk).1))) _) (fun k hk => Nat.ne_of_gt (Nat.lt_trans (Nat.lt_succ_self _) (Nat.lt_of_lt_of_le LO0.out (IN0.out k hk).1))) _) (fun k hk => Nat.ne_of_gt (Nat.lt_trans (Nat.lt_succ_self _) (Nat.lt_of_lt_of_le LO0.out (IN0.out k hk).1))) _), (Kd.S_far (p := ⟨w.heap.size + 1, 4, none⟩) (Kd.S_far (p := ⟨w.heap.size + 1, 3, none⟩) (Kd.S_far (p := ⟨w.heap.size + 1, 2, none⟩) (Kd.S_far (p := ⟨w.heap.size + 1, 1, none⟩) (Kd.S_far (p := ⟨w.heap.size + 1, 0, none⟩) HS1.out (fun k hk => Nat.ne_of_gt (Nat.lt_trans (Nat.lt_succ_self _) (Nat.lt_of_lt_of_le LO1.out (IN1.out k hk).1))) _) (fun k hk => Nat.ne_of_gt (Nat.lt_trans (Nat.lt_succ_self _) (Nat.lt_of_lt_of_le LO1.out (IN1.out k hk).1))) _) (fun k hk => Nat.ne_of_gt (Nat.lt_trans (Nat.lt_succ_self _) (Nat.lt_of_lt_of_le LO1.out (IN1.out k hk).1))) _) (fun k hk => Nat.ne_of_gt (Nat.lt_trans (Nat.lt_succ_self _) (Nat.lt_of_lt_of_le LO1.out (IN1.out k hk).1))) _) (fun k hk => Nat.ne_of_gt (Nat.lt_trans (Nat.lt_succ_self _) (Nat.lt_of_lt_of_le LO1.out (IN1.out k hk).1))) _), (Kd.S_far (p := ⟨w.heap.size + 1, 4, none⟩) (Kd.S_far (p := ⟨w.heap.size + 1, 3, none⟩) (Kd.S_far (p := ⟨w.heap.size + 1, 2, none⟩) (Kd.S_far (p := ⟨w.heap.size + 1, 1, none⟩) (Kd.S_far (p := ⟨w.heap.size + 1, 0, none⟩) HS2.out (fun k hk => Nat.ne_of_gt (Nat.lt_trans (Nat.lt_succ_self _) (Nat.lt_of_lt_of_le LO2.out (IN2.out k hk).1))) _) (fun k hk => Nat.ne_of_gt (Nat.lt_trans (Nat.lt_succ_self _) (Nat.lt_of_lt_of_le LO2.out (IN2.out k hk).1))) _) (fun k hk => Nat.ne_of_gt (Nat.lt_trans (Nat.lt_succ_self _) (Nat.lt_of_lt_of_le LO2.out (IN2.out k hk).1))) _) (fun k hk => Nat.ne_of_gt (Nat.lt_trans (Nat.lt_succ_self _) (Nat.lt_of_lt_of_le LO2.out (IN2.out k hk).1))) _) (fun k hk => Nat.ne_of_gt (Nat.lt_trans (Nat.lt_succ_self _) (Nat.lt_of_lt_of_le LO2.out (IN2.out k hk).1))) _), (Kd.S_far (p := ⟨w.heap.size + 1, 4, none⟩) (Kd.S_far (p := ⟨w.heap.size + 1, 3, none⟩) (Kd.S_far (p := ⟨w.heap.size + 1, 2, none⟩) (Kd.S_far (p := ⟨w.heap.size + 1, 1, none⟩) (Kd.S_far (p := ⟨w.heap.size + 1, 0, none⟩) HS3.out (fun k hk => Nat.ne_of_gt (Nat.lt_trans (Nat.lt_succ_self _) (Nat.lt_of_lt_of_le LO3.out (IN3.out k hk).1))) _) (fun k hk => Nat.ne_of_gt (Nat.lt_trans (Nat.lt_succ_self _) (Nat.lt_of_lt_of_le LO3.out (IN3.out k hk).1))) _) (fun k hk => Nat.ne_of_gt (Nat.lt_trans (Nat.lt_succ_self _) (Nat.lt_of_lt_of_le LO3.out (IN3.out k hk).1))) _) (fun k hk => Nat.ne_of_gt (Nat.lt_trans (Nat.lt_succ_self _) (Nat.lt_of_lt_of_le LO3.out (IN3.out k hk).1))) _) (fun k hk => Nat.ne_of_gt (Nat.lt_trans (Nat.lt_succ_self _) (Nat.lt_of_lt_of_le LO3.out (IN3.out k hk).1))) _), (Kd.S_far (p := ⟨w.heap.size + 1, 4, none⟩) (Kd.S_far (p := ⟨w.heap.size + 1, 3, none⟩) (Kd.S_far (p := ⟨w.heap.size + 1, 2, none⟩) (Kd.S_far (p := ⟨w.heap.size + 1, 1, none⟩) (Kd.S_far (p := ⟨w.heap.size + 1, 0, none⟩) HS4.out (fun k hk => Nat.ne_of_gt (Nat.lt_trans (Nat.lt_succ_self _) (Nat.lt_of_lt_of_le LO4.out (IN4.out k hk).1))) _) (fun k hk => Nat.ne_of_gt (Nat.lt_trans (Nat.lt_succ_self _) (Nat.lt_of_lt_of_le LO4.out (IN4.out k hk).1))) _) (fun k hk => Nat.ne_of_gt (Nat.lt_trans (Nat.lt_succ_self _) (Nat.lt_of_lt_of_le LO4.out (IN4.out k hk).1))) _) (fun k hk => Nat.ne_of_gt (Nat.lt_trans (Nat.lt_succ_self _) (Nat.lt_of_lt_of_le LO4.out (IN4.out k hk).1))) _) (fun k hk => Nat.ne_of_gt (Nat.lt_trans (Nat.lt_succ_self _) (Nat.lt_of_lt_of_le LO4.out (IN4.out k hk).1))) _), ?_, (((((HB.out.setCell (p := ⟨w.heap.size + 1, 0, none⟩) (by simp) _).setCell (p := ⟨w.heap.size + 1, 1, none⟩) (by simp) _).setCell (p := ⟨w.heap.size + 1, 2, none⟩) (by simp) _).setCell (p := ⟨w.heap.size + 1, 3, none⟩) (by simp) _).setCell (p := ⟨w.heap.size + 1, 4, none⟩) (by simp) _)⟩
 simp only [size_set, Ap, List.mem_cons, List.not_mem_nil, or_false, forall_eq_or_imp, forall_eq, false_imp_iff, implies_true, and_true]
 have in0 := IN0.out
 have lo0 := LO0.out
 have le0 := LE0.out
 have in1 := IN1.out
 have lo1 := LO1.out
 have le1 := LE1.out
 have in2 := IN2.out
 have lo2 := LO2.out
 have le2 := LE2.out
 have in3 := IN3.out
 have lo3 := LO3.out
 have le3 := LE3.out
 have in4 := IN4.out
 have lo4 := LO4.out
 have le4 := LE4.out
 have sz0 := SZ0.out
 have sz1 := SZ1.out
 have sz2 := SZ2.out
 have sz3 := SZ3.out
 have sz4 := SZ4.out
 clear IN0 LO0 LE0 IN1 LO1 LE1 IN2 LO2 LE2 IN3 LO3 LE3 IN4 LO4 LE4 SZ0 SZ1 SZ2 SZ3 SZ4 BA BR BO HB HS0 HL0 HS1 HL1 HS2 HL2 HS3 HL3 HS4 HL4 r0_ s0_ t0_ r1_ s1_ t1_ r2_ s2_ t2_ r3_ s3_ t3_ r4_ s4_ t4_
 and_intros <;> grind
end Go.Proofs.YtckblabkapeigaaGreat.Kd2

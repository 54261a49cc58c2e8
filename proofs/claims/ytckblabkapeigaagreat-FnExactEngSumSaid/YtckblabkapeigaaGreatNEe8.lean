
/- Are rules valid together: both sides. -/
import Derived.Test.YtckblabkapeigaaGreatNEc8
import Derived.Test.YtckblabkapeigaaGreatNKd2
set_option linter.unusedVariables false
set_option linter.unusedSimpArgs false
namespace Go.Proofs.YtckblabkapeigaaGreat.Ee8
open Go.RowKit Go.Proofs.YtckblabkapeigaaGreatW.PrintWords Go.Proofs.YtckblabkapeigaaGreat.Ja Go.Proofs.YtckblabkapeigaaGreat.Jb Go.Proofs.YtckblabkapeigaaGreat.Jc Go.Proofs.YtckblabkapeigaaGreat.Jd Go.Proofs.YtckblabkapeigaaGreat.Jg Go.Proofs.YtckblabkapeigaaGreat.Ka Go.Proofs.YtckblabkapeigaaGreat.Kb Go.Proofs.YtckblabkapeigaaGreat.Kd2 Go.Proofs.YtckblabkapeigaaGreat.Ea8 Go.Proofs.YtckblabkapeigaaGreat.Eb8 Go.Proofs.YtckblabkapeigaaGreat.Ec8

def sameN (s : ByteArray) (x : TRule) : Bool := x.f0.toList == s.toList
def goodAt (l : List TRule) (i : Nat) : Bool := ruleB (l.getD i zRule) && !((l.take i).any (sameN (l.getD i zRule).f0))
def oksTo (l : List TRule) (k : Nat) : Bool := (List.range k).all (goodAt l)
def rulesB (l : List TRule) : Bool := decide (l.length ≤ 4) && oksTo l l.length
theorem oks_succ (l : List TRule) (k : Nat) : oksTo l (k + 1) = (oksTo l k && goodAt l k) := by unfold oksTo; rw [List.range_succ, List.all_append]; simp
theorem oks_no {l : List TRule} {k : Nat} (h : k < l.length) (hb : goodAt l k = false) : rulesB l = false := by
 unfold rulesB oksTo
 have : (List.range l.length).all (goodAt l) = false := List.all_eq_false.2 ⟨k, List.mem_range.2 h, by rw [hb]; simp⟩
 rw [this]; simp
theorem anyR_snoc {l : List TRule} {k : Nat} (p : TRule → Bool) (h : k < l.length) : (l.take (k + 1)).any p = ((l.take k).any p || p (l.getD k zRule)) := by
 rw [take_snoc l k zRule h, List.any_append]; simp
theorem getR_mem {l : List TRule} {k : Nat} (h : k < l.length) : l.getD k zRule ∈ l := by rw [List.getD_eq_getElem?_getD, List.getElem?_eq_getElem h]; exact List.getElem_mem h
theorem anyR_of {l : List TRule} {k : Nat} (p : TRule → Bool) (h : k < l.length) (hp : p (l.getD k zRule) = true) : l.any p = true := List.any_eq_true.2 ⟨_, getR_mem h, hp⟩
theorem isR_take {w : World} {l : List TRule} {A : Option Addr} {c : Nat} (h : IsS kRule w l A c) (k : Nat) (hk : k ≤ l.length) : IsS kRule w (l.take k) A c := by
 have hl : (l.take k).length = k := by rw [List.length_take]; omega
 obtain ⟨h1, h2, h3, h4⟩ := h
 refine ⟨by omega, rfl, by omega, fun h0 => ?_⟩
 obtain ⟨ad, e, hc⟩ := h4 (by omega)
 refine ⟨ad, e, fun j p hj => ?_⟩
 have hjk : j < k := by have := (List.getElem?_eq_some_iff.1 hj).1; omega
 rw [List.getElem?_take, if_pos hjk] at hj
 exact hc j p hj
theorem addR (a : Addr) : a.add 0 = a := by cases a; rfl
theorem sizeR : (Tryz.prog.info? 52).map (·.size) = some 12 := by kernel_rfl
theorem takeR (A : Option Addr) (n c m : Nat) (hm : m ≤ c) (W : World) : (Instr.slice 31 (.slice A n c) none (some (.int .i64 (m : Int))) none).run Tryz.prog W = .ok (.slice A m c) W := by
 have hel : Tryz.prog.elem 31 = 52 := by simp [Program.elem, Tryz.underlying31]
 have hu : Tryz.prog.underlying 31 = some (.slice (Tryz.prog.elem 31)) := by rw [hel]; exact Tryz.underlying31
 obtain ⟨i, hi, hi2⟩ := Option.map_eq_some_iff.1 sizeR
 rcases A with _ | ad
 ·rw [run_slice_h W _ none n c hu .i64 (m : Int) (Int.natCast_nonneg _) (by omega), hel]
  simp [sizeOf, typeInfo, hi, hi2, sliced, Result.andThen]
 ·rw [run_slice_h W _ (some ad) n c hu .i64 (m : Int) (Int.natCast_nonneg _) (by omega), hel]
  simp [sizeOf, typeInfo, hi, hi2, sliced, Result.andThen, addR]
set_option maxRecDepth 100000 in
theorem name1_any (z : TRule) (A2 : Option Addr) (c2 G : Nat) (s : ByteArray) (w : World) (hG : w.cell? ⟨G, 0, none⟩ = some (.string s)) :
  Calls Tryz.prog 79 #[.agg #[.string z.f0, .int .i64 z.f1, .int .i64 z.f2, .int .i64 z.f3.f0, .int .i64 z.f3.f1, .int .i64 z.f3.f2, .slice A2 z.f3.f3.length c2, .int .i64 z.f4, .int .i64 z.f5, .int .i64 z.f6, .int .i64 z.f7, .int .i64 z.f8], .pointer (some ⟨G, 0, none⟩)] w fun e w' => e = .returned (.bool (sameN s z)) ∧ Below w.heap.size w w' := by
 have hb := below_alloc (Below.refl w.heap.size w) (.cells #[.string z.f0, .int .i64 z.f1, .int .i64 z.f2, .int .i64 z.f3.f0, .int .i64 z.f3.f1, .int .i64 z.f3.f2, .slice A2 z.f3.f3.length c2, .int .i64 z.f4, .int .i64 z.f5, .int .i64 z.f6, .int .i64 z.f7, .int .i64 z.f8] 52)
 have h1 := pw_cell_below hb hG
 go_enter Tryz.func79, Tryz.ntmps79
 go_wp2
 go_ret
 exact ⟨rfl, hb⟩
set_option maxHeartbeats 1000000 in
set_option maxRecDepth 100000 in
theorem idxName_any (A : Option Addr) (c G : Nat) (s : ByteArray) (l : List TRule) (w : World) (hL : IsS kRule w l A c) (hG : w.cell? ⟨G, 0, none⟩ = some (.string s)) :
  Calls Tryz.prog 106 #[.slice A l.length c, (.func (.func 79) #[] #[.pointer (some ⟨G, 0, none⟩)])] w fun e w' => (∃ r : Int, e = .returned (.int .i64 r) ∧ decide (r ≥ 0) = l.any (sameN s)) ∧ Below w.heap.size w w' := by
 have hn := hL.2.2.1
 have HL := Aside0.mk hL
 have HG := Aside0.mk hG
 clear hL hG
 go_enter Tryz.func106, Tryz.ntmps106
 go_wp2
 go_loopw [8] (fun vi wr => ∃ (k : Nat), k ≤ l.length ∧ vi = .int .i64 k ∧ Aside0 ((l.take k).any (sameN s) = false) ∧ Aside0 (Below w.heap.size w wr)) (fun vi _ => l.length - (intOf vi).toNat)
 case atStart => exact ⟨0, Nat.zero_le _, rfl, ⟨by simp⟩, ⟨Below.refl _ _⟩⟩
 case round =>
  obtain ⟨k, hk, rfl, HN, HB⟩ := hrel
  by_cases hlt : k < l.length
  ·have g1 : decide (k < l.length) = true := decide_eq_true hlt
   have i1 : (k : Int) < l.length := by omega
   obtain ⟨ad, A2, c2, rfl, y0, y1, y2, y3, y4, y5, y6, y7, y8, y9, y10, y11, hIs⟩ := atRule (HL.out.below HB.out) k hlt
   have HS := Aside0.mk (anyR_snoc (sameN s) hlt)
   have HA := Aside0.mk (anyR_of (sameN s) hlt)
   generalize l.getD k zRule = z at y0 y1 y2 y3 y4 y5 y6 y7 y8 y9 y10 y11 hIs HS HA
   have hcl := name1_any z A2 c2 G s wr (pw_cell_below HB.out HG.out)
   clear hIs
   cases hd : sameN s z with
   | false =>
    have HE2 : Aside0 ((l.take (k + 1)).any (sameN s) = false) := ⟨by rw [HS.out, HN.out, hd]; rfl⟩
    rw [hd] at hcl
    clear hd
    go_wp2_with (go_at_call 79; refine hcl.mono ?_; rintro e w1 ⟨rfl, hb1⟩; have HB1 := Aside0.mk (below_then HB.out HB.out.size hb1); clear hb1)
    go_roundw
    case rel => exact ⟨k + 1, by omega, by go_num, HE2, HB1⟩
    case measure => simp [intOf]; omega
   | true =>
    have HE2 : Aside0 (l.any (sameN s) = true) := ⟨HA.out hd⟩
    rw [hd] at hcl
    clear hd
    go_wp2_with (go_at_call 79; refine hcl.mono ?_; rintro e w1 ⟨rfl, hb1⟩; have HB1 := Aside0.mk (below_then HB.out HB.out.size hb1); clear hb1)
    go_ret
    exact ⟨⟨(k : Int), rfl, by rw [HE2.out]; exact decide_eq_true (by omega)⟩, HB1.out⟩
  ·have hke : k = l.length := by omega
   subst hke
   have g1 : decide (l.length < l.length) = false := decide_eq_false (by omega)
   have HE2 : Aside0 (l.any (sameN s) = false) := ⟨by have h := HN.out; rwa [List.take_length] at h⟩
   go_wp2
   go_ret
   exact ⟨⟨-1, rfl, by rw [HE2.out]; rfl⟩, HB.out⟩
set_option maxRecDepth 100000 in
theorem hasName_any (A : Option Addr) (c G : Nat) (s : ByteArray) (l : List TRule) (w : World) (hL : IsS kRule w l A c) (hG : w.cell? ⟨G, 0, none⟩ = some (.string s)) :
  Calls Tryz.prog 78 #[.slice A l.length c, (.func (.func 79) #[] #[.pointer (some ⟨G, 0, none⟩)])] w fun e w' => e = .returned (.bool (l.any (sameN s))) ∧ Below w.heap.size w w' := by
 go_enter Tryz.func78, Tryz.ntmps78
 go_wp2_with (go_at_call 106; refine (idxName_any A c G s l _ hL hG).mono ?_; rintro e w1 ⟨⟨r, rfl, hr⟩, hb1⟩; have HR := Aside0.mk hr; have HB := Aside0.mk hb1; clear hr hb1)
 go_ret
 exact ⟨by rw [← HR.out]; rfl, HB.out⟩
set_option maxHeartbeats 2000000 in
set_option maxRecDepth 100000 in
theorem rulesOk_any (A : Option Addr) (c : Nat) (l : List TRule) (w : World) (hl : l.length ≤ 1048576) (hn : ∀ x ∈ l, x.f0.size ≤ 9223372036854775807) (hc : ∀ x ∈ l, cntL x.f3.f3 ≤ 1048576) (hL : IsS kRule w l A c) :
  Calls Tryz.prog 47 #[.slice A l.length c] w fun e w' => e = .returned (.bool (rulesB l)) ∧ Below w.heap.size w w' := by
 have HL := Aside0.mk hL
 have HN := Aside0.mk hn
 have HC := Aside0.mk hc
 have hcap := hL.1
 clear hL hn hc
 go_enter Tryz.func47, Tryz.ntmps47
 go_wp2
 go_loopw [7] (fun vi wr => ∃ (k : Nat), k ≤ l.length ∧ vi = .int .i64 k ∧ Aside0 (oksTo l k = true) ∧ Aside0 (Below w.heap.size w wr)) (fun vi _ => l.length - (intOf vi).toNat)
 case atStart => exact ⟨0, Nat.zero_le _, rfl, ⟨rfl⟩, ⟨Below.refl _ _⟩⟩
 case round =>
  obtain ⟨k, hk, rfl, HO, HB⟩ := hrel
  by_cases hlt : k < l.length
  ·have g1 : decide (k < l.length) = true := decide_eq_true hlt
   have i1 : (k : Int) < l.length := by omega
   obtain ⟨ad, A2, c2, rfl, y0, y1, y2, y3, y4, y5, y6, y7, y8, y9, y10, y11, hIs⟩ := atRule (HL.out.below HB.out) k hlt
   have hz1 := HN.out _ (getR_mem hlt)
   have hz2 := HC.out _ (getR_mem hlt)
   have HS := Aside0.mk (oks_succ l k)
   have HNO := Aside0.mk (oks_no hlt)
   have HGA : Aside0 (goodAt l k = (ruleB (l.getD k zRule) && !((l.take k).any (sameN (l.getD k zRule).f0)))) := ⟨rfl⟩
   have htl : (l.take k).length = k := by rw [List.length_take]; omega
   have HTK := Aside0.mk (isR_take HL.out k hk)
   generalize l.getD k zRule = z at y0 y1 y2 y3 y4 y5 y6 y7 y8 y9 y10 y11 hIs hz1 hz2 HGA
   have HIS := Aside0.mk hIs
   have HBX := Aside0.mk (below_alloc (Below.refl wr.heap.size wr) (.cells #[.string z.f0, .int .i64 z.f1, .int .i64 z.f2, .int .i64 z.f3.f0, .int .i64 z.f3.f1, .int .i64 z.f3.f2, .slice A2 z.f3.f3.length c2, .int .i64 z.f4, .int .i64 z.f5, .int .i64 z.f6, .int .i64 z.f7, .int .i64 z.f8] 52))
   have BX := Aside0.mk (blk_new wr (.cells #[.string z.f0, .int .i64 z.f1, .int .i64 z.f2, .int .i64 z.f3.f0, .int .i64 z.f3.f1, .int .i64 z.f3.f2, .slice A2 z.f3.f3.length c2, .int .i64 z.f4, .int .i64 z.f5, .int .i64 z.f6, .int .i64 z.f7, .int .i64 z.f8] 52))
   clear hIs
   cases hr : ruleB z with
   | false =>
    have HE : Aside0 (rulesB l = false) := ⟨HNO.out (by rw [HGA.out, hr]; rfl)⟩
    have HR := Aside0.mk hr
    clear hr htl
    go_wp2_with (go_at_call 77; refine (ruleOk_any z A2 c2 _ hz1 hz2 (HIS.out.below HBX.out)).mono ?_; rintro e w2 ⟨rfl, hb2⟩; rw [HR.out]; have HB2 := Aside0.mk (below_then HB.out HB.out.size (below_then HBX.out HBX.out.size hb2)); clear hb2)
    go_ret
    exact ⟨by rw [HE.out]; rfl, HB2.out⟩
   | true =>
    have HR := Aside0.mk hr
    have hts := takeR (some ad) l.length c k (by omega)
    have HCALL : Aside0 (∀ W2, Below wr.heap.size wr W2 → W2.cell? ⟨wr.heap.size, 0, none⟩ = some (.string z.f0) → Calls Tryz.prog 78 #[.slice (some ad) k c, (.func (.func 79) #[] #[.pointer (some ⟨wr.heap.size, 0, none⟩)])] W2 fun e w' => e = .returned (.bool ((l.take k).any (sameN z.f0))) ∧ Below W2.heap.size W2 w') := ⟨fun W2 hb hc => by
     have h := hasName_any (some ad) c wr.heap.size z.f0 (l.take k) W2 (HTK.out.below (below_then HB.out HB.out.size hb)) hc
     rw [htl] at h
     exact h⟩
    clear hr htl
    cases hd : (l.take k).any (sameN z.f0) with
    | true =>
     have HE : Aside0 (rulesB l = false) := ⟨HNO.out (by rw [HGA.out, hd]; simp)⟩
     have HD := Aside0.mk hd
     clear hd
     go_wp2_with (first
      | (go_at_call 78; refine (HCALL.out _ HB2.out ((blk_cell (blk_below BX.out HB2b.out) 0).trans rfl)).mono ?_; rintro e w3 ⟨rfl, hb3⟩; rw [HD.out]; have HB3 := Aside0.mk (below_then HB.out HB.out.size (below_then HB2.out HB2.out.size hb3)); clear hb3)
      | (go_at_call 77; refine (ruleOk_any z A2 c2 _ hz1 hz2 (HIS.out.below HBX.out)).mono ?_; rintro e w2 ⟨rfl, hb2⟩; rw [HR.out]; have HB2b := Aside0.mk hb2; have HB2 := Aside0.mk (below_then HBX.out HBX.out.size hb2); clear hb2))
     go_ret
     exact ⟨by rw [HE.out]; rfl, HB3.out⟩
    | false =>
     have HE : Aside0 (oksTo l (k + 1) = true) := ⟨by rw [HS.out, HO.out, HGA.out, HR.out, hd]; rfl⟩
     have HD := Aside0.mk hd
     clear hd
     go_wp2_with (first
      | (go_at_call 78; refine (HCALL.out _ HB2.out ((blk_cell (blk_below BX.out HB2b.out) 0).trans rfl)).mono ?_; rintro e w3 ⟨rfl, hb3⟩; rw [HD.out]; have HB3 := Aside0.mk (below_then HB.out HB.out.size (below_then HB2.out HB2.out.size hb3)); clear hb3)
      | (go_at_call 77; refine (ruleOk_any z A2 c2 _ hz1 hz2 (HIS.out.below HBX.out)).mono ?_; rintro e w2 ⟨rfl, hb2⟩; rw [HR.out]; have HB2b := Aside0.mk hb2; have HB2 := Aside0.mk (below_then HBX.out HBX.out.size hb2); clear hb2))
     go_roundw
     case rel => exact ⟨k + 1, by omega, by go_num, HE, HB3⟩
     case measure => simp [intOf]; omega
  ·have hke : k = l.length := by omega
   subst hke
   have g1 : decide (l.length < l.length) = false := decide_eq_false (by omega)
   have HE : Aside0 (decide ((l.length : Int) ≤ 4) = rulesB l) := ⟨by unfold rulesB; rw [HO.out, Bool.and_true]; exact decide_eq_decide.2 (by omega)⟩
   go_wp2
   go_ret
   exact ⟨by rw [← HE.out]; rfl, HB.out⟩
end Go.Proofs.YtckblabkapeigaaGreat.Ee8

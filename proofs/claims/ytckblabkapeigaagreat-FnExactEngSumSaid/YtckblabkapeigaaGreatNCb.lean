
/- What the program's functions on lists of occurrences come to: are they right, in new memory. One walk each. -/
import Derived.Test.YtckblabkapeigaaGreatNCa
set_option linter.unusedVariables false
set_option linter.unusedSimpArgs false
namespace Go.Proofs.YtckblabkapeigaaGreat.Cb
open Go.RowKit Go.Proofs.YtckblabkapeigaaGreatW.PrintWords Go.Proofs.YtckblabkapeigaaGreat.Wd Go.Proofs.YtckblabkapeigaaGreat.Pu Go.Proofs.YtckblabkapeigaaGreat.Ca

def prev (l : List Occ) (k : Nat) : Option Occ := if k = 0 then none else some (l.getD (k - 1) zO)
theorem prev_succ (l : List Occ) (k : Nat) : prev l (k + 1) = some (l.getD k zO) := by simp [prev]

set_option maxRecDepth 100000 in
theorem occsOk_any (A : Option Addr) (c : Nat) (l : List Occ) (w : World) (hr : kO.C w A l.length l) :
  Calls Tryz.prog 130 #[.slice A l.length c] w fun e w' => e = .returned (.bool (okOs l)) ∧ Below w.heap.size w w' := by
 have hn := (C_len hr).2
 go_enter Tryz.func130, Tryz.ntmps130
 go_wp2
 go_loopw [7] (fun i wr => ∃ k : Nat, k ≤ l.length ∧ i = .int .i64 k ∧ Aside0 (chain none l = chain (prev l k) (l.drop k)) ∧ Aside0 (Below w.heap.size w wr)) (fun i _ => l.length - (intOf i).toNat)
 case atStart => exact ⟨0, Nat.zero_le _, rfl, ⟨rfl⟩, ⟨Below.refl _ _⟩⟩
 case round =>
  obtain ⟨k, hk, rfl, HH, HB⟩ := hrel
  by_cases hlt : k < l.length
  ·have hrr := Kd.C_below hr HB.out
   obtain ⟨ad, A2, c2, rfl, ha, hb, hc, hl2, hC2⟩ := atO hrr k hlt
   have HD := Aside0.mk (drop_at l zO k hlt)
   have HP := Aside0.mk (prev_succ l k)
   have hIs : IsO wr (l.getD k zO) A2 c2 := ⟨hl2, hC2⟩
   clear hl2 hC2
   by_cases hk0 : k = 0
   ·have HZ := Aside0.mk (show prev l k = none by simp [prev, hk0])
    have hg : decide ((k : Int) > 0) = false := by simp; omega
    have hg2 : decide (0 < k) = false := by simp; omega
    clear hk0
    generalize l.getD k zO = o at ha hb hc hIs HD HP
    cases hq : okO o with
    | true =>
     have HS := Aside0.mk (show chain none l = chain (prev l (k + 1)) (l.drop (k + 1)) by rw [HH.out, HD.out, HP.out, HZ.out, chain, hq]; rfl)
     go_wp2
     have hbW := below_alloc (Below.refl wr.heap.size wr) (.cells #[.int .i64 o.f0, .int .i64 o.f1, .slice A2 o.f2.length c2] 54)
     have k0 : (wr.alloc (.cells #[.int .i64 o.f0, .int .i64 o.f1, .slice A2 o.f2.length c2] 54)).cell? ⟨wr.heap.size, 0, none⟩ = some (.int .i64 o.f0) := by simp
     have k1 : (wr.alloc (.cells #[.int .i64 o.f0, .int .i64 o.f1, .slice A2 o.f2.length c2] 54)).cell? ⟨wr.heap.size, 1, none⟩ = some (.int .i64 o.f1) := by simp
     have k2 : (wr.alloc (.cells #[.int .i64 o.f0, .int .i64 o.f1, .slice A2 o.f2.length c2] 54)).cell? ⟨wr.heap.size, 2, none⟩ = some (.slice A2 o.f2.length c2) := by simp
     generalize wr.alloc (.cells #[.int .i64 o.f0, .int .i64 o.f1, .slice A2 o.f2.length c2] 54) = W at hbW k0 k1 k2 ⊢
     replace k0 := cellE k0
     replace k1 := cellE k1
     replace k2 := cellE k2
     have hI2 := hIs.below hbW
     have HB2 := Aside0.mk (below_then HB.out HB.out.size hbW)
     have hcl := fun s : Ext W => occOk_any o A2 c2 s.1 (hI2.ext s)
     rw [hq] at hcl
     clear hq hbW ha hb hc
     refine region_ext (W := W) (Below.refl _ _) (by kernel_rfl) (by kernel_rfl) ?_
     repeat (first | go_big_quiet_step ((first | (go_at_call 57; exact calls_ext (hcl _)))) | quiet_step ((first | (go_at_call 57; exact calls_ext (hcl _)))))
     refine wpQuiet_nil ?_
     rintro _ ⟨s, rfl⟩
     have HB3 := Aside0.mk (below_then HB2.out HB2.out.size s.2)
     generalize s.1 = W2 at HB3
     go_wp2
     go_roundw
     case rel => exact ⟨k + 1, by omega, by go_num, HS, HB3⟩
     case measure => simp [intOf]; omega
    | false =>
     have HS := Aside0.mk (show okOs l = false by unfold okOs; rw [HH.out, HD.out]; simp [chain, hq])
     go_wp2
     have hbW := below_alloc (Below.refl wr.heap.size wr) (.cells #[.int .i64 o.f0, .int .i64 o.f1, .slice A2 o.f2.length c2] 54)
     have k0 : (wr.alloc (.cells #[.int .i64 o.f0, .int .i64 o.f1, .slice A2 o.f2.length c2] 54)).cell? ⟨wr.heap.size, 0, none⟩ = some (.int .i64 o.f0) := by simp
     have k1 : (wr.alloc (.cells #[.int .i64 o.f0, .int .i64 o.f1, .slice A2 o.f2.length c2] 54)).cell? ⟨wr.heap.size, 1, none⟩ = some (.int .i64 o.f1) := by simp
     have k2 : (wr.alloc (.cells #[.int .i64 o.f0, .int .i64 o.f1, .slice A2 o.f2.length c2] 54)).cell? ⟨wr.heap.size, 2, none⟩ = some (.slice A2 o.f2.length c2) := by simp
     generalize wr.alloc (.cells #[.int .i64 o.f0, .int .i64 o.f1, .slice A2 o.f2.length c2] 54) = W at hbW k0 k1 k2 ⊢
     replace k0 := cellE k0
     replace k1 := cellE k1
     replace k2 := cellE k2
     have hI2 := hIs.below hbW
     have HB2 := Aside0.mk (below_then HB.out HB.out.size hbW)
     have hcl := fun s : Ext W => occOk_any o A2 c2 s.1 (hI2.ext s)
     rw [hq] at hcl
     clear hq hbW ha hb hc
     refine region_ext (W := W) (Below.refl _ _) (by kernel_rfl) (by kernel_rfl) ?_
     repeat (first | go_big_quiet_step ((first | (go_at_call 57; exact calls_ext (hcl _)))) | quiet_step ((first | (go_at_call 57; exact calls_ext (hcl _)))))
     refine wpQuiet_nil ?_
     rintro _ ⟨s, rfl⟩
     have HB3 := Aside0.mk (below_then HB2.out HB2.out.size s.2)
     generalize s.1 = W2 at HB3
     go_wp2
     go_ret
     exact ⟨by rw [HS.out]; rfl, HB3.out⟩
   ·have hg : decide ((k : Int) > 0) = true := by simp; omega
    have hg2 : decide (0 < k) = true := by simp; omega
    have HZ := Aside0.mk (show prev l k = some (l.getD (k - 1) zO) by simp [prev, hk0])
    have hk1 : 0 < k := by omega
    have hk2 : 0 ≤ (k : Int) - 1 := by omega
    have hk3 : ((k : Int) - 1).toNat = k - 1 := by omega
    have hk4 : (k : Int) - 1 < l.length := by omega
    clear hk0
    obtain ⟨_, A3, c3, e, pa, pb, pc, pl2, pC2⟩ := atO hrr (k - 1) (by omega)
    cases e
    have hIp : IsO wr (l.getD (k - 1) zO) A3 c3 := ⟨pl2, pC2⟩
    clear pl2 pC2
    generalize l.getD (k - 1) zO = p at pa pb pc hIp HZ
    generalize l.getD k zO = o at ha hb hc hIs HD HP
    cases hq : okO o with
    | true =>
     cases hd : decide (cmpO p o < 0) with
     | true =>
      have HS := Aside0.mk (show chain none l = chain (prev l (k + 1)) (l.drop (k + 1)) by rw [HH.out, HD.out, HP.out, HZ.out, chain, hq]; simp only [hd]; rfl)
      go_wp2
      have hbW := below_alloc (Below.refl wr.heap.size wr) (.cells #[.int .i64 o.f0, .int .i64 o.f1, .slice A2 o.f2.length c2] 54)
      have k0 : (wr.alloc (.cells #[.int .i64 o.f0, .int .i64 o.f1, .slice A2 o.f2.length c2] 54)).cell? ⟨wr.heap.size, 0, none⟩ = some (.int .i64 o.f0) := by simp
      have k1 : (wr.alloc (.cells #[.int .i64 o.f0, .int .i64 o.f1, .slice A2 o.f2.length c2] 54)).cell? ⟨wr.heap.size, 1, none⟩ = some (.int .i64 o.f1) := by simp
      have k2 : (wr.alloc (.cells #[.int .i64 o.f0, .int .i64 o.f1, .slice A2 o.f2.length c2] 54)).cell? ⟨wr.heap.size, 2, none⟩ = some (.slice A2 o.f2.length c2) := by simp
      generalize wr.alloc (.cells #[.int .i64 o.f0, .int .i64 o.f1, .slice A2 o.f2.length c2] 54) = W at hbW k0 k1 k2 ⊢
      replace k0 := cellE k0
      replace k1 := cellE k1
      replace k2 := cellE k2
      have hI2 := hIs.below hbW
      have HB2 := Aside0.mk (below_then HB.out HB.out.size hbW)
      have hcl := fun s : Ext W => occOk_any o A2 c2 s.1 (hI2.ext s)
      rw [hq] at hcl
      have hIp2 := hIp.below hbW
      replace pa := cellE (pw_cell_below hbW pa)
      replace pb := cellE (pw_cell_below hbW pb)
      replace pc := cellE (pw_cell_below hbW pc)
      have hcl2 := fun s : Ext W => occLess_any p o A3 A2 c3 c2 s.1 (hIp2.ext s) (hI2.ext s)
      rw [hd] at hcl2
      clear hd
      clear hq hbW ha hb hc
      refine region_ext (W := W) (Below.refl _ _) (by kernel_rfl) (by kernel_rfl) ?_
      repeat (first | go_big_quiet_step ((first | (go_at_call 57; exact calls_ext (hcl _)) | (go_at_call 139; exact calls_ext (hcl2 _)))) | quiet_step ((first | (go_at_call 57; exact calls_ext (hcl _)) | (go_at_call 139; exact calls_ext (hcl2 _)))))
      refine wpQuiet_nil ?_
      rintro _ ⟨s, rfl⟩
      have HB3 := Aside0.mk (below_then HB2.out HB2.out.size s.2)
      generalize s.1 = W2 at HB3
      go_wp2
      go_roundw
      case rel => exact ⟨k + 1, by omega, by go_num, HS, HB3⟩
      case measure => simp [intOf]; omega
     | false =>
      have HS := Aside0.mk (show okOs l = false by unfold okOs; rw [HH.out, HD.out, HZ.out, chain, hq]; simp only [hd]; rfl)
      go_wp2
      have hbW := below_alloc (Below.refl wr.heap.size wr) (.cells #[.int .i64 o.f0, .int .i64 o.f1, .slice A2 o.f2.length c2] 54)
      have k0 : (wr.alloc (.cells #[.int .i64 o.f0, .int .i64 o.f1, .slice A2 o.f2.length c2] 54)).cell? ⟨wr.heap.size, 0, none⟩ = some (.int .i64 o.f0) := by simp
      have k1 : (wr.alloc (.cells #[.int .i64 o.f0, .int .i64 o.f1, .slice A2 o.f2.length c2] 54)).cell? ⟨wr.heap.size, 1, none⟩ = some (.int .i64 o.f1) := by simp
      have k2 : (wr.alloc (.cells #[.int .i64 o.f0, .int .i64 o.f1, .slice A2 o.f2.length c2] 54)).cell? ⟨wr.heap.size, 2, none⟩ = some (.slice A2 o.f2.length c2) := by simp
      generalize wr.alloc (.cells #[.int .i64 o.f0, .int .i64 o.f1, .slice A2 o.f2.length c2] 54) = W at hbW k0 k1 k2 ⊢
      replace k0 := cellE k0
      replace k1 := cellE k1
      replace k2 := cellE k2
      have hI2 := hIs.below hbW
      have HB2 := Aside0.mk (below_then HB.out HB.out.size hbW)
      have hcl := fun s : Ext W => occOk_any o A2 c2 s.1 (hI2.ext s)
      rw [hq] at hcl
      have hIp2 := hIp.below hbW
      replace pa := cellE (pw_cell_below hbW pa)
      replace pb := cellE (pw_cell_below hbW pb)
      replace pc := cellE (pw_cell_below hbW pc)
      have hcl2 := fun s : Ext W => occLess_any p o A3 A2 c3 c2 s.1 (hIp2.ext s) (hI2.ext s)
      rw [hd] at hcl2
      clear hd
      clear hq hbW ha hb hc
      refine region_ext (W := W) (Below.refl _ _) (by kernel_rfl) (by kernel_rfl) ?_
      repeat (first | go_big_quiet_step ((first | (go_at_call 57; exact calls_ext (hcl _)) | (go_at_call 139; exact calls_ext (hcl2 _)))) | quiet_step ((first | (go_at_call 57; exact calls_ext (hcl _)) | (go_at_call 139; exact calls_ext (hcl2 _)))))
      refine wpQuiet_nil ?_
      rintro _ ⟨s, rfl⟩
      have HB3 := Aside0.mk (below_then HB2.out HB2.out.size s.2)
      generalize s.1 = W2 at HB3
      go_wp2
      go_ret
      exact ⟨by rw [HS.out]; rfl, HB3.out⟩
    | false =>
     have HS := Aside0.mk (show okOs l = false by unfold okOs; rw [HH.out, HD.out]; simp [chain, hq])
     go_wp2
     have hbW := below_alloc (Below.refl wr.heap.size wr) (.cells #[.int .i64 o.f0, .int .i64 o.f1, .slice A2 o.f2.length c2] 54)
     have k0 : (wr.alloc (.cells #[.int .i64 o.f0, .int .i64 o.f1, .slice A2 o.f2.length c2] 54)).cell? ⟨wr.heap.size, 0, none⟩ = some (.int .i64 o.f0) := by simp
     have k1 : (wr.alloc (.cells #[.int .i64 o.f0, .int .i64 o.f1, .slice A2 o.f2.length c2] 54)).cell? ⟨wr.heap.size, 1, none⟩ = some (.int .i64 o.f1) := by simp
     have k2 : (wr.alloc (.cells #[.int .i64 o.f0, .int .i64 o.f1, .slice A2 o.f2.length c2] 54)).cell? ⟨wr.heap.size, 2, none⟩ = some (.slice A2 o.f2.length c2) := by simp
     generalize wr.alloc (.cells #[.int .i64 o.f0, .int .i64 o.f1, .slice A2 o.f2.length c2] 54) = W at hbW k0 k1 k2 ⊢
     replace k0 := cellE k0
     replace k1 := cellE k1
     replace k2 := cellE k2
     have hI2 := hIs.below hbW
     have HB2 := Aside0.mk (below_then HB.out HB.out.size hbW)
     have hcl := fun s : Ext W => occOk_any o A2 c2 s.1 (hI2.ext s)
     rw [hq] at hcl
     clear hq hbW ha hb hc
     refine region_ext (W := W) (Below.refl _ _) (by kernel_rfl) (by kernel_rfl) ?_
     repeat (first | go_big_quiet_step ((first | (go_at_call 57; exact calls_ext (hcl _)))) | quiet_step ((first | (go_at_call 57; exact calls_ext (hcl _)))))
     refine wpQuiet_nil ?_
     rintro _ ⟨s, rfl⟩
     have HB3 := Aside0.mk (below_then HB2.out HB2.out.size s.2)
     generalize s.1 = W2 at HB3
     go_wp2
     go_ret
     exact ⟨by rw [HS.out]; rfl, HB3.out⟩
  ·have HS := Aside0.mk (show okOs l = decide (l.length ≤ 40) by unfold okOs; rw [HH.out, List.drop_of_length_le (by omega)]; simp [chain])
   go_wp2
   go_ret
   refine ⟨?_, HB.out⟩
   rw [HS.out]
   refine ret_bool ?_
   by_cases h1 : l.length ≤ 40
   ·rw [decide_eq_true h1]; simp; omega
   ·rw [decide_eq_false h1]; simp; omega
end Go.Proofs.YtckblabkapeigaaGreat.Cb

/- What is right, by the reference: OccsOk. -/
import Derived.Test.YtjeojdbfpncnkaaSf
set_option linter.unusedVariables false
set_option linter.unusedSimpArgs false
namespace Go.Proofs.Ytjeojdbfpncnkaa.Sg
open Go.RowKit Go.Proofs.YtjeojdbfpncnkaaW.PrintWords Go.Proofs.Ytjeojdbfpncnkaa.Wd Go.Proofs.Ytjeojdbfpncnkaa.Pu Go.Proofs.Ytjeojdbfpncnkaa.Ca Go.Proofs.Ytjeojdbfpncnkaa.Cb Go.Proofs.Ytjeojdbfpncnkaa.Cg Go.Proofs.Ytjeojdbfpncnkaa.Cf Go.Proofs.Ytjeojdbfpncnkaa.Sd Go.Proofs.Ytjeojdbfpncnkaa.Se Go.Proofs.Ytjeojdbfpncnkaa.Sf

set_option maxHeartbeats 1000000 in
set_option maxRecDepth 100000 in
theorem sOccsOk_any (A : Option Addr) (c : Nat) (l : List Occ) (w : World) (hr : kO.C w A l.length l) :
    Calls Try.prog 13 #[.slice A l.length c] w fun e w' => e = .returned (.bool (okOs l)) ∧ Below w.heap.size w w' := by
  have hn := (C_len hr).2
  by_cases h40 : l.length > 40
  · have d1 : decide ((l.length : Int) > 40) = true := decide_eq_true (by omega)
    have HF := Aside0.mk (show okOs l = false by unfold okOs; rw [decide_eq_false (show ¬ l.length ≤ 40 by omega)]; simp)
    go_enter Try.func13, Try.ntmps13
    go_wp2
    go_ret
    exact ⟨by rw [HF.out]; rfl, Below.refl _ _⟩
  have d1 : decide ((l.length : Int) > 40) = false := decide_eq_false (by omega)
  have HO := Aside0.mk (show okOs l = chain none l by unfold okOs; rw [decide_eq_true (show l.length ≤ 40 by omega)]; simp)
  go_enter Try.func13, Try.ntmps13
  go_wp2
  go_loopw [3] (fun i wr => ∃ k : Nat, k ≤ l.length ∧ i = .int .i64 k ∧ Aside0 (chain none l = chain (prev l k) (l.drop k)) ∧ Aside0 (Below w.heap.size w wr)) (fun i _ => l.length - (intOf i).toNat)
  case atStart => exact ⟨0, Nat.zero_le _, rfl, ⟨rfl⟩, ⟨Below.refl _ _⟩⟩
  case round =>
    obtain ⟨k, hk, rfl, HH, HB⟩ := hrel
    by_cases hlt : k < l.length
    · have g1 : decide (k < l.length) = true := decide_eq_true hlt
      have hrr := Kd.C_below hr HB.out
      obtain ⟨ad, A2, c2, rfl, ha, hb, hc, hl2, hC2⟩ := atO hrr k hlt
      have HD := Aside0.mk (drop_at l zO k hlt)
      have HP := Aside0.mk (prev_succ l k)
      have hIs : IsO wr (l.getD k zO) A2 c2 := ⟨hl2, hC2⟩
      have i1 : (k : Int) < l.length := by omega
      clear hl2 hC2
      by_cases hk0 : k = 0
      · have HZ := Aside0.mk (show prev l k = none by simp [prev, hk0])
        have hg : decide ((k : Int) > 0) = false := by simp; omega
        have hg2 : decide (0 < k) = false := by simp; omega
        clear hk0
        generalize l.getD k zO = o at ha hb hc hIs HD HP
        replace ha := cellE ha
        replace hb := cellE hb
        replace hc := cellE hc
        have hcl := fun s : Ext wr => sOccOk_any o A2 c2 s.1 (hIs.ext s)
        cases hq : okO o with
        | true =>
          have HS := Aside0.mk (show chain none l = chain (prev l (k + 1)) (l.drop (k + 1)) by rw [HH.out, HD.out, HP.out, HZ.out, chain, hq]; rfl)
          rw [hq] at hcl
          clear hq
          go_wp2
          refine region_ext (W := wr) (Below.refl _ _) (by kernel_rfl) (by kernel_rfl) ?_
          repeat (first | go_big_quiet_step ((first | (go_at_call 11; exact calls_ext (hcl _)))) | quiet_step ((first | (go_at_call 11; exact calls_ext (hcl _)))))
          refine wpQuiet_nil ?_
          rintro _ ⟨s, rfl⟩
          have HB3 := Aside0.mk (below_then HB.out HB.out.size s.2)
          generalize s.1 = W2 at HB3
          go_wp2
          go_roundw
          case rel => exact ⟨k + 1, by omega, by go_num, HS, HB3⟩
          case measure => simp [intOf]; omega
        | false =>
          have HS := Aside0.mk (show okOs l = false by rw [HO.out, HH.out, HD.out]; simp [chain, hq])
          rw [hq] at hcl
          clear hq
          go_wp2
          refine region_ext (W := wr) (Below.refl _ _) (by kernel_rfl) (by kernel_rfl) ?_
          repeat (first | go_big_quiet_step ((first | (go_at_call 11; exact calls_ext (hcl _)))) | quiet_step ((first | (go_at_call 11; exact calls_ext (hcl _)))))
          refine wpQuiet_nil ?_
          rintro _ ⟨s, rfl⟩
          have HB3 := Aside0.mk (below_then HB.out HB.out.size s.2)
          generalize s.1 = W2 at HB3
          go_wp2
          go_ret
          exact ⟨by rw [HS.out]; rfl, HB3.out⟩
      · have hg : decide ((k : Int) > 0) = true := by simp; omega
        have hg2 : decide (0 < k) = true := by simp; omega
        have HZ := Aside0.mk (show prev l k = some (l.getD (k - 1) zO) by simp [prev, hk0])
        have hk1 : 0 < k := by omega
        have hk2 : 0 ≤ (k : Int) - 1 := by omega
        have hk3 : ((k : Int) - 1).toNat = k - 1 := by omega
        have hk4 : (k : Int) - 1 < l.length := by omega
        clear hk0
        obtain ⟨_, A3, c3, e, pa, pb, pc, pl2, pC2⟩ := atO hrr (k - 1) (by omega)
        cases e
        have hIp : IsO wr (l.getD (k - 1) zO) A3 c3 := ⟨pl2, pC2⟩
        clear pl2 pC2
        generalize l.getD (k - 1) zO = p at pa pb pc hIp HZ
        generalize l.getD k zO = o at ha hb hc hIs HD HP
        replace ha := cellE ha
        replace hb := cellE hb
        replace hc := cellE hc
        replace pa := cellE pa
        replace pb := cellE pb
        replace pc := cellE pc
        have hcl := fun s : Ext wr => sOccOk_any o A2 c2 s.1 (hIs.ext s)
        have hcl2 := fun s : Ext wr => sLess_any p o A3 A2 c3 c2 s.1 (hIp.ext s) (hIs.ext s)
        cases hq : okO o with
        | true =>
          rw [hq] at hcl
          cases hd : decide (cmpO p o < 0) with
          | true =>
            have HS := Aside0.mk (show chain none l = chain (prev l (k + 1)) (l.drop (k + 1)) by rw [HH.out, HD.out, HP.out, HZ.out, chain, hq]; simp only [hd]; rfl)
            rw [hd] at hcl2
            clear hd hq
            go_wp2
            refine region_ext (W := wr) (Below.refl _ _) (by kernel_rfl) (by kernel_rfl) ?_
            repeat (first | go_big_quiet_step ((first | (go_at_call 11; exact calls_ext (hcl _)) | (go_at_call 39; exact calls_ext (hcl2 _)))) | quiet_step ((first | (go_at_call 11; exact calls_ext (hcl _)) | (go_at_call 39; exact calls_ext (hcl2 _)))))
            refine wpQuiet_nil ?_
            rintro _ ⟨s, rfl⟩
            have HB3 := Aside0.mk (below_then HB.out HB.out.size s.2)
            generalize s.1 = W2 at HB3
            go_wp2
            go_roundw
            case rel => exact ⟨k + 1, by omega, by go_num, HS, HB3⟩
            case measure => simp [intOf]; omega
          | false =>
            have HS := Aside0.mk (show okOs l = false by rw [HO.out, HH.out, HD.out, HZ.out, chain, hq]; simp only [hd]; rfl)
            rw [hd] at hcl2
            clear hd hq
            go_wp2
            refine region_ext (W := wr) (Below.refl _ _) (by kernel_rfl) (by kernel_rfl) ?_
            repeat (first | go_big_quiet_step ((first | (go_at_call 11; exact calls_ext (hcl _)) | (go_at_call 39; exact calls_ext (hcl2 _)))) | quiet_step ((first | (go_at_call 11; exact calls_ext (hcl _)) | (go_at_call 39; exact calls_ext (hcl2 _)))))
            refine wpQuiet_nil ?_
            rintro _ ⟨s, rfl⟩
            have HB3 := Aside0.mk (below_then HB.out HB.out.size s.2)
            generalize s.1 = W2 at HB3
            go_wp2
            go_ret
            exact ⟨by rw [HS.out]; rfl, HB3.out⟩
        | false =>
          have HS := Aside0.mk (show okOs l = false by rw [HO.out, HH.out, HD.out]; simp [chain, hq])
          rw [hq] at hcl
          clear hq
          go_wp2
          refine region_ext (W := wr) (Below.refl _ _) (by kernel_rfl) (by kernel_rfl) ?_
          repeat (first | go_big_quiet_step ((first | (go_at_call 11; exact calls_ext (hcl _)))) | quiet_step ((first | (go_at_call 11; exact calls_ext (hcl _)))))
          refine wpQuiet_nil ?_
          rintro _ ⟨s, rfl⟩
          have HB3 := Aside0.mk (below_then HB.out HB.out.size s.2)
          generalize s.1 = W2 at HB3
          go_wp2
          go_ret
          exact ⟨by rw [HS.out]; rfl, HB3.out⟩
    · have g1 : decide (k < l.length) = false := decide_eq_false hlt
      have i1 : ¬ (k : Int) < l.length := by omega
      have HS := Aside0.mk (show okOs l = true by rw [HO.out, HH.out, List.drop_of_length_le (by omega)]; rfl)
      go_wp2
      go_ret
      exact ⟨by rw [HS.out]; rfl, HB.out⟩
end Go.Proofs.Ytjeojdbfpncnkaa.Sg

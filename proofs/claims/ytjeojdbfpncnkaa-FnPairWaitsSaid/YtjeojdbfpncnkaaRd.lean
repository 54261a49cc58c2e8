/- What of a list is paired, and what is left: the reference's. -/
import Derived.Test.YtjeojdbfpncnkaaRc
import Derived.Test.YtjeojdbfpncnkaaSe
set_option linter.unusedVariables false
set_option linter.unusedSimpArgs false
namespace Go.Proofs.Ytjeojdbfpncnkaa.Rd
open Go.RowKit Go.Proofs.YtjeojdbfpncnkaaW.PrintWords Go.Proofs.Ytjeojdbfpncnkaa.Wd Go.Proofs.Ytjeojdbfpncnkaa.Pu Go.Proofs.Ytjeojdbfpncnkaa.Pv Go.Proofs.Ytjeojdbfpncnkaa.Ca Go.Proofs.Ytjeojdbfpncnkaa.Cb Go.Proofs.Ytjeojdbfpncnkaa.Cc Go.Proofs.Ytjeojdbfpncnkaa.Cp Go.Proofs.Ytjeojdbfpncnkaa.Cd Go.Proofs.Ytjeojdbfpncnkaa.Ci Go.Proofs.Ytjeojdbfpncnkaa.Ce Go.Proofs.Ytjeojdbfpncnkaa.Cf Go.Proofs.Ytjeojdbfpncnkaa.Cg Go.Proofs.Ytjeojdbfpncnkaa.Sc Go.Proofs.Ytjeojdbfpncnkaa.Se Go.Proofs.Ytjeojdbfpncnkaa.Sh Go.Proofs.Ytjeojdbfpncnkaa.Si Go.Proofs.Ytjeojdbfpncnkaa.Ia Go.Proofs.Ytjeojdbfpncnkaa.Ib Go.Proofs.Ytjeojdbfpncnkaa.Ic Go.Proofs.Ytjeojdbfpncnkaa.If Go.Proofs.Ytjeojdbfpncnkaa.Ij Go.Proofs.Ytjeojdbfpncnkaa.Ra Go.Proofs.Ytjeojdbfpncnkaa.Rb Go.Proofs.Ytjeojdbfpncnkaa.Rc

theorem atB {w : World} {A : Option Addr} {n : Nat} {xs : List Bool} (h : Kd.bool.C w A n xs) (k : Nat) (hk : k < n) : ∃ ad, A = some ad ∧ w.cell? (ad.add k) = some (.bool (xs.getD k false)) := by
  obtain ⟨ad, c, e, _, hK, hc⟩ := Kd.C_get h false (k : Int) (by omega) (by omega)
  rw [Int.toNat_natCast] at hK hc
  have hc' : ∀ j u, c[j]? = some u → w.cell? (ad.add (k * 1 + j)) = some u := hc
  have hK' : c = [.bool (xs.getD k false)] := hK
  refine ⟨ad, e, ?_⟩
  have := hc' 0 (.bool (xs.getD k false)) (by rw [hK']; rfl)
  simpa using this
theorem map_getD (can : Occ → Bool) (l : List Occ) (k : Nat) (h : k < l.length) : (l.map can).getD k false = can (l.getD k zO) := by
  rw [List.getD_eq_getElem?_getD, List.getD_eq_getElem?_getD, List.getElem?_map, List.getElem?_eq_getElem h]; rfl
def left2 (mode : Int) (can : Occ → Bool) (s0 : Occ) : Occ → Bool := fun x => if mode = 2 then !can x || !decide (x = s0) else !can x
theorem IsL.drop {w : World} {l : List Occ} {ad : Addr} {c m : Nat} (h : IsL w l (some ad) c) (hm : m ≤ l.length) : IsL w (l.drop m) (some (ad.add (m * 3))) (c - m) := by
  refine ⟨by rw [List.length_drop]; have := h.cap; omega, ?_⟩
  have := C_dropF h.rd m hm
  rw [List.length_drop]
  exact this
theorem drop_last {l : List Occ} (h : 0 < l.length) : l.drop (l.length - 1) = [l.getD (l.length - 1) zO] := by
  rw [drop_at l zO (l.length - 1) (by omega), List.drop_of_length_le (by omega)]
structure PickMem (w w' : World) (base : Nat) (v : Value) (p : List Occ × List Occ) (U : Option Addr) (cu : Nat) (r : Value) : Prop where
  rd : IsL w' p.1 U cu
  rest : Rw w' base r p.2
  at_ : r = v ∨ ∀ k, own r k → w.heap.size ≤ k
  bel : Below w.heap.size w w'
def PickOut (w w' : World) (base : Nat) (v : Value) (p : List Occ × List Occ) (e : Ending) : Prop := ∃ U nu cu r, nu = p.1.length ∧ e = .returned (.tuple #[.slice U nu cu, r]) ∧ PickMem w w' base v p U cu r

set_option maxHeartbeats 4000000 in
set_option maxRecDepth 100000 in
theorem pick_any (mode : Int) (hm : 0 ≤ mode ∧ mode ≤ 4) (base : Nat) (A M : Option Addr) (c cm : Nat) (l : List Occ) (can : Occ → Bool) (w : World) (hl : l.length ≤ 1048576) (hR : Rw w base (.slice A l.length c) l) (hM : Kd.bool.C w M l.length (l.map can)) (hbase : base ≤ w.heap.size) :
    Calls Try.prog 103 #[.int .i64 mode, .slice A l.length c, .slice M l.length cm] w fun e w' => PickOut w w' base (.slice A l.length c) (pick mode l can) e := by
  have hL : IsL w l A c := (Rw.isL hR).2
  have HR := Aside0.mk hR
  have hE1 := blk_alloc (blk_new w (.cells #[] 25)) (.cells #[] 25)
  have hE2 : ((w.alloc (.cells #[] 25)).alloc (.cells #[] 25)).heap[w.heap.size + 1]? = some (.cells #[] 25 (0, 0)) := by have := blk_new (w.alloc (.cells #[] 25)) (.cells #[] 25); simpa using this
  have HB0 := Aside0.mk (below_alloc (below_alloc (Below.refl w.heap.size w) (.cells #[] 25)) (.cells #[] 25))
  have HF0 : Aside0 (Fx w ((w.alloc (.cells #[] 25)).alloc (.cells #[] 25)) (.slice (some ⟨w.heap.size, 0, none⟩) 0 0) []) := ⟨R_empty _ hE1 (Nat.le_refl _)⟩
  clear hR
  go_enter Try.func103, Try.ntmps103
  go_wp2
  generalize (w.alloc (.cells #[] 25)).alloc (.cells #[] 25) = W0 at hE2 HB0 HF0 ⊢
  clear hE1
  have bE0 : Aside0 (W0.heap[w.heap.size + 1]? = some (.cells #[] 25 (0, 0))) := ⟨hE2⟩
  clear hE2
  go_loopw [8, 10] (fun v8 vi wr => ∃ (k : Nat) (v : Value), k ≤ l.length ∧ vi = .int .i64 k ∧ v = v8 ∧ Aside0 (Fx w wr v ((l.take k).filter can)) ∧ Aside0 (NeRow (.slice (some ⟨w.heap.size + 1, 0, none⟩) 0 0) v) ∧ Aside0 (wr.heap[w.heap.size + 1]? = some (.cells #[] 25 (0, 0))) ∧ Aside0 (Below w.heap.size w wr)) (fun _ vi _ => l.length - (intOf vi).toNat)
  case atStart => exact ⟨0, _, Nat.zero_le _, rfl, rfl, HF0, ⟨fun k hk h => by simp [Value.ownBlock] at hk h; omega⟩, bE0, HB0⟩
  case round =>
    clear HF0 bE0 HB0
    obtain ⟨k, v, hk, rfl, rfl, HF, HNE, HE, HB⟩ := hrel
    by_cases hlt : k < l.length
    · have g1 : decide (k < l.length) = true := decide_eq_true hlt
      have i1 : (k : Int) < l.length := by omega
      obtain ⟨ad0, A20, c30, rfl, ha0, hb0, hc0, hl20, hC20⟩ := atO hL.rd k hlt
      obtain ⟨am, rfl, hcm⟩ := atB (Kd.C_below hM HB.out) k hlt
      rw [map_getD can l k hlt] at hcm
      have ha := pw_cell_below HB.out ha0
      have hb := pw_cell_below HB.out hb0
      have hc := pw_cell_below HB.out hc0
      have hT := take_succ_getD l k zO hlt
      have hIw : IsO w (l.getD k zO) A20 c30 := ⟨hl20, hC20⟩
      have hln : ((l.take k).filter can).length ≤ k := Nat.le_trans (List.length_filter_le _ _) (by rw [List.length_take]; omega)
      clear hl20 hC20 ha0 hb0 hc0
      generalize l.getD k zO = o at ha hb hc hcm hIw hT
      have HT := Aside0.mk (show (l.take (k + 1)).filter can = if can o then (l.take k).filter can ++ [o] else (l.take k).filter can by rw [hT]; exact filter_snoc _ _ _)
      clear hT
      cases hd : can o with
      | true =>
        rw [hd] at hcm
        go_wp2_with ((with_reducible refine gate_dst (N := 30) rfl ?_); refine Kd.R_append (Kd.fixed kO w) (w0 := w) w.heap.size rfl _ _ 27 25 (.agg #[.int .i64 0, .int .i64 0, .slice none 0 0]) 40 rfl Try.underlying27 infoO rfl (szO w) (by decide) v ((l.take k).filter can) o [.int .i64 o.f0, .int .i64 o.f1, .slice A20 o.f2.length c30] (fun _ => True) (fun _ => False) rfl rfl (kO_mk w o hIw.1 hIw.2) (fun _ h => h.elim) (fun _ _ => trivial) HF.out HB.out HB.out.size (by omega) ?_; intro v3 w3 hs3 hb3 hg3 hat3; have HS3 := Aside0.mk hs3; have HB3 := Aside0.mk hb3; have HE3 := Aside0.mk (blk_grown HE.out hg3 (fun h => HNE.out (w.heap.size + 1) rfl h.symm)); have HNE3 : Aside0 (NeRow (.slice (some ⟨w.heap.size + 1, 0, none⟩) 0 0) v3) := ⟨fun j hj h => by rcases hat3 with h2 | ⟨b, h2, h3⟩; exact HNE.out j hj (h2.symm.trans h); rw [h2] at h; injection h with h; simp [Value.ownBlock] at hj; have := blk_lt HE.out; omega⟩; clear hs3 hb3 hg3 hat3)
        go_roundw
        case rel => exact ⟨k + 1, _, by omega, by go_num, rfl, ⟨by rw [HT.out, hd]; exact HS3.out⟩, HNE3, HE3, HB3⟩
        case measure => simp [intOf]; omega
      | false =>
        rw [hd] at hcm
        go_wp2
        go_roundw
        case rel => exact ⟨k + 1, _, by omega, by go_num, rfl, ⟨by rw [HT.out, hd]; exact HF.out⟩, HNE, HE, HB⟩
        case measure => simp [intOf]; omega
    · have hke : k = l.length := by omega
      subst hke
      have g1 : decide (l.length < l.length) = false := decide_eq_false (by omega)
      have hF := HF.out
      rw [List.take_length] at hF
      obtain ⟨U, cu, rfl⟩ := Kd.R_slice hF
      have hUL := (Fx.isL hF HB.out).2
      obtain ⟨s, hs⟩ : ∃ s, s = l.filter can := ⟨_, rfl⟩
      have HPK := Aside0.mk (show pick mode l can = (if s.length = 0 then (s, l) else if mode = 0 then (s, l) else if mode = 1 then ([s.getD (s.length - 1) zO], l) else if mode = 2 then (s.take 1, l.filter (left2 2 can (s.getD 0 zO))) else (s, l.filter (left2 3 can zO))) by rw [hs]; unfold pick left2; simp only [if_true, show ¬ ((3 : Int) = 2) by decide, if_false])
      have hsl : s.length ≤ l.length := by rw [hs]; exact List.length_filter_le _ _
      have hF2 := hF
      rw [← hs] at hUL hF2 HNE ⊢
      have HU := Aside0.mk hUL
      have HR2 := Aside0.mk (Kd.R_below HR.out HB.out)
      have HFs := Aside0.mk hF2
      clear hs hF hUL HF hF2
      by_cases h0 : s.length = 0
      · have d0 : ((s.length : Int) == 0) = true := by simp [h0]
        have d00 : (s.length : Int) = 0 := by omega
        have HP := Aside0.mk (show PickOut w wr base (.slice A l.length c) (pick mode l can) (.returned (.tuple #[.slice U s.length cu, .slice A l.length c])) from ⟨U, s.length, cu, _, by rw [HPK.out, if_pos h0], rfl, ⟨by rw [HPK.out, if_pos h0]; exact HU.out, by rw [HPK.out, if_pos h0]; exact HR2.out, .inl rfl, HB.out⟩⟩)
        go_wp2
        go_ret2
        exact HP.out
      have d0 : ((s.length : Int) == 0) = false := by rw [beq_eq_false_iff_ne]; omega
      have d00 : ¬ ((s.length : Int) = 0) := by omega
      by_cases m0 : mode = 0
      · subst m0
        have HP := Aside0.mk (show PickOut w wr base (.slice A l.length c) (pick 0 l can) (.returned (.tuple #[.slice U s.length cu, .slice A l.length c])) from ⟨U, s.length, cu, _, by rw [HPK.out, if_neg h0]; rfl, rfl, ⟨by rw [HPK.out, if_neg h0]; exact HU.out, by rw [HPK.out, if_neg h0]; exact HR2.out, .inl rfl, HB.out⟩⟩)
        go_wp2
        go_ret2
        exact HP.out
      have e0 : (mode == 0) = false := by rw [beq_eq_false_iff_ne]; omega
      by_cases m1 : mode = 1
      · subst m1
        obtain ⟨gU, rfl⟩ : ∃ gU, U = some gU := by
          obtain ⟨ad, e, _⟩ := HU.out.rd.2.2 (by omega)
          exact ⟨ad, e⟩
        obtain ⟨n, hn⟩ : ∃ n, s.length = n + 1 := ⟨s.length - 1, by omega⟩
        obtain ⟨A', hcut, hA'⟩ := cutO (some gU) s.length cu n (by omega)
        have hcap := HU.out.cap
        have hAe : A' = some (gU.add (n * 3)) := hA' (by omega)
        have hdr := IsL.drop HU.out (m := n) (by omega)
        have hdl := drop_last (l := s) (by omega)
        rw [hn, Nat.add_sub_cancel] at hdl
        rw [hdl] at hdr
        have HP := Aside0.mk (show PickOut w wr base (.slice A l.length c) (pick 1 l can) (.returned (.tuple #[.slice A' 1 (cu - n), .slice A l.length c])) from ⟨A', 1, cu - n, _, by rw [HPK.out, if_neg h0]; rfl, rfl, ⟨by rw [HPK.out, if_neg h0, hn, Nat.add_sub_cancel, hAe]; exact hdr, by rw [HPK.out, if_neg h0]; exact HR2.out, .inl rfl, HB.out⟩⟩)
        have hcut2 : ∀ W, (Instr.slice 27 (.slice (some gU) (n + 1) cu) (some (.int .i64 (n : Int))) none none).run Try.prog W = .ok (.slice A' 1 (cu - n)) W := by
          intro W
          have h := hcut W
          rw [hn, Nat.add_sub_cancel_left] at h
          exact h
        have w1' : IntKind.i64.wrap (n : Int) = n := by rw [IntKind.wrap_i64]; omega
        have w2' : IntKind.i64.wrap ((n : Int) + 1 - 1) = n := by rw [IntKind.wrap_i64]; omega
        have w3' : IntKind.i64.wrap ((n : Int) + 1) = (n : Int) + 1 := by rw [IntKind.wrap_i64]; omega
        have z0 : (0 : Int) ≤ n := by omega
        have z1 : (n : Int) ≤ n + 1 := by omega
        rw [hn] at d0 d00 ⊢
        clear hcut hA' hAe hdr hdl hn hcap
        go_wp2
        go_ret2
        exact HP.out
      have e1 : (mode == 1) = false := by rw [beq_eq_false_iff_ne]; omega
      obtain ⟨gl0, capl0, hv0, hbl0, hgl0, hcl0⟩ := Kd.R_form HR.out (by omega)
      cases hv0
      clear hcl0
      by_cases m2 : mode = 2
      · subst m2
        have HPK2 := Aside0.mk (show pick 2 l can = (s.take 1, l.filter (left2 2 can (s.getD 0 zO))) by rw [HPK.out, if_neg h0, if_neg m0, if_neg m1, if_pos rfl])
        obtain ⟨gU, rfl⟩ : ∃ gU, U = some gU := by
          obtain ⟨ad, e, _⟩ := HU.out.rd.2.2 (by omega)
          exact ⟨ad, e⟩
        have htk : ∀ W, (Instr.slice 27 (.slice (some gU) s.length cu) none (some (.int .i64 1)) none).run Try.prog W = .ok (.slice (some gU) 1 cu) W := fun W => take_any gU s.length cu 1 (by have := HU.out.cap; omega) W
        have u1 : (1 : Int) ≤ cu := by have := HU.out.cap; omega
        go_wp2
        go_loopw [9, 11] (fun v9 vi wr2 => ∃ (k : Nat) (v : Value), k ≤ l.length ∧ vi = .int .i64 k ∧ v = v9 ∧ Aside0 (Rw wr2 base v ((l.take k).filter (left2 2 can (s.getD 0 zO)))) ∧ Aside0 (∀ j, own v j → w.heap.size ≤ j) ∧ Aside0 (Fx w wr2 (.slice (some gU) s.length cu) s) ∧ Aside0 (NeRow (.slice (some gU) s.length cu) v) ∧ Aside0 (Below w.heap.size w wr2)) (fun _ vi _ => l.length - (intOf vi).toNat)
        case atStart => exact ⟨0, _, Nat.zero_le _, rfl, rfl, ⟨by simpa using (R_empty kO HE.out (by omega) : Rw wr base (.slice (some ⟨w.heap.size + 1, 0, none⟩) 0 0) [])⟩, ⟨fun j hj => by simp [own, Value.ownBlock] at hj; omega⟩, HFs, ⟨fun j hj h => HNE.out j h hj⟩, HB⟩
        case round =>
          clear HFs HE HNE HB HR2 HU
          obtain ⟨k, v, hk, rfl, rfl, HV, HVB, HFs, HNE, HB⟩ := hrel
          by_cases hlt : k < l.length
          · have g1 : decide (k < l.length) = true := decide_eq_true hlt
            have i1 : (k : Int) < l.length := by omega
            obtain ⟨cs, hcs, hMk, hcc, hfz⟩ := Kd.R_elem HR.out zO (k : Int) (by omega) (by omega)
            simp only [Int.toNat_natCast] at hMk hcc hfz
            obtain ⟨adz, A20, c30, e0x, haz, hbz, hcz, hl20, hC20⟩ := atO hL.rd k hlt
            cases e0x
            obtain ⟨vk, hcsk, hvk⟩ := kO_openM hMk
            have hvs : vk = .slice A20 (l.getD k zO).f2.length c30 := by
              have h1 := hcc 2 _ (by rw [hcsk]; rfl)
              have h2 : w.cell? ⟨gl0, k * 3 + 2, none⟩ = some (.slice A20 (l.getD k zO).f2.length c30) := by rw [add_plain] at hcz; simpa using hcz
              rw [show k * kO.sz + 2 = k * 3 + 2 from rfl, h2] at h1
              injection h1 with h1
              exact h1.symm
            rw [hvs] at hcsk
            rw [hcsk] at hMk hcc
            have ha0 : w.cell? ⟨gl0, k * 3, none⟩ = some (.int .i64 (l.getD k zO).f0) := hcc 0 _ rfl
            have hb0 : w.cell? ⟨gl0, k * 3 + 1, none⟩ = some (.int .i64 (l.getD k zO).f1) := hcc 1 _ rfl
            have hc0 : w.cell? ⟨gl0, k * 3 + 2, none⟩ = some (.slice A20 (l.getD k zO).f2.length c30) := hcc 2 _ rfl
            obtain ⟨am, rfl, hcm⟩ := atB (Kd.C_below hM HB.out) k hlt
            rw [map_getD can l k hlt] at hcm
            have ha := pw_cell_below HB.out ha0
            have hb := pw_cell_below HB.out hb0
            have hc := pw_cell_below HB.out hc0
            have hT := take_succ_getD l k zO hlt
            have hIo : IsO wr (l.getD k zO) A20 c30 := IsO.below ⟨hl20, hC20⟩ HB.out
            have hln : ((l.take k).filter (left2 2 can (s.getD 0 zO))).length ≤ k := Nat.le_trans (List.length_filter_le _ _) (by rw [List.length_take]; omega)
            have HM0 : Aside0 (kO.M w base (fun j => j < w.heap.size) (l.getD k zO) [.int .i64 (l.getD k zO).f0, .int .i64 (l.getD k zO).f1, .slice A20 (l.getD k zO).f2.length c30]) := ⟨kO.M_mono (fun j hj => hj.2.2.1) (kO.M_bound hMk)⟩
            clear hl20 hC20 ha0 hb0 hc0 hvk hcsk hvs hMk hcc hfz hcs haz hbz hcz
            generalize l.getD k zO = o at ha hb hc hcm hIo hT HM0
            have HT := Aside0.mk (show (l.take (k + 1)).filter (left2 2 can (s.getD 0 zO)) = if (left2 2 can (s.getD 0 zO)) o then (l.take k).filter (left2 2 can (s.getD 0 zO)) ++ [o] else (l.take k).filter (left2 2 can (s.getD 0 zO)) by rw [hT]; exact filter_snoc _ _ _)
            clear hT
            obtain ⟨bs, A4, c4, e4, sa, sb, sc, sl4, sC⟩ := atO (Fx.isL HFs.out HB.out).2.rd 0 (by omega)
            cases e4
            have hI4 : IsO wr (s.getD 0 zO) A4 c4 := ⟨sl4, sC⟩
            rw [Nat.zero_mul, add0] at sa sb sc
            clear sl4 sC
            cases hd : can o with
            | false =>
              have HQT := Aside0.mk (show left2 2 can (s.getD 0 zO) o = true by unfold left2; rw [if_pos rfl, hd]; rfl)
              rw [hd] at hcm
              clear sa sb sc hI4
              go_wp2
              have ha_e := fun s : Ext wr => cellE ha s
              have hb_e := fun s : Ext wr => cellE hb s
              have hc_e := fun s : Ext wr => cellE hc s
              have hcm_e := fun s : Ext wr => cellE hcm s
              clear ha hb hc hcm
              refine region_ext (W := wr) (Below.refl _ _) (by kernel_rfl) (by kernel_rfl) ?_
              repeat (first | go_big_quiet_step (fail) | quiet_step (fail))
              refine wpQuiet_nil ?_
              rintro _ ⟨sx, rfl⟩
              have HBq := Aside0.mk (below_then HB.out HB.out.size sx.2)
              have HVq := Aside0.mk (Kd.R_below HV.out sx.2)
              have HFq := Aside0.mk (Kd.R_below HFs.out sx.2)
              have ha := ha_e sx
              have hb := hb_e sx
              have hc := hc_e sx
              have hcm := hcm_e sx
              clear HB HV HFs ha_e hb_e hc_e hcm_e
              generalize sx.1 = wq at HBq HVq HFq ha hb hc hcm ⊢
              go_wp2_with ((with_reducible refine gate_dst (N := 85) rfl ?_); refine Kd.R_append kO (w0 := w) base rfl _ _ 27 25 (.agg #[.int .i64 0, .int .i64 0, .slice none 0 0]) 40 rfl Try.underlying27 infoO rfl (by decide) (by decide) v ((l.take k).filter (left2 2 can (s.getD 0 zO))) o [.int .i64 o.f0, .int .i64 o.f1, .slice A20 o.f2.length c30] (fun _ => True) (fun j => j < w.heap.size) rfl rfl (Kd.M_below HM0.out HBq.out) (fun j hj => ⟨trivial, fun h => by have := HVB.out j h.symm; omega⟩) (fun _ _ => trivial) HVq.out (Below.mono HBq.out hbase) (Nat.le_trans hbase HBq.out.size) (by omega) ?_; intro v3 w3 hs3 hb3 hg3 hat3; have HS3 := Aside0.mk hs3; have HB3 : Aside0 (Below w.heap.size w w3) := ⟨Below.grown HBq.out hg3 HBq.out.size (fun j hj => HVB.out j hj)⟩; have HVB3 : Aside0 (∀ j, own v3 j → w.heap.size ≤ j) := ⟨fun j hj => by rcases hat3 with h2 | ⟨b, h2, h3⟩; exact HVB.out j (h2.symm.trans hj); rw [show v3.ownBlock = some j from hj] at h2; injection h2 with h2; have := HBq.out.size; omega⟩; have HF3 : Aside0 (Fx w w3 (.slice (some gU) s.length cu) s) := ⟨Kd.R_mono (Kd.R_grown (Kd.R_tight rfl HFq.out) hg3 (fun j hj e => HNE.out j hj.symm e.symm)) (fun _ _ => trivial)⟩; have HNE3 : Aside0 (NeRow (.slice (some gU) s.length cu) v3) := ⟨fun j hj h => by rcases hat3 with h2 | ⟨b, h2, h3⟩; exact HNE.out j hj (h2.symm.trans h); rw [h2] at h; injection h with h; have := Kd.R_lt HFq.out j hj; omega⟩; clear hs3 hb3 hg3 hat3)
              go_roundw
              case rel => exact ⟨k + 1, _, by omega, by go_num, rfl, ⟨by rw [HT.out, if_pos (by first | exact HQT.out | exact rfl)]; exact HS3.out⟩, HVB3, HF3, HNE3, HB3⟩
              case measure => simp [intOf]; omega
            | true =>
              rw [hd] at hcm
              have hcl3 := fun sx : Ext wr => sSame_any o (s.getD 0 zO) A20 A4 c30 c4 sx.1 (hIo.ext sx) (hI4.ext sx)
              cases hs0 : decide (cmpO o (s.getD 0 zO) = 0) with
              | true =>
                have HQT := Aside0.mk (show left2 2 can (s.getD 0 zO) o = false by unfold left2; rw [if_pos rfl, hd, decide_eq_true ((cmpO_eq _ _).1 (of_decide_eq_true hs0))]; rfl)
                simp only [hs0] at hcl3
                clear hs0
                go_wp2
                have ha_e := fun s : Ext wr => cellE ha s
                have hb_e := fun s : Ext wr => cellE hb s
                have hc_e := fun s : Ext wr => cellE hc s
                have hcm_e := fun s : Ext wr => cellE hcm s
                have sa_e := fun s : Ext wr => cellE sa s
                have sb_e := fun s : Ext wr => cellE sb s
                have sc_e := fun s : Ext wr => cellE sc s
                clear ha hb hc hcm sa sb sc
                refine region_ext (W := wr) (Below.refl _ _) (by kernel_rfl) (by kernel_rfl) ?_
                repeat (first | go_big_quiet_step ((go_at_call 120; exact calls_ext (hcl3 _))) | quiet_step ((go_at_call 120; exact calls_ext (hcl3 _))))
                refine wpQuiet_nil ?_
                rintro _ ⟨sx, rfl⟩
                have HBq := Aside0.mk (below_then HB.out HB.out.size sx.2)
                have HVq := Aside0.mk (Kd.R_below HV.out sx.2)
                have HFq := Aside0.mk (Kd.R_below HFs.out sx.2)
                have ha := ha_e sx
                have hb := hb_e sx
                have hc := hc_e sx
                have hcm := hcm_e sx
                have sa := sa_e sx
                have sb := sb_e sx
                have sc := sc_e sx
                clear HB HV HFs ha_e hb_e hc_e hcm_e sa_e sb_e sc_e hcl3
                generalize sx.1 = wq at HBq HVq HFq ha hb hc hcm sa sb sc ⊢
                go_wp2
                go_roundw
                case rel => exact ⟨k + 1, _, by omega, by go_num, rfl, ⟨by rw [HT.out, if_neg (by rw [HQT.out]; decide)]; exact HVq.out⟩, HVB, HFq, HNE, HBq⟩
                case measure => simp [intOf]; omega
              | false =>
                have HQT := Aside0.mk (show left2 2 can (s.getD 0 zO) o = true by unfold left2; rw [if_pos rfl, hd, decide_eq_false (fun e => of_decide_eq_false hs0 ((cmpO_eq _ _).2 e))]; rfl)
                simp only [hs0] at hcl3
                clear hs0
                go_wp2
                have ha_e := fun s : Ext wr => cellE ha s
                have hb_e := fun s : Ext wr => cellE hb s
                have hc_e := fun s : Ext wr => cellE hc s
                have hcm_e := fun s : Ext wr => cellE hcm s
                have sa_e := fun s : Ext wr => cellE sa s
                have sb_e := fun s : Ext wr => cellE sb s
                have sc_e := fun s : Ext wr => cellE sc s
                clear ha hb hc hcm sa sb sc
                refine region_ext (W := wr) (Below.refl _ _) (by kernel_rfl) (by kernel_rfl) ?_
                repeat (first | go_big_quiet_step ((go_at_call 120; exact calls_ext (hcl3 _))) | quiet_step ((go_at_call 120; exact calls_ext (hcl3 _))))
                refine wpQuiet_nil ?_
                rintro _ ⟨sx, rfl⟩
                have HBq := Aside0.mk (below_then HB.out HB.out.size sx.2)
                have HVq := Aside0.mk (Kd.R_below HV.out sx.2)
                have HFq := Aside0.mk (Kd.R_below HFs.out sx.2)
                have ha := ha_e sx
                have hb := hb_e sx
                have hc := hc_e sx
                have hcm := hcm_e sx
                have sa := sa_e sx
                have sb := sb_e sx
                have sc := sc_e sx
                clear HB HV HFs ha_e hb_e hc_e hcm_e sa_e sb_e sc_e hcl3
                generalize sx.1 = wq at HBq HVq HFq ha hb hc hcm sa sb sc ⊢
                go_wp2_with ((with_reducible refine gate_dst (N := 85) rfl ?_); refine Kd.R_append kO (w0 := w) base rfl _ _ 27 25 (.agg #[.int .i64 0, .int .i64 0, .slice none 0 0]) 40 rfl Try.underlying27 infoO rfl (by decide) (by decide) v ((l.take k).filter (left2 2 can (s.getD 0 zO))) o [.int .i64 o.f0, .int .i64 o.f1, .slice A20 o.f2.length c30] (fun _ => True) (fun j => j < w.heap.size) rfl rfl (Kd.M_below HM0.out HBq.out) (fun j hj => ⟨trivial, fun h => by have := HVB.out j h.symm; omega⟩) (fun _ _ => trivial) HVq.out (Below.mono HBq.out hbase) (Nat.le_trans hbase HBq.out.size) (by omega) ?_; intro v3 w3 hs3 hb3 hg3 hat3; have HS3 := Aside0.mk hs3; have HB3 : Aside0 (Below w.heap.size w w3) := ⟨Below.grown HBq.out hg3 HBq.out.size (fun j hj => HVB.out j hj)⟩; have HVB3 : Aside0 (∀ j, own v3 j → w.heap.size ≤ j) := ⟨fun j hj => by rcases hat3 with h2 | ⟨b, h2, h3⟩; exact HVB.out j (h2.symm.trans hj); rw [show v3.ownBlock = some j from hj] at h2; injection h2 with h2; have := HBq.out.size; omega⟩; have HF3 : Aside0 (Fx w w3 (.slice (some gU) s.length cu) s) := ⟨Kd.R_mono (Kd.R_grown (Kd.R_tight rfl HFq.out) hg3 (fun j hj e => HNE.out j hj.symm e.symm)) (fun _ _ => trivial)⟩; have HNE3 : Aside0 (NeRow (.slice (some gU) s.length cu) v3) := ⟨fun j hj h => by rcases hat3 with h2 | ⟨b, h2, h3⟩; exact HNE.out j hj (h2.symm.trans h); rw [h2] at h; injection h with h; have := Kd.R_lt HFq.out j hj; omega⟩; clear hs3 hb3 hg3 hat3)
                go_roundw
                case rel => exact ⟨k + 1, _, by omega, by go_num, rfl, ⟨by rw [HT.out, if_pos (by first | exact HQT.out | exact rfl)]; exact HS3.out⟩, HVB3, HF3, HNE3, HB3⟩
                case measure => simp [intOf]; omega
          · have hke : k = l.length := by omega
            subst hke
            have g1 : decide (l.length < l.length) = false := decide_eq_false (by omega)
            have hV := HV.out
            rw [List.take_length] at hV
            have hls := IsL.take (Fx.isL HFs.out HB.out).2 (m := 1) (by omega)
            have HP := Aside0.mk (show PickOut w wr base (.slice (some ⟨gl0, 0, none⟩) l.length c) (pick 2 l can) (.returned (.tuple #[.slice (some gU) 1 cu, v])) from ⟨some gU, 1, cu, v, by rw [HPK2.out]; show 1 = (s.take 1).length; rw [List.length_take]; omega, rfl, ⟨by rw [HPK2.out]; exact hls, by rw [HPK2.out]; exact hV, .inr HVB.out, HB.out⟩⟩)
            clear hls
            go_wp2
            go_ret2
            exact HP.out
      · have e2 : (mode == 2) = false := by rw [beq_eq_false_iff_ne]; omega
        go_wp2
        go_loopw [9, 11] (fun v9 vi wr2 => ∃ (k : Nat) (v : Value), k ≤ l.length ∧ vi = .int .i64 k ∧ v = v9 ∧ Aside0 (Rw wr2 base v ((l.take k).filter (left2 3 can zO))) ∧ Aside0 (∀ j, own v j → w.heap.size ≤ j) ∧ Aside0 (Fx w wr2 (.slice U s.length cu) s) ∧ Aside0 (NeRow (.slice U s.length cu) v) ∧ Aside0 (Below w.heap.size w wr2)) (fun _ vi _ => l.length - (intOf vi).toNat)
        case atStart => exact ⟨0, _, Nat.zero_le _, rfl, rfl, ⟨by simpa using (R_empty kO HE.out (by omega) : Rw wr base (.slice (some ⟨w.heap.size + 1, 0, none⟩) 0 0) [])⟩, ⟨fun j hj => by simp [own, Value.ownBlock] at hj; omega⟩, HFs, ⟨fun j hj h => HNE.out j h hj⟩, HB⟩
        case round =>
          clear HFs HE HNE HB HR2 HU
          obtain ⟨k, v, hk, rfl, rfl, HV, HVB, HFs, HNE, HB⟩ := hrel
          by_cases hlt : k < l.length
          · have g1 : decide (k < l.length) = true := decide_eq_true hlt
            have i1 : (k : Int) < l.length := by omega
            obtain ⟨cs, hcs, hMk, hcc, hfz⟩ := Kd.R_elem HR.out zO (k : Int) (by omega) (by omega)
            simp only [Int.toNat_natCast] at hMk hcc hfz
            obtain ⟨adz, A20, c30, e0x, haz, hbz, hcz, hl20, hC20⟩ := atO hL.rd k hlt
            cases e0x
            obtain ⟨vk, hcsk, hvk⟩ := kO_openM hMk
            have hvs : vk = .slice A20 (l.getD k zO).f2.length c30 := by
              have h1 := hcc 2 _ (by rw [hcsk]; rfl)
              have h2 : w.cell? ⟨gl0, k * 3 + 2, none⟩ = some (.slice A20 (l.getD k zO).f2.length c30) := by rw [add_plain] at hcz; simpa using hcz
              rw [show k * kO.sz + 2 = k * 3 + 2 from rfl, h2] at h1
              injection h1 with h1
              exact h1.symm
            rw [hvs] at hcsk
            rw [hcsk] at hMk hcc
            have ha0 : w.cell? ⟨gl0, k * 3, none⟩ = some (.int .i64 (l.getD k zO).f0) := hcc 0 _ rfl
            have hb0 : w.cell? ⟨gl0, k * 3 + 1, none⟩ = some (.int .i64 (l.getD k zO).f1) := hcc 1 _ rfl
            have hc0 : w.cell? ⟨gl0, k * 3 + 2, none⟩ = some (.slice A20 (l.getD k zO).f2.length c30) := hcc 2 _ rfl
            obtain ⟨am, rfl, hcm⟩ := atB (Kd.C_below hM HB.out) k hlt
            rw [map_getD can l k hlt] at hcm
            have ha := pw_cell_below HB.out ha0
            have hb := pw_cell_below HB.out hb0
            have hc := pw_cell_below HB.out hc0
            have hT := take_succ_getD l k zO hlt
            have hIo : IsO wr (l.getD k zO) A20 c30 := IsO.below ⟨hl20, hC20⟩ HB.out
            have hln : ((l.take k).filter (left2 3 can zO)).length ≤ k := Nat.le_trans (List.length_filter_le _ _) (by rw [List.length_take]; omega)
            have HM0 : Aside0 (kO.M w base (fun j => j < w.heap.size) (l.getD k zO) [.int .i64 (l.getD k zO).f0, .int .i64 (l.getD k zO).f1, .slice A20 (l.getD k zO).f2.length c30]) := ⟨kO.M_mono (fun j hj => hj.2.2.1) (kO.M_bound hMk)⟩
            clear hl20 hC20 ha0 hb0 hc0 hvk hcsk hvs hMk hcc hfz hcs haz hbz hcz
            generalize l.getD k zO = o at ha hb hc hcm hIo hT HM0
            have HT := Aside0.mk (show (l.take (k + 1)).filter (left2 3 can zO) = if (left2 3 can zO) o then (l.take k).filter (left2 3 can zO) ++ [o] else (l.take k).filter (left2 3 can zO) by rw [hT]; exact filter_snoc _ _ _)
            clear hT
            cases hd : can o with
            | false =>
              have HQT := Aside0.mk (show left2 3 can zO o = true by unfold left2; rw [if_neg (by decide), hd]; rfl)
              rw [hd] at hcm
              go_wp2
              have ha_e := fun s : Ext wr => cellE ha s
              have hb_e := fun s : Ext wr => cellE hb s
              have hc_e := fun s : Ext wr => cellE hc s
              have hcm_e := fun s : Ext wr => cellE hcm s
              clear ha hb hc hcm
              refine region_ext (W := wr) (Below.refl _ _) (by kernel_rfl) (by kernel_rfl) ?_
              repeat (first | go_big_quiet_step (fail) | quiet_step (fail))
              refine wpQuiet_nil ?_
              rintro _ ⟨sx, rfl⟩
              have HBq := Aside0.mk (below_then HB.out HB.out.size sx.2)
              have HVq := Aside0.mk (Kd.R_below HV.out sx.2)
              have HFq := Aside0.mk (Kd.R_below HFs.out sx.2)
              have ha := ha_e sx
              have hb := hb_e sx
              have hc := hc_e sx
              have hcm := hcm_e sx
              clear HB HV HFs ha_e hb_e hc_e hcm_e
              generalize sx.1 = wq at HBq HVq HFq ha hb hc hcm ⊢
              go_wp2_with ((with_reducible refine gate_dst (N := 85) rfl ?_); refine Kd.R_append kO (w0 := w) base rfl _ _ 27 25 (.agg #[.int .i64 0, .int .i64 0, .slice none 0 0]) 40 rfl Try.underlying27 infoO rfl (by decide) (by decide) v ((l.take k).filter (left2 3 can zO)) o [.int .i64 o.f0, .int .i64 o.f1, .slice A20 o.f2.length c30] (fun _ => True) (fun j => j < w.heap.size) rfl rfl (Kd.M_below HM0.out HBq.out) (fun j hj => ⟨trivial, fun h => by have := HVB.out j h.symm; omega⟩) (fun _ _ => trivial) HVq.out (Below.mono HBq.out hbase) (Nat.le_trans hbase HBq.out.size) (by omega) ?_; intro v3 w3 hs3 hb3 hg3 hat3; have HS3 := Aside0.mk hs3; have HB3 : Aside0 (Below w.heap.size w w3) := ⟨Below.grown HBq.out hg3 HBq.out.size (fun j hj => HVB.out j hj)⟩; have HVB3 : Aside0 (∀ j, own v3 j → w.heap.size ≤ j) := ⟨fun j hj => by rcases hat3 with h2 | ⟨b, h2, h3⟩; exact HVB.out j (h2.symm.trans hj); rw [show v3.ownBlock = some j from hj] at h2; injection h2 with h2; have := HBq.out.size; omega⟩; have HF3 : Aside0 (Fx w w3 (.slice U s.length cu) s) := ⟨Kd.R_mono (Kd.R_grown (Kd.R_tight rfl HFq.out) hg3 (fun j hj e => HNE.out j hj.symm e.symm)) (fun _ _ => trivial)⟩; have HNE3 : Aside0 (NeRow (.slice U s.length cu) v3) := ⟨fun j hj h => by rcases hat3 with h2 | ⟨b, h2, h3⟩; exact HNE.out j hj (h2.symm.trans h); rw [h2] at h; injection h with h; have := Kd.R_lt HFq.out j hj; omega⟩; clear hs3 hb3 hg3 hat3)
              go_roundw
              case rel => exact ⟨k + 1, _, by omega, by go_num, rfl, ⟨by rw [HT.out, if_pos (by first | exact HQT.out | exact rfl)]; exact HS3.out⟩, HVB3, HF3, HNE3, HB3⟩
              case measure => simp [intOf]; omega
            | true =>
              have HQT := Aside0.mk (show left2 3 can zO o = false by unfold left2; rw [if_neg (by decide), hd]; rfl)
              rw [hd] at hcm
              go_wp2
              have ha_e := fun s : Ext wr => cellE ha s
              have hb_e := fun s : Ext wr => cellE hb s
              have hc_e := fun s : Ext wr => cellE hc s
              have hcm_e := fun s : Ext wr => cellE hcm s
              clear ha hb hc hcm
              refine region_ext (W := wr) (Below.refl _ _) (by kernel_rfl) (by kernel_rfl) ?_
              repeat (first | go_big_quiet_step (fail) | quiet_step (fail))
              refine wpQuiet_nil ?_
              rintro _ ⟨sx, rfl⟩
              have HBq := Aside0.mk (below_then HB.out HB.out.size sx.2)
              have HVq := Aside0.mk (Kd.R_below HV.out sx.2)
              have HFq := Aside0.mk (Kd.R_below HFs.out sx.2)
              have ha := ha_e sx
              have hb := hb_e sx
              have hc := hc_e sx
              have hcm := hcm_e sx
              clear HB HV HFs ha_e hb_e hc_e hcm_e
              generalize sx.1 = wq at HBq HVq HFq ha hb hc hcm ⊢
              go_wp2
              go_roundw
              case rel => exact ⟨k + 1, _, by omega, by go_num, rfl, ⟨by rw [HT.out, if_neg (by rw [HQT.out]; decide)]; exact HVq.out⟩, HVB, HFq, HNE, HBq⟩
              case measure => simp [intOf]; omega
          · have hke : k = l.length := by omega
            subst hke
            have g1 : decide (l.length < l.length) = false := decide_eq_false (by omega)
            have hV := HV.out
            rw [List.take_length] at hV
            have HP := Aside0.mk (show PickOut w wr base (.slice (some ⟨gl0, 0, none⟩) l.length c) (pick mode l can) (.returned (.tuple #[.slice U s.length cu, v])) from ⟨U, s.length, cu, v, by rw [HPK.out, if_neg h0, if_neg m0, if_neg m1, if_neg m2], rfl, ⟨by rw [HPK.out, if_neg h0, if_neg m0, if_neg m1, if_neg m2]; exact (Fx.isL HFs.out HB.out).2, by rw [HPK.out, if_neg h0, if_neg m0, if_neg m1, if_neg m2]; exact hV, .inr HVB.out, HB.out⟩⟩)
            go_wp2
            go_ret2
            exact HP.out
end Go.Proofs.Ytjeojdbfpncnkaa.Rd

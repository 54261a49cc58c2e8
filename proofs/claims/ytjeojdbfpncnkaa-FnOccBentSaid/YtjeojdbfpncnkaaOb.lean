/- FnOccBent: the walk. -/
import Derived.Test.YtjeojdbfpncnkaaOa
import Derived.Test.YtjeojdbfpncnkaaSm
set_option linter.unusedVariables false
set_option linter.unusedSimpArgs false
namespace Go.Proofs.Ytjeojdbfpncnkaa.Ob
open Go.RowKit Go.Proofs.YtjeojdbfpncnkaaW.PrintWords Go.Proofs.Ytjeojdbfpncnkaa.Wd Go.Proofs.Ytjeojdbfpncnkaa.Pu Go.Proofs.Ytjeojdbfpncnkaa.Ca Go.Proofs.Ytjeojdbfpncnkaa.Cb Go.Proofs.Ytjeojdbfpncnkaa.Cg Go.Proofs.Ytjeojdbfpncnkaa.Cf Go.Proofs.Ytjeojdbfpncnkaa.Ce Go.Proofs.Ytjeojdbfpncnkaa.Cp Go.Proofs.Ytjeojdbfpncnkaa.Sa Go.Proofs.Ytjeojdbfpncnkaa.Sb Go.Proofs.Ytjeojdbfpncnkaa.Sc Go.Proofs.Ytjeojdbfpncnkaa.Se Go.Proofs.Ytjeojdbfpncnkaa.Sf Go.Proofs.Ytjeojdbfpncnkaa.Sg Go.Proofs.Ytjeojdbfpncnkaa.Sh Go.Proofs.Ytjeojdbfpncnkaa.Si Go.Proofs.Ytjeojdbfpncnkaa.Sj Go.Proofs.Ytjeojdbfpncnkaa.Sk Go.Proofs.Ytjeojdbfpncnkaa.Sl Go.Proofs.Ytjeojdbfpncnkaa.Sm Go.Proofs.Ytjeojdbfpncnkaa.Oa

theorem far1 {W : World} {G j : Nat} {u : Value} {p : Addr} (h : p.block ≠ G) : (W.setCell ⟨G, j, none⟩ u).cell? p = W.cell? p := World.cell?_of_block (Below.heap_setCell W ⟨G, j, none⟩ u p.block h)
theorem blk_second (w : World) (o1 o2 : Obj) : ((w.alloc o1).alloc o2).heap[w.heap.size + 1]? = some o2 := by
  have := blk_new (w.alloc o1) o2
  simpa using this
theorem one_C {wf w : World} {B : Nat} {t : TypeId} {o : Occ} {cs : List Value} (hB : w.heap[B]? = some (.cells cs.toArray t (0, 0))) (ho : kO.K wf o cs) : (Kd.fixed kO wf).C w (some ⟨B, 0, none⟩) 1 [o] := by
  refine ⟨rfl, by decide, fun _ => ⟨_, rfl, fun j q hj => ?_⟩⟩
  obtain ⟨rfl, rfl⟩ : j = 0 ∧ q = o := by
    rcases j with _ | j
    · exact ⟨rfl, by simpa using hj.symm⟩
    · simp at hj
  refine ⟨cs, kO.K_len ho, ho, fun i u hi => ?_⟩
  rw [add_plain, Nat.zero_mul, Nat.zero_add, blk_cell hB i]
  simpa using hi
theorem add0 (ad : Addr) : ad.add 0 = ad := by cases ad; unfold Addr.add; split <;> simp_all
set_option maxHeartbeats 60000000 in
set_option maxRecDepth 100000 in
theorem walk (A : Option Addr) (c : Nat) (bs : List Int) (w : World) (hC : (Kd.int .u8).C w A bs.length bs) (hc : bs.length ≤ c) (hb : ∀ b ∈ bs, 0 ≤ b ∧ b ≤ 255) :
    Calls Try.prog 3 #[.slice A bs.length c] w fun e w' => e = .returned (.bool true) ∧ Below w.heap.size w w' := by
  by_cases hbig : bs.length > 1048576
  · have d1 : decide ((bs.length : Int) > 1048576) = true := decide_eq_true (by omega)
    go_enter Try.func3, Try.ntmps3
    go_wp2
    go_ret
    exact ⟨rfl, Below.refl _ _⟩
  have d1 : decide ((bs.length : Int) > 1048576) = false := decide_eq_false (by omega)
  go_enter Try.func3, Try.ntmps3
  go_wp2_with (first
    | (go_at_call 9; refine (drawList_any A c bs _ (Kd.C_below hC (below_then HB1.out HB1.out.size (box3 _ _ _ _ _).1)) hc hb).mono ?_; rintro e w2 ⟨l, A2, c2, rfl, hl2, hl7, hids, hb2⟩; have HL2 := Aside0.mk hl2; have HID := Aside0.mk hids; have HB2 := Aside0.mk (below_then HB1.out HB1.out.size (below_then (box3 _ _ _ _ _).1 (box3 _ _ _ _ _).1.size hb2)); have bx := blk_below (box1 w1 (.int .i64 o.f0) (.int .i64 o.f1) (.slice A1 o.f2.length c1) 25) hb2; have HI2 := Aside0.mk (HI1.out.below (below_then (box3 _ _ _ _ _).1 (box3 _ _ _ _ _).1.size hb2)); clear hl2 hids hb2)
    | (go_at_call 8; refine (drawOcc_any A c bs _ hC hc hb).mono ?_; rintro e w1 ⟨o, A1, c1, rfl, hi1, ho24, hb1⟩; have HI1 := Aside0.mk hi1; have HB1 := Aside0.mk hb1; clear hi1 hb1))
  have hI := HI2.out
  have hL := HL2.out
  have HB := HB2
  clear HI2 HL2 HB2 HI1 HB1
  have e0 := cellE ((blk_cell bx 0).trans rfl : w2.cell? ⟨w1.heap.size, 0, none⟩ = some (.int .i64 o.f0))
  have e1 := cellE ((blk_cell bx 1).trans rfl : w2.cell? ⟨w1.heap.size, 1, none⟩ = some (.int .i64 o.f1))
  have e2 := cellE ((blk_cell bx 2).trans rfl : w2.cell? ⟨w1.heap.size, 2, none⟩ = some (.slice A1 o.f2.length c1))
  have k1 := fun s : Ext w2 => occOk_any o A1 c1 s.1 (hI.ext s)
  have k2 := fun s : Ext w2 => sOccOk_any o A1 c1 s.1 (hI.ext s)
  have k3 := fun s : Ext w2 => occsOk_any A2 c2 l s.1 (C_ext hL.rd s)
  have k4 := fun s : Ext w2 => sOccsOk_any A2 c2 l s.1 (C_ext hL.rd s)
  have n1 : (okO o != okO o) = false := by simp
  have n2 : (okOs l != okOs l) = false := by simp
  refine region_ext (W := w2) (Below.refl _ _) (by kernel_rfl) (by kernel_rfl) ?_
  repeat (first | go_big_quiet_step ((first | (go_at_call 10; exact calls_ext (k1 _)) | (go_at_call 11; exact calls_ext (k2 _)) | (go_at_call 12; exact calls_ext (k3 _)) | (go_at_call 13; exact calls_ext (k4 _)))) | quiet_step ((first | (go_at_call 10; exact calls_ext (k1 _)) | (go_at_call 11; exact calls_ext (k2 _)) | (go_at_call 12; exact calls_ext (k3 _)) | (go_at_call 13; exact calls_ext (k4 _)))))
  refine wpQuiet_nil ?_
  rintro _ ⟨s, rfl⟩
  have HB3 := Aside0.mk (below_then HB.out HB.out.size s.2)
  have hI3 := hI.ext s
  have hL3 := hL.below s.2
  have bx3 := blk_below bx s.2
  have p0 : s.1.cell? ⟨w1.heap.size, 0, none⟩ = some (.int .i64 o.f0) := (blk_cell bx3 0).trans rfl
  have p1 : s.1.cell? ⟨w1.heap.size, 1, none⟩ = some (.int .i64 o.f1) := (blk_cell bx3 1).trans rfl
  have p2 : s.1.cell? ⟨w1.heap.size, 2, none⟩ = some (.slice A1 o.f2.length c1) := (blk_cell bx3 2).trans rfl
  generalize s.1 = w3 at HB3 hI3 hL3 bx3 p0 p1 p2 ⊢
  clear k1 k2 k3 k4 e0 e1 e2 bx hI hL
  cases hq : okO o with
  | false =>
    cases ho : okOs l with
    | false =>
      go_wp2_with (first
        | (go_at_call 11; refine (sOccOk_any o A1 c1 _ hI3).mono ?_; rw [hq]; rintro e w4 ⟨rfl, hb4⟩; have HB4 := Aside0.mk (below_then HB3.out HB3.out.size hb4); have hL4 := Aside0.mk (hL3.below hb4); clear hb4)
        | (go_at_call 13; refine (sOccsOk_any A2 c2 l _ hL4.out.rd).mono ?_; rw [ho]; rintro e w5 ⟨rfl, hb5⟩; have HB5 := Aside0.mk (below_then HB4.out HB4.out.size hb5); clear hb5))
      go_ret
      exact ⟨rfl, HB5.out⟩
    | true =>
      have HO := Aside0.mk (okOs_iff.1 ho).1
      obtain hl0 | hl0 : l = [] ∨ 0 < l.length := by rcases l with _ | ⟨x, l⟩; exact .inl rfl; exact .inr (by simp)
      · subst hl0
        go_wp2_with (first
          | (go_at_call 11; refine (sOccOk_any o A1 c1 _ hI3).mono ?_; rw [hq]; rintro e w4 ⟨rfl, hb4⟩; have HB4 := Aside0.mk (below_then HB3.out HB3.out.size hb4); have hL4 := Aside0.mk (hL3.below hb4); clear hb4)
          | (go_at_call 13; refine (sOccsOk_any A2 c2 [] _ hL4.out.rd).mono ?_; rw [ho]; rintro e w5 ⟨rfl, hb5⟩; have HB5 := Aside0.mk (below_then HB4.out HB4.out.size hb5); clear hb5))
        go_ret
        exact ⟨rfl, HB5.out⟩
      · have hl1 : ((l.length : Int) == 0) = false := by rw [beq_eq_false_iff_ne]; omega
        have hl2 : ¬ ((l.length : Int) = 0) := by omega
        go_wp2_with (first
          | (go_at_call 11; refine (sOccOk_any o A1 c1 _ hI3).mono ?_; rw [hq]; rintro e w4 ⟨rfl, hb4⟩; have HB4 := Aside0.mk (below_then HB3.out HB3.out.size hb4); have hL4 := Aside0.mk (hL3.below hb4); clear hb4)
          | (go_at_call 13; refine (sOccsOk_any A2 c2 l _ hL4.out.rd).mono ?_; rw [ho]; rintro e w5 ⟨rfl, hb5⟩; have HB5 := Aside0.mk (below_then HB4.out HB4.out.size hb5); have hL5 := Aside0.mk (hL4.out.below hb5); clear hb5))
        obtain ⟨ad, A6, c6, e6, qa, qb, qc, ql, qC⟩ := atO hL5.out.rd 0 hl0
        obtain rfl := e6
        have hx : l.getD 0 zO ∈ l := by rw [List.getD_eq_getElem?_getD, List.getElem?_eq_getElem hl0]; exact List.getElem_mem _
        have hI6 : IsO w5 (l.getD 0 zO) A6 c6 := ⟨ql, qC⟩
        have HX := Aside0.mk hx
        clear ql qC hx
        obtain ⟨x, hxe⟩ : ∃ x, x = l.getD 0 zO := ⟨_, rfl⟩
        rw [← hxe] at qa qb qc hI6 HX
        clear hxe
        rw [Nat.zero_mul, add0] at qa qb qc
        have F : ∀ w', Below w5.heap.size w5 w' → w'.cell? ad = some (.int .i64 x.f0) ∧ w'.cell? ⟨ad.block, ad.off + 1, none⟩ = some (.int .i64 x.f1) ∧ w'.cell? ⟨ad.block, ad.off + 2, none⟩ = some (.slice A6 x.f2.length c6) :=
          fun w' h => ⟨pw_cell_below h qa, pw_cell_below h qb, pw_cell_below h qc⟩
        have hCf : (Kd.fixed kO w5).C w5 (some ad) l.length l := hL5.out.rd
        clear qa qb qc
        go_region_held3 (fun w' => w'.cell? ad = some (.int .i64 x.f0) ∧ w'.cell? ⟨ad.block, ad.off + 1, none⟩ = some (.int .i64 x.f1) ∧ w'.cell? ⟨ad.block, ad.off + 2, none⟩ = some (.slice A6 x.f2.length c6))
          (first | (with_reducible exact F _ (Below.refl _ _)) | (with_reducible exact F _ (below_drew (Below.refl _ _))) | (with_reducible exact F _ (below_alloc (below_drew (Below.refl _ _)) _)) | (with_reducible exact F _ (below_alloc (Below.refl _ _) _)) | (with_reducible exact F _ (below_drew (below_alloc (Below.refl _ _) _))) | (with_reducible exact F _ (below_alloc (below_alloc (Below.refl _ _) _) _)) | (with_reducible exact F _ (below_drew (below_alloc (below_alloc (Below.refl _ _) _) _))) | (with_reducible exact F _ HB8) | (with_reducible exact F _ HB7) | (with_reducible exact F _ (below_alloc HB7 _)))
          (first
            | (refine Kd.R_append_rows_step (Kd.fixed kO w5) (w0 := w5) w5.heap.size (by rfl) _ _ 27 25 (.agg #[.int .i64 0, .int .i64 0, .slice none 0 0]) 40 rfl Try.underlying27 infoO rfl (szO w5) (by decide) (.slice A7 l.length c7) l [x] (some ⟨w5.heap.size + 1, 0, none⟩) 1 1 (fun _ => True) (fun _ => False) rfl rfl HR7.out (one_C (blk_grown (blk_drew (blk_second w5 _ _)) HG7.out (by simp [Value.ownBlock])) (kO_mk w5 x hI6.1 hI6.2)) (fun _ _ h => h) (fun _ h => h.elim) (fun _ _ => trivial) HB7 HB7.size (by omega) ?_; intro v8 w8 hr8 HB8 _ _; obtain ⟨A8, c8, rfl⟩ := Kd.R_slice hr8; have HR8 := Aside0.mk hr8; clear hr8)
            | (refine Kd.R_append_rows_step (Kd.fixed kO w5) (w0 := w5) w5.heap.size (by rfl) _ _ 27 25 (.agg #[.int .i64 0, .int .i64 0, .slice none 0 0]) 40 rfl Try.underlying27 infoO rfl (szO w5) (by decide) (.slice A7 l.length c7) l [x] (some ⟨w5.heap.size, 0, none⟩) 1 1 (fun _ => True) (fun _ => False) rfl rfl HR7.out (one_C (blk_grown (blk_drew (blk_alloc (blk_new w5 _) _)) HG7.out (by simp [Value.ownBlock])) (kO_mk w5 x hI6.1 hI6.2)) (fun _ _ h => h) (fun _ h => h.elim) (fun _ _ => trivial) HB7 HB7.size (by omega) ?_; intro v8 w8 hr8 HB8 _ _; obtain ⟨A8, c8, rfl⟩ := Kd.R_slice hr8; have HR8 := Aside0.mk hr8; clear hr8)
            | (refine Kd.R_append_step (Kd.fixed kO w5) (w0 := w5) w5.heap.size (by rfl) _ _ 27 25 (.agg #[.int .i64 0, .int .i64 0, .slice none 0 0]) 40 rfl Try.underlying27 infoO rfl (szO w5) (by decide) (.slice A7 l.length c7) l x [.int .i64 x.f0, .int .i64 x.f1, .slice A6 x.f2.length c6] (fun _ => True) (fun _ => False) rfl rfl (kO_mk w5 x hI6.1 hI6.2) (fun _ h => h.elim) (fun _ _ => trivial) HR7.out HB7 HB7.size (by omega) ?_; intro v8 w8 hr8 HB8 _ _; obtain ⟨A8, c8, rfl⟩ := Kd.R_slice hr8; have HR8 := Aside0.mk hr8; clear hr8)
            | (refine Kd.R_append_rows_step (Kd.fixed kO w5) (w0 := w5) w5.heap.size (by rfl) _ _ 27 25 (.agg #[.int .i64 0, .int .i64 0, .slice none 0 0]) 40 rfl Try.underlying27 infoO rfl (szO w5) (by decide) (.slice (some ⟨w5.heap.size, 0, none⟩) 0 0) [] l (some ad) l.length c2 (fun _ => True) (fun _ => False) rfl rfl (R_empty (Kd.fixed kO w5) (by first | with_reducible exact blk_new _ _ | with_reducible exact blk_drew (blk_new _ _) | with_reducible exact blk_drew (blk_alloc (blk_new _ _) _) | with_reducible exact blk_alloc (blk_new _ _) _ | exact blk_new w5.drew _) (Nat.le_refl _)) (Kd.C_below hCf (by repeat (first | exact Below.refl _ _ | apply below_drew | apply below_alloc))) (fun _ _ h => h) (fun _ h => h.elim) (fun _ _ => trivial) (by repeat (first | exact Below.refl _ _ | apply below_drew | apply below_alloc)) (by first | (simp; done) | (simp; omega)) (by simp; omega) ?_; intro v7 w7 hr7 HB7 hg7 _; have HG7 := Aside0.mk hg7; clear hg7; obtain ⟨A7, c7, rfl⟩ := Kd.R_slice hr7; rw [List.nil_append] at hr7; have HR7 := Aside0.mk hr7; clear hr7)
            | (refine Kd.R_append_rows_step (Kd.fixed kO w5) (w0 := w5) w5.heap.size (by rfl) _ _ 27 25 (.agg #[.int .i64 0, .int .i64 0, .slice none 0 0]) 40 rfl Try.underlying27 infoO rfl (szO w5) (by decide) (.slice (some ⟨w5.heap.size + 1, 0, none⟩) 0 0) [] l (some ad) l.length c2 (fun _ => True) (fun _ => False) rfl rfl (R_empty (Kd.fixed kO w5) (by first | with_reducible exact blk_drew (blk_second w5 _ _) | with_reducible exact blk_second w5 _ _ | exact blk_drew (blk_second w5 _ _)) (Nat.le_succ _)) (Kd.C_below hCf (by repeat (first | exact Below.refl _ _ | apply below_drew | apply below_alloc))) (fun _ _ h => h) (fun _ h => h.elim) (fun _ _ => trivial) (by repeat (first | exact Below.refl _ _ | apply below_drew | apply below_alloc)) (by first | (simp; done) | (simp; omega)) (by simp; omega) ?_; intro v7 w7 hr7 HB7 hg7 _; have HG7 := Aside0.mk hg7; clear hg7; obtain ⟨A7, c7, rfl⟩ := Kd.R_slice hr7; rw [List.nil_append] at hr7; have HR7 := Aside0.mk hr7; clear hr7))
        all_goals
          have hC8 := C_fixed (Kd.R_reads' HR8.out).2.2 HB8
          have hc8 := (Kd.R_reads' HR8.out).2.1
          have k8 := occsOk_any A8 c8 (l ++ [x]) w8 hC8
          have hPN : putO (l ++ [x]) x = [] := by unfold putO; rw [bad_list HX.out]; rfl
          have hx24 : x.f2.length ≤ 1048576 := by have := HID.out x HX.out; omega
          have hli : ∀ y ∈ l ++ [x], y.f2.length ≤ 1048576 := fun y hy => by
            rcases List.mem_append.1 hy with h | h
            · have := HID.out y h; omega
            · rw [List.mem_singleton.1 h]; exact hx24
          have k9 := fun (W : World) (h : Below w8.heap.size w8 W) => occsPut_any A8 A6 c8 c6 (l ++ [x]) x W (IsL.below ⟨hc8, hC8⟩ h) (hI6.below (below_then HB8 HB8.size h)) (by simp; omega) hx24 hli
          rw [hPN] at k9
          rw [List.length_append, List.length_singleton, bad_list HX.out] at k8
          rw [List.length_append, List.length_singleton] at k9
          have HK9 := Aside0.mk k9
          have HLI := Aside0.mk hli
          clear k9 hli hPN hc8 hC8 HR8
          go_wp2_with (first
            | (go_at_call 15; refine (HK9.out _ hb9).mono ?_; rintro e w10 ⟨v10, rfl, hs10, hb10⟩; obtain ⟨A9, c9, rfl⟩ := Kd.S_slice hs10; have HB10 := Aside0.mk (below_then HB5.out HB5.out.size (below_then HB8 HB8.size (below_then hb9 hb9.size hb10))); clear hs10 hb10)
            | (go_at_call 12; refine k8.mono ?_; rintro e w9 ⟨rfl, hb9⟩; obtain ⟨r0, r1, r2⟩ := F w9 (below_then HB8 HB8.size hb9)))
          go_ret
          exact ⟨rfl, HB10.out⟩
  | true =>
    have HOK := Aside0.mk (okO_iff.1 hq)
    have ht1 : 0 ≤ o.f1 ∧ o.f1 ≤ 2000 := ⟨by have := HOK.out.f1; have := HOK.out.ft; omega, HOK.out.t2⟩
    have hlen := HOK.out.ne
    go_wp2_with (go_at_call 11; refine (sOccOk_any o A1 c1 _ hI3).mono ?_; rw [hq]; rintro e w4 ⟨rfl, hb4⟩; have HB4 := Aside0.mk (below_then HB3.out HB3.out.size hb4); have hL4 := Aside0.mk (hL3.below hb4); have hI4 := Aside0.mk (hI3.below hb4); have bx4 := blk_below bx3 hb4; have hlt4 : w1.heap.size < w4.heap.size := blk_lt bx4; have hne1 : w1.heap.size ≠ w4.heap.size := by { omega }; have hne2 : w1.heap.size ≠ w4.heap.size + 1 := by { omega }; have hne3 : w1.heap.size ≠ w4.heap.size + 1 + 1 := by { omega }; have m0 : w4.cell? ⟨w1.heap.size, 0, none⟩ = some (.int .i64 o.f0) := (blk_cell bx4 0).trans rfl; have m1 : w4.cell? ⟨w1.heap.size, 1, none⟩ = some (.int .i64 o.f1) := (blk_cell bx4 1).trans rfl; have m2 : w4.cell? ⟨w1.heap.size, 2, none⟩ = some (.slice A1 o.f2.length c1) := (blk_cell bx4 2).trans rfl; clear hb4)
    obtain ⟨hbW, b0, b1, b2⟩ := boxes3 w4 #[.int .i64 (o.f1 + 1), .int .i64 o.f1, .slice A1 o.f2.length c1] #[.int .i64 o.f0, .int .i64 o.f1, .slice none 0 0] #[.int .i64 o.f0, .int .i64 o.f1, .slice A1 o.f2.length c1] 25 25 25
    have bo := blk_below bx4 hbW
    generalize ((w4.alloc (.cells #[.int .i64 (o.f1 + 1), .int .i64 o.f1, .slice A1 o.f2.length c1] 25)).alloc (.cells #[.int .i64 o.f0, .int .i64 o.f1, .slice none 0 0] 25)).alloc (.cells #[.int .i64 o.f0, .int .i64 o.f1, .slice A1 o.f2.length c1] 25) = W at hbW b0 b1 b2 bo ⊢
    have hIW := hI4.out.below hbW
    obtain ⟨ad, rfl, hz⟩ := at1 hIW.2 (o.f2.length - 1) (by omega)
    have hzm : o.f2.getD (o.f2.length - 1) 0 ∈ o.f2 := by rw [List.getD_eq_getElem?_getD, List.getElem?_eq_getElem (by omega)]; exact List.getElem_mem _
    obtain ⟨z, hze⟩ : ∃ z, z = o.f2.getD (o.f2.length - 1) 0 := ⟨_, rfl⟩
    rw [← hze] at hz hzm
    have HZ := Aside0.mk hzm
    clear hze hzm
    have F : ∀ w', Below W.heap.size W w' → w'.cell? ⟨w1.heap.size, 2, none⟩ = some (.slice (some ad) o.f2.length c1) ∧ w'.cell? (ad.add (o.f2.length - 1)) = some (.int .i64 z) :=
      fun w' h => ⟨pw_cell_below h ((blk_cell bo 2).trans rfl), pw_cell_below h hz⟩
    have hCi := hIW.2
    obtain ⟨n, hn⟩ : ∃ n, o.f2.length = n + 1 := ⟨o.f2.length - 1, by omega⟩
    have hn24 : n ≤ 23 := by omega
    rw [hn] at hCi F
    rw [Nat.add_sub_cancel] at F
    have HN := Aside0.mk hn
    rw [hn]
    clear hn hlen
    have i0 : (0 : Int) ≤ (n : Int) := by omega
    have i1 : (n : Int) < n + 1 := by omega
    have i3 : n < n + 1 := by omega
    have w1' : IntKind.i64.wrap (n : Int) = n := by rw [IntKind.wrap_i64]; omega
    have w2' : IntKind.i64.wrap ((n : Int) + 1 - 1) = n := by rw [IntKind.wrap_i64]; omega
    have w3' : IntKind.i64.wrap ((n : Int) + 1) = (n : Int) + 1 := by rw [IntKind.wrap_i64]; omega
    have hza : (ad.add n).block < w4.heap.size := by
      obtain ⟨_, e5, hz5⟩ := at1 hI4.out.2 n (by rw [HN.out]; omega)
      cases e5
      exact World.block_lt_of_cell? w4 _ hz5
    have hf1 : (⟨w1.heap.size, 2, none⟩ : Addr).block ≠ w4.heap.size + 1 + 1 := by show w1.heap.size ≠ _; omega
    have hf2 : (ad.add n).block ≠ w4.heap.size + 1 + 1 := by omega
    clear hz
    go_region_held3 (fun w' => w'.cell? ⟨w1.heap.size, 2, none⟩ = some (.slice (some ad) (n + 1) c1) ∧ w'.cell? (ad.add n) = some (.int .i64 z))
      (first | (with_reducible exact F _ (Below.refl _ _)) | (with_reducible exact F _ (below_drew (Below.refl _ _))) | (with_reducible exact F _ (below_alloc (below_drew (Below.refl _ _)) _)) | (with_reducible exact F _ (below_alloc (Below.refl _ _) _)) | (with_reducible exact F _ (below_drew (below_alloc (Below.refl _ _) _))) | (with_reducible exact F _ (below_alloc (below_alloc (Below.refl _ _) _) _)) | (with_reducible exact F _ (below_drew (below_alloc (below_alloc (Below.refl _ _) _) _))) | (with_reducible exact F _ HB8) | (with_reducible exact F _ HB7) | (with_reducible exact F _ (below_alloc HB7 _)) | (with_reducible exact ⟨(far1 hf1).trans u0, (far1 hf2).trans u1⟩))
      (first
        | (refine Kd.R_append_rows_step (Kd.int .i64) (w0 := W) W.heap.size (by rfl) _ _ 23 3 (.int .i64 0) 8 rfl Try.underlying23 Cc.infoI rfl (by decide) (by decide) (.slice A7 o.f2.length c7) o.f2 [z] (some ⟨W.heap.size + 1, 0, none⟩) 1 1 (fun _ => True) (fun _ => False) rfl rfl HR7.out (blk_C (xs := [z]) (blk_grown (blk_drew (blk_second W _ _)) HG7.out (by simp [Value.ownBlock])) (by simp)) (fun _ _ h => h) (fun _ h => h.elim) (fun _ _ => trivial) HB7 HB7.size (by rw [HN.out]; omega) ?_; intro v8 w8 hr8 HB8 _ _; obtain ⟨A8, c8, rfl⟩ := Kd.R_slice hr8; rw [List.length_append, List.length_singleton] at hr8; have HR8 := Aside0.mk hr8; have b28 := blk_below b2 HB8; have j0 := (blk_cell b28 2).trans rfl; have j1 := blk_frozen b28 2; obtain ⟨u0, u1⟩ := F w8 HB8; clear hr8)
        | (refine Kd.R_append_rows_step (Kd.int .i64) (w0 := W) W.heap.size (by rfl) _ _ 23 3 (.int .i64 0) 8 rfl Try.underlying23 Cc.infoI rfl (by decide) (by decide) (.slice A7 o.f2.length c7) o.f2 [z] (some ⟨W.heap.size, 0, none⟩) 1 1 (fun _ => True) (fun _ => False) rfl rfl HR7.out (blk_C (xs := [z]) (blk_grown (blk_drew (blk_alloc (blk_new W _) _)) HG7.out (by simp [Value.ownBlock])) (by simp)) (fun _ _ h => h) (fun _ h => h.elim) (fun _ _ => trivial) HB7 HB7.size (by rw [HN.out]; omega) ?_; intro v8 w8 hr8 HB8 _ _; obtain ⟨A8, c8, rfl⟩ := Kd.R_slice hr8; rw [List.length_append, List.length_singleton] at hr8; have HR8 := Aside0.mk hr8; have b28 := blk_below b2 HB8; have j0 := (blk_cell b28 2).trans rfl; have j1 := blk_frozen b28 2; obtain ⟨u0, u1⟩ := F w8 HB8; clear hr8)
        | (refine Kd.R_append_step (Kd.int .i64) (w0 := W) W.heap.size (by rfl) _ _ 23 3 (.int .i64 0) 8 rfl Try.underlying23 Cc.infoI rfl (by decide) (by decide) (.slice A7 o.f2.length c7) o.f2 z [.int .i64 z] (fun _ => True) (fun _ => False) rfl rfl rfl (fun _ h => h.elim) (fun _ _ => trivial) HR7.out HB7 HB7.size (by rw [HN.out]; omega) ?_; intro v8 w8 hr8 HB8 _ _; obtain ⟨A8, c8, rfl⟩ := Kd.R_slice hr8; rw [List.length_append, List.length_singleton] at hr8; have HR8 := Aside0.mk hr8; have b28 := blk_below b2 HB8; have j0 := (blk_cell b28 2).trans rfl; have j1 := blk_frozen b28 2; obtain ⟨u0, u1⟩ := F w8 HB8; clear hr8)
        | (refine Kd.R_append_rows_step (Kd.int .i64) (w0 := W) W.heap.size (by rfl) _ _ 23 3 (.int .i64 0) 8 rfl Try.underlying23 Cc.infoI rfl (by decide) (by decide) (.slice (some ⟨W.heap.size, 0, none⟩) 0 0) [] o.f2 (some ad) (n + 1) c1 (fun _ => True) (fun _ => False) rfl rfl (R_empty (Kd.int .i64) (by first | with_reducible exact blk_new _ _ | with_reducible exact blk_drew (blk_new _ _) | with_reducible exact blk_drew (blk_alloc (blk_new _ _) _) | with_reducible exact blk_alloc (blk_new _ _) _ | exact blk_new W.drew _) (by omega)) (Kd.C_below hCi (by repeat (first | exact Below.refl _ _ | apply below_drew | apply below_alloc))) (fun _ _ h => h) (fun _ h => h.elim) (fun _ _ => trivial) (by repeat (first | exact Below.refl _ _ | apply below_drew | apply below_alloc)) (by first | (simp; done) | (simp; omega)) (by simp; omega) ?_; intro v7 w7 hr7 HB7 hg7 _; have HG7 := Aside0.mk hg7; clear hg7; obtain ⟨A7, c7, rfl⟩ := Kd.R_slice hr7; rw [List.nil_append] at hr7; have HR7 := Aside0.mk hr7; clear hr7)
        | (refine Kd.R_append_rows_step (Kd.int .i64) (w0 := W) W.heap.size (by rfl) _ _ 23 3 (.int .i64 0) 8 rfl Try.underlying23 Cc.infoI rfl (by decide) (by decide) (.slice (some ⟨W.heap.size + 1, 0, none⟩) 0 0) [] o.f2 (some ad) (n + 1) c1 (fun _ => True) (fun _ => False) rfl rfl (R_empty (Kd.int .i64) (by first | with_reducible exact blk_drew (blk_second W _ _) | with_reducible exact blk_second W _ _ | exact blk_drew (blk_second W _ _)) (by omega)) (Kd.C_below hCi (by repeat (first | exact Below.refl _ _ | apply below_drew | apply below_alloc))) (fun _ _ h => h) (fun _ h => h.elim) (fun _ _ => trivial) (by repeat (first | exact Below.refl _ _ | apply below_drew | apply below_alloc)) (by first | (simp; done) | (simp; omega)) (by simp; omega) ?_; intro v7 w7 hr7 HB7 hg7 _; have HG7 := Aside0.mk hg7; clear hg7; obtain ⟨A7, c7, rfl⟩ := Kd.R_slice hr7; rw [List.nil_append] at hr7; have HR7 := Aside0.mk hr7; clear hr7))
    all_goals
      have hb9 : Below w4.heap.size w4 (w8.setCell ⟨w4.heap.size + 1 + 1, 2, none⟩ (.slice A8 (o.f2.length + 1) c8)) := (below_then hbW hbW.size HB8).setCell (p := ⟨w4.heap.size + 1 + 1, 2, none⟩) (by show w4.heap.size ≤ w4.heap.size + 1 + 1; omega) _
      have a9 := (Below.heap_setCell w8 ⟨w4.heap.size + 1 + 1, 2, none⟩ (.slice A8 (o.f2.length + 1) c8) w4.heap.size (by show w4.heap.size ≠ w4.heap.size + 1 + 1; omega)).trans (blk_below b0 HB8)
      have d9 := (Below.heap_setCell w8 ⟨w4.heap.size + 1 + 1, 2, none⟩ (.slice A8 (o.f2.length + 1) c8) (w4.heap.size + 1) (by show w4.heap.size + 1 ≠ w4.heap.size + 1 + 1; omega)).trans (blk_below b1 HB8)
      have o9 := (Below.heap_setCell w8 ⟨w4.heap.size + 1 + 1, 2, none⟩ (.slice A8 (o.f2.length + 1) c8) w1.heap.size (by show w1.heap.size ≠ w4.heap.size + 1 + 1; omega)).trans (blk_below bo HB8)
      have c9 := blk_put b28 2 (.slice A8 (o.f2.length + 1) c8) rfl
      have r9 := (Kd.R_reads' (Kd.R_set HR8.out b28 (by decide) 2 (.slice A8 (o.f2.length + 1) c8))).2
      have hI9 := hI4.out.below hb9
      have HLt := Aside0.mk (hL4.out.below hb9)
      have HB9 := Aside0.mk (below_then HB4.out HB4.out.size hb9)
      generalize w8.setCell ⟨w4.heap.size + 1 + 1, 2, none⟩ (.slice A8 (o.f2.length + 1) c8) = w9 at hb9 a9 d9 o9 c9 r9 hI9 HLt HB9 ⊢
      have C9 : IsO w9 ⟨o.f0, o.f1, o.f2 ++ [z]⟩ A8 c8 := ⟨by simpa using r9.1, by simpa using r9.2⟩
      have k1 : ∀ w', Below w9.heap.size w9 w' → Calls Try.prog 10 #[.agg #[.int .i64 (o.f1 + 1), .int .i64 o.f1, .slice (some ad) (n + 1) c1]] w' fun e w'' => e = .returned (.bool false) ∧ Below w'.heap.size w' w'' := by
        intro w' h
        have h1 := occOk_any ⟨o.f1 + 1, o.f1, o.f2⟩ (some ad) c1 w' (hI9.below h)
        rw [bad_from] at h1
        rw [← HN.out]
        exact h1
      have k2 : ∀ w', Calls Try.prog 10 #[.agg #[.int .i64 o.f0, .int .i64 o.f1, .slice none 0 0]] w' fun e w'' => e = .returned (.bool false) ∧ Below w'.heap.size w' w'' := by
        intro w'
        have h1 := occOk_any ⟨o.f0, o.f1, []⟩ none 0 w' ⟨Nat.le_refl _, Kd.C_nil _ _⟩
        rw [bad_none] at h1
        exact h1
      have k3 : ∀ w', Below w9.heap.size w9 w' → Calls Try.prog 10 #[.agg #[.int .i64 o.f0, .int .i64 o.f1, .slice A8 (o.f2.length + 1) c8]] w' fun e w'' => e = .returned (.bool false) ∧ Below w'.heap.size w' w'' := by
        intro w' h
        have h1 := occOk_any ⟨o.f0, o.f1, o.f2 ++ [z]⟩ A8 c8 w' (C9.below h)
        rw [bad_twice HZ.out] at h1
        have h2 : (o.f2 ++ [z]).length = o.f2.length + 1 := by simp
        rw [← h2]
        exact h1
      have k4 : ∀ w', Below w9.heap.size w9 w' → Calls Try.prog 14 #[.agg #[.int .i64 (o.f1 + 1), .int .i64 o.f1, .slice (some ad) (n + 1) c1], .agg #[.int .i64 o.f0, .int .i64 o.f1, .slice (some ad) (n + 1) c1]] w' fun e w'' => (∃ A c, e = .returned (.agg #[.int .i64 0, .int .i64 0, .slice A 0 c])) ∧ Below w'.heap.size w' w'' := by
        intro w' h
        have hj : joinO ⟨o.f1 + 1, o.f1, o.f2⟩ o = zO := by unfold joinO; rw [bad_from]; rfl
        have h1 := occJoin_any ⟨o.f1 + 1, o.f1, o.f2⟩ o (some ad) (some ad) c1 c1 w' (hI9.below h) (hI9.below h) (by show o.f2.length ≤ _; omega) (by omega)
        rw [hj] at h1
        rw [← HN.out]
        refine h1.mono ?_
        rintro e w2 ⟨v, rfl, hv, hb⟩
        obtain ⟨A, c, rfl⟩ := Kd.R_slice hv
        exact ⟨⟨A, c, rfl⟩, hb⟩
      rw [HN.out] at o9
      rw [HN.out] at a9
      have E : ∀ w', Below w9.heap.size w9 w' → (w'.heap[w4.heap.size]? = some (.cells #[.int .i64 (o.f1 + 1), .int .i64 o.f1, .slice (some ad) (n + 1) c1] 25 (0, 0))) ∧ (w'.heap[w4.heap.size + 1]? = some (.cells #[.int .i64 o.f0, .int .i64 o.f1, .slice none 0 0] 25 (0, 0))) ∧ (w'.heap[w4.heap.size + 1 + 1]? = some (.cells #[.int .i64 o.f0, .int .i64 o.f1, .slice A8 (o.f2.length + 1) c8] 25 (0, 0))) ∧ (w'.heap[w1.heap.size]? = some (.cells #[.int .i64 o.f0, .int .i64 o.f1, .slice (some ad) (n + 1) c1] 25 (0, 0))) :=
        fun w' h => ⟨blk_below a9 h, blk_below d9 h, blk_below c9 h, blk_below o9 h⟩
      have K1 := Aside0.mk k1
      have K2 := Aside0.mk k2
      have K3 := Aside0.mk k3
      have K4 := Aside0.mk k4
      have EE := Aside0.mk E
      obtain ⟨f0, -, -, -⟩ := E w9 (Below.refl _ _)
      have a0 := (blk_cell f0 0).trans rfl
      have a1 := (blk_cell f0 1).trans rfl
      have a2 := (blk_cell f0 2).trans rfl
      clear k1 k2 k3 k4 E f0 a9 d9 o9 c9 r9 hI9 hb9 C9
      go_upto_region 16 with (first
        | (go_at_call 14; refine (K4.out _ HB12.out).mono ?_; rintro e w13 ⟨⟨A13, c13, rfl⟩, hb13⟩; have HB13 := Aside0.mk (below_then HB12.out HB12.out.size hb13); have hfd : ∀ W : World, (Instr.field 25 (.agg #[.int .i64 0, .int .i64 0, .slice A13 0 c13]) 1).run Try.prog W = .ok (.int .i64 0) W := fun _ => by { kernel_rfl }; clear hb13)
        | (go_at_call 10; refine (K3.out _ HB11.out).mono ?_; rintro e w12 ⟨rfl, hb12⟩; have HB12 := Aside0.mk (below_then HB11.out HB11.out.size hb12); clear hb12; obtain ⟨g0, -, -, g3⟩ := EE.out _ HB12.out; have a0 := (blk_cell g0 0).trans rfl; have a1 := (blk_cell g0 1).trans rfl; have a2 := (blk_cell g0 2).trans rfl; have b0 := (blk_cell g3 0).trans rfl; have b1 := (blk_cell g3 1).trans rfl; have b2 := (blk_cell g3 2).trans rfl; clear g0 g3)
        | (go_at_call 10; have h10 := HB10.out; clear h10; refine (K2.out _).mono ?_; rintro e w11 ⟨rfl, hb11⟩; have HB11 := Aside0.mk (below_then HB10.out HB10.out.size hb11); clear hb11; obtain ⟨-, -, g2, -⟩ := EE.out _ HB11.out; have a0 := (blk_cell g2 0).trans rfl; have a1 := (blk_cell g2 1).trans rfl; have a2 := (blk_cell g2 2).trans rfl; clear g2)
        | (go_at_call 10; refine (K1.out _ (Below.refl _ _)).mono ?_; rintro e w10 ⟨rfl, hb10⟩; have HB10 := Aside0.mk hb10; clear hb10; obtain ⟨-, g1, -, -⟩ := EE.out _ HB10.out; have a0 := (blk_cell g1 0).trans rfl; have a1 := (blk_cell g1 1).trans rfl; have a2 := (blk_cell g1 2).trans rfl; clear g1))
      have hLt := Aside0.mk (HLt.out.below HB13.out)
      have HBt := Aside0.mk (below_then HB9.out HB9.out.size HB13.out)
      cases ho : okOs l with
      | false =>
        go_wp2_with (go_at_call 13; refine (sOccsOk_any A2 c2 l _ hLt.out.rd).mono ?_; rw [ho]; rintro e w5 ⟨rfl, hb5⟩; have HB5 := Aside0.mk (below_then HBt.out HBt.out.size hb5); clear hb5)
        go_ret
        exact ⟨rfl, HB5.out⟩
      | true =>
        have HO := Aside0.mk (okOs_iff.1 ho).1
        obtain hl0 | hl0 : l = [] ∨ 0 < l.length := by rcases l with _ | ⟨x, l⟩; exact .inl rfl; exact .inr (by simp)
        · subst hl0
          go_wp2_with (first | (go_at_call 13; refine (sOccsOk_any A2 c2 [] _ hLt.out.rd).mono ?_; rw [ho]; rintro e w5 ⟨rfl, hb5⟩; have HB5 := Aside0.mk (below_then HBt.out HBt.out.size hb5); clear hb5))
          go_ret
          exact ⟨rfl, HB5.out⟩
        · have hl1 : ((l.length : Int) == 0) = false := by rw [beq_eq_false_iff_ne]; omega
          have hl2 : ¬ ((l.length : Int) = 0) := by omega
          go_wp2_with (first | (go_at_call 13; refine (sOccsOk_any A2 c2 l _ hLt.out.rd).mono ?_; rw [ho]; rintro e w5 ⟨rfl, hb5⟩; have HB5 := Aside0.mk (below_then HBt.out HBt.out.size hb5); have hL5 := Aside0.mk (hLt.out.below hb5); clear hb5))
          obtain ⟨ad, A6, c6, e6, qa, qb, qc, ql, qC⟩ := atO hL5.out.rd 0 hl0
          obtain rfl := e6
          have hx : l.getD 0 zO ∈ l := by rw [List.getD_eq_getElem?_getD, List.getElem?_eq_getElem hl0]; exact List.getElem_mem _
          have hI6 : IsO w5 (l.getD 0 zO) A6 c6 := ⟨ql, qC⟩
          have HX := Aside0.mk hx
          clear ql qC hx
          obtain ⟨x, hxe⟩ : ∃ x, x = l.getD 0 zO := ⟨_, rfl⟩
          rw [← hxe] at qa qb qc hI6 HX
          clear hxe
          rw [Nat.zero_mul, add0] at qa qb qc
          have F : ∀ w', Below w5.heap.size w5 w' → w'.cell? ad = some (.int .i64 x.f0) ∧ w'.cell? ⟨ad.block, ad.off + 1, none⟩ = some (.int .i64 x.f1) ∧ w'.cell? ⟨ad.block, ad.off + 2, none⟩ = some (.slice A6 x.f2.length c6) :=
            fun w' h => ⟨pw_cell_below h qa, pw_cell_below h qb, pw_cell_below h qc⟩
          have hCf : (Kd.fixed kO w5).C w5 (some ad) l.length l := hL5.out.rd
          clear qa qb qc
          go_region_held3 (fun w' => w'.cell? ad = some (.int .i64 x.f0) ∧ w'.cell? ⟨ad.block, ad.off + 1, none⟩ = some (.int .i64 x.f1) ∧ w'.cell? ⟨ad.block, ad.off + 2, none⟩ = some (.slice A6 x.f2.length c6))
            (first | (with_reducible exact F _ (Below.refl _ _)) | (with_reducible exact F _ (below_drew (Below.refl _ _))) | (with_reducible exact F _ (below_alloc (below_drew (Below.refl _ _)) _)) | (with_reducible exact F _ (below_alloc (Below.refl _ _) _)) | (with_reducible exact F _ (below_drew (below_alloc (Below.refl _ _) _))) | (with_reducible exact F _ (below_alloc (below_alloc (Below.refl _ _) _) _)) | (with_reducible exact F _ (below_drew (below_alloc (below_alloc (Below.refl _ _) _) _))) | (with_reducible exact F _ HB8) | (with_reducible exact F _ HB7) | (with_reducible exact F _ (below_alloc HB7 _)))
            (first
              | (refine Kd.R_append_rows_step (Kd.fixed kO w5) (w0 := w5) w5.heap.size (by rfl) _ _ 27 25 (.agg #[.int .i64 0, .int .i64 0, .slice none 0 0]) 40 rfl Try.underlying27 infoO rfl (szO w5) (by decide) (.slice A7 l.length c7) l [x] (some ⟨w5.heap.size + 1, 0, none⟩) 1 1 (fun _ => True) (fun _ => False) rfl rfl HR7.out (one_C (blk_grown (blk_drew (blk_second w5 _ _)) HG7.out (by simp [Value.ownBlock])) (kO_mk w5 x hI6.1 hI6.2)) (fun _ _ h => h) (fun _ h => h.elim) (fun _ _ => trivial) HB7 HB7.size (by omega) ?_; intro v8 w8 hr8 HB8 _ _; obtain ⟨A8, c8, rfl⟩ := Kd.R_slice hr8; have HR8 := Aside0.mk hr8; clear hr8)
              | (refine Kd.R_append_rows_step (Kd.fixed kO w5) (w0 := w5) w5.heap.size (by rfl) _ _ 27 25 (.agg #[.int .i64 0, .int .i64 0, .slice none 0 0]) 40 rfl Try.underlying27 infoO rfl (szO w5) (by decide) (.slice A7 l.length c7) l [x] (some ⟨w5.heap.size, 0, none⟩) 1 1 (fun _ => True) (fun _ => False) rfl rfl HR7.out (one_C (blk_grown (blk_drew (blk_alloc (blk_new w5 _) _)) HG7.out (by simp [Value.ownBlock])) (kO_mk w5 x hI6.1 hI6.2)) (fun _ _ h => h) (fun _ h => h.elim) (fun _ _ => trivial) HB7 HB7.size (by omega) ?_; intro v8 w8 hr8 HB8 _ _; obtain ⟨A8, c8, rfl⟩ := Kd.R_slice hr8; have HR8 := Aside0.mk hr8; clear hr8)
              | (refine Kd.R_append_step (Kd.fixed kO w5) (w0 := w5) w5.heap.size (by rfl) _ _ 27 25 (.agg #[.int .i64 0, .int .i64 0, .slice none 0 0]) 40 rfl Try.underlying27 infoO rfl (szO w5) (by decide) (.slice A7 l.length c7) l x [.int .i64 x.f0, .int .i64 x.f1, .slice A6 x.f2.length c6] (fun _ => True) (fun _ => False) rfl rfl (kO_mk w5 x hI6.1 hI6.2) (fun _ h => h.elim) (fun _ _ => trivial) HR7.out HB7 HB7.size (by omega) ?_; intro v8 w8 hr8 HB8 _ _; obtain ⟨A8, c8, rfl⟩ := Kd.R_slice hr8; have HR8 := Aside0.mk hr8; clear hr8)
              | (refine Kd.R_append_rows_step (Kd.fixed kO w5) (w0 := w5) w5.heap.size (by rfl) _ _ 27 25 (.agg #[.int .i64 0, .int .i64 0, .slice none 0 0]) 40 rfl Try.underlying27 infoO rfl (szO w5) (by decide) (.slice (some ⟨w5.heap.size, 0, none⟩) 0 0) [] l (some ad) l.length c2 (fun _ => True) (fun _ => False) rfl rfl (R_empty (Kd.fixed kO w5) (by first | with_reducible exact blk_new _ _ | with_reducible exact blk_drew (blk_new _ _) | with_reducible exact blk_drew (blk_alloc (blk_new _ _) _) | with_reducible exact blk_alloc (blk_new _ _) _ | exact blk_new w5.drew _) (Nat.le_refl _)) (Kd.C_below hCf (by repeat (first | exact Below.refl _ _ | apply below_drew | apply below_alloc))) (fun _ _ h => h) (fun _ h => h.elim) (fun _ _ => trivial) (by repeat (first | exact Below.refl _ _ | apply below_drew | apply below_alloc)) (by first | (simp; done) | (simp; omega)) (by simp; omega) ?_; intro v7 w7 hr7 HB7 hg7 _; have HG7 := Aside0.mk hg7; clear hg7; obtain ⟨A7, c7, rfl⟩ := Kd.R_slice hr7; rw [List.nil_append] at hr7; have HR7 := Aside0.mk hr7; clear hr7)
              | (refine Kd.R_append_rows_step (Kd.fixed kO w5) (w0 := w5) w5.heap.size (by rfl) _ _ 27 25 (.agg #[.int .i64 0, .int .i64 0, .slice none 0 0]) 40 rfl Try.underlying27 infoO rfl (szO w5) (by decide) (.slice (some ⟨w5.heap.size + 1, 0, none⟩) 0 0) [] l (some ad) l.length c2 (fun _ => True) (fun _ => False) rfl rfl (R_empty (Kd.fixed kO w5) (by first | with_reducible exact blk_drew (blk_second w5 _ _) | with_reducible exact blk_second w5 _ _ | exact blk_drew (blk_second w5 _ _)) (Nat.le_succ _)) (Kd.C_below hCf (by repeat (first | exact Below.refl _ _ | apply below_drew | apply below_alloc))) (fun _ _ h => h) (fun _ h => h.elim) (fun _ _ => trivial) (by repeat (first | exact Below.refl _ _ | apply below_drew | apply below_alloc)) (by first | (simp; done) | (simp; omega)) (by simp; omega) ?_; intro v7 w7 hr7 HB7 hg7 _; have HG7 := Aside0.mk hg7; clear hg7; obtain ⟨A7, c7, rfl⟩ := Kd.R_slice hr7; rw [List.nil_append] at hr7; have HR7 := Aside0.mk hr7; clear hr7))
          all_goals
            have hC8 := C_fixed (Kd.R_reads' HR8.out).2.2 HB8
            have hc8 := (Kd.R_reads' HR8.out).2.1
            have k8 := occsOk_any A8 c8 (l ++ [x]) w8 hC8
            have hPN : putO (l ++ [x]) x = [] := by unfold putO; rw [bad_list HX.out]; rfl
            have hx24 : x.f2.length ≤ 1048576 := by have := HID.out x HX.out; omega
            have hli : ∀ y ∈ l ++ [x], y.f2.length ≤ 1048576 := fun y hy => by
              rcases List.mem_append.1 hy with h | h
              · have := HID.out y h; omega
              · rw [List.mem_singleton.1 h]; exact hx24
            have k9 := fun (W : World) (h : Below w8.heap.size w8 W) => occsPut_any A8 A6 c8 c6 (l ++ [x]) x W (IsL.below ⟨hc8, hC8⟩ h) (hI6.below (below_then HB8 HB8.size h)) (by simp; omega) hx24 hli
            rw [hPN] at k9
            rw [List.length_append, List.length_singleton, bad_list HX.out] at k8
            rw [List.length_append, List.length_singleton] at k9
            have HK9 := Aside0.mk k9
            have HLI := Aside0.mk hli
            clear k9 hli hPN hc8 hC8 HR8
            go_wp2_with (first
              | (go_at_call 15; refine (HK9.out _ hb9).mono ?_; rintro e w10 ⟨v10, rfl, hs10, hb10⟩; obtain ⟨A9, c9, rfl⟩ := Kd.S_slice hs10; have HB10 := Aside0.mk (below_then HB5.out HB5.out.size (below_then HB8 HB8.size (below_then hb9 hb9.size hb10))); clear hs10 hb10)
              | (go_at_call 12; refine k8.mono ?_; rintro e w9 ⟨rfl, hb9⟩; obtain ⟨r0, r1, r2⟩ := F w9 (below_then HB8 HB8.size hb9)))
            go_ret
            exact ⟨rfl, HB10.out⟩
end Go.Proofs.Ytjeojdbfpncnkaa.Ob


/- l11Put: an expression put among others in order: the reference's. -/
import Derived.Test.YtbbdkhffacoglaaDoorNi
import Derived.Test.YtbbdkhffacoglaaDoorZa
set_option linter.unusedVariables false
set_option linter.unusedSimpArgs false
namespace Go.Proofs.YtbbdkhffacoglaaDoor.Nn
open Go.RowKit Go.Proofs.YtbbdkhffacoglaaDoorW.PrintWords Go.Proofs.YtbbdkhffacoglaaDoor.Ja Go.Proofs.YtbbdkhffacoglaaDoor.Jb Go.Proofs.YtbbdkhffacoglaaDoor.Jc Go.Proofs.YtbbdkhffacoglaaDoor.Jd Go.Proofs.YtbbdkhffacoglaaDoor.Jg Go.Proofs.YtbbdkhffacoglaaDoor.Na Go.Proofs.YtbbdkhffacoglaaDoor.Nb Go.Proofs.YtbbdkhffacoglaaDoor.Nd Go.Proofs.YtbbdkhffacoglaaDoor.Ne Go.Proofs.YtbbdkhffacoglaaDoor.Nf Go.Proofs.YtbbdkhffacoglaaDoor.Ng Go.Proofs.YtbbdkhffacoglaaDoor.Nh Go.Proofs.YtbbdkhffacoglaaDoor.Ni

section
variable {α : Type} {d : Kd α} {e : Nat} {w : World} {base : Nat} {ok : Nat → Prop} {xs : List α}
theorem rr_drop {R : α → List Value → Prop} {sz : Nat} {ad : Addr} {n : Nat} (h : ReadsRow R sz w (some ad) n xs) (m : Nat) (hm : m ≤ n) : ReadsRow R sz w (some (ad.add (m * sz))) (n - m) (xs.drop m) := by
  refine ⟨by rw [List.length_drop, h.1], by have := h.2.1; omega, fun h0 => ⟨_, rfl, fun j q hj => ?_⟩⟩
  obtain ⟨ad', e, hc⟩ := h.2.2 (by omega)
  cases e
  rw [List.getElem?_drop] at hj
  obtain ⟨c, h1, h2, h3⟩ := hc _ _ hj
  exact ⟨c, h1, h2, fun i u hi => by rw [add_add, show m * sz + (j * sz + i) = (m + j) * sz + i by rw [Nat.add_mul]; omega]; exact h3 i u hi⟩
theorem C_drop {A A' : Option Addr} {n c k : Nat} (h : d.C w A n xs) (hnc : n ≤ c) (hk : k ≤ n) (hA : k < c → A' = A.map (·.add (k * d.sz))) : d.C w A' (n - k) (xs.drop k) := by
  by_cases hkn : k = n
  · exact ⟨by rw [List.length_drop, h.1], by have := h.2.1; omega, fun h0 => by omega⟩
  · obtain ⟨ad, rfl, _⟩ := h.2.2 (by omega)
    rw [hA (by omega)]
    exact rr_drop h k hk
theorem R_empty2 {g : Nat} (hg : w.heap[g]? = some (.cells #[] e (0, 0))) (hb : base ≤ g) (hok : ok g) : d.R e w base ok (.slice (some ⟨g, 0, none⟩) 0 0) [] :=
  ⟨fun k hk => by simp [Value.ownBlock] at hk; rw [← hk]; exact hok, [], ⟨by simp, .inr ⟨g, 0, #[], rfl, hb, hg, Nat.le_refl _, by decide, by simp, by simp⟩⟩, Reps.none _ _⟩
end
theorem sizeE : (Tryd.prog.info? 29).map (·.size) = some 4 := by kernel_rfl
theorem cutE (A : Option Addr) (n c m : Nat) (hm : m ≤ n) : ∃ A', (∀ W, (Instr.slice 26 (.slice A n c) (some (.int .i64 (m : Int))) none none).run Tryd.prog W = .ok (.slice A' (n - m) (c - m)) W) ∧ (m < c → A' = A.map (·.add (m * 4))) := by
  refine ⟨if c = m then A else A.map (·.add (m * 4)), fun W => ?_, fun h => by rw [if_neg (by omega)]⟩
  have hel : Tryd.prog.elem 26 = 29 := by simp [Program.elem, Tryd.underlying26]
  have hu : Tryd.prog.underlying 26 = some (.slice (Tryd.prog.elem 26)) := by rw [hel]; exact Tryd.underlying26
  obtain ⟨i, hi, hi2⟩ := Option.map_eq_some_iff.1 sizeE
  rw [run_slice_l W _ A n c hu .i64 (m : Int) (Int.natCast_nonneg _) (by omega), hel]
  simp [sizeOf, typeInfo, hi, hi2, sliced, Result.andThen]
theorem add_plain (a : Addr) : a.add 0 = a := by cases a; rfl
theorem takeE (A : Option Addr) (hA : A = none ∨ ∃ g, A = some ⟨g, 0, none⟩) (n c m : Nat) (hm : m ≤ c) (W : World) : (Instr.slice 26 (.slice A n c) none (some (.int .i64 (m : Int))) none).run Tryd.prog W = .ok (.slice A m c) W := by
  have hel : Tryd.prog.elem 26 = 29 := by simp [Program.elem, Tryd.underlying26]
  have hu : Tryd.prog.underlying 26 = some (.slice (Tryd.prog.elem 26)) := by rw [hel]; exact Tryd.underlying26
  obtain ⟨i, hi, hi2⟩ := Option.map_eq_some_iff.1 sizeE
  rcases hA with rfl | ⟨g, rfl⟩
  · rw [run_slice_h W _ none n c hu .i64 (m : Int) (Int.natCast_nonneg _) (by omega), hel]
    simp [sizeOf, typeInfo, hi, hi2, sliced, Result.andThen]
  · rw [run_slice_h W _ (some ⟨g, 0, none⟩) n c hu .i64 (m : Int) (Int.natCast_nonneg _) (by omega), hel]
    simp [sizeOf, typeInfo, hi, hi2, sliced, Result.andThen, add_plain]
theorem ownb_len (A : Option Addr) (n m c : Nat) : (Value.slice A n c).ownBlock = (Value.slice A m c).ownBlock := by cases A <;> rfl
theorem grown_of_below2 {w w' : World} (h : Below w.heap.size w w') (row : Option Nat) : w.grownBy w' row := ⟨h.os, h.tape, h.output, h.size, fun k hk _ => h.block k hk⟩
theorem grown_new2 {w w1 w2 : World} {r1 row : Option Nat} (h1 : w.grownBy w1 r1) (h2 : w1.grownBy w2 row) (hrow : ∀ k, row = some k → w.heap.size ≤ k ∨ some k = r1) : w.grownBy w2 r1 :=
  ⟨h2.os.trans h1.os, h2.tape.trans h1.tape, h2.output.trans h1.output, Nat.le_trans h1.size h2.size, fun k hk hne => (h2.block k (Nat.lt_of_lt_of_le hk h1.size) (fun e => by rcases hrow k e.symm with h | h; omega; exact hne h)).trans (h1.block k hk hne)⟩
/-- the row with x in it, in the row's own block or a new one; nothing else of the memory that stood is touched -/
theorem below_mono {B C : Nat} {w w' : World} (h : Below B w w') (hc : C ≤ B) : Below C w w' := ⟨h.os, h.tape, h.output, h.size, fun k hk => h.block k (by omega)⟩
def PutOut (Wz : Wq) (w w' : World) (base : Nat) (v : Value) (l : List Ex) (e : Ending) : Prop := ∃ v', e = .returned v' ∧ RowC Wz w' base v' l ∧ w.grownBy w' v.ownBlock ∧ ∀ j, v'.ownBlock = some j → w.heap.size ≤ j ∨ some j = v.ownBlock
theorem PutOut.below {Wz : Wq} {w w' : World} {base : Nat} {v : Value} {l : List Ex} (hg : w.grownBy w' v.ownBlock) (hb : base ≤ w.heap.size) (hv : ∀ j, v.ownBlock = some j → base ≤ j) : Below base w w' := pw_below_grown (Below.refl _ _) _ hb hg hv
set_option maxHeartbeats 8000000 in
set_option maxRecDepth 100000 in
theorem l11Put_any (Wz : Wq) (base : Nat) (v : Value) (l : List Ex) (x : Ex) (B : Option Addr) (c2 : Nat) (w : World) (hz : Below Wz.heap.size Wz w) (hbz : Wz.heap.size ≤ base) (hbase : base ≤ w.heap.size) (hf : AllF l) (hfx : formB x = true)
    (hcl : ∀ y ∈ l, cntL y.f3 ≤ 1048576) (hcx : cntL x.f3 ≤ 1048576) (hl : l.length ≤ 1048576) (hR : RowC Wz w base v l) (hx : IsEL 29 Wz x.f3 B c2) (hq : Wz.Q x [.int .i64 x.f0, .int .i64 x.f1, .int .i64 x.f2, .slice B x.f3.length c2]) :
    Calls Tryd.prog 59 #[v, .agg #[.int .i64 x.f0, .int .i64 x.f1, .int .i64 x.f2, .slice B x.f3.length c2]] w fun e w' => PutOut Wz w w' base v (putE l x) e := by
  have hzw := hz.size
  obtain ⟨A, c, rfl, hlc, hC⟩ := Kd.R_reads hR
  have HH : Aside0 (A = none ∨ ∃ g, A = some ⟨g, 0, none⟩) := ⟨by
    rcases A with _ | ad
    · exact .inl rfl
    · obtain ⟨g, rfl⟩ := Kd.R_head hR
      exact .inr ⟨g, rfl⟩⟩
  have hb0 := below_alloc (Below.refl w.heap.size w) (.cells #[.int .i64 x.f0, .int .i64 x.f1, .int .i64 x.f2, .slice B x.f3.length c2] 29)
  have bX := blk_new w (.cells #[.int .i64 x.f0, .int .i64 x.f1, .int .i64 x.f2, .slice B x.f3.length c2] 29)
  obtain ⟨W, hW⟩ : ∃ W, W = w.alloc (.cells #[.int .i64 x.f0, .int .i64 x.f1, .int .i64 x.f2, .slice B x.f3.length c2] 29) := ⟨_, rfl⟩
  have hWs : W.heap.size = w.heap.size + 1 := by rw [hW]; simp
  rw [← hW] at hb0 bX
  have HW := Aside0.mk hW
  have HX := Aside0.mk hb0
  have BX := Aside0.mk bX
  have HZ := Aside0.mk (below_then hz hz.size hb0)
  have HC0 := Aside0.mk (Kd.C_below hC hb0)
  have HR0 := Aside0.mk (Kd.R_below hR hb0)
  have HIX := Aside0.mk hx
  have HIQ := Aside0.mk hq
  have HF := Aside0.mk hf
  have HCL := Aside0.mk hcl
  have HR := Aside0.mk hR
  have hlt8 := textB_len x hfx
  have HFX := Aside0.mk hfx
  have p0 := (blk_cell bX 0).trans rfl
  have p1 := (blk_cell bX 1).trans rfl
  have p2 := (blk_cell bX 2).trans rfl
  have p3 := (blk_cell bX 3).trans rfl
  clear hW hb0 bX hz hC hR hx hq hf hcl hfx
  go_enter Tryd.func59, Tryd.ntmps59
  go_upto_region 1 with fail
  rw [← HW.out]
  go_wp2_with (go_at_call 88; refine (l2Text_any x HFX.out hcx B c2 _ (HIX.out.below HZ.out)).mono ?_; rintro e w2 ⟨rfl, hb2⟩; have HB2 := Aside0.mk hb2; clear hb2)
  clear p0 p1 p2 p3
  go_loopw [6] (fun vi wr => ∃ k : Nat, k ≤ l.length ∧ vi = .int .i64 k ∧ Aside0 (∀ y ∈ l.take k, ltE y x = true) ∧ Aside0 (Below W.heap.size W wr)) (fun vi _ => l.length - (intOf vi).toNat)
  case atStart => exact ⟨0, Nat.zero_le _, rfl, ⟨by simp⟩, HB2⟩
  case round =>
    obtain ⟨k, hk, rfl, HL, HB⟩ := hrel
    by_cases hlt : k < l.length
    · have g1 : decide (k < l.length) = true := decide_eq_true hlt
      have i1 : (k : Int) < l.length := by omega
      have hIL := C_read (below_then HZ.out HZ.out.size HB.out) hlc (Kd.C_below HC0.out HB.out)
      obtain ⟨ad, A2, c3, rfl, ha, hb, hc, hd, hIs⟩ := atE hIL k hlt
      have HFY := Aside0.mk (HF.out _ (getE_mem hlt))
      have hcy := HCL.out _ (getE_mem hlt)
      have HTS := Aside0.mk (take_snoc l k zE hlt)
      have HPA := Aside0.mk (putE_at (x := x) l k hk HL.out)
      generalize l.getD k zE = y at ha hb hc hd hIs HFY hcy HTS HPA
      have HIS := Aside0.mk hIs
      cases hm : ltE y x with
      | true =>
        have hm2 : Op.bytesLess (bs (textB y)).toList (bs (textB x)).toList = true := by rw [bs_list, bs_list]; exact hm
        have HS : Aside0 (∀ z ∈ l.take (k + 1), ltE z x = true) := ⟨by
          rw [HTS.out]; intro z hz
          rcases List.mem_append.1 hz with h | h
          · exact HL.out z h
          · simp at h; subst h; exact hm⟩
        clear hm hIs hIL
        go_wp2_with (go_at_call 88; refine (l2Text_any y HFY.out hcy A2 c3 _ HIS.out).mono ?_; rintro e w3 ⟨rfl, hb3⟩; have HB3 := Aside0.mk (below_then HB.out HB.out.size hb3); clear hb3)
        go_roundw
        case rel => exact ⟨k + 1, by omega, by go_num, HS, HB3⟩
        case measure => simp [intOf]; omega
      | false =>
        have hm2 : Op.bytesLess (bs (textB y)).toList (bs (textB x)).toList = false := by rw [bs_list, bs_list]; exact hm
        by_cases he : textB y = textB x
        · have hm3 : ((bs (textB y)).toList == (bs (textB x)).toList) = true := by rw [he]; simp
          have HE : Aside0 (putE l x = l) := ⟨by rw [HPA.out (fun _ => hm), if_pos ⟨hlt, he⟩]⟩
          clear hm he hIs hIL
          go_wp2_with (first
            | (go_at_call 88; refine (l2Text_any y HFY.out hcy A2 c3 _ (HIS.out.below HB3.out)).mono ?_; rintro e w4 ⟨rfl, hb4⟩; have HB4 := Aside0.mk (below_then HB3.out HB3.out.size hb4); clear hb4)
            | (go_at_call 88; refine (l2Text_any y HFY.out hcy A2 c3 _ HIS.out).mono ?_; rintro e w3 ⟨rfl, hb3⟩; have ha3 := pw_cell_below hb3 ha; have hb3' := pw_cell_below hb3 hb; have hc3 := pw_cell_below hb3 hc; have hd3 := pw_cell_below hb3 hd; have HB3 := Aside0.mk hb3; clear hb3))
          go_ret
          have hall := below_then HX.out HX.out.size (below_then HB.out HB.out.size HB4.out)
          exact ⟨_, rfl, by rw [HE.out]; exact Kd.R_below HR.out hall, grown_of_below2 hall _, fun _ h => .inr h.symm⟩
        · have hm3 : ((bs (textB y)).toList == (bs (textB x)).toList) = false := by rw [bs_list, bs_list]; simp [he]
          have HE : Aside0 (putE l x = l.take k ++ x :: l.drop k) := ⟨by rw [HPA.out (fun _ => hm), if_neg (fun h => he h.2)]⟩
          clear hm he hIs hIL
          go_upto_region 7 with (first
            | (go_at_call 88; refine (l2Text_any y HFY.out hcy A2 c3 _ (HIS.out.below HB3a.out)).mono ?_; rintro e W3 ⟨rfl, hb4⟩; have HB3 := Aside0.mk (below_then HB.out HB.out.size (below_then HB3a.out HB3a.out.size hb4)); clear hb4)
            | (go_at_call 88; refine (l2Text_any y HFY.out hcy A2 c3 _ HIS.out).mono ?_; rintro e w3 ⟨rfl, hb3⟩; have ha3 := pw_cell_below hb3 ha; have hb3' := pw_cell_below hb3 hb; have hc3 := pw_cell_below hb3 hc; have hd3 := pw_cell_below hb3 hd; have HB3a := Aside0.mk hb3; clear hb3))
          clear ha hb hc hd ha3 hb3' hc3 hd3 hm2 hm3 g1
          have hR3 := Kd.R_below HR0.out HB3.out
          have hC3 := Kd.C_below HC0.out HB3.out
          obtain ⟨A', hcut, hA'⟩ := cutE (some ad) l.length c k hk
          have htk := fun W => takeE (some ad) HH.out l.length c k (by omega) W
          have hld : (l.drop k).length = l.length - k := List.length_drop
          have hbs : base ≤ W3.heap.size := by have := HB3.out.size; omega
          go_upto_region 8 with ((with_reducible refine gate_dst (N := 43) rfl ?_); refine Kd.R_append_rows (kC Wz) (Rr := (kC Wz).K Wz) (w0 := W3.alloc (.cells #[] 29)) W3.heap.size rfl _ _ 26 29 (.agg #[.int .i64 0, .int .i64 0, .int .i64 0, .slice none 0 0]) 48 rfl Tryd.underlying26 (infoC Wz) rfl (kC_sz Wz) (by decide) (.slice (some ⟨W3.heap.size, 0, none⟩) 0 0) [] (l.drop k) A' (l.length - k) (c - k) (fun _ => True) (fun _ => False) rfl rfl (R_empty2 (blk_new _ _) (Nat.le_refl _) trivial) (C_drop (Kd.C_below hC3 (below_alloc (Below.refl _ _) _)) hlc hk hA') (fun _ _ h => h) (fun _ h => h.elim) (fun _ _ => trivial) (Below.refl _ _) (by simp) (by simp; omega) ?_; intro v6 w6 hr6 hb6 hg6 _; obtain ⟨A6, c6, rfl⟩ := Kd.R_slice hr6; simp only [List.nil_append] at hr6; rw [hld] at hr6; have HB6 : Aside0 (Below W3.heap.size W3 w6) := ⟨Below.grown (below_alloc (Below.refl _ _) _) hg6 (by simp) (fun j hj => by simp [Value.ownBlock] at hj; omega)⟩; have HR6t := Aside0.mk hr6; clear hr6 hg6 hb6)
          have hR6 := Kd.R_below hR3 HB6.out
          have HW6 := Aside0.mk (below_then HB3.out HB3.out.size HB6.out)
          clear hcut hA' hC3 hR3
          have F : ∀ w', Below w6.heap.size w6 w' → (fun w' => w'.cell? ⟨w.heap.size, 0, none⟩ = some (.int .i64 x.f0) ∧ w'.cell? ⟨w.heap.size, 1, none⟩ = some (.int .i64 x.f1) ∧ w'.cell? ⟨w.heap.size, 2, none⟩ = some (.int .i64 x.f2) ∧ w'.cell? ⟨w.heap.size, 3, none⟩ = some (.slice B x.f3.length c2)) w' := fun w' h =>
            have hh := blk_below (blk_below BX.out HW6.out) h
            ⟨(blk_cell hh 0).trans rfl, (blk_cell hh 1).trans rfl, (blk_cell hh 2).trans rfl, (blk_cell hh 3).trans rfl⟩
          have HB0 : Below w6.heap.size w6 w6.drew := below_drew (Below.refl _ _)
          refine Za.regionL (fun w' => w'.cell? ⟨w.heap.size, 0, none⟩ = some (.int .i64 x.f0) ∧ w'.cell? ⟨w.heap.size, 1, none⟩ = some (.int .i64 x.f1) ∧ w'.cell? ⟨w.heap.size, 2, none⟩ = some (.int .i64 x.f2) ∧ w'.cell? ⟨w.heap.size, 3, none⟩ = some (.slice B x.f3.length c2)) [] (by kernel_rfl) ?_
          have HS : (fun w' => w'.cell? ⟨w.heap.size, 0, none⟩ = some (.int .i64 x.f0) ∧ w'.cell? ⟨w.heap.size, 1, none⟩ = some (.int .i64 x.f1) ∧ w'.cell? ⟨w.heap.size, 2, none⟩ = some (.int .i64 x.f2) ∧ w'.cell? ⟨w.heap.size, 3, none⟩ = some (.slice B x.f3.length c2)) w6.drew := F _ HB0
          refine Za.takeL 0 (v := ?va0) rfl (by kernel_rfl) (by kernel_rfl) (by kernel_rfl) (by kernel_rfl) (fun _ _ _ h => h) (Or.inl ⟨by rfl, ?hya0⟩) HS ?resta0
          case hya0 => (intro w hSw; (try dsimp only at hSw); go_simp; try with_reducible rfl)
          (try simp only [Act.put, List.setIfInBounds_toArray, List.set_cons_zero, List.set_cons_succ])
          refine Za.takeL 1 (v := ?va1) rfl (by kernel_rfl) (by kernel_rfl) (by kernel_rfl) (by kernel_rfl) (fun _ _ _ h => h) (Or.inl ⟨by rfl, ?hya1⟩) HS ?resta1
          case hya1 => (intro w hSw; (try dsimp only at hSw); go_simp; try with_reducible rfl)
          (try simp only [Act.put, List.setIfInBounds_toArray, List.set_cons_zero, List.set_cons_succ])
          refine Za.takeL 2 (v := ?va2) rfl (by kernel_rfl) (by kernel_rfl) (by kernel_rfl) (by kernel_rfl) (fun _ _ _ h => h) (Or.inl ⟨by rfl, ?hya2⟩) HS ?resta2
          case hya2 => (intro w hSw; (try dsimp only at hSw); go_simp; try with_reducible rfl)
          (try simp only [Act.put, List.setIfInBounds_toArray, List.set_cons_zero, List.set_cons_succ])
          refine Za.takeL 3 (v := ?va3) rfl (by kernel_rfl) (by kernel_rfl) (by kernel_rfl) (by kernel_rfl) (fun _ _ _ h => h) (Or.inl ⟨by rfl, ?hya3⟩) HS ?resta3
          case hya3 => (intro w hSw; (try dsimp only at hSw); go_simp; try with_reducible rfl)
          (try simp only [Act.put, List.setIfInBounds_toArray, List.set_cons_zero, List.set_cons_succ])
          refine Za.takeL 6 (v := ?va6) rfl (by kernel_rfl) (by kernel_rfl) (by kernel_rfl) (by kernel_rfl) (fun _ _ _ h => h) (Or.inl ⟨by rfl, ?hya6⟩) HS ?resta6
          case hya6 => (intro w hSw; (try dsimp only at hSw); go_simp; try with_reducible rfl)
          (try simp only [Act.put, List.setIfInBounds_toArray, List.set_cons_zero, List.set_cons_succ])
          clear HS
          refine Za.nextL 4 (by kernel_rfl) rfl (fun K' hK => ?_)
          go_simp
          have hba : Below w6.heap.size w6 (w6.drew.alloc (.cells #[.int .i64 x.f0, .int .i64 x.f1, .int .i64 x.f2, .slice B x.f3.length c2] 29)) := below_then HB0 HB0.size (below_alloc (Below.refl w6.drew.heap.size w6.drew) (.cells #[.int .i64 x.f0, .int .i64 x.f1, .int .i64 x.f2, .slice B x.f3.length c2] 29))
          refine hK.out _ _ ⟨fun _ => F _ hba, ?_⟩
          clear hK K'
          (try simp only [Act.put, List.setIfInBounds_toArray, List.set_cons_zero, List.set_cons_succ])
          have hRt := Kd.R_take (Kd.R_below hR6 HB0) hk
          have hown : ∀ j, (Value.slice (some ad) k c).ownBlock = some j → j < w.heap.size := Kd.R_lt (Kd.R_take HR.out hk)
          have hownb : ∀ j, (Value.slice (some ad) k c).ownBlock = some j → base ≤ j := Kd.R_base hRt
          have hkl : (l.take k).length = k := by rw [List.length_take]; omega
          have hw6s : w.heap.size < w6.heap.size := Nat.lt_of_lt_of_le (Nat.lt_of_lt_of_le (blk_lt BX.out) HB3.out.size) HB6.out.size
          refine Za.nextL 5 (by kernel_rfl) rfl (fun K' hK => ?_)
          refine Kd.R_append_step (kC Wz) (w0 := w6.drew) (W := w6.drew) base (by rfl) _ _ 26 29 (.agg #[.int .i64 0, .int .i64 0, .int .i64 0, .slice none 0 0]) 48 rfl Tryd.underlying26 (infoC Wz) rfl (kC_sz Wz) (by decide) (.slice (some ad) k c) (l.take k) x [.int .i64 x.f0, .int .i64 x.f1, .int .i64 x.f2, .slice B x.f3.length c2] (fun _ => True) (fun _ => False) rfl rfl ⟨kE_mk x HIX.out.1 HIX.out.2, HIQ.out⟩ (fun _ h => h.elim) (fun _ _ => trivial) hRt (Below.refl _ _) (by show base ≤ w6.heap.size; omega) (by rw [hkl]; omega) ?_
          intro v8 w8 hr8 hb8 hg8 hat8
          obtain ⟨A8, c8, rfl⟩ := Kd.R_slice hr8
          have bx8 := blk_grown (blk_below (blk_below BX.out HW6.out) HB0) hg8 (fun h => by have := hown _ h.symm; omega)
          have F8 : (fun w' => w'.cell? ⟨w.heap.size, 0, none⟩ = some (.int .i64 x.f0) ∧ w'.cell? ⟨w.heap.size, 1, none⟩ = some (.int .i64 x.f1) ∧ w'.cell? ⟨w.heap.size, 2, none⟩ = some (.int .i64 x.f2) ∧ w'.cell? ⟨w.heap.size, 3, none⟩ = some (.slice B x.f3.length c2)) w8 := ⟨(blk_cell bx8 0).trans rfl, (blk_cell bx8 1).trans rfl, (blk_cell bx8 2).trans rfl, (blk_cell bx8 3).trans rfl⟩
          have hat8b : ∀ j, (Value.slice A8 (l.take k ++ [x]).length c8).ownBlock = some j → j ≠ w.heap.size ∧ base ≤ j := fun j hj => by
            rcases hat8 with h | ⟨b, h, h2⟩
            · rw [h] at hj; exact ⟨by have := hown j hj; omega, hownb j hj⟩
            · rw [h] at hj; injection hj with hj; subst hj
              have h3 : w6.heap.size ≤ b := h2
              exact ⟨by omega, by omega⟩
          have hr6b := Kd.R_grown (Kd.R_mono (Kd.R_bound (Kd.R_below HR6t.out HB0)) (ok' := fun j => W3.heap.size ≤ j) (fun j hj => hj.2.1)) hg8 (fun j hj h => by
            have h1 := hown j h.symm
            have h2 := HB3.out.size
            have h3 := blk_lt BX.out
            omega)
          have hC8 := (Kd.R_reads' hr6b).2.2
          have hB8 : w.grownBy w8 (Value.slice (some ad) l.length c).ownBlock := grown_new2 (grown_of_below2 (below_then HX.out HX.out.size (below_then HW6.out HW6.out.size HB0)) _) hg8 (fun _ h => .inr (h.symm.trans (ownb_len (some ad) k l.length c)))
          have hs8 : base ≤ w8.heap.size := Nat.le_trans hbase hB8.size
          have hat8c : ∀ j, (Value.slice A8 (l.take k ++ [x]).length c8).ownBlock = some j → w.heap.size ≤ j ∨ some j = (Value.slice (some ad) l.length c).ownBlock := fun j hj => by
            rcases hat8 with h | ⟨b, h, h2⟩
            · exact .inr (hj.symm.trans (h.trans (ownb_len (some ad) k l.length c)))
            · rw [h] at hj; injection hj with hj; subst hj
              have h3 : w6.heap.size ≤ b := h2
              exact .inl (by omega)
          refine hK.out _ _ ⟨fun _ => F8, ?_⟩
          clear hK K'
          (try simp only [Act.put, List.setIfInBounds_toArray, List.set_cons_zero, List.set_cons_succ])
          refine Za.nextL 7 (by kernel_rfl) rfl (fun K' hK => ?_)
          refine Kd.R_append_rows_step (kC Wz) (Rr := (kC Wz).K Wz) (w0 := w8) (W := w8) base (by rfl) _ _ 26 29 (.agg #[.int .i64 0, .int .i64 0, .int .i64 0, .slice none 0 0]) 48 rfl Tryd.underlying26 (infoC Wz) rfl (kC_sz Wz) (by decide) (.slice A8 (l.take k ++ [x]).length c8) (l.take k ++ [x]) (l.drop k) A6 (l.length - k) c6 (fun _ => True) (fun _ => False) rfl rfl hr8 (by rw [hld] at hC8; exact hC8) (fun _ _ h => h) (fun _ h => h.elim) (fun _ _ => trivial) (Below.refl _ _) hs8 (by rw [List.length_append, hkl]; simp; omega) ?_
          intro v9 w9 hr9 hb9 hg9 hat9
          obtain ⟨A9, c9, rfl⟩ := Kd.R_slice hr9
          have bx9 := blk_grown bx8 hg9 (fun h => (hat8b _ h.symm).1 rfl)
          have F9 : (fun w' => w'.cell? ⟨w.heap.size, 0, none⟩ = some (.int .i64 x.f0) ∧ w'.cell? ⟨w.heap.size, 1, none⟩ = some (.int .i64 x.f1) ∧ w'.cell? ⟨w.heap.size, 2, none⟩ = some (.int .i64 x.f2) ∧ w'.cell? ⟨w.heap.size, 3, none⟩ = some (.slice B x.f3.length c2)) w9 := ⟨(blk_cell bx9 0).trans rfl, (blk_cell bx9 1).trans rfl, (blk_cell bx9 2).trans rfl, (blk_cell bx9 3).trans rfl⟩
          have hB9 : w.grownBy w9 (Value.slice (some ad) l.length c).ownBlock := grown_new2 hB8 hg9 hat8c
          have hat9c : ∀ j, (Value.slice A9 (l.take k ++ [x] ++ l.drop k).length c9).ownBlock = some j → w.heap.size ≤ j ∨ some j = (Value.slice (some ad) l.length c).ownBlock := fun j hj => by
            rcases hat9 with h | ⟨b, h, h2⟩
            · exact hat8c j (h.symm.trans hj)
            · rw [h] at hj; injection hj with hj; subst hj
              have h3 : w8.heap.size ≤ b := h2
              exact .inl (Nat.le_trans hB8.size h3)
          have hE9 : l.take k ++ [x] ++ l.drop k = putE l x := by rw [HE.out]; simp
          refine hK.out _ _ ⟨fun _ => F9, ?_⟩
          clear hK K'
          (try simp only [Act.put, List.setIfInBounds_toArray, List.set_cons_zero, List.set_cons_succ])
          rw [hE9] at hr9 hat9c ⊢
          have HR9 := Aside0.mk hr9
          have HB9 := Aside0.mk hB9
          have HAT9 := Aside0.mk hat9c
          clear hr9 hB9 hat9c hat8c hat9 hg9 hb9 bx9 hC8 hr6b hat8b bx8 F8 hat8 hg8 hb8 hr8 hRt hown hownb
          refine Za.nextL 8 (by kernel_rfl) rfl (fun K' hK => ?_)
          go_simp
          refine hK.out _ _ ⟨fun _ => F9, ?_⟩
          clear hK K'
          (try simp only [Act.put, List.setIfInBounds_toArray, List.set_cons_zero, List.set_cons_succ])
          refine Za.Walk.done (by kernel_rfl) ?_
          go_wp2
          go_ret
          exact ⟨_, rfl, HR9.out, HB9.out, HAT9.out⟩
    · have hke : k = l.length := by omega
      have g1 : decide (k < l.length) = false := decide_eq_false hlt
      have HE : Aside0 (putE l x = l.take k ++ x :: l.drop k) := ⟨by rw [putE_at (x := x) l k hk HL.out (fun h => absurd h hlt), if_neg (fun h => hlt h.1)]⟩
      have HB3 := HB
      clear hke
      go_upto_region 7 with fail
      clear g1
      obtain ⟨W3, hW3⟩ : ∃ W3, W3 = wr := ⟨_, rfl⟩
      subst hW3
      have hR3 := Kd.R_below HR0.out HB3.out
      have hC3 := Kd.C_below HC0.out HB3.out
      obtain ⟨A', hcut, hA'⟩ := cutE A l.length c k hk
      have htk := fun W => takeE A HH.out l.length c k (by omega) W
      have hld : (l.drop k).length = l.length - k := List.length_drop
      have hbs : base ≤ W3.heap.size := by have := HB3.out.size; omega
      go_upto_region 8 with ((with_reducible refine gate_dst (N := 43) rfl ?_); refine Kd.R_append_rows (kC Wz) (Rr := (kC Wz).K Wz) (w0 := W3.alloc (.cells #[] 29)) W3.heap.size rfl _ _ 26 29 (.agg #[.int .i64 0, .int .i64 0, .int .i64 0, .slice none 0 0]) 48 rfl Tryd.underlying26 (infoC Wz) rfl (kC_sz Wz) (by decide) (.slice (some ⟨W3.heap.size, 0, none⟩) 0 0) [] (l.drop k) A' (l.length - k) (c - k) (fun _ => True) (fun _ => False) rfl rfl (R_empty2 (blk_new _ _) (Nat.le_refl _) trivial) (C_drop (Kd.C_below hC3 (below_alloc (Below.refl _ _) _)) hlc hk hA') (fun _ _ h => h) (fun _ h => h.elim) (fun _ _ => trivial) (Below.refl _ _) (by simp) (by simp; omega) ?_; intro v6 w6 hr6 hb6 hg6 _; obtain ⟨A6, c6, rfl⟩ := Kd.R_slice hr6; simp only [List.nil_append] at hr6; rw [hld] at hr6; have HB6 : Aside0 (Below W3.heap.size W3 w6) := ⟨Below.grown (below_alloc (Below.refl _ _) _) hg6 (by simp) (fun j hj => by simp [Value.ownBlock] at hj; omega)⟩; have HR6t := Aside0.mk hr6; clear hr6 hg6 hb6)
      have hR6 := Kd.R_below hR3 HB6.out
      have HW6 := Aside0.mk (below_then HB3.out HB3.out.size HB6.out)
      clear hcut hA' hC3 hR3
      have F : ∀ w', Below w6.heap.size w6 w' → (fun w' => w'.cell? ⟨w.heap.size, 0, none⟩ = some (.int .i64 x.f0) ∧ w'.cell? ⟨w.heap.size, 1, none⟩ = some (.int .i64 x.f1) ∧ w'.cell? ⟨w.heap.size, 2, none⟩ = some (.int .i64 x.f2) ∧ w'.cell? ⟨w.heap.size, 3, none⟩ = some (.slice B x.f3.length c2)) w' := fun w' h =>
        have hh := blk_below (blk_below BX.out HW6.out) h
        ⟨(blk_cell hh 0).trans rfl, (blk_cell hh 1).trans rfl, (blk_cell hh 2).trans rfl, (blk_cell hh 3).trans rfl⟩
      have HB0 : Below w6.heap.size w6 w6.drew := below_drew (Below.refl _ _)
      refine Za.regionL (fun w' => w'.cell? ⟨w.heap.size, 0, none⟩ = some (.int .i64 x.f0) ∧ w'.cell? ⟨w.heap.size, 1, none⟩ = some (.int .i64 x.f1) ∧ w'.cell? ⟨w.heap.size, 2, none⟩ = some (.int .i64 x.f2) ∧ w'.cell? ⟨w.heap.size, 3, none⟩ = some (.slice B x.f3.length c2)) [] (by kernel_rfl) ?_
      have HS : (fun w' => w'.cell? ⟨w.heap.size, 0, none⟩ = some (.int .i64 x.f0) ∧ w'.cell? ⟨w.heap.size, 1, none⟩ = some (.int .i64 x.f1) ∧ w'.cell? ⟨w.heap.size, 2, none⟩ = some (.int .i64 x.f2) ∧ w'.cell? ⟨w.heap.size, 3, none⟩ = some (.slice B x.f3.length c2)) w6.drew := F _ HB0
      refine Za.takeL 0 (v := ?vb0) rfl (by kernel_rfl) (by kernel_rfl) (by kernel_rfl) (by kernel_rfl) (fun _ _ _ h => h) (Or.inl ⟨by rfl, ?hyb0⟩) HS ?restb0
      case hyb0 => (intro w hSw; (try dsimp only at hSw); go_simp; try with_reducible rfl)
      (try simp only [Act.put, List.setIfInBounds_toArray, List.set_cons_zero, List.set_cons_succ])
      refine Za.takeL 1 (v := ?vb1) rfl (by kernel_rfl) (by kernel_rfl) (by kernel_rfl) (by kernel_rfl) (fun _ _ _ h => h) (Or.inl ⟨by rfl, ?hyb1⟩) HS ?restb1
      case hyb1 => (intro w hSw; (try dsimp only at hSw); go_simp; try with_reducible rfl)
      (try simp only [Act.put, List.setIfInBounds_toArray, List.set_cons_zero, List.set_cons_succ])
      refine Za.takeL 2 (v := ?vb2) rfl (by kernel_rfl) (by kernel_rfl) (by kernel_rfl) (by kernel_rfl) (fun _ _ _ h => h) (Or.inl ⟨by rfl, ?hyb2⟩) HS ?restb2
      case hyb2 => (intro w hSw; (try dsimp only at hSw); go_simp; try with_reducible rfl)
      (try simp only [Act.put, List.setIfInBounds_toArray, List.set_cons_zero, List.set_cons_succ])
      refine Za.takeL 3 (v := ?vb3) rfl (by kernel_rfl) (by kernel_rfl) (by kernel_rfl) (by kernel_rfl) (fun _ _ _ h => h) (Or.inl ⟨by rfl, ?hyb3⟩) HS ?restb3
      case hyb3 => (intro w hSw; (try dsimp only at hSw); go_simp; try with_reducible rfl)
      (try simp only [Act.put, List.setIfInBounds_toArray, List.set_cons_zero, List.set_cons_succ])
      refine Za.takeL 6 (v := ?vb6) rfl (by kernel_rfl) (by kernel_rfl) (by kernel_rfl) (by kernel_rfl) (fun _ _ _ h => h) (Or.inl ⟨by rfl, ?hyb6⟩) HS ?restb6
      case hyb6 => (intro w hSw; (try dsimp only at hSw); go_simp; try with_reducible rfl)
      (try simp only [Act.put, List.setIfInBounds_toArray, List.set_cons_zero, List.set_cons_succ])
      clear HS
      refine Za.nextL 4 (by kernel_rfl) rfl (fun K' hK => ?_)
      go_simp
      have hba : Below w6.heap.size w6 (w6.drew.alloc (.cells #[.int .i64 x.f0, .int .i64 x.f1, .int .i64 x.f2, .slice B x.f3.length c2] 29)) := below_then HB0 HB0.size (below_alloc (Below.refl w6.drew.heap.size w6.drew) (.cells #[.int .i64 x.f0, .int .i64 x.f1, .int .i64 x.f2, .slice B x.f3.length c2] 29))
      refine hK.out _ _ ⟨fun _ => F _ hba, ?_⟩
      clear hK K'
      (try simp only [Act.put, List.setIfInBounds_toArray, List.set_cons_zero, List.set_cons_succ])
      have hRt := Kd.R_take (Kd.R_below hR6 HB0) hk
      have hown : ∀ j, (Value.slice A k c).ownBlock = some j → j < w.heap.size := Kd.R_lt (Kd.R_take HR.out hk)
      have hownb : ∀ j, (Value.slice A k c).ownBlock = some j → base ≤ j := Kd.R_base hRt
      have hkl : (l.take k).length = k := by rw [List.length_take]; omega
      have hw6s : w.heap.size < w6.heap.size := Nat.lt_of_lt_of_le (Nat.lt_of_lt_of_le (blk_lt BX.out) HB3.out.size) HB6.out.size
      refine Za.nextL 5 (by kernel_rfl) rfl (fun K' hK => ?_)
      refine Kd.R_append_step (kC Wz) (w0 := w6.drew) (W := w6.drew) base (by rfl) _ _ 26 29 (.agg #[.int .i64 0, .int .i64 0, .int .i64 0, .slice none 0 0]) 48 rfl Tryd.underlying26 (infoC Wz) rfl (kC_sz Wz) (by decide) (.slice A k c) (l.take k) x [.int .i64 x.f0, .int .i64 x.f1, .int .i64 x.f2, .slice B x.f3.length c2] (fun _ => True) (fun _ => False) rfl rfl ⟨kE_mk x HIX.out.1 HIX.out.2, HIQ.out⟩ (fun _ h => h.elim) (fun _ _ => trivial) hRt (Below.refl _ _) (by show base ≤ w6.heap.size; omega) (by rw [hkl]; omega) ?_
      intro v8 w8 hr8 hb8 hg8 hat8
      obtain ⟨A8, c8, rfl⟩ := Kd.R_slice hr8
      have bx8 := blk_grown (blk_below (blk_below BX.out HW6.out) HB0) hg8 (fun h => by have := hown _ h.symm; omega)
      have F8 : (fun w' => w'.cell? ⟨w.heap.size, 0, none⟩ = some (.int .i64 x.f0) ∧ w'.cell? ⟨w.heap.size, 1, none⟩ = some (.int .i64 x.f1) ∧ w'.cell? ⟨w.heap.size, 2, none⟩ = some (.int .i64 x.f2) ∧ w'.cell? ⟨w.heap.size, 3, none⟩ = some (.slice B x.f3.length c2)) w8 := ⟨(blk_cell bx8 0).trans rfl, (blk_cell bx8 1).trans rfl, (blk_cell bx8 2).trans rfl, (blk_cell bx8 3).trans rfl⟩
      have hat8b : ∀ j, (Value.slice A8 (l.take k ++ [x]).length c8).ownBlock = some j → j ≠ w.heap.size ∧ base ≤ j := fun j hj => by
        rcases hat8 with h | ⟨b, h, h2⟩
        · rw [h] at hj; exact ⟨by have := hown j hj; omega, hownb j hj⟩
        · rw [h] at hj; injection hj with hj; subst hj
          have h3 : w6.heap.size ≤ b := h2
          exact ⟨by omega, by omega⟩
      have hr6b := Kd.R_grown (Kd.R_mono (Kd.R_bound (Kd.R_below HR6t.out HB0)) (ok' := fun j => W3.heap.size ≤ j) (fun j hj => hj.2.1)) hg8 (fun j hj h => by
        have h1 := hown j h.symm
        have h2 := HB3.out.size
        have h3 := blk_lt BX.out
        omega)
      have hC8 := (Kd.R_reads' hr6b).2.2
      have hB8 : w.grownBy w8 (Value.slice A l.length c).ownBlock := grown_new2 (grown_of_below2 (below_then HX.out HX.out.size (below_then HW6.out HW6.out.size HB0)) _) hg8 (fun _ h => .inr (h.symm.trans (ownb_len A k l.length c)))
      have hs8 : base ≤ w8.heap.size := Nat.le_trans hbase hB8.size
      have hat8c : ∀ j, (Value.slice A8 (l.take k ++ [x]).length c8).ownBlock = some j → w.heap.size ≤ j ∨ some j = (Value.slice A l.length c).ownBlock := fun j hj => by
        rcases hat8 with h | ⟨b, h, h2⟩
        · exact .inr (hj.symm.trans (h.trans (ownb_len A k l.length c)))
        · rw [h] at hj; injection hj with hj; subst hj
          have h3 : w6.heap.size ≤ b := h2
          exact .inl (by omega)
      refine hK.out _ _ ⟨fun _ => F8, ?_⟩
      clear hK K'
      (try simp only [Act.put, List.setIfInBounds_toArray, List.set_cons_zero, List.set_cons_succ])
      refine Za.nextL 7 (by kernel_rfl) rfl (fun K' hK => ?_)
      refine Kd.R_append_rows_step (kC Wz) (Rr := (kC Wz).K Wz) (w0 := w8) (W := w8) base (by rfl) _ _ 26 29 (.agg #[.int .i64 0, .int .i64 0, .int .i64 0, .slice none 0 0]) 48 rfl Tryd.underlying26 (infoC Wz) rfl (kC_sz Wz) (by decide) (.slice A8 (l.take k ++ [x]).length c8) (l.take k ++ [x]) (l.drop k) A6 (l.length - k) c6 (fun _ => True) (fun _ => False) rfl rfl hr8 (by rw [hld] at hC8; exact hC8) (fun _ _ h => h) (fun _ h => h.elim) (fun _ _ => trivial) (Below.refl _ _) hs8 (by rw [List.length_append, hkl]; simp; omega) ?_
      intro v9 w9 hr9 hb9 hg9 hat9
      obtain ⟨A9, c9, rfl⟩ := Kd.R_slice hr9
      have bx9 := blk_grown bx8 hg9 (fun h => (hat8b _ h.symm).1 rfl)
      have F9 : (fun w' => w'.cell? ⟨w.heap.size, 0, none⟩ = some (.int .i64 x.f0) ∧ w'.cell? ⟨w.heap.size, 1, none⟩ = some (.int .i64 x.f1) ∧ w'.cell? ⟨w.heap.size, 2, none⟩ = some (.int .i64 x.f2) ∧ w'.cell? ⟨w.heap.size, 3, none⟩ = some (.slice B x.f3.length c2)) w9 := ⟨(blk_cell bx9 0).trans rfl, (blk_cell bx9 1).trans rfl, (blk_cell bx9 2).trans rfl, (blk_cell bx9 3).trans rfl⟩
      have hB9 : w.grownBy w9 (Value.slice A l.length c).ownBlock := grown_new2 hB8 hg9 hat8c
      have hat9c : ∀ j, (Value.slice A9 (l.take k ++ [x] ++ l.drop k).length c9).ownBlock = some j → w.heap.size ≤ j ∨ some j = (Value.slice A l.length c).ownBlock := fun j hj => by
        rcases hat9 with h | ⟨b, h, h2⟩
        · exact hat8c j (h.symm.trans hj)
        · rw [h] at hj; injection hj with hj; subst hj
          have h3 : w8.heap.size ≤ b := h2
          exact .inl (Nat.le_trans hB8.size h3)
      have hE9 : l.take k ++ [x] ++ l.drop k = putE l x := by rw [HE.out]; simp
      refine hK.out _ _ ⟨fun _ => F9, ?_⟩
      clear hK K'
      (try simp only [Act.put, List.setIfInBounds_toArray, List.set_cons_zero, List.set_cons_succ])
      rw [hE9] at hr9 hat9c ⊢
      have HR9 := Aside0.mk hr9
      have HB9 := Aside0.mk hB9
      have HAT9 := Aside0.mk hat9c
      clear hr9 hB9 hat9c hat8c hat9 hg9 hb9 bx9 hC8 hr6b hat8b bx8 F8 hat8 hg8 hb8 hr8 hRt hown hownb
      refine Za.nextL 8 (by kernel_rfl) rfl (fun K' hK => ?_)
      go_simp
      refine hK.out _ _ ⟨fun _ => F9, ?_⟩
      clear hK K'
      (try simp only [Act.put, List.setIfInBounds_toArray, List.set_cons_zero, List.set_cons_succ])
      refine Za.Walk.done (by kernel_rfl) ?_
      go_wp2
      go_ret
      exact ⟨_, rfl, HR9.out, HB9.out, HAT9.out⟩
end Go.Proofs.YtbbdkhffacoglaaDoor.Nn

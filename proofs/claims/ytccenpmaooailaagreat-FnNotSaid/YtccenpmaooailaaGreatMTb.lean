
/- Spans: what is right, what is the same, both sides. -/
import Derived.Test.YtccenpmaooailaaGreatMB7
import Derived.Test.YtccenpmaooailaaGreatMB6
import Derived.Test.YtccenpmaooailaaGreatMTa
import Derived.Test.YtccenpmaooailaaGreatMDe
set_option linter.unusedVariables false
set_option linter.unusedSimpArgs false
namespace Go.Proofs.YtccenpmaooailaaGreat.Tb
open Go.RowKit Go.Proofs.YtccenpmaooailaaGreatW.PrintWords Go.Proofs.YtccenpmaooailaaGreat.Wd Go.Proofs.YtccenpmaooailaaGreat.Pu Go.Proofs.YtccenpmaooailaaGreat.Pv Go.Proofs.YtccenpmaooailaaGreat.Ca Go.Proofs.YtccenpmaooailaaGreat.Cb Go.Proofs.YtccenpmaooailaaGreat.Cc Go.Proofs.YtccenpmaooailaaGreat.Cp Go.Proofs.YtccenpmaooailaaGreat.Cd Go.Proofs.YtccenpmaooailaaGreat.Ci Go.Proofs.YtccenpmaooailaaGreat.Ce Go.Proofs.YtccenpmaooailaaGreat.Cf Go.Proofs.YtccenpmaooailaaGreat.Cg Go.Proofs.YtccenpmaooailaaGreat.Sc Go.Proofs.YtccenpmaooailaaGreat.Se Go.Proofs.YtccenpmaooailaaGreat.Sh Go.Proofs.YtccenpmaooailaaGreat.Si Go.Proofs.YtccenpmaooailaaGreat.Sp Go.Proofs.YtccenpmaooailaaGreat.Ia Go.Proofs.YtccenpmaooailaaGreat.Ib Go.Proofs.YtccenpmaooailaaGreat.Ic Go.Proofs.YtccenpmaooailaaGreat.Id Go.Proofs.YtccenpmaooailaaGreat.Ie Go.Proofs.YtccenpmaooailaaGreat.If Go.Proofs.YtccenpmaooailaaGreat.Ig Go.Proofs.YtccenpmaooailaaGreat.Ih Go.Proofs.YtccenpmaooailaaGreat.Ij Go.Proofs.YtccenpmaooailaaGreat.Ik Go.Proofs.YtccenpmaooailaaGreat.Ra Go.Proofs.YtccenpmaooailaaGreat.Rb Go.Proofs.YtccenpmaooailaaGreat.Rc Go.Proofs.YtccenpmaooailaaGreat.Rd Go.Proofs.YtccenpmaooailaaGreat.Re Go.Proofs.YtccenpmaooailaaGreat.Sj Go.Proofs.YtccenpmaooailaaGreat.Ya Go.Proofs.YtccenpmaooailaaGreat.Yd Go.Proofs.YtccenpmaooailaaGreat.Yf Go.Proofs.YtccenpmaooailaaGreat.Yg Go.Proofs.YtccenpmaooailaaGreat.Ih Go.Proofs.YtccenpmaooailaaGreat.Yh Go.Proofs.YtccenpmaooailaaGreat.Yi Go.Proofs.YtccenpmaooailaaGreat.Sg Go.Proofs.YtccenpmaooailaaGreat.Sf Go.Proofs.YtccenpmaooailaaGreat.Yj Go.Proofs.YtccenpmaooailaaGreat.Ig Go.Proofs.YtccenpmaooailaaGreat.Yk Go.Proofs.YtccenpmaooailaaGreat.Ik Go.Proofs.YtccenpmaooailaaGreat.Yl Go.Proofs.YtccenpmaooailaaGreat.Ij Go.Proofs.YtccenpmaooailaaGreat.Ym Go.Proofs.YtccenpmaooailaaGreat.Il Go.Proofs.YtccenpmaooailaaGreat.Yn Go.Proofs.YtccenpmaooailaaGreat.Yo Go.Proofs.YtccenpmaooailaaGreat.In Go.Proofs.YtccenpmaooailaaGreat.Yq Go.Proofs.YtccenpmaooailaaGreat.Pw Go.Proofs.YtccenpmaooailaaGreat.Px Go.Proofs.YtccenpmaooailaaGreat.La Go.Proofs.YtccenpmaooailaaGreat.Db Go.Proofs.YtccenpmaooailaaGreat.Ta Go.Proofs.YtccenpmaooailaaGreat.De Go.Proofs.YtccenpmaooailaaGreat.Sh

def fits5 (mode : Int) (l r a b c : List Occ) : Bool := (((inb mode 0 4 && (okOs l && okOs r)) && okOs a) && okOs b) && okOs c

set_option maxRecDepth 100000 in
theorem spanOk_any (A B : Option Addr) (ca cb : Nat) (l r : List Occ) (w : World) (hL : IsL w l A ca) (hR : IsL w r B cb) :
    Calls Tryz.prog 19 #[.agg #[.slice A l.length ca, .slice B r.length cb]] w fun e w' => e = .returned (.bool (okOs l && okOs r)) ∧ Below w.heap.size w w' := by
  have hb0 := below_alloc (Below.refl w.heap.size w) (.cells #[.slice A l.length ca, .slice B r.length cb] 25)
  have bP := blk_new w (.cells #[.slice A l.length ca, .slice B r.length cb] 25)
  have h1 := occsOk_any A ca l _ (hL.below hb0).rd
  have h2 := fun (w2 : World) (h : Below w.heap.size w w2) => occsOk_any B cb r w2 (hR.below h).rd
  cases h : okOs l with
  | false =>
    rw [h] at h1
    clear h
    go_enter Tryz.func19, Tryz.ntmps19
    go_wp2_with (go_at_call 57; refine h1.mono ?_; rintro e w2 ⟨rfl, hb⟩; have HB := Aside0.mk (below_then hb0 hb0.size hb))
    go_ret
    exact ⟨rfl, HB.out⟩
  | true =>
    rw [h] at h1
    clear h
    go_enter Tryz.func19, Tryz.ntmps19
    go_wp2_with (first
      | (go_at_call 57; refine (h2 _ HB.out).mono ?_; rintro e w3 ⟨rfl, hb3⟩; have HB3 := Aside0.mk (below_then HB.out HB.out.size hb3))
      | (go_at_call 57; refine h1.mono ?_; rintro e w2 ⟨rfl, hb⟩; have HB := Aside0.mk (below_then hb0 hb0.size hb); have b2 := blk_below bP hb; have q1 := (blk_cell b2 1).trans rfl))
    go_ret
    exact ⟨ret_bool (by simp), HB3.out⟩

set_option maxRecDepth 100000 in
theorem sSpanOk_any (A B : Option Addr) (ca cb : Nat) (l r : List Occ) (w : World) (hL : IsL w l A ca) (hR : IsL w r B cb) :
    Calls Tryz.prog 20 #[.agg #[.slice A l.length ca, .slice B r.length cb]] w fun e w' => e = .returned (.bool (okOs l && okOs r)) ∧ Below w.heap.size w w' := by
  have hb0 := below_alloc (Below.refl w.heap.size w) (.cells #[.slice A l.length ca, .slice B r.length cb] 25)
  have bP := blk_new w (.cells #[.slice A l.length ca, .slice B r.length cb] 25)
  have h1 := sOccsOk_any A ca l _ (hL.below hb0).rd
  have h2 := fun (w2 : World) (h : Below w.heap.size w w2) => sOccsOk_any B cb r w2 (hR.below h).rd
  cases h : okOs l with
  | false =>
    rw [h] at h1
    clear h
    go_enter Tryz.func20, Tryz.ntmps20
    go_wp2_with (go_at_call 21; refine h1.mono ?_; rintro e w2 ⟨rfl, hb⟩; have HB := Aside0.mk (below_then hb0 hb0.size hb))
    go_ret
    exact ⟨rfl, HB.out⟩
  | true =>
    rw [h] at h1
    clear h
    go_enter Tryz.func20, Tryz.ntmps20
    go_wp2_with (first
      | (go_at_call 21; refine (h2 _ HB.out).mono ?_; rintro e w3 ⟨rfl, hb3⟩; have HB3 := Aside0.mk (below_then HB.out HB.out.size hb3))
      | (go_at_call 21; refine h1.mono ?_; rintro e w2 ⟨rfl, hb⟩; have HB := Aside0.mk (below_then hb0 hb0.size hb); have b2 := blk_below bP hb; have q1 := (blk_cell b2 1).trans rfl))
    go_ret
    exact ⟨ret_bool (by simp), HB3.out⟩

set_option maxRecDepth 100000 in
theorem spanFits_any (mode : Int) (A B C D E : Option Addr) (ca cb cc cd ce : Nat) (l r a b c : List Occ) (w : World) (hL : IsL w l A ca) (hR : IsL w r B cb) (hE : IsL w a C cc) (hI : IsL w b D cd) (hK : IsL w c E ce) :
    Calls Tryz.prog 43 #[.int .i64 mode, .agg #[.slice A l.length ca, .slice B r.length cb], .slice C a.length cc, .slice D b.length cd, .slice E c.length ce] w fun e w' => e = .returned (.bool (fits5 mode l r a b c)) ∧ Below w.heap.size w w' := by
  have hb0 := below_alloc (Below.refl w.heap.size w) (.cells #[.slice A l.length ca, .slice B r.length cb] 25)
  have h0 := fun w2 => isMode_any mode w2
  have h1 := spanOk_any A B ca cb l r _ (hL.below hb0) (hR.below hb0)
  have h2 := fun (w2 : World) (h : Below w.heap.size w w2) => occsOk_any C cc a w2 (hE.below h).rd
  have h3 := fun (w2 : World) (h : Below w.heap.size w w2) => occsOk_any D cd b w2 (hI.below h).rd
  have h4 := fun (w2 : World) (h : Below w.heap.size w w2) => occsOk_any E ce c w2 (hK.below h).rd
  have bP := blk_new w (.cells #[.slice A l.length ca, .slice B r.length cb] 25)
  have p0 := (blk_cell bP 0).trans rfl
  have p1 := (blk_cell bP 1).trans rfl
  unfold fits5
  cases q0 : inb mode 0 4 with
  | false =>
    simp only [q0] at h0
    clear q0
    go_enter Tryz.func43, Tryz.ntmps43
    go_wp2_with (first | (go_at_call 82; refine (h0 _).mono ?_; rintro e w2 ⟨rfl, rfl⟩))
    go_ret
    exact ⟨rfl, hb0⟩
  | true =>
    simp only [q0] at h0
    clear q0
    cases q1 : (okOs l && okOs r) with
    | false =>
      rw [q1] at h1
      clear q1
      go_enter Tryz.func43, Tryz.ntmps43
      go_wp2_with (first | (go_at_call 19; refine h1.mono ?_; rintro e w2 ⟨rfl, hb⟩; have HB := Aside0.mk (below_then hb0 hb0.size hb)) | (go_at_call 82; refine (h0 _).mono ?_; rintro e w2 ⟨rfl, rfl⟩))
      go_ret
      exact ⟨rfl, HB.out⟩
    | true =>
      rw [q1] at h1
      clear q1
      cases q2 : okOs a with
      | false =>
        simp only [q2] at h2
        clear q2
        go_enter Tryz.func43, Tryz.ntmps43
        go_wp2_with (first | (go_at_call 57; refine (h2 _ HB.out).mono ?_; rintro e w3 ⟨rfl, hb3⟩; have HB3 := Aside0.mk (below_then HB.out HB.out.size hb3)) | (go_at_call 19; refine h1.mono ?_; rintro e w2 ⟨rfl, hb⟩; have HB := Aside0.mk (below_then hb0 hb0.size hb)) | (go_at_call 82; refine (h0 _).mono ?_; rintro e w2 ⟨rfl, rfl⟩))
        go_ret
        exact ⟨rfl, HB3.out⟩
      | true =>
        simp only [q2] at h2
        clear q2
        cases q3 : okOs b with
        | false =>
          simp only [q3] at h3
          clear q3
          go_enter Tryz.func43, Tryz.ntmps43
          go_wp2_with (first | (go_at_call 57; refine (h3 _ HB3.out).mono ?_; rintro e w4 ⟨rfl, hb4⟩; have HB4 := Aside0.mk (below_then HB3.out HB3.out.size hb4)) | (go_at_call 57; refine (h2 _ HB.out).mono ?_; rintro e w3 ⟨rfl, hb3⟩; have HB3 := Aside0.mk (below_then HB.out HB.out.size hb3)) | (go_at_call 19; refine h1.mono ?_; rintro e w2 ⟨rfl, hb⟩; have HB := Aside0.mk (below_then hb0 hb0.size hb)) | (go_at_call 82; refine (h0 _).mono ?_; rintro e w2 ⟨rfl, rfl⟩))
          go_ret
          exact ⟨rfl, HB4.out⟩
        | true =>
          simp only [q3] at h3
          clear q3
          go_enter Tryz.func43, Tryz.ntmps43
          go_wp2_with (first | (go_at_call 57; refine (h4 _ HB4.out).mono ?_; rintro e w5 ⟨rfl, hb5⟩; have HB5 := Aside0.mk (below_then HB4.out HB4.out.size hb5)) | (go_at_call 57; refine (h3 _ HB3.out).mono ?_; rintro e w4 ⟨rfl, hb4⟩; have HB4 := Aside0.mk (below_then HB3.out HB3.out.size hb4)) | (go_at_call 57; refine (h2 _ HB.out).mono ?_; rintro e w3 ⟨rfl, hb3⟩; have HB3 := Aside0.mk (below_then HB.out HB.out.size hb3)) | (go_at_call 19; refine h1.mono ?_; rintro e w2 ⟨rfl, hb⟩; have HB := Aside0.mk (below_then hb0 hb0.size hb)) | (go_at_call 82; refine (h0 _).mono ?_; rintro e w2 ⟨rfl, rfl⟩))
          go_ret
          exact ⟨ret_bool (by simp), HB5.out⟩

set_option maxRecDepth 100000 in
theorem sSpanFits_any (mode : Int) (A B C D E : Option Addr) (ca cb cc cd ce : Nat) (l r a b c : List Occ) (w : World) (hL : IsL w l A ca) (hR : IsL w r B cb) (hE : IsL w a C cc) (hI : IsL w b D cd) (hK : IsL w c E ce) :
    Calls Tryz.prog 47 #[.int .i64 mode, .agg #[.slice A l.length ca, .slice B r.length cb], .slice C a.length cc, .slice D b.length cd, .slice E c.length ce] w fun e w' => e = .returned (.bool (fits5 mode l r a b c)) ∧ Below w.heap.size w w' := by
  have hb0 := below_alloc (Below.refl w.heap.size w) (.cells #[.slice A l.length ca, .slice B r.length cb] 25)
  have h0 := fun w2 => sMode_any mode w2
  have h1 := sSpanOk_any A B ca cb l r _ (hL.below hb0) (hR.below hb0)
  have h2 := fun (w2 : World) (h : Below w.heap.size w w2) => sOccsOk_any C cc a w2 (hE.below h).rd
  have h3 := fun (w2 : World) (h : Below w.heap.size w w2) => sOccsOk_any D cd b w2 (hI.below h).rd
  have h4 := fun (w2 : World) (h : Below w.heap.size w w2) => sOccsOk_any E ce c w2 (hK.below h).rd
  have bP := blk_new w (.cells #[.slice A l.length ca, .slice B r.length cb] 25)
  have p0 := (blk_cell bP 0).trans rfl
  have p1 := (blk_cell bP 1).trans rfl
  unfold fits5
  cases q0 : inb mode 0 4 with
  | false =>
    simp only [q0] at h0
    clear q0
    go_enter Tryz.func47, Tryz.ntmps47
    go_wp2_with (first | (go_at_call 87; refine (h0 _).mono ?_; rintro e w2 ⟨rfl, rfl⟩))
    go_ret
    exact ⟨rfl, hb0⟩
  | true =>
    simp only [q0] at h0
    clear q0
    cases q1 : (okOs l && okOs r) with
    | false =>
      rw [q1] at h1
      clear q1
      go_enter Tryz.func47, Tryz.ntmps47
      go_wp2_with (first | (go_at_call 20; refine h1.mono ?_; rintro e w2 ⟨rfl, hb⟩; have HB := Aside0.mk (below_then hb0 hb0.size hb)) | (go_at_call 87; refine (h0 _).mono ?_; rintro e w2 ⟨rfl, rfl⟩))
      go_ret
      exact ⟨rfl, HB.out⟩
    | true =>
      rw [q1] at h1
      clear q1
      cases q2 : okOs a with
      | false =>
        simp only [q2] at h2
        clear q2
        go_enter Tryz.func47, Tryz.ntmps47
        go_wp2_with (first | (go_at_call 21; refine (h2 _ HB.out).mono ?_; rintro e w3 ⟨rfl, hb3⟩; have HB3 := Aside0.mk (below_then HB.out HB.out.size hb3)) | (go_at_call 20; refine h1.mono ?_; rintro e w2 ⟨rfl, hb⟩; have HB := Aside0.mk (below_then hb0 hb0.size hb)) | (go_at_call 87; refine (h0 _).mono ?_; rintro e w2 ⟨rfl, rfl⟩))
        go_ret
        exact ⟨rfl, HB3.out⟩
      | true =>
        simp only [q2] at h2
        clear q2
        cases q3 : okOs b with
        | false =>
          simp only [q3] at h3
          clear q3
          go_enter Tryz.func47, Tryz.ntmps47
          go_wp2_with (first | (go_at_call 21; refine (h3 _ HB3.out).mono ?_; rintro e w4 ⟨rfl, hb4⟩; have HB4 := Aside0.mk (below_then HB3.out HB3.out.size hb4)) | (go_at_call 21; refine (h2 _ HB.out).mono ?_; rintro e w3 ⟨rfl, hb3⟩; have HB3 := Aside0.mk (below_then HB.out HB.out.size hb3)) | (go_at_call 20; refine h1.mono ?_; rintro e w2 ⟨rfl, hb⟩; have HB := Aside0.mk (below_then hb0 hb0.size hb)) | (go_at_call 87; refine (h0 _).mono ?_; rintro e w2 ⟨rfl, rfl⟩))
          go_ret
          exact ⟨rfl, HB4.out⟩
        | true =>
          simp only [q3] at h3
          clear q3
          go_enter Tryz.func47, Tryz.ntmps47
          go_wp2_with (first | (go_at_call 21; refine (h4 _ HB4.out).mono ?_; rintro e w5 ⟨rfl, hb5⟩; have HB5 := Aside0.mk (below_then HB4.out HB4.out.size hb5)) | (go_at_call 21; refine (h3 _ HB3.out).mono ?_; rintro e w4 ⟨rfl, hb4⟩; have HB4 := Aside0.mk (below_then HB3.out HB3.out.size hb4)) | (go_at_call 21; refine (h2 _ HB.out).mono ?_; rintro e w3 ⟨rfl, hb3⟩; have HB3 := Aside0.mk (below_then HB.out HB.out.size hb3)) | (go_at_call 20; refine h1.mono ?_; rintro e w2 ⟨rfl, hb⟩; have HB := Aside0.mk (below_then hb0 hb0.size hb)) | (go_at_call 87; refine (h0 _).mono ?_; rintro e w2 ⟨rfl, rfl⟩))
          go_ret
          exact ⟨ret_bool (by simp), HB5.out⟩
end Go.Proofs.YtccenpmaooailaaGreat.Tb

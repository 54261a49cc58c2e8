
/- Spans: what is right, what is the same, both sides. -/
import Derived.Test.YtccenpmaooailaaNB7
import Derived.Test.YtccenpmaooailaaNB6
import Derived.Test.YtccenpmaooailaaNTa
import Derived.Test.YtccenpmaooailaaNDe
set_option linter.unusedVariables false
set_option linter.unusedSimpArgs false
namespace Go.Proofs.Ytccenpmaooailaa.Tb
open Go.RowKit Go.Proofs.YtccenpmaooailaaW.PrintWords Go.Proofs.Ytccenpmaooailaa.Wd Go.Proofs.Ytccenpmaooailaa.Pu Go.Proofs.Ytccenpmaooailaa.Pv Go.Proofs.Ytccenpmaooailaa.Ca Go.Proofs.Ytccenpmaooailaa.Cb Go.Proofs.Ytccenpmaooailaa.Cc Go.Proofs.Ytccenpmaooailaa.Cp Go.Proofs.Ytccenpmaooailaa.Cd Go.Proofs.Ytccenpmaooailaa.Ci Go.Proofs.Ytccenpmaooailaa.Ce Go.Proofs.Ytccenpmaooailaa.Cf Go.Proofs.Ytccenpmaooailaa.Cg Go.Proofs.Ytccenpmaooailaa.Sc Go.Proofs.Ytccenpmaooailaa.Se Go.Proofs.Ytccenpmaooailaa.Sh Go.Proofs.Ytccenpmaooailaa.Si Go.Proofs.Ytccenpmaooailaa.Sp Go.Proofs.Ytccenpmaooailaa.Ia Go.Proofs.Ytccenpmaooailaa.Ib Go.Proofs.Ytccenpmaooailaa.Ic Go.Proofs.Ytccenpmaooailaa.Id Go.Proofs.Ytccenpmaooailaa.Ie Go.Proofs.Ytccenpmaooailaa.If Go.Proofs.Ytccenpmaooailaa.Ig Go.Proofs.Ytccenpmaooailaa.Ih Go.Proofs.Ytccenpmaooailaa.Ij Go.Proofs.Ytccenpmaooailaa.Ik Go.Proofs.Ytccenpmaooailaa.Ra Go.Proofs.Ytccenpmaooailaa.Rb Go.Proofs.Ytccenpmaooailaa.Rc Go.Proofs.Ytccenpmaooailaa.Rd Go.Proofs.Ytccenpmaooailaa.Re Go.Proofs.Ytccenpmaooailaa.Sj Go.Proofs.Ytccenpmaooailaa.Ya Go.Proofs.Ytccenpmaooailaa.Yd Go.Proofs.Ytccenpmaooailaa.Yf Go.Proofs.Ytccenpmaooailaa.Yg Go.Proofs.Ytccenpmaooailaa.Ih Go.Proofs.Ytccenpmaooailaa.Yh Go.Proofs.Ytccenpmaooailaa.Yi Go.Proofs.Ytccenpmaooailaa.Sg Go.Proofs.Ytccenpmaooailaa.Sf Go.Proofs.Ytccenpmaooailaa.Yj Go.Proofs.Ytccenpmaooailaa.Ig Go.Proofs.Ytccenpmaooailaa.Yk Go.Proofs.Ytccenpmaooailaa.Ik Go.Proofs.Ytccenpmaooailaa.Yl Go.Proofs.Ytccenpmaooailaa.Ij Go.Proofs.Ytccenpmaooailaa.Ym Go.Proofs.Ytccenpmaooailaa.Il Go.Proofs.Ytccenpmaooailaa.Yn Go.Proofs.Ytccenpmaooailaa.Yo Go.Proofs.Ytccenpmaooailaa.In Go.Proofs.Ytccenpmaooailaa.Yq Go.Proofs.Ytccenpmaooailaa.Pw Go.Proofs.Ytccenpmaooailaa.Px Go.Proofs.Ytccenpmaooailaa.La Go.Proofs.Ytccenpmaooailaa.Db Go.Proofs.Ytccenpmaooailaa.Ta Go.Proofs.Ytccenpmaooailaa.De Go.Proofs.Ytccenpmaooailaa.Sh

def fits5 (mode : Int) (l r a b c : List Occ) : Bool := (((inb mode 0 4 && (okOs l && okOs r)) && okOs a) && okOs b) && okOs c

set_option maxRecDepth 100000 in
theorem spanOk_any (A B : Option Addr) (ca cb : Nat) (l r : List Occ) (w : World) (hL : IsL w l A ca) (hR : IsL w r B cb) :
    Calls Try.prog 99 #[.agg #[.slice A l.length ca, .slice B r.length cb]] w fun e w' => e = .returned (.bool (okOs l && okOs r)) ∧ Below w.heap.size w w' := by
  have hb0 := below_alloc (Below.refl w.heap.size w) (.cells #[.slice A l.length ca, .slice B r.length cb] 46)
  have bP := blk_new w (.cells #[.slice A l.length ca, .slice B r.length cb] 46)
  have h1 := occsOk_any A ca l _ (hL.below hb0).rd
  have h2 := fun (w2 : World) (h : Below w.heap.size w w2) => occsOk_any B cb r w2 (hR.below h).rd
  cases h : okOs l with
  | false =>
    rw [h] at h1
    clear h
    go_enter Try.func99, Try.ntmps99
    go_wp2_with (go_at_call 82; refine h1.mono ?_; rintro e w2 ⟨rfl, hb⟩; have HB := Aside0.mk (below_then hb0 hb0.size hb))
    go_ret
    exact ⟨rfl, HB.out⟩
  | true =>
    rw [h] at h1
    clear h
    go_enter Try.func99, Try.ntmps99
    go_wp2_with (first
      | (go_at_call 82; refine (h2 _ HB.out).mono ?_; rintro e w3 ⟨rfl, hb3⟩; have HB3 := Aside0.mk (below_then HB.out HB.out.size hb3))
      | (go_at_call 82; refine h1.mono ?_; rintro e w2 ⟨rfl, hb⟩; have HB := Aside0.mk (below_then hb0 hb0.size hb); have b2 := blk_below bP hb; have q1 := (blk_cell b2 1).trans rfl))
    go_ret
    exact ⟨ret_bool (by simp), HB3.out⟩

set_option maxRecDepth 100000 in
theorem sSpanOk_any (A B : Option Addr) (ca cb : Nat) (l r : List Occ) (w : World) (hL : IsL w l A ca) (hR : IsL w r B cb) :
    Calls Try.prog 97 #[.agg #[.slice A l.length ca, .slice B r.length cb]] w fun e w' => e = .returned (.bool (okOs l && okOs r)) ∧ Below w.heap.size w w' := by
  have hb0 := below_alloc (Below.refl w.heap.size w) (.cells #[.slice A l.length ca, .slice B r.length cb] 46)
  have bP := blk_new w (.cells #[.slice A l.length ca, .slice B r.length cb] 46)
  have h1 := sOccsOk_any A ca l _ (hL.below hb0).rd
  have h2 := fun (w2 : World) (h : Below w.heap.size w w2) => sOccsOk_any B cb r w2 (hR.below h).rd
  cases h : okOs l with
  | false =>
    rw [h] at h1
    clear h
    go_enter Try.func97, Try.ntmps97
    go_wp2_with (go_at_call 39; refine h1.mono ?_; rintro e w2 ⟨rfl, hb⟩; have HB := Aside0.mk (below_then hb0 hb0.size hb))
    go_ret
    exact ⟨rfl, HB.out⟩
  | true =>
    rw [h] at h1
    clear h
    go_enter Try.func97, Try.ntmps97
    go_wp2_with (first
      | (go_at_call 39; refine (h2 _ HB.out).mono ?_; rintro e w3 ⟨rfl, hb3⟩; have HB3 := Aside0.mk (below_then HB.out HB.out.size hb3))
      | (go_at_call 39; refine h1.mono ?_; rintro e w2 ⟨rfl, hb⟩; have HB := Aside0.mk (below_then hb0 hb0.size hb); have b2 := blk_below bP hb; have q1 := (blk_cell b2 1).trans rfl))
    go_ret
    exact ⟨ret_bool (by simp), HB3.out⟩

set_option maxRecDepth 100000 in
theorem spanFits_any (mode : Int) (A B C D E : Option Addr) (ca cb cc cd ce : Nat) (l r a b c : List Occ) (w : World) (hL : IsL w l A ca) (hR : IsL w r B cb) (hE : IsL w a C cc) (hI : IsL w b D cd) (hK : IsL w c E ce) :
    Calls Try.prog 62 #[.int .i64 mode, .agg #[.slice A l.length ca, .slice B r.length cb], .slice C a.length cc, .slice D b.length cd, .slice E c.length ce] w fun e w' => e = .returned (.bool (fits5 mode l r a b c)) ∧ Below w.heap.size w w' := by
  have hb0 := below_alloc (Below.refl w.heap.size w) (.cells #[.slice A l.length ca, .slice B r.length cb] 46)
  have h0 := fun w2 => isMode_any mode w2
  have h1 := spanOk_any A B ca cb l r _ (hL.below hb0) (hR.below hb0)
  have h2 := fun (w2 : World) (h : Below w.heap.size w w2) => occsOk_any C cc a w2 (hE.below h).rd
  have h3 := fun (w2 : World) (h : Below w.heap.size w w2) => occsOk_any D cd b w2 (hI.below h).rd
  have h4 := fun (w2 : World) (h : Below w.heap.size w w2) => occsOk_any E ce c w2 (hK.below h).rd
  have bP := blk_new w (.cells #[.slice A l.length ca, .slice B r.length cb] 46)
  have p0 := (blk_cell bP 0).trans rfl
  have p1 := (blk_cell bP 1).trans rfl
  unfold fits5
  cases q0 : inb mode 0 4 with
  | false =>
    simp only [q0] at h0
    clear q0
    go_enter Try.func62, Try.ntmps62
    go_wp2_with (first | (go_at_call 80; refine (h0 _).mono ?_; rintro e w2 ⟨rfl, rfl⟩))
    go_ret
    exact ⟨rfl, hb0⟩
  | true =>
    simp only [q0] at h0
    clear q0
    cases q1 : (okOs l && okOs r) with
    | false =>
      rw [q1] at h1
      clear q1
      go_enter Try.func62, Try.ntmps62
      go_wp2_with (first | (go_at_call 99; refine h1.mono ?_; rintro e w2 ⟨rfl, hb⟩; have HB := Aside0.mk (below_then hb0 hb0.size hb)) | (go_at_call 80; refine (h0 _).mono ?_; rintro e w2 ⟨rfl, rfl⟩))
      go_ret
      exact ⟨rfl, HB.out⟩
    | true =>
      rw [q1] at h1
      clear q1
      cases q2 : okOs a with
      | false =>
        simp only [q2] at h2
        clear q2
        go_enter Try.func62, Try.ntmps62
        go_wp2_with (first | (go_at_call 82; refine (h2 _ HB.out).mono ?_; rintro e w3 ⟨rfl, hb3⟩; have HB3 := Aside0.mk (below_then HB.out HB.out.size hb3)) | (go_at_call 99; refine h1.mono ?_; rintro e w2 ⟨rfl, hb⟩; have HB := Aside0.mk (below_then hb0 hb0.size hb)) | (go_at_call 80; refine (h0 _).mono ?_; rintro e w2 ⟨rfl, rfl⟩))
        go_ret
        exact ⟨rfl, HB3.out⟩
      | true =>
        simp only [q2] at h2
        clear q2
        cases q3 : okOs b with
        | false =>
          simp only [q3] at h3
          clear q3
          go_enter Try.func62, Try.ntmps62
          go_wp2_with (first | (go_at_call 82; refine (h3 _ HB3.out).mono ?_; rintro e w4 ⟨rfl, hb4⟩; have HB4 := Aside0.mk (below_then HB3.out HB3.out.size hb4)) | (go_at_call 82; refine (h2 _ HB.out).mono ?_; rintro e w3 ⟨rfl, hb3⟩; have HB3 := Aside0.mk (below_then HB.out HB.out.size hb3)) | (go_at_call 99; refine h1.mono ?_; rintro e w2 ⟨rfl, hb⟩; have HB := Aside0.mk (below_then hb0 hb0.size hb)) | (go_at_call 80; refine (h0 _).mono ?_; rintro e w2 ⟨rfl, rfl⟩))
          go_ret
          exact ⟨rfl, HB4.out⟩
        | true =>
          simp only [q3] at h3
          clear q3
          go_enter Try.func62, Try.ntmps62
          go_wp2_with (first | (go_at_call 82; refine (h4 _ HB4.out).mono ?_; rintro e w5 ⟨rfl, hb5⟩; have HB5 := Aside0.mk (below_then HB4.out HB4.out.size hb5)) | (go_at_call 82; refine (h3 _ HB3.out).mono ?_; rintro e w4 ⟨rfl, hb4⟩; have HB4 := Aside0.mk (below_then HB3.out HB3.out.size hb4)) | (go_at_call 82; refine (h2 _ HB.out).mono ?_; rintro e w3 ⟨rfl, hb3⟩; have HB3 := Aside0.mk (below_then HB.out HB.out.size hb3)) | (go_at_call 99; refine h1.mono ?_; rintro e w2 ⟨rfl, hb⟩; have HB := Aside0.mk (below_then hb0 hb0.size hb)) | (go_at_call 80; refine (h0 _).mono ?_; rintro e w2 ⟨rfl, rfl⟩))
          go_ret
          exact ⟨ret_bool (by simp), HB5.out⟩

set_option maxRecDepth 100000 in
theorem sSpanFits_any (mode : Int) (A B C D E : Option Addr) (ca cb cc cd ce : Nat) (l r a b c : List Occ) (w : World) (hL : IsL w l A ca) (hR : IsL w r B cb) (hE : IsL w a C cc) (hI : IsL w b D cd) (hK : IsL w c E ce) :
    Calls Try.prog 59 #[.int .i64 mode, .agg #[.slice A l.length ca, .slice B r.length cb], .slice C a.length cc, .slice D b.length cd, .slice E c.length ce] w fun e w' => e = .returned (.bool (fits5 mode l r a b c)) ∧ Below w.heap.size w w' := by
  have hb0 := below_alloc (Below.refl w.heap.size w) (.cells #[.slice A l.length ca, .slice B r.length cb] 46)
  have h0 := fun w2 => sMode_any mode w2
  have h1 := sSpanOk_any A B ca cb l r _ (hL.below hb0) (hR.below hb0)
  have h2 := fun (w2 : World) (h : Below w.heap.size w w2) => sOccsOk_any C cc a w2 (hE.below h).rd
  have h3 := fun (w2 : World) (h : Below w.heap.size w w2) => sOccsOk_any D cd b w2 (hI.below h).rd
  have h4 := fun (w2 : World) (h : Below w.heap.size w w2) => sOccsOk_any E ce c w2 (hK.below h).rd
  have bP := blk_new w (.cells #[.slice A l.length ca, .slice B r.length cb] 46)
  have p0 := (blk_cell bP 0).trans rfl
  have p1 := (blk_cell bP 1).trans rfl
  unfold fits5
  cases q0 : inb mode 0 4 with
  | false =>
    simp only [q0] at h0
    clear q0
    go_enter Try.func59, Try.ntmps59
    go_wp2_with (first | (go_at_call 41; refine (h0 _).mono ?_; rintro e w2 ⟨rfl, rfl⟩))
    go_ret
    exact ⟨rfl, hb0⟩
  | true =>
    simp only [q0] at h0
    clear q0
    cases q1 : (okOs l && okOs r) with
    | false =>
      rw [q1] at h1
      clear q1
      go_enter Try.func59, Try.ntmps59
      go_wp2_with (first | (go_at_call 97; refine h1.mono ?_; rintro e w2 ⟨rfl, hb⟩; have HB := Aside0.mk (below_then hb0 hb0.size hb)) | (go_at_call 41; refine (h0 _).mono ?_; rintro e w2 ⟨rfl, rfl⟩))
      go_ret
      exact ⟨rfl, HB.out⟩
    | true =>
      rw [q1] at h1
      clear q1
      cases q2 : okOs a with
      | false =>
        simp only [q2] at h2
        clear q2
        go_enter Try.func59, Try.ntmps59
        go_wp2_with (first | (go_at_call 39; refine (h2 _ HB.out).mono ?_; rintro e w3 ⟨rfl, hb3⟩; have HB3 := Aside0.mk (below_then HB.out HB.out.size hb3)) | (go_at_call 97; refine h1.mono ?_; rintro e w2 ⟨rfl, hb⟩; have HB := Aside0.mk (below_then hb0 hb0.size hb)) | (go_at_call 41; refine (h0 _).mono ?_; rintro e w2 ⟨rfl, rfl⟩))
        go_ret
        exact ⟨rfl, HB3.out⟩
      | true =>
        simp only [q2] at h2
        clear q2
        cases q3 : okOs b with
        | false =>
          simp only [q3] at h3
          clear q3
          go_enter Try.func59, Try.ntmps59
          go_wp2_with (first | (go_at_call 39; refine (h3 _ HB3.out).mono ?_; rintro e w4 ⟨rfl, hb4⟩; have HB4 := Aside0.mk (below_then HB3.out HB3.out.size hb4)) | (go_at_call 39; refine (h2 _ HB.out).mono ?_; rintro e w3 ⟨rfl, hb3⟩; have HB3 := Aside0.mk (below_then HB.out HB.out.size hb3)) | (go_at_call 97; refine h1.mono ?_; rintro e w2 ⟨rfl, hb⟩; have HB := Aside0.mk (below_then hb0 hb0.size hb)) | (go_at_call 41; refine (h0 _).mono ?_; rintro e w2 ⟨rfl, rfl⟩))
          go_ret
          exact ⟨rfl, HB4.out⟩
        | true =>
          simp only [q3] at h3
          clear q3
          go_enter Try.func59, Try.ntmps59
          go_wp2_with (first | (go_at_call 39; refine (h4 _ HB4.out).mono ?_; rintro e w5 ⟨rfl, hb5⟩; have HB5 := Aside0.mk (below_then HB4.out HB4.out.size hb5)) | (go_at_call 39; refine (h3 _ HB3.out).mono ?_; rintro e w4 ⟨rfl, hb4⟩; have HB4 := Aside0.mk (below_then HB3.out HB3.out.size hb4)) | (go_at_call 39; refine (h2 _ HB.out).mono ?_; rintro e w3 ⟨rfl, hb3⟩; have HB3 := Aside0.mk (below_then HB.out HB.out.size hb3)) | (go_at_call 97; refine h1.mono ?_; rintro e w2 ⟨rfl, hb⟩; have HB := Aside0.mk (below_then hb0 hb0.size hb)) | (go_at_call 41; refine (h0 _).mono ?_; rintro e w2 ⟨rfl, rfl⟩))
          go_ret
          exact ⟨ret_bool (by simp), HB5.out⟩
end Go.Proofs.Ytccenpmaooailaa.Tb

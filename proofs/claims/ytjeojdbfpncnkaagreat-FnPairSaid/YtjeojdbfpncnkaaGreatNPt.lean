
/- A pair step by step: plain laws, and the calls in one form. -/
import Derived.Test.YtjeojdbfpncnkaaGreatNB7
import Derived.Test.YtjeojdbfpncnkaaGreatNB6
set_option linter.unusedVariables false
set_option linter.unusedSimpArgs false
namespace Go.Proofs.YtjeojdbfpncnkaaGreat.Pt
open Go.RowKit Go.Proofs.YtjeojdbfpncnkaaGreatW.PrintWords Go.Proofs.YtjeojdbfpncnkaaGreat.Wd Go.Proofs.YtjeojdbfpncnkaaGreat.Pu Go.Proofs.YtjeojdbfpncnkaaGreat.Pv Go.Proofs.YtjeojdbfpncnkaaGreat.Ca Go.Proofs.YtjeojdbfpncnkaaGreat.Cb Go.Proofs.YtjeojdbfpncnkaaGreat.Cc Go.Proofs.YtjeojdbfpncnkaaGreat.Cp Go.Proofs.YtjeojdbfpncnkaaGreat.Cd Go.Proofs.YtjeojdbfpncnkaaGreat.Ci Go.Proofs.YtjeojdbfpncnkaaGreat.Ce Go.Proofs.YtjeojdbfpncnkaaGreat.Cf Go.Proofs.YtjeojdbfpncnkaaGreat.Cg Go.Proofs.YtjeojdbfpncnkaaGreat.Sc Go.Proofs.YtjeojdbfpncnkaaGreat.Se Go.Proofs.YtjeojdbfpncnkaaGreat.Sh Go.Proofs.YtjeojdbfpncnkaaGreat.Si Go.Proofs.YtjeojdbfpncnkaaGreat.Sp Go.Proofs.YtjeojdbfpncnkaaGreat.Ia Go.Proofs.YtjeojdbfpncnkaaGreat.Ib Go.Proofs.YtjeojdbfpncnkaaGreat.Ic Go.Proofs.YtjeojdbfpncnkaaGreat.Id Go.Proofs.YtjeojdbfpncnkaaGreat.Ie Go.Proofs.YtjeojdbfpncnkaaGreat.If Go.Proofs.YtjeojdbfpncnkaaGreat.Ig Go.Proofs.YtjeojdbfpncnkaaGreat.Ih Go.Proofs.YtjeojdbfpncnkaaGreat.Ij Go.Proofs.YtjeojdbfpncnkaaGreat.Ik Go.Proofs.YtjeojdbfpncnkaaGreat.Ra Go.Proofs.YtjeojdbfpncnkaaGreat.Rb Go.Proofs.YtjeojdbfpncnkaaGreat.Rc Go.Proofs.YtjeojdbfpncnkaaGreat.Rd Go.Proofs.YtjeojdbfpncnkaaGreat.Re Go.Proofs.YtjeojdbfpncnkaaGreat.Sj Go.Proofs.YtjeojdbfpncnkaaGreat.Ya Go.Proofs.YtjeojdbfpncnkaaGreat.Yd Go.Proofs.YtjeojdbfpncnkaaGreat.Yf Go.Proofs.YtjeojdbfpncnkaaGreat.Yg Go.Proofs.YtjeojdbfpncnkaaGreat.Ih Go.Proofs.YtjeojdbfpncnkaaGreat.Yh Go.Proofs.YtjeojdbfpncnkaaGreat.Yi Go.Proofs.YtjeojdbfpncnkaaGreat.Sg Go.Proofs.YtjeojdbfpncnkaaGreat.Sf Go.Proofs.YtjeojdbfpncnkaaGreat.Yj Go.Proofs.YtjeojdbfpncnkaaGreat.Ig Go.Proofs.YtjeojdbfpncnkaaGreat.Yk Go.Proofs.YtjeojdbfpncnkaaGreat.Ik Go.Proofs.YtjeojdbfpncnkaaGreat.Yl Go.Proofs.YtjeojdbfpncnkaaGreat.Ij Go.Proofs.YtjeojdbfpncnkaaGreat.Ym Go.Proofs.YtjeojdbfpncnkaaGreat.Il Go.Proofs.YtjeojdbfpncnkaaGreat.Yn Go.Proofs.YtjeojdbfpncnkaaGreat.Yo Go.Proofs.YtjeojdbfpncnkaaGreat.In Go.Proofs.YtjeojdbfpncnkaaGreat.Yq Go.Proofs.YtjeojdbfpncnkaaGreat.Pw Go.Proofs.YtjeojdbfpncnkaaGreat.Px Go.Proofs.YtjeojdbfpncnkaaGreat.La Go.Proofs.YtjeojdbfpncnkaaGreat.Ii Go.Proofs.YtjeojdbfpncnkaaGreat.YkS
def p3s (mode : Int) (l r a b : List Occ) : P3 := if fits mode l r a b then seq3 mode l r a b else ⟨[], [], []⟩
def p3a (mode : Int) (l r a b : List Occ) : P3 := if fits mode l r a b then and3 mode l r a b else ⟨[], [], []⟩
theorem gone01 {mode : Int} (h : mode = 0 ∨ mode = 1) (o : Occ) (s : List Occ) : (combine mode o s).2 = [] := by
  unfold combine
  rcases h with h | h <;> subst h <;> split <;> simp
theorem fold01 {mode : Int} (h : mode = 0 ∨ mode = 1) : ∀ (os F out : List Occ), (os.foldl (seqStep mode) (F, out)).1 = F
  | [], _, _ => rfl
  | o :: os, F, out => by
    rw [List.foldl_cons]
    have e : seqStep mode (F, out) o = (F, putAll out (combine mode o (F.filter (before o))).1) := by
      unfold seqStep
      simp only [gone01 h, without_nil]
    rw [e]
    exact fold01 h os F _
/-- what waits is kept, if it could not be paired or is never used up -/
theorem waits_on {mode : Int} {l r a b : List Occ} {x : Occ} (hx : x ∈ l) (h : (∀ o ∈ b, ¬ x.f1 < o.f0) ∨ mode = 0 ∨ mode = 1) : x ∈ (seq3 mode l r a b).a := by
  show x ∈ putAll (b.foldl (seqStep mode) (l, [])).1 a
  rw [mem_putAll]
  rcases h with h | h
  · exact .inl (fold_keep b l [] x (fun o ho => by have := h o ho; omega) hx)
  · rw [fold01 h]
    exact .inl hx
theorem none_out {mode : Int} {l r a : List Occ} : (seq3 mode l r a []).c = [] := rfl
theorem iPairSeq (mode : Int) (A B C D : Option Addr) (ca cb cc cd : Nat) (l r a b : List Occ) (p : P3) (w : World) (hp : p3s mode l r a b = p) (hL : IsL w l A ca) (hR : IsL w r B cb) (hE : IsL w a C cc) (hI : IsL w b D cd) :
    Calls Tryz.prog 11 #[.int .i64 mode, .agg #[.slice A l.length ca, .slice B r.length cb], .slice C a.length cc, .slice D b.length cd] w fun e w' => Out3L w w' p e := by
  subst hp
  refine (pairSeq_any mode A B C D ca cb cc cd l r a b w hL hR hE hI).mono ?_
  rintro e w' ⟨v0, v1, v2, rfl, h0, h1, h2, hb⟩
  obtain ⟨A0, c0, rfl⟩ := Kd.S_slice h0
  obtain ⟨A1, c1, rfl⟩ := Kd.S_slice h1
  obtain ⟨A2, c2, rfl⟩ := Kd.S_slice h2
  have g0 := Kd.S_reads' h0
  have g1 := Kd.S_reads' h1
  have g2 := Kd.S_reads' h2
  exact ⟨A0, c0, A1, c1, A2, c2, rfl, ⟨g0.2.1, g0.2.2⟩, ⟨g1.2.1, g1.2.2⟩, ⟨g2.2.1, g2.2.2⟩, hb⟩
theorem iPairAnd (mode : Int) (A B C D : Option Addr) (ca cb cc cd : Nat) (l r a b : List Occ) (p : P3) (w : World) (hp : p3a mode l r a b = p) (hL : IsL w l A ca) (hR : IsL w r B cb) (hE : IsL w a C cc) (hI : IsL w b D cd) :
    Calls Tryz.prog 13 #[.int .i64 mode, .agg #[.slice A l.length ca, .slice B r.length cb], .slice C a.length cc, .slice D b.length cd] w fun e w' => Out3L w w' p e := by
  subst hp
  refine (pairAnd_any mode A B C D ca cb cc cd l r a b w hL hR hE hI).mono ?_
  rintro e w' ⟨v0, v1, v2, rfl, h0, h1, h2, hb⟩
  obtain ⟨A0, c0, rfl⟩ := Kd.S_slice h0
  obtain ⟨A1, c1, rfl⟩ := Kd.S_slice h1
  obtain ⟨A2, c2, rfl⟩ := Kd.S_slice h2
  have g0 := Kd.S_reads' h0
  have g1 := Kd.S_reads' h1
  have g2 := Kd.S_reads' h2
  exact ⟨A0, c0, A1, c1, A2, c2, rfl, ⟨g0.2.1, g0.2.2⟩, ⟨g1.2.1, g1.2.2⟩, ⟨g2.2.1, g2.2.2⟩, hb⟩
theorem sPairSeq (mode : Int) (A B C D : Option Addr) (ca cb cc cd : Nat) (l r a b : List Occ) (p : P3) (w : World) (hp : p3s mode l r a b = p) (hL : IsL w l A ca) (hR : IsL w r B cb) (hE : IsL w a C cc) (hI : IsL w b D cd) :
    Calls Tryz.prog 12 #[.int .i64 mode, .agg #[.slice A l.length ca, .slice B r.length cb], .slice C a.length cc, .slice D b.length cd] w fun e w' => Out3L w w' p e := by
  subst hp
  exact sPairSeq_any mode A B C D ca cb cc cd l r a b w hL hR hE hI
theorem sPairAnd (mode : Int) (A B C D : Option Addr) (ca cb cc cd : Nat) (l r a b : List Occ) (p : P3) (w : World) (hp : p3a mode l r a b = p) (hL : IsL w l A ca) (hR : IsL w r B cb) (hE : IsL w a C cc) (hI : IsL w b D cd) :
    Calls Tryz.prog 14 #[.int .i64 mode, .agg #[.slice A l.length ca, .slice B r.length cb], .slice C a.length cc, .slice D b.length cd] w fun e w' => Out3L w w' p e := by
  subst hp
  exact sPairAnd_any mode A B C D ca cb cc cd l r a b w hL hR hE hI
/-- one element cut out of a list -/
theorem cut_run (ad : Addr) (n c k : Nat) (hk : k + 1 ≤ c) (W : World) : (Instr.slice 23 (.slice (some ad) n c) (some (.int .i64 (k : Int))) (some (.int .i64 ((k : Int) + 1))) none).run Tryz.prog W = .ok (.slice (some (ad.add (k * 3))) 1 (c - k)) W := by
  have hel : Tryz.prog.elem 23 = 38 := by simp [Program.elem, Tryz.underlying23]
  have hu : Tryz.prog.underlying 23 = some (.slice (Tryz.prog.elem 23)) := by rw [hel]; exact Tryz.underlying23
  obtain ⟨i, hi, hi2⟩ := Option.map_eq_some_iff.1 sizeO
  rw [run_slice_lh W _ (some ad) n c hu .i64 .i64 (k : Int) ((k : Int) + 1) (by omega) (by omega) (by omega), hel]
  have hne : ¬ c = k := by omega
  have h1 : ((k : Int) + 1).toNat = k + 1 := by omega
  simp [sizeOf, typeInfo, hi, hi2, sliced, Result.andThen, hne, h1]
theorem cut_L {w : World} {l : List Occ} {ad : Addr} {c k : Nat} (h : IsL w l (some ad) c) (hk : k < l.length) : IsL w [l.getD k zO] (some (ad.add (k * 3))) (c - k) := by
  have hcap := h.cap
  refine ⟨by simp; omega, ?_⟩
  have h2 := rr_drop h.rd k (by omega)
  have h3 : IsL w (l.drop k) (some (ad.add (k * 3))) (c - k) := ⟨by rw [List.length_drop]; omega, by rw [List.length_drop]; exact h2⟩
  have h4 := IsL.take h3 (m := 1) (by rw [List.length_drop]; omega)
  rw [drop_one hk] at h4
  exact h4.rd
end Go.Proofs.YtjeojdbfpncnkaaGreat.Pt


/- A span step by step: plain laws, and the calls in one form. -/
import Derived.Test.YtccenpmaooailaaGreatKB7
import Derived.Test.YtccenpmaooailaaGreatKB6
import Derived.Test.YtccenpmaooailaaGreatKTl
import Derived.Test.YtccenpmaooailaaGreatKTg
set_option linter.unusedVariables false
set_option linter.unusedSimpArgs false
namespace Go.Proofs.YtccenpmaooailaaGreat.Hj
open Go.RowKit Go.Proofs.YtccenpmaooailaaGreatW.PrintWords Go.Proofs.YtccenpmaooailaaGreat.Wd Go.Proofs.YtccenpmaooailaaGreat.Pu Go.Proofs.YtccenpmaooailaaGreat.Pv Go.Proofs.YtccenpmaooailaaGreat.Ca Go.Proofs.YtccenpmaooailaaGreat.Cb Go.Proofs.YtccenpmaooailaaGreat.Cc Go.Proofs.YtccenpmaooailaaGreat.Cp Go.Proofs.YtccenpmaooailaaGreat.Cd Go.Proofs.YtccenpmaooailaaGreat.Ci Go.Proofs.YtccenpmaooailaaGreat.Ce Go.Proofs.YtccenpmaooailaaGreat.Cf Go.Proofs.YtccenpmaooailaaGreat.Cg Go.Proofs.YtccenpmaooailaaGreat.Sc Go.Proofs.YtccenpmaooailaaGreat.Se Go.Proofs.YtccenpmaooailaaGreat.Sh Go.Proofs.YtccenpmaooailaaGreat.Si Go.Proofs.YtccenpmaooailaaGreat.Sp Go.Proofs.YtccenpmaooailaaGreat.Ia Go.Proofs.YtccenpmaooailaaGreat.Ib Go.Proofs.YtccenpmaooailaaGreat.Ic Go.Proofs.YtccenpmaooailaaGreat.Id Go.Proofs.YtccenpmaooailaaGreat.Ie Go.Proofs.YtccenpmaooailaaGreat.If Go.Proofs.YtccenpmaooailaaGreat.Ig Go.Proofs.YtccenpmaooailaaGreat.Ih Go.Proofs.YtccenpmaooailaaGreat.Ij Go.Proofs.YtccenpmaooailaaGreat.Ik Go.Proofs.YtccenpmaooailaaGreat.Ra Go.Proofs.YtccenpmaooailaaGreat.Rb Go.Proofs.YtccenpmaooailaaGreat.Rc Go.Proofs.YtccenpmaooailaaGreat.Rd Go.Proofs.YtccenpmaooailaaGreat.Re Go.Proofs.YtccenpmaooailaaGreat.Sj Go.Proofs.YtccenpmaooailaaGreat.Ya Go.Proofs.YtccenpmaooailaaGreat.Yd Go.Proofs.YtccenpmaooailaaGreat.Yf Go.Proofs.YtccenpmaooailaaGreat.Yg Go.Proofs.YtccenpmaooailaaGreat.Ih Go.Proofs.YtccenpmaooailaaGreat.Yh Go.Proofs.YtccenpmaooailaaGreat.Yi Go.Proofs.YtccenpmaooailaaGreat.Sg Go.Proofs.YtccenpmaooailaaGreat.Sf Go.Proofs.YtccenpmaooailaaGreat.Yj Go.Proofs.YtccenpmaooailaaGreat.Ig Go.Proofs.YtccenpmaooailaaGreat.Yk Go.Proofs.YtccenpmaooailaaGreat.Ik Go.Proofs.YtccenpmaooailaaGreat.Yl Go.Proofs.YtccenpmaooailaaGreat.Ij Go.Proofs.YtccenpmaooailaaGreat.Ym Go.Proofs.YtccenpmaooailaaGreat.Il Go.Proofs.YtccenpmaooailaaGreat.Yn Go.Proofs.YtccenpmaooailaaGreat.Yo Go.Proofs.YtccenpmaooailaaGreat.In Go.Proofs.YtccenpmaooailaaGreat.Yq Go.Proofs.YtccenpmaooailaaGreat.Pw Go.Proofs.YtccenpmaooailaaGreat.Px Go.Proofs.YtccenpmaooailaaGreat.La Go.Proofs.YtccenpmaooailaaGreat.Db Go.Proofs.YtccenpmaooailaaGreat.Sh Go.Proofs.YtccenpmaooailaaGreat.Ta Go.Proofs.YtccenpmaooailaaGreat.Tb Go.Proofs.YtccenpmaooailaaGreat.Td Go.Proofs.YtccenpmaooailaaGreat.Te Go.Proofs.YtccenpmaooailaaGreat.Tg Go.Proofs.YtccenpmaooailaaGreat.Tl Go.Proofs.YtccenpmaooailaaGreat.Yk Go.Proofs.YtccenpmaooailaaGreat.Ih

def p5n (mode : Int) (l r a b c : List Occ) : P3 := if fits5 mode l r a b c then not3 mode l r a b c else ⟨[], [], []⟩
def p5e (mode : Int) (l r a b c : List Occ) : P3 := if fits5 mode l r a b c then each3 mode l r a b c else ⟨[], [], []⟩
theorem waits_each {mode : Int} {l r a b c : List Occ} {x : Occ} (hx : x ∈ l) : x ∈ (each3 mode l r a b c).a := by
  show x ∈ putAll (b.foldl (eStep mode r) (l, [])).1 a
  rw [mem_putAll, eStep_fst]
  exact .inl hx
theorem out3L_of {w w' : World} {p : P3} {e : Ending} (h : Out3 w w' p e) : Out3L w w' p e := by
  obtain ⟨v0, v1, v2, rfl, h0, h1, h2, hb⟩ := h
  obtain ⟨A0, c0, rfl⟩ := Kd.S_slice h0
  obtain ⟨A1, c1, rfl⟩ := Kd.S_slice h1
  obtain ⟨A2, c2, rfl⟩ := Kd.S_slice h2
  have g0 := Kd.S_reads' h0
  have g1 := Kd.S_reads' h1
  have g2 := Kd.S_reads' h2
  exact ⟨A0, c0, A1, c1, A2, c2, rfl, ⟨g0.2.1, g0.2.2⟩, ⟨g1.2.1, g1.2.2⟩, ⟨g2.2.1, g2.2.2⟩, hb⟩
theorem iSpanNot (mode : Int) (A B C D E : Option Addr) (ca cb cc cd ce : Nat) (l r a b c : List Occ) (p : P3) (w : World) (hp : p5n mode l r a b c = p) (hL : IsL w l A ca) (hR : IsL w r B cb) (hE : IsL w a C cc) (hI : IsL w b D cd) (hK : IsL w c E ce) :
    Calls Tryz.prog 11 #[.int .i64 mode, .agg #[.slice A l.length ca, .slice B r.length cb], .slice C a.length cc, .slice D b.length cd, .slice E c.length ce] w fun e w' => Out3L w w' p e := by
  subst hp
  exact (spanNot_any mode A B C D E ca cb cc cd ce l r a b c w hL hR hE hI hK).mono (fun e w' h => out3L_of h)
theorem iSpanEach (mode : Int) (A B C D E : Option Addr) (ca cb cc cd ce : Nat) (l r a b c : List Occ) (p : P3) (w : World) (hp : p5e mode l r a b c = p) (hL : IsL w l A ca) (hR : IsL w r B cb) (hE : IsL w a C cc) (hI : IsL w b D cd) (hK : IsL w c E ce) :
    Calls Tryz.prog 13 #[.int .i64 mode, .agg #[.slice A l.length ca, .slice B r.length cb], .slice C a.length cc, .slice D b.length cd, .slice E c.length ce] w fun e w' => Out3L w w' p e := by
  subst hp
  exact (spanEach_any mode A B C D E ca cb cc cd ce l r a b c w hL hR hE hI hK).mono (fun e w' h => out3L_of h)
theorem sSpanNot (mode : Int) (A B C D E : Option Addr) (ca cb cc cd ce : Nat) (l r a b c : List Occ) (p : P3) (w : World) (hp : p5n mode l r a b c = p) (hL : IsL w l A ca) (hR : IsL w r B cb) (hE : IsL w a C cc) (hI : IsL w b D cd) (hK : IsL w c E ce) :
    Calls Tryz.prog 12 #[.int .i64 mode, .agg #[.slice A l.length ca, .slice B r.length cb], .slice C a.length cc, .slice D b.length cd, .slice E c.length ce] w fun e w' => Out3L w w' p e := by
  subst hp
  exact (sSpanNot_any mode A B C D E ca cb cc cd ce l r a b c w hL hR hE hI hK).mono (fun e w' h => h)
theorem sSpanEach (mode : Int) (A B C D E : Option Addr) (ca cb cc cd ce : Nat) (l r a b c : List Occ) (p : P3) (w : World) (hp : p5e mode l r a b c = p) (hL : IsL w l A ca) (hR : IsL w r B cb) (hE : IsL w a C cc) (hI : IsL w b D cd) (hK : IsL w c E ce) :
    Calls Tryz.prog 14 #[.int .i64 mode, .agg #[.slice A l.length ca, .slice B r.length cb], .slice C a.length cc, .slice D b.length cd, .slice E c.length ce] w fun e w' => Out3L w w' p e := by
  subst hp
  exact (sSpanEach_any mode A B C D E ca cb cc cd ce l r a b c w hL hR hE hI hK).mono (fun e w' h => h)
end Go.Proofs.YtccenpmaooailaaGreat.Hj

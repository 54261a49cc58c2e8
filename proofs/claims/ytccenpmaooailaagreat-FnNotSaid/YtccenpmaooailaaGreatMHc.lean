
/- NotOf and EachOf as the laws call them. -/
import Derived.Test.YtccenpmaooailaaGreatMB7
import Derived.Test.YtccenpmaooailaaGreatMB6
import Derived.Test.YtccenpmaooailaaGreatMGb
import Derived.Test.YtccenpmaooailaaGreatMGc
import Derived.Test.YtccenpmaooailaaGreatMHa
import Derived.Test.YtccenpmaooailaaGreatMHb
set_option linter.unusedVariables false
set_option linter.unusedSimpArgs false
namespace Go.Proofs.YtccenpmaooailaaGreat.Hc
open Go.RowKit Go.Proofs.YtccenpmaooailaaGreatW.PrintWords Go.Proofs.YtccenpmaooailaaGreat.Wd Go.Proofs.YtccenpmaooailaaGreat.Pu Go.Proofs.YtccenpmaooailaaGreat.Pv Go.Proofs.YtccenpmaooailaaGreat.Ca Go.Proofs.YtccenpmaooailaaGreat.Cb Go.Proofs.YtccenpmaooailaaGreat.Cc Go.Proofs.YtccenpmaooailaaGreat.Cp Go.Proofs.YtccenpmaooailaaGreat.Cd Go.Proofs.YtccenpmaooailaaGreat.Ci Go.Proofs.YtccenpmaooailaaGreat.Ce Go.Proofs.YtccenpmaooailaaGreat.Cf Go.Proofs.YtccenpmaooailaaGreat.Cg Go.Proofs.YtccenpmaooailaaGreat.Sc Go.Proofs.YtccenpmaooailaaGreat.Se Go.Proofs.YtccenpmaooailaaGreat.Sh Go.Proofs.YtccenpmaooailaaGreat.Si Go.Proofs.YtccenpmaooailaaGreat.Sp Go.Proofs.YtccenpmaooailaaGreat.Ia Go.Proofs.YtccenpmaooailaaGreat.Ib Go.Proofs.YtccenpmaooailaaGreat.Ic Go.Proofs.YtccenpmaooailaaGreat.Id Go.Proofs.YtccenpmaooailaaGreat.Ie Go.Proofs.YtccenpmaooailaaGreat.If Go.Proofs.YtccenpmaooailaaGreat.Ig Go.Proofs.YtccenpmaooailaaGreat.Ih Go.Proofs.YtccenpmaooailaaGreat.Ij Go.Proofs.YtccenpmaooailaaGreat.Ik Go.Proofs.YtccenpmaooailaaGreat.Ra Go.Proofs.YtccenpmaooailaaGreat.Rb Go.Proofs.YtccenpmaooailaaGreat.Rc Go.Proofs.YtccenpmaooailaaGreat.Rd Go.Proofs.YtccenpmaooailaaGreat.Re Go.Proofs.YtccenpmaooailaaGreat.Sj Go.Proofs.YtccenpmaooailaaGreat.Ya Go.Proofs.YtccenpmaooailaaGreat.Yd Go.Proofs.YtccenpmaooailaaGreat.Yf Go.Proofs.YtccenpmaooailaaGreat.Yg Go.Proofs.YtccenpmaooailaaGreat.Ih Go.Proofs.YtccenpmaooailaaGreat.Yh Go.Proofs.YtccenpmaooailaaGreat.Yi Go.Proofs.YtccenpmaooailaaGreat.Sg Go.Proofs.YtccenpmaooailaaGreat.Sf Go.Proofs.YtccenpmaooailaaGreat.Yj Go.Proofs.YtccenpmaooailaaGreat.Ig Go.Proofs.YtccenpmaooailaaGreat.Yk Go.Proofs.YtccenpmaooailaaGreat.Ik Go.Proofs.YtccenpmaooailaaGreat.Yl Go.Proofs.YtccenpmaooailaaGreat.Ij Go.Proofs.YtccenpmaooailaaGreat.Ym Go.Proofs.YtccenpmaooailaaGreat.Il Go.Proofs.YtccenpmaooailaaGreat.Yn Go.Proofs.YtccenpmaooailaaGreat.Yo Go.Proofs.YtccenpmaooailaaGreat.In Go.Proofs.YtccenpmaooailaaGreat.Yq Go.Proofs.YtccenpmaooailaaGreat.Pw Go.Proofs.YtccenpmaooailaaGreat.Px Go.Proofs.YtccenpmaooailaaGreat.La Go.Proofs.YtccenpmaooailaaGreat.Db Go.Proofs.YtccenpmaooailaaGreat.Ta Go.Proofs.YtccenpmaooailaaGreat.Tb Go.Proofs.YtccenpmaooailaaGreat.Td Go.Proofs.YtccenpmaooailaaGreat.Te Go.Proofs.YtccenpmaooailaaGreat.Sh Go.Proofs.YtccenpmaooailaaGreat.Id Go.Proofs.YtccenpmaooailaaGreat.Ik Go.Proofs.YtccenpmaooailaaGreat.Il Go.Proofs.YtccenpmaooailaaGreat.Ij Go.Proofs.YtccenpmaooailaaGreat.Ga Go.Proofs.YtccenpmaooailaaGreat.Ih Go.Proofs.YtccenpmaooailaaGreat.Ig Go.Proofs.YtccenpmaooailaaGreat.Gb Go.Proofs.YtccenpmaooailaaGreat.Gc Go.Proofs.YtccenpmaooailaaGreat.Ha Go.Proofs.YtccenpmaooailaaGreat.Hb Go.Proofs.YtccenpmaooailaaGreat.Yq

def canM (m : List Occ) : Occ → Occ → Bool := fun x y => opn m y x
theorem got_mem {a b m L : List Occ} (ka : AreOk a) (kb : AreOk b) (h : Got (canM m) a b a.length 0 L) (z : Occ) : z ∈ L ↔ ∃ s ∈ a, ∃ o ∈ b, opn m o s = true ∧ z = join o s := by
  rw [h.all z]
  constructor
  · rintro ⟨x, hx, y, hy, hc, e⟩
    exact ⟨x, hx, y, hy, hc, by rw [e]; exact join_comm (ka.all x hx) (kb.all y hy)⟩
  · rintro ⟨x, hx, y, hy, hc, e⟩
    exact ⟨x, hx, y, hy, hc, by rw [e]; exact join_comm (kb.all y hy) (ka.all x hx)⟩
theorem got_pos {a b m L : List Occ} (ka : AreOk a) (kb : AreOk b) (h : Got (canM m) a b a.length 0 L) : L ≠ [] ↔ ∃ s ∈ a, ∃ o ∈ b, opn m o s = true := by
  constructor
  · intro hne
    obtain ⟨z, hz⟩ := List.exists_mem_of_ne_nil _ hne
    obtain ⟨s, hs, o, ho, h1, _⟩ := (got_mem ka kb h z).1 hz
    exact ⟨s, hs, o, ho, h1⟩
  · rintro ⟨s, hs, o, ho, h1⟩
    exact List.ne_nil_of_mem ((got_mem ka kb h _).2 ⟨s, hs, o, ho, h1, rfl⟩)
theorem iNot (mode : Int) (A B C : Option Addr) (ca cb cc : Nat) (a b c : List Occ) (p : List Occ × Bool) (w : World) (hp : ofN not3 mode a b c = p) (hA : IsL w a A ca) (hB : IsL w b B cb) (hC : IsL w c C cc) :
    Calls Tryz.prog 28 #[.int .i64 mode, .slice A a.length ca, .slice B b.length cb, .slice C c.length cc] w fun e w' => ToldL w w' p e := by
  subst hp
  exact (nOf_any mode A B C ca cb cc a b c w hA hB hC).mono (fun e w' h => ToldOut.l h)
theorem sNot (mode : Int) (A B C : Option Addr) (ca cb cc : Nat) (a b c : List Occ) (p : List Occ × Bool) (w : World) (hp : ofN not3 mode a b c = p) (hA : IsL w a A ca) (hB : IsL w b B cb) (hC : IsL w c C cc) :
    Calls Tryz.prog 29 #[.int .i64 mode, .slice A a.length ca, .slice B b.length cb, .slice C c.length cc] w fun e w' => ToldL w w' p e := by
  subst hp
  exact (sNotOf_any mode A B C ca cb cc a b c w hA hB hC).mono (fun e w' h => SToldOut.l h)
theorem iEach (mode : Int) (A B C : Option Addr) (ca cb cc : Nat) (a b c : List Occ) (p : List Occ × Bool) (w : World) (hp : ofN each3 mode a b c = p) (hA : IsL w a A ca) (hB : IsL w b B cb) (hC : IsL w c C cc) :
    Calls Tryz.prog 23 #[.int .i64 mode, .slice A a.length ca, .slice B b.length cb, .slice C c.length cc] w fun e w' => ToldL w w' p e := by
  subst hp
  exact (eOf_any mode A B C ca cb cc a b c w hA hB hC).mono (fun e w' h => ToldOut.l h)
theorem sEach (mode : Int) (A B C : Option Addr) (ca cb cc : Nat) (a b c : List Occ) (p : List Occ × Bool) (w : World) (hp : ofN each3 mode a b c = p) (hA : IsL w a A ca) (hB : IsL w b B cb) (hC : IsL w c C cc) :
    Calls Tryz.prog 24 #[.int .i64 mode, .slice A a.length ca, .slice B b.length cb, .slice C c.length cc] w fun e w' => ToldL w w' p e := by
  subst hp
  exact (sEachOf_any mode A B C ca cb cc a b c w hA hB hC).mono (fun e w' h => SToldOut.l h)
end Go.Proofs.YtccenpmaooailaaGreat.Hc

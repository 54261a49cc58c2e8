
/- SpanNot and SpanEach: the reference's. -/
import Derived.Test.YtccenpmaooailaaGreatMB7
import Derived.Test.YtccenpmaooailaaGreatMB6
import Derived.Test.YtccenpmaooailaaGreatMTe
import Derived.Test.YtccenpmaooailaaGreatMTj
import Derived.Test.YtccenpmaooailaaGreatMTk
set_option linter.unusedVariables false
set_option linter.unusedSimpArgs false
namespace Go.Proofs.YtccenpmaooailaaGreat.Tl
open Go.RowKit Go.Proofs.YtccenpmaooailaaGreatW.PrintWords Go.Proofs.YtccenpmaooailaaGreat.Wd Go.Proofs.YtccenpmaooailaaGreat.Pu Go.Proofs.YtccenpmaooailaaGreat.Pv Go.Proofs.YtccenpmaooailaaGreat.Ca Go.Proofs.YtccenpmaooailaaGreat.Cb Go.Proofs.YtccenpmaooailaaGreat.Cc Go.Proofs.YtccenpmaooailaaGreat.Cp Go.Proofs.YtccenpmaooailaaGreat.Cd Go.Proofs.YtccenpmaooailaaGreat.Ci Go.Proofs.YtccenpmaooailaaGreat.Ce Go.Proofs.YtccenpmaooailaaGreat.Cf Go.Proofs.YtccenpmaooailaaGreat.Cg Go.Proofs.YtccenpmaooailaaGreat.Sc Go.Proofs.YtccenpmaooailaaGreat.Se Go.Proofs.YtccenpmaooailaaGreat.Sh Go.Proofs.YtccenpmaooailaaGreat.Si Go.Proofs.YtccenpmaooailaaGreat.Sp Go.Proofs.YtccenpmaooailaaGreat.Ia Go.Proofs.YtccenpmaooailaaGreat.Ib Go.Proofs.YtccenpmaooailaaGreat.Ic Go.Proofs.YtccenpmaooailaaGreat.Id Go.Proofs.YtccenpmaooailaaGreat.Ie Go.Proofs.YtccenpmaooailaaGreat.If Go.Proofs.YtccenpmaooailaaGreat.Ig Go.Proofs.YtccenpmaooailaaGreat.Ih Go.Proofs.YtccenpmaooailaaGreat.Ij Go.Proofs.YtccenpmaooailaaGreat.Ik Go.Proofs.YtccenpmaooailaaGreat.Ra Go.Proofs.YtccenpmaooailaaGreat.Rb Go.Proofs.YtccenpmaooailaaGreat.Rc Go.Proofs.YtccenpmaooailaaGreat.Rd Go.Proofs.YtccenpmaooailaaGreat.Re Go.Proofs.YtccenpmaooailaaGreat.Sj Go.Proofs.YtccenpmaooailaaGreat.Ya Go.Proofs.YtccenpmaooailaaGreat.Yd Go.Proofs.YtccenpmaooailaaGreat.Yf Go.Proofs.YtccenpmaooailaaGreat.Yg Go.Proofs.YtccenpmaooailaaGreat.Ih Go.Proofs.YtccenpmaooailaaGreat.Yh Go.Proofs.YtccenpmaooailaaGreat.Yi Go.Proofs.YtccenpmaooailaaGreat.Sg Go.Proofs.YtccenpmaooailaaGreat.Sf Go.Proofs.YtccenpmaooailaaGreat.Yj Go.Proofs.YtccenpmaooailaaGreat.Ig Go.Proofs.YtccenpmaooailaaGreat.Yk Go.Proofs.YtccenpmaooailaaGreat.Ik Go.Proofs.YtccenpmaooailaaGreat.Yl Go.Proofs.YtccenpmaooailaaGreat.Ij Go.Proofs.YtccenpmaooailaaGreat.Ym Go.Proofs.YtccenpmaooailaaGreat.Il Go.Proofs.YtccenpmaooailaaGreat.Yn Go.Proofs.YtccenpmaooailaaGreat.Yo Go.Proofs.YtccenpmaooailaaGreat.In Go.Proofs.YtccenpmaooailaaGreat.Yq Go.Proofs.YtccenpmaooailaaGreat.Pw Go.Proofs.YtccenpmaooailaaGreat.Px Go.Proofs.YtccenpmaooailaaGreat.La Go.Proofs.YtccenpmaooailaaGreat.Db Go.Proofs.YtccenpmaooailaaGreat.Ta Go.Proofs.YtccenpmaooailaaGreat.Tb Go.Proofs.YtccenpmaooailaaGreat.Tc Go.Proofs.YtccenpmaooailaaGreat.Td Go.Proofs.YtccenpmaooailaaGreat.Te Go.Proofs.YtccenpmaooailaaGreat.Th Go.Proofs.YtccenpmaooailaaGreat.Ti Go.Proofs.YtccenpmaooailaaGreat.Tj Go.Proofs.YtccenpmaooailaaGreat.Tk Go.Proofs.YtccenpmaooailaaGreat.Sh Go.Proofs.YtccenpmaooailaaGreat.Id Go.Proofs.YtccenpmaooailaaGreat.Yf Go.Proofs.YtccenpmaooailaaGreat.Ya Go.Proofs.YtccenpmaooailaaGreat.Yd Go.Proofs.YtccenpmaooailaaGreat.Re Go.Proofs.YtccenpmaooailaaGreat.Rc Go.Proofs.YtccenpmaooailaaGreat.Yj Go.Proofs.YtccenpmaooailaaGreat.Yi Go.Proofs.YtccenpmaooailaaGreat.Yk

theorem notS_fold {mode : Int} (hm : 0 ≤ mode ∧ mode ≤ 4) {m : List Occ} : ∀ {c : List Occ} {st : List Occ × List Occ} {a k : Nat}, SeqLen st a k → (∀ o ∈ c, IsOk o) → c.foldl (notStep mode m) st = c.foldl (notStepS mode m) st
  | [], _, _, _, _, _ => rfl
  | o :: os, st, a, k, h, hc => by
    rw [List.foldl_cons, List.foldl_cons, notS_fold hm (notLen_step (mode := mode) (m := m) h (hc o (by simp))) (fun x hx => hc x (List.mem_cons_of_mem _ hx)), notStep_eq hm h.ok1 (hc o (by simp))]
theorem eS_fold {mode : Int} (hm : 0 ≤ mode ∧ mode ≤ 4) {m : List Occ} : ∀ {c : List Occ} {st : List Occ × List Occ} {a k : Nat}, SeqLen st a k → (∀ o ∈ c, IsOk o) → c.foldl (eStep mode m) st = c.foldl (eStepS mode m) st
  | [], _, _, _, _, _ => rfl
  | o :: os, st, a, k, h, hc => by
    rw [List.foldl_cons, List.foldl_cons, eS_fold hm (eLen_step (mode := mode) (m := m) h (hc o (by simp))) (fun x hx => hc x (List.mem_cons_of_mem _ hx)), eStep_eq hm h.ok1 (hc o (by simp))]
theorem not3_eq {mode : Int} (hm : 0 ≤ mode ∧ mode ≤ 4) {l m a b c : List Occ} (hl : AreOk l) (hc : ∀ o ∈ c, IsOk o) : not3 mode l m a b c = not3S mode l m a b c := by
  unfold not3 not3S
  rw [notS_fold hm (st := (l, [])) (a := l.length) (k := 0) ⟨hl, AreOk.nil, Nat.le_refl _, Nat.le_refl _⟩ hc]
theorem each3_eq {mode : Int} (hm : 0 ≤ mode ∧ mode ≤ 4) {l m a b c : List Occ} (hl : AreOk l) (hb : ∀ o ∈ b, IsOk o) : each3 mode l m a b c = each3S mode l m a b c := by
  unfold each3 each3S
  rw [eS_fold hm (st := (l, [])) (a := l.length) (k := 0) ⟨hl, AreOk.nil, Nat.le_refl _, Nat.le_refl _⟩ hb]
structure AfterS (w w6 : World) (p : P3) (AL AR Ao : Option Addr) (cL cR co : Nat) : Prop where
  la : IsL w6 p.a AL cL
  lb : IsL w6 p.b AR cR
  lc : IsL w6 p.c Ao co
  bel : Below w.heap.size w w6
  bR : w6.heap[w.heap.size + 1]? = some (.cells #[.slice none 0 0, .slice none 0 0] 25 (0, 0))
theorem AfterS.below {w w6 w7 : World} {p : P3} {AL AR Ao : Option Addr} {cL cR co : Nat} (h : AfterS w w6 p AL AR Ao cL cR co) (hb : Below w6.heap.size w6 w7) : AfterS w w7 p AL AR Ao cL cR co :=
  ⟨h.la.below hb, h.lb.below hb, h.lc.below hb, below_then h.bel h.bel.size hb, blk_below h.bR hb⟩
end Go.Proofs.YtccenpmaooailaaGreat.Tl


/- SpanNot, SpanEach: the program's. -/
import Derived.Test.YtccenpmaooailaaNB7
import Derived.Test.YtccenpmaooailaaNB6
import Derived.Test.YtccenpmaooailaaNTd
set_option linter.unusedVariables false
set_option linter.unusedSimpArgs false
namespace Go.Proofs.Ytccenpmaooailaa.Te
open Go.RowKit Go.Proofs.YtccenpmaooailaaW.PrintWords Go.Proofs.Ytccenpmaooailaa.Wd Go.Proofs.Ytccenpmaooailaa.Pu Go.Proofs.Ytccenpmaooailaa.Pv Go.Proofs.Ytccenpmaooailaa.Ca Go.Proofs.Ytccenpmaooailaa.Cb Go.Proofs.Ytccenpmaooailaa.Cc Go.Proofs.Ytccenpmaooailaa.Cp Go.Proofs.Ytccenpmaooailaa.Cd Go.Proofs.Ytccenpmaooailaa.Ci Go.Proofs.Ytccenpmaooailaa.Ce Go.Proofs.Ytccenpmaooailaa.Cf Go.Proofs.Ytccenpmaooailaa.Cg Go.Proofs.Ytccenpmaooailaa.Sc Go.Proofs.Ytccenpmaooailaa.Se Go.Proofs.Ytccenpmaooailaa.Sh Go.Proofs.Ytccenpmaooailaa.Si Go.Proofs.Ytccenpmaooailaa.Sp Go.Proofs.Ytccenpmaooailaa.Ia Go.Proofs.Ytccenpmaooailaa.Ib Go.Proofs.Ytccenpmaooailaa.Ic Go.Proofs.Ytccenpmaooailaa.Id Go.Proofs.Ytccenpmaooailaa.Ie Go.Proofs.Ytccenpmaooailaa.If Go.Proofs.Ytccenpmaooailaa.Ig Go.Proofs.Ytccenpmaooailaa.Ih Go.Proofs.Ytccenpmaooailaa.Ij Go.Proofs.Ytccenpmaooailaa.Ik Go.Proofs.Ytccenpmaooailaa.Ra Go.Proofs.Ytccenpmaooailaa.Rb Go.Proofs.Ytccenpmaooailaa.Rc Go.Proofs.Ytccenpmaooailaa.Rd Go.Proofs.Ytccenpmaooailaa.Re Go.Proofs.Ytccenpmaooailaa.Sj Go.Proofs.Ytccenpmaooailaa.Ya Go.Proofs.Ytccenpmaooailaa.Yd Go.Proofs.Ytccenpmaooailaa.Yf Go.Proofs.Ytccenpmaooailaa.Yg Go.Proofs.Ytccenpmaooailaa.Ih Go.Proofs.Ytccenpmaooailaa.Yh Go.Proofs.Ytccenpmaooailaa.Yi Go.Proofs.Ytccenpmaooailaa.Sg Go.Proofs.Ytccenpmaooailaa.Sf Go.Proofs.Ytccenpmaooailaa.Yj Go.Proofs.Ytccenpmaooailaa.Ig Go.Proofs.Ytccenpmaooailaa.Yk Go.Proofs.Ytccenpmaooailaa.Ik Go.Proofs.Ytccenpmaooailaa.Yl Go.Proofs.Ytccenpmaooailaa.Ij Go.Proofs.Ytccenpmaooailaa.Ym Go.Proofs.Ytccenpmaooailaa.Il Go.Proofs.Ytccenpmaooailaa.Yn Go.Proofs.Ytccenpmaooailaa.Yo Go.Proofs.Ytccenpmaooailaa.In Go.Proofs.Ytccenpmaooailaa.Yq Go.Proofs.Ytccenpmaooailaa.Pw Go.Proofs.Ytccenpmaooailaa.Px Go.Proofs.Ytccenpmaooailaa.La Go.Proofs.Ytccenpmaooailaa.Db Go.Proofs.Ytccenpmaooailaa.Ta Go.Proofs.Ytccenpmaooailaa.Tb Go.Proofs.Ytccenpmaooailaa.Tc Go.Proofs.Ytccenpmaooailaa.Td Go.Proofs.Ytccenpmaooailaa.Sh Go.Proofs.Ytccenpmaooailaa.Id

theorem fits5_iff {mode : Int} {l r a b c : List Occ} : fits5 mode l r a b c = true ↔ (0 ≤ mode ∧ mode ≤ 4) ∧ (AreOk l ∧ l.length ≤ 40) ∧ (AreOk r ∧ r.length ≤ 40) ∧ (AreOk a ∧ a.length ≤ 40) ∧ (AreOk b ∧ b.length ≤ 40) ∧ (AreOk c ∧ c.length ≤ 40) := by
  unfold fits5 inb
  simp only [Bool.and_eq_true, decide_eq_true_eq, okOs_iff]
  constructor
  · rintro ⟨⟨⟨⟨h1, h2, h3⟩, h4⟩, h5⟩, h6⟩; exact ⟨h1, h2, h3, h4, h5, h6⟩
  · rintro ⟨h1, h2, h3, h4, h5, h6⟩; exact ⟨⟨⟨⟨h1, h2, h3⟩, h4⟩, h5⟩, h6⟩
theorem stepLen_fold {f : List Occ × List Occ → Occ → List Occ × List Occ} {a : Nat} (hf : ∀ st c o, SeqLen st a c → IsOk o → SeqLen (f st o) a (c + a)) : ∀ {right : List Occ} {st : List Occ × List Occ} {c : Nat}, SeqLen st a c → (∀ o ∈ right, IsOk o) → SeqLen (right.foldl f st) a (c + right.length * a)
  | [], st, c, h, _ => by simpa using h
  | o :: os, st, c, h, hr => by
    have := stepLen_fold hf (right := os) (hf st c o h (hr o (by simp))) (fun x hx => hr x (List.mem_cons_of_mem _ hx))
    rw [List.foldl_cons]
    refine ⟨this.ok1, this.ok2, this.own, ?_⟩
    have h2 := this.out
    rw [List.length_cons, Nat.add_mul, Nat.one_mul]
    omega
theorem not3_ok {mode : Int} (hm : 0 ≤ mode ∧ mode ≤ 4) {l m a b c : List Occ} (hl : AreOk l) (hr : AreOk m) (ha : AreOk a) (hb : AreOk b) (hc : AreOk c) (n1 : l.length + a.length ≤ 500) (n2 : m.length + b.length ≤ 500) (n3 : c.length ≤ 500) (n4 : l.length ≤ 500) : Ok3 (not3 mode l m a b c) := by
  have h3 := stepLen_fold (f := notStep mode m) (a := l.length) (fun _ _ _ h ho => notLen_step h ho) (right := c) (st := (l, [])) (c := 0) ⟨hl, AreOk.nil, Nat.le_refl _, Nat.le_refl _⟩ hc.all
  have h6 : c.length * l.length ≤ 500 * 500 := mul_le (by omega) (by omega)
  refine ⟨h3.ok1.putAll ha.all, hr.putAll hb.all, h3.ok2, ?_, ?_, ?_⟩
  · have h4 := Go.Proofs.Ytccenpmaooailaa.Pv.len_putAll1 (c.foldl (notStep mode m) (l, [])).1 a
    have h5 := h3.own
    show (putAll _ a).length ≤ _
    omega
  · have h4 := Go.Proofs.Ytccenpmaooailaa.Pv.len_putAll1 m b
    show (putAll m b).length ≤ _
    omega
  · have h5 := h3.out
    show (c.foldl (notStep mode m) (l, [])).2.length ≤ _
    omega
theorem each3_ok {mode : Int} (hm : 0 ≤ mode ∧ mode ≤ 4) {l m a b c : List Occ} (hl : AreOk l) (hr : AreOk m) (ha : AreOk a) (hb : AreOk b) (hc : AreOk c) (n1 : l.length + a.length ≤ 500) (n2 : m.length + c.length ≤ 500) (n3 : b.length ≤ 500) (n4 : l.length ≤ 500) : Ok3 (each3 mode l m a b c) := by
  have h3 := stepLen_fold (f := eStep mode m) (a := l.length) (fun _ _ _ h ho => eLen_step h ho) (right := b) (st := (l, [])) (c := 0) ⟨hl, AreOk.nil, Nat.le_refl _, Nat.le_refl _⟩ hb.all
  have h6 : b.length * l.length ≤ 500 * 500 := mul_le (by omega) (by omega)
  refine ⟨h3.ok1.putAll ha.all, hr.putAll hc.all, h3.ok2, ?_, ?_, ?_⟩
  · have h4 := Go.Proofs.Ytccenpmaooailaa.Pv.len_putAll1 (b.foldl (eStep mode m) (l, [])).1 a
    have h5 := h3.own
    show (putAll _ a).length ≤ _
    omega
  · have h4 := Go.Proofs.Ytccenpmaooailaa.Pv.len_putAll1 m c
    show (putAll m c).length ≤ _
    omega
  · have h5 := h3.out
    show (b.foldl (eStep mode m) (l, [])).2.length ≤ _
    omega

end Go.Proofs.Ytccenpmaooailaa.Te

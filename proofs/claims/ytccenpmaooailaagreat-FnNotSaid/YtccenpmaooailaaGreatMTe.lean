
/- SpanNot, SpanEach: the program's. -/
import Derived.Test.YtccenpmaooailaaGreatMB7
import Derived.Test.YtccenpmaooailaaGreatMB6
import Derived.Test.YtccenpmaooailaaGreatMTd
set_option linter.unusedVariables false
set_option linter.unusedSimpArgs false
namespace Go.Proofs.YtccenpmaooailaaGreat.Te
open Go.RowKit Go.Proofs.YtccenpmaooailaaGreatW.PrintWords Go.Proofs.YtccenpmaooailaaGreat.Wd Go.Proofs.YtccenpmaooailaaGreat.Pu Go.Proofs.YtccenpmaooailaaGreat.Pv Go.Proofs.YtccenpmaooailaaGreat.Ca Go.Proofs.YtccenpmaooailaaGreat.Cb Go.Proofs.YtccenpmaooailaaGreat.Cc Go.Proofs.YtccenpmaooailaaGreat.Cp Go.Proofs.YtccenpmaooailaaGreat.Cd Go.Proofs.YtccenpmaooailaaGreat.Ci Go.Proofs.YtccenpmaooailaaGreat.Ce Go.Proofs.YtccenpmaooailaaGreat.Cf Go.Proofs.YtccenpmaooailaaGreat.Cg Go.Proofs.YtccenpmaooailaaGreat.Sc Go.Proofs.YtccenpmaooailaaGreat.Se Go.Proofs.YtccenpmaooailaaGreat.Sh Go.Proofs.YtccenpmaooailaaGreat.Si Go.Proofs.YtccenpmaooailaaGreat.Sp Go.Proofs.YtccenpmaooailaaGreat.Ia Go.Proofs.YtccenpmaooailaaGreat.Ib Go.Proofs.YtccenpmaooailaaGreat.Ic Go.Proofs.YtccenpmaooailaaGreat.Id Go.Proofs.YtccenpmaooailaaGreat.Ie Go.Proofs.YtccenpmaooailaaGreat.If Go.Proofs.YtccenpmaooailaaGreat.Ig Go.Proofs.YtccenpmaooailaaGreat.Ih Go.Proofs.YtccenpmaooailaaGreat.Ij Go.Proofs.YtccenpmaooailaaGreat.Ik Go.Proofs.YtccenpmaooailaaGreat.Ra Go.Proofs.YtccenpmaooailaaGreat.Rb Go.Proofs.YtccenpmaooailaaGreat.Rc Go.Proofs.YtccenpmaooailaaGreat.Rd Go.Proofs.YtccenpmaooailaaGreat.Re Go.Proofs.YtccenpmaooailaaGreat.Sj Go.Proofs.YtccenpmaooailaaGreat.Ya Go.Proofs.YtccenpmaooailaaGreat.Yd Go.Proofs.YtccenpmaooailaaGreat.Yf Go.Proofs.YtccenpmaooailaaGreat.Yg Go.Proofs.YtccenpmaooailaaGreat.Ih Go.Proofs.YtccenpmaooailaaGreat.Yh Go.Proofs.YtccenpmaooailaaGreat.Yi Go.Proofs.YtccenpmaooailaaGreat.Sg Go.Proofs.YtccenpmaooailaaGreat.Sf Go.Proofs.YtccenpmaooailaaGreat.Yj Go.Proofs.YtccenpmaooailaaGreat.Ig Go.Proofs.YtccenpmaooailaaGreat.Yk Go.Proofs.YtccenpmaooailaaGreat.Ik Go.Proofs.YtccenpmaooailaaGreat.Yl Go.Proofs.YtccenpmaooailaaGreat.Ij Go.Proofs.YtccenpmaooailaaGreat.Ym Go.Proofs.YtccenpmaooailaaGreat.Il Go.Proofs.YtccenpmaooailaaGreat.Yn Go.Proofs.YtccenpmaooailaaGreat.Yo Go.Proofs.YtccenpmaooailaaGreat.In Go.Proofs.YtccenpmaooailaaGreat.Yq Go.Proofs.YtccenpmaooailaaGreat.Pw Go.Proofs.YtccenpmaooailaaGreat.Px Go.Proofs.YtccenpmaooailaaGreat.La Go.Proofs.YtccenpmaooailaaGreat.Db Go.Proofs.YtccenpmaooailaaGreat.Ta Go.Proofs.YtccenpmaooailaaGreat.Tb Go.Proofs.YtccenpmaooailaaGreat.Tc Go.Proofs.YtccenpmaooailaaGreat.Td Go.Proofs.YtccenpmaooailaaGreat.Sh Go.Proofs.YtccenpmaooailaaGreat.Id

theorem fits5_iff {mode : Int} {l r a b c : List Occ} : fits5 mode l r a b c = true ↔ (0 ≤ mode ∧ mode ≤ 4) ∧ (AreOk l ∧ l.length ≤ 40) ∧ (AreOk r ∧ r.length ≤ 40) ∧ (AreOk a ∧ a.length ≤ 40) ∧ (AreOk b ∧ b.length ≤ 40) ∧ (AreOk c ∧ c.length ≤ 40) := by
  unfold fits5 inb
  simp only [Bool.and_eq_true, decide_eq_true_eq, okOs_iff]
  constructor
  · rintro ⟨⟨⟨⟨h1, h2, h3⟩, h4⟩, h5⟩, h6⟩; exact ⟨h1, h2, h3, h4, h5, h6⟩
  · rintro ⟨h1, h2, h3, h4, h5, h6⟩; exact ⟨⟨⟨⟨h1, h2, h3⟩, h4⟩, h5⟩, h6⟩
theorem stepLen_fold {f : List Occ × List Occ → Occ → List Occ × List Occ} {a : Nat} (hf : ∀ st c o, SeqLen st a c → IsOk o → SeqLen (f st o) a (c + a)) : ∀ {right : List Occ} {st : List Occ × List Occ} {c : Nat}, SeqLen st a c → (∀ o ∈ right, IsOk o) → SeqLen (right.foldl f st) a (c + right.length * a)
  | [], st, c, h, _ => by simpa using h
  | o :: os, st, c, h, hr => by
    have := stepLen_fold hf (right := os) (hf st c o h (hr o (by simp))) (fun x hx => hr x (List.mem_cons_of_mem _ hx))
    rw [List.foldl_cons]
    refine ⟨this.ok1, this.ok2, this.own, ?_⟩
    have h2 := this.out
    rw [List.length_cons, Nat.add_mul, Nat.one_mul]
    omega
theorem not3_ok {mode : Int} (hm : 0 ≤ mode ∧ mode ≤ 4) {l m a b c : List Occ} (hl : AreOk l) (hr : AreOk m) (ha : AreOk a) (hb : AreOk b) (hc : AreOk c) (n1 : l.length + a.length ≤ 500) (n2 : m.length + b.length ≤ 500) (n3 : c.length ≤ 500) (n4 : l.length ≤ 500) : Ok3 (not3 mode l m a b c) := by
  have h3 := stepLen_fold (f := notStep mode m) (a := l.length) (fun _ _ _ h ho => notLen_step h ho) (right := c) (st := (l, [])) (c := 0) ⟨hl, AreOk.nil, Nat.le_refl _, Nat.le_refl _⟩ hc.all
  have h6 : c.length * l.length ≤ 500 * 500 := mul_le (by omega) (by omega)
  refine ⟨h3.ok1.putAll ha.all, hr.putAll hb.all, h3.ok2, ?_, ?_, ?_⟩
  · have h4 := Go.Proofs.YtccenpmaooailaaGreat.Pv.len_putAll1 (c.foldl (notStep mode m) (l, [])).1 a
    have h5 := h3.own
    show (putAll _ a).length ≤ _
    omega
  · have h4 := Go.Proofs.YtccenpmaooailaaGreat.Pv.len_putAll1 m b
    show (putAll m b).length ≤ _
    omega
  · have h5 := h3.out
    show (c.foldl (notStep mode m) (l, [])).2.length ≤ _
    omega
theorem each3_ok {mode : Int} (hm : 0 ≤ mode ∧ mode ≤ 4) {l m a b c : List Occ} (hl : AreOk l) (hr : AreOk m) (ha : AreOk a) (hb : AreOk b) (hc : AreOk c) (n1 : l.length + a.length ≤ 500) (n2 : m.length + c.length ≤ 500) (n3 : b.length ≤ 500) (n4 : l.length ≤ 500) : Ok3 (each3 mode l m a b c) := by
  have h3 := stepLen_fold (f := eStep mode m) (a := l.length) (fun _ _ _ h ho => eLen_step h ho) (right := b) (st := (l, [])) (c := 0) ⟨hl, AreOk.nil, Nat.le_refl _, Nat.le_refl _⟩ hb.all
  have h6 : b.length * l.length ≤ 500 * 500 := mul_le (by omega) (by omega)
  refine ⟨h3.ok1.putAll ha.all, hr.putAll hc.all, h3.ok2, ?_, ?_, ?_⟩
  · have h4 := Go.Proofs.YtccenpmaooailaaGreat.Pv.len_putAll1 (b.foldl (eStep mode m) (l, [])).1 a
    have h5 := h3.own
    show (putAll _ a).length ≤ _
    omega
  · have h4 := Go.Proofs.YtccenpmaooailaaGreat.Pv.len_putAll1 m c
    show (putAll m c).length ≤ _
    omega
  · have h5 := h3.out
    show (b.foldl (eStep mode m) (l, [])).2.length ≤ _
    omega

end Go.Proofs.YtccenpmaooailaaGreat.Te

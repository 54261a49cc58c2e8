
/- Rows of one's own and where they lie. -/
import Derived.Test.YtccenpmaooailaaNB7
import Derived.Test.YtccenpmaooailaaNB6
import Derived.Test.YtccenpmaooailaaNEe
import Derived.Test.YtccenpmaooailaaNTl
set_option linter.unusedVariables false
set_option linter.unusedSimpArgs false
namespace Go.Proofs.Ytccenpmaooailaa.Ef
open Go.RowKit Go.Proofs.YtccenpmaooailaaW.PrintWords Go.Proofs.Ytccenpmaooailaa.Wd Go.Proofs.Ytccenpmaooailaa.Pu Go.Proofs.Ytccenpmaooailaa.Pv Go.Proofs.Ytccenpmaooailaa.Ca Go.Proofs.Ytccenpmaooailaa.Cb Go.Proofs.Ytccenpmaooailaa.Cc Go.Proofs.Ytccenpmaooailaa.Cp Go.Proofs.Ytccenpmaooailaa.Cd Go.Proofs.Ytccenpmaooailaa.Ci Go.Proofs.Ytccenpmaooailaa.Ce Go.Proofs.Ytccenpmaooailaa.Cf Go.Proofs.Ytccenpmaooailaa.Cg Go.Proofs.Ytccenpmaooailaa.Sc Go.Proofs.Ytccenpmaooailaa.Se Go.Proofs.Ytccenpmaooailaa.Sh Go.Proofs.Ytccenpmaooailaa.Si Go.Proofs.Ytccenpmaooailaa.Sp Go.Proofs.Ytccenpmaooailaa.Ia Go.Proofs.Ytccenpmaooailaa.Ib Go.Proofs.Ytccenpmaooailaa.Ic Go.Proofs.Ytccenpmaooailaa.Id Go.Proofs.Ytccenpmaooailaa.Ie Go.Proofs.Ytccenpmaooailaa.If Go.Proofs.Ytccenpmaooailaa.Ig Go.Proofs.Ytccenpmaooailaa.Ih Go.Proofs.Ytccenpmaooailaa.Ij Go.Proofs.Ytccenpmaooailaa.Ik Go.Proofs.Ytccenpmaooailaa.Ra Go.Proofs.Ytccenpmaooailaa.Rb Go.Proofs.Ytccenpmaooailaa.Rc Go.Proofs.Ytccenpmaooailaa.Rd Go.Proofs.Ytccenpmaooailaa.Re Go.Proofs.Ytccenpmaooailaa.Sj Go.Proofs.Ytccenpmaooailaa.Ya Go.Proofs.Ytccenpmaooailaa.Yd Go.Proofs.Ytccenpmaooailaa.Yf Go.Proofs.Ytccenpmaooailaa.Yg Go.Proofs.Ytccenpmaooailaa.Ih Go.Proofs.Ytccenpmaooailaa.Yh Go.Proofs.Ytccenpmaooailaa.Yi Go.Proofs.Ytccenpmaooailaa.Sg Go.Proofs.Ytccenpmaooailaa.Sf Go.Proofs.Ytccenpmaooailaa.Yj Go.Proofs.Ytccenpmaooailaa.Ig Go.Proofs.Ytccenpmaooailaa.Yk Go.Proofs.Ytccenpmaooailaa.Ik Go.Proofs.Ytccenpmaooailaa.Yl Go.Proofs.Ytccenpmaooailaa.Ij Go.Proofs.Ytccenpmaooailaa.Ym Go.Proofs.Ytccenpmaooailaa.Il Go.Proofs.Ytccenpmaooailaa.Yn Go.Proofs.Ytccenpmaooailaa.Yo Go.Proofs.Ytccenpmaooailaa.In Go.Proofs.Ytccenpmaooailaa.Yq Go.Proofs.Ytccenpmaooailaa.Pw Go.Proofs.Ytccenpmaooailaa.Px Go.Proofs.Ytccenpmaooailaa.La Go.Proofs.Ytccenpmaooailaa.Db Go.Proofs.Ytccenpmaooailaa.Sh Go.Proofs.Ytccenpmaooailaa.Id Go.Proofs.Ytccenpmaooailaa.Ea Go.Proofs.Ytccenpmaooailaa.Eb Go.Proofs.Ytccenpmaooailaa.Ec Go.Proofs.Ytccenpmaooailaa.Ed Go.Proofs.Ytccenpmaooailaa.Eg Go.Proofs.Ytccenpmaooailaa.Ee Go.Proofs.Ytccenpmaooailaa.Tb Go.Proofs.Ytccenpmaooailaa.Td Go.Proofs.Ytccenpmaooailaa.Te

def In (lo hi : Nat) : Nat → Prop := fun k => lo ≤ k ∧ k < hi
/-- a row of one's own, all of it from lo to hi -/
def Row (w : World) (lo hi : Nat) (v : Value) (l : List Occ) : Prop := SS w lo (In lo hi) v l
def Row2 (w : World) (lo hi : Nat) (v0 : Value) (l : List Occ) (v1 : Value) (r : List Occ) : Prop := ∃ P Q, SS w lo P v0 l ∧ SS w lo Q v1 r ∧ ApP P Q ∧ (∀ k, P k → In lo hi k) ∧ (∀ k, Q k → In lo hi k)
def Row3 (w : World) (lo hi : Nat) (v0 v1 v2 : Value) (p : P3) : Prop := ∃ P0 P1 P2, SS w lo P0 v0 p.a ∧ SS w lo P1 v1 p.b ∧ SS w lo P2 v2 p.c ∧ ApP P0 P1 ∧ ApP P0 P2 ∧ ApP P1 P2 ∧ (∀ k, P0 k → In lo hi k) ∧ (∀ k, P1 k → In lo hi k) ∧ (∀ k, P2 k → In lo hi k)
theorem Row.of {w' : World} {n : Nat} {v : Value} {l : List Occ} {P : Nat → Prop} (h : SS w' n P v l) : Row w' n w'.heap.size v l := Kd.S_mono (SS.lt h) (fun k hk => ⟨hk.2.1, hk.2.2⟩)
theorem Row2.of {w' : World} {n : Nat} {v0 v1 : Value} {l r : List Occ} {P Q : Nat → Prop} (h0 : SS w' n P v0 l) (h1 : SS w' n Q v1 r) (hap : ApP P Q) : Row2 w' n w'.heap.size v0 l v1 r :=
  ⟨_, _, SS.lt h0, SS.lt h1, fun k a b => hap k a.1 b.1, fun k hk => ⟨hk.2.1, hk.2.2⟩, fun k hk => ⟨hk.2.1, hk.2.2⟩⟩
theorem Row3.of {w' : World} {n : Nat} {v0 v1 v2 : Value} {p : P3} (h : Three w' n v0 v1 v2 p) : Row3 w' n w'.heap.size v0 v1 v2 p := by
  obtain ⟨P0, P1, P2, h0, h1, h2, a, b, c⟩ := h
  exact ⟨_, _, _, SS.lt h0, SS.lt h1, SS.lt h2, fun k x y => a k x.1 y.1, fun k x y => b k x.1 y.1, fun k x y => c k x.1 y.1, fun k hk => ⟨hk.2.1, hk.2.2⟩, fun k hk => ⟨hk.2.1, hk.2.2⟩, fun k hk => ⟨hk.2.1, hk.2.2⟩⟩
theorem Row.fr {S : Nat → Prop} {w w' : World} {lo hi : Nat} {v : Value} {l : List Occ} (h : Row w lo hi v l) (hf : Fr S w w') (hS : ∀ k, S k → k < lo ∨ hi ≤ k) : Row w' lo hi v l := SS.fr h hf (fun k hk hs => by have := hS k hs; have := hk.1; have := hk.2; omega)
theorem Row2.fr {S : Nat → Prop} {w w' : World} {lo hi : Nat} {v0 v1 : Value} {l r : List Occ} (h : Row2 w lo hi v0 l v1 r) (hf : Fr S w w') (hS : ∀ k, S k → k < lo ∨ hi ≤ k) : Row2 w' lo hi v0 l v1 r := by
  obtain ⟨P, Q, h0, h1, hap, hp, hq⟩ := h
  exact ⟨P, Q, SS.fr h0 hf (fun k hk hs => by have := hS k hs; have := (hp k hk).1; have := (hp k hk).2; omega), SS.fr h1 hf (fun k hk hs => by have := hS k hs; have := (hq k hk).1; have := (hq k hk).2; omega), hap, hp, hq⟩
theorem Row3.fr {S : Nat → Prop} {w w' : World} {lo hi : Nat} {v0 v1 v2 : Value} {p : P3} (h : Row3 w lo hi v0 v1 v2 p) (hf : Fr S w w') (hS : ∀ k, S k → k < lo ∨ hi ≤ k) : Row3 w' lo hi v0 v1 v2 p := by
  obtain ⟨P, Q, R, h0, h1, h2, a, b, c, hp, hq, hr⟩ := h
  exact ⟨P, Q, R, SS.fr h0 hf (fun k hk hs => by have := hS k hs; have := (hp k hk).1; have := (hp k hk).2; omega), SS.fr h1 hf (fun k hk hs => by have := hS k hs; have := (hq k hk).1; have := (hq k hk).2; omega), SS.fr h2 hf (fun k hk hs => by have := hS k hs; have := (hr k hk).1; have := (hr k hk).2; omega), a, b, c, hp, hq, hr⟩
theorem fr_none {w w' : World} (hb : Below w.heap.size w w') : Fr (fun _ => False) w w' := Fr.of_below hb
theorem Row.below {w w' : World} {lo hi : Nat} {v : Value} {l : List Occ} (h : Row w lo hi v l) (hb : Below w.heap.size w w') : Row w' lo hi v l := h.fr (fr_none hb) (fun _ h => h.elim)
theorem Row2.below {w w' : World} {lo hi : Nat} {v0 v1 : Value} {l r : List Occ} (h : Row2 w lo hi v0 l v1 r) (hb : Below w.heap.size w w') : Row2 w' lo hi v0 l v1 r := h.fr (fr_none hb) (fun _ h => h.elim)
theorem Row3.below {w w' : World} {lo hi : Nat} {v0 v1 v2 : Value} {p : P3} (h : Row3 w lo hi v0 v1 v2 p) (hb : Below w.heap.size w w') : Row3 w' lo hi v0 v1 v2 p := h.fr (fr_none hb) (fun _ h => h.elim)
theorem Row.isL {w : World} {lo hi : Nat} {A : Option Addr} {n c : Nat} {l : List Occ} (h : Row w lo hi (.slice A n c) l) : IsL w l A c := SS.isL h
theorem Row2.isL {w : World} {lo hi : Nat} {A B : Option Addr} {n m c d : Nat} {l r : List Occ} (h : Row2 w lo hi (.slice A n c) l (.slice B m d) r) : IsL w l A c ∧ IsL w r B d := by
  obtain ⟨P, Q, h0, h1, _⟩ := h
  exact ⟨SS.isL h0, SS.isL h1⟩
theorem Row3.isL {w : World} {lo hi : Nat} {A B C : Option Addr} {n m q c d e : Nat} {p : P3} (h : Row3 w lo hi (.slice A n c) (.slice B m d) (.slice C q e) p) : IsL w p.a A c ∧ IsL w p.b B d ∧ IsL w p.c C e := by
  obtain ⟨P, Q, R, h0, h1, h2, _⟩ := h
  exact ⟨SS.isL h0, SS.isL h1, SS.isL h2⟩
theorem rowMark (lo hi : Nat) (v : Value) (l : List Occ) (k : Int) (w : World) (hk : 0 ≤ k) (hk2 : k + wtO l ≤ 4611686018427387904) (h : Row w lo hi v l) :
    Calls Try.prog 19 #[v, .int .i64 k] w fun e w' => e = .returned (.int .i64 (k + wtO l)) ∧ Row w' lo hi v (mkO k l) ∧ Fr (In lo hi) w w' :=
  (markO_any lo _ v l k w hk hk2 h).mono (fun e w' ⟨h1, h2, h3⟩ => ⟨h1, h2, Fr.mono h3 (fun k hk _ => hk.1)⟩)
theorem row3MarkC (lo hi : Nat) (v0 v1 v2 : Value) (p : P3) (k : Int) (w : World) (hk : 0 ≤ k) (hk2 : k + wtO p.c ≤ 4611686018427387904) (h : Row3 w lo hi v0 v1 v2 p) :
    Calls Try.prog 19 #[v2, .int .i64 k] w fun e w' => e = .returned (.int .i64 (k + wtO p.c)) ∧ Row3 w' lo hi v0 v1 v2 ⟨p.a, p.b, mkO k p.c⟩ ∧ Fr (In lo hi) w w' := by
  obtain ⟨P, Q, R, h0, h1, h2, a, b, c, hp, hq, hr⟩ := h
  refine (markO_any lo _ v2 p.c k w hk hk2 h2).mono (fun e w' ⟨e1, e2, e3⟩ => ⟨e1, ⟨P, Q, R, SS.fr h0 e3 (fun j x y => b j x y.1), SS.fr h1 e3 (fun j x y => c j x y.1), e2, a, b, c, hp, hq, hr⟩, Fr.mono e3 (fun j hj _ => hr j hj.1)⟩)

theorem row2MarkPair (lo hi : Nat) (v0 v1 : Value) (l r : List Occ) (k : Int) (w : World) (hk : 0 ≤ k) (hk2 : k + wtO l + wtO r ≤ 4611686018427387904) (h : Row2 w lo hi v0 l v1 r) :
    Calls Try.prog 18 #[.agg #[v0, v1], .int .i64 k] w fun e w' => e = .returned (.int .i64 (k + wtO l + wtO r)) ∧ Row2 w' lo hi v0 (mkO k l) v1 (mkO (k + wtO l) r) ∧ Fr (In lo hi) w w' := by
  obtain ⟨P, Q, h0, h1, hap, hp, hq⟩ := h
  refine (markPair_any lo P Q v0 v1 l r k w hk hk2 h0 h1 hap).mono (fun e w' ⟨e1, e2, e3, e4⟩ => ⟨e1, ⟨P, Q, e2, e3, hap, hp, hq⟩, Fr.mono e4 (fun j hj _ => hj.1.elim (hp j) (hq j))⟩)
theorem row3MarkPair (lo hi : Nat) (v0 v1 v2 : Value) (p : P3) (k : Int) (w : World) (hk : 0 ≤ k) (hk2 : k + wtO p.a + wtO p.b ≤ 4611686018427387904) (h : Row3 w lo hi v0 v1 v2 p) :
    Calls Try.prog 18 #[.agg #[v0, v1], .int .i64 k] w fun e w' => e = .returned (.int .i64 (k + wtO p.a + wtO p.b)) ∧ Row3 w' lo hi v0 v1 v2 ⟨mkO k p.a, mkO (k + wtO p.a) p.b, p.c⟩ ∧ Fr (In lo hi) w w' := by
  obtain ⟨P, Q, R, h0, h1, h2, a, b, c, hp, hq, hr⟩ := h
  refine (markPair_any lo P Q v0 v1 p.a p.b k w hk hk2 h0 h1 a).mono (fun e w' ⟨e1, e2, e3, e4⟩ => ⟨e1, ⟨P, Q, R, e2, e3, SS.fr h2 e4 (fun j x y => y.1.elim (fun z => b j z x) (fun z => c j z x)), a, b, c, hp, hq, hr⟩, Fr.mono e4 (fun j hj _ => hj.1.elim (hp j) (hq j))⟩)

theorem row2MarkSpan (lo hi : Nat) (v0 v1 : Value) (l r : List Occ) (k : Int) (w : World) (hk : 0 ≤ k) (hk2 : k + wtO l + wtO r ≤ 4611686018427387904) (h : Row2 w lo hi v0 l v1 r) :
    Calls Try.prog 33 #[.agg #[v0, v1], .int .i64 k] w fun e w' => e = .returned (.int .i64 (k + wtO l + wtO r)) ∧ Row2 w' lo hi v0 (mkO k l) v1 (mkO (k + wtO l) r) ∧ Fr (In lo hi) w w' := by
  obtain ⟨P, Q, h0, h1, hap, hp, hq⟩ := h
  refine (markSpan_any lo P Q v0 v1 l r k w hk hk2 h0 h1 hap).mono (fun e w' ⟨e1, e2, e3, e4⟩ => ⟨e1, ⟨P, Q, e2, e3, hap, hp, hq⟩, Fr.mono e4 (fun j hj _ => hj.1.elim (hp j) (hq j))⟩)
theorem row3MarkSpan (lo hi : Nat) (v0 v1 v2 : Value) (p : P3) (k : Int) (w : World) (hk : 0 ≤ k) (hk2 : k + wtO p.a + wtO p.b ≤ 4611686018427387904) (h : Row3 w lo hi v0 v1 v2 p) :
    Calls Try.prog 33 #[.agg #[v0, v1], .int .i64 k] w fun e w' => e = .returned (.int .i64 (k + wtO p.a + wtO p.b)) ∧ Row3 w' lo hi v0 v1 v2 ⟨mkO k p.a, mkO (k + wtO p.a) p.b, p.c⟩ ∧ Fr (In lo hi) w w' := by
  obtain ⟨P, Q, R, h0, h1, h2, a, b, c, hp, hq, hr⟩ := h
  refine (markSpan_any lo P Q v0 v1 p.a p.b k w hk hk2 h0 h1 a).mono (fun e w' ⟨e1, e2, e3, e4⟩ => ⟨e1, ⟨P, Q, R, e2, e3, SS.fr h2 e4 (fun j x y => y.1.elim (fun z => b j z x) (fun z => c j z x)), a, b, c, hp, hq, hr⟩, Fr.mono e4 (fun j hj _ => hj.1.elim (hp j) (hq j))⟩)

theorem wtO_le (l : List Occ) (n m : Nat) (h : l.length ≤ n) (hx : ∀ x ∈ l, x.f2.length ≤ m) : wtO l ≤ n * (2 + m) := by
  induction l generalizing n with
  | nil => simp [wtO]
  | cons o os ih =>
    obtain ⟨n', rfl⟩ : ∃ n', n = n' + 1 := ⟨n - 1, by simp at h; omega⟩
    have h1 := ih n' (by simpa using h) (fun x hx2 => hx x (List.mem_cons_of_mem _ hx2))
    have h2 := hx o (by simp)
    simp only [wtO]
    rw [Nat.add_mul]
    omega
theorem wt_big (l : List Occ) (h : l.length ≤ 1048576) (hx : ∀ x ∈ l, x.f2.length ≤ 1048576) : wtO l ≤ 1099513724928 := wtO_le l 1048576 1048576 h hx
def Wt3 (p : P3) : Prop := wtO p.a ≤ 1099513724928 ∧ wtO p.b ≤ 1099513724928 ∧ wtO p.c ≤ 1099513724928
theorem wt3_ok {p : P3} (h : Ok3 p) : Wt3 p := ⟨wt_big _ h.la (fun x hx => isOk_big (h.a.all x hx)), wt_big _ h.lb (fun x hx => isOk_big (h.b.all x hx)), wt_big _ h.lc (fun x hx => isOk_big (h.c.all x hx))⟩
theorem wt3_nil : Wt3 ⟨[], [], []⟩ := ⟨by decide, by decide, by decide⟩
theorem wt3_seq (mode : Int) (l r a b : List Occ) : Wt3 (spec3 (fits mode l r a b) (seq3 mode l r a b)) := by
  unfold spec3
  cases hq : fits mode l r a b with
  | false => exact wt3_nil
  | true =>
    obtain ⟨hm, ⟨hl, nl⟩, ⟨hr, nr⟩, ⟨ha, na⟩, ⟨hb, nb⟩⟩ := fits_iff.1 hq
    exact wt3_ok (seq3_ok hm hl hr ha hb (by omega) (by omega))
theorem wt3_and (mode : Int) (l r a b : List Occ) : Wt3 (spec3 (fits mode l r a b) (and3 mode l r a b)) := by
  unfold spec3
  cases hq : fits mode l r a b with
  | false => exact wt3_nil
  | true =>
    obtain ⟨hm, ⟨hl, nl⟩, ⟨hr, nr⟩, ⟨ha, na⟩, ⟨hb, nb⟩⟩ := fits_iff.1 hq
    exact wt3_ok (and3_ok hm hl hr ha hb (by omega) (by omega))
theorem wt3_not (mode : Int) (l r a b c : List Occ) : Wt3 (spec3 (fits5 mode l r a b c) (not3 mode l r a b c)) := by
  unfold spec3
  cases hq : fits5 mode l r a b c with
  | false => exact wt3_nil
  | true =>
    obtain ⟨hm, ⟨hl, nl⟩, ⟨hr, nr⟩, ⟨ha, na⟩, ⟨hb, nb⟩, ⟨hc, nc⟩⟩ := fits5_iff.1 hq
    exact wt3_ok (not3_ok hm hl hr ha hb hc (by omega) (by omega) (by omega) (by omega))
theorem wt3_each (mode : Int) (l r a b c : List Occ) : Wt3 (spec3 (fits5 mode l r a b c) (each3 mode l r a b c)) := by
  unfold spec3
  cases hq : fits5 mode l r a b c with
  | false => exact wt3_nil
  | true =>
    obtain ⟨hm, ⟨hl, nl⟩, ⟨hr, nr⟩, ⟨ha, na⟩, ⟨hb, nb⟩, ⟨hc, nc⟩⟩ := fits5_iff.1 hq
    exact wt3_ok (each3_ok hm hl hr ha hb hc (by omega) (by omega) (by omega) (by omega))
theorem Three.slice0 {w : World} {n : Nat} {v0 v1 v2 : Value} {p : P3} (h : Three w n v0 v1 v2 p) : ∃ A c, v0 = .slice A p.a.length c := by
  obtain ⟨P, Q, R, h0, h1, h2, _⟩ := h
  exact Kd.S_slice h0
theorem Three.slice1 {w : World} {n : Nat} {v0 v1 v2 : Value} {p : P3} (h : Three w n v0 v1 v2 p) : ∃ A c, v1 = .slice A p.b.length c := by
  obtain ⟨P, Q, R, h0, h1, h2, _⟩ := h
  exact Kd.S_slice h1
theorem Three.slice2 {w : World} {n : Nat} {v0 v1 v2 : Value} {p : P3} (h : Three w n v0 v1 v2 p) : ∃ A c, v2 = .slice A p.c.length c := by
  obtain ⟨P, Q, R, h0, h1, h2, _⟩ := h
  exact Kd.S_slice h2

end Go.Proofs.Ytccenpmaooailaa.Ef


/- Rows of one's own and where they lie. -/
import Derived.Test.YtccenpmaooailaaGreatNB7
import Derived.Test.YtccenpmaooailaaGreatNB6
import Derived.Test.YtccenpmaooailaaGreatNEe
import Derived.Test.YtccenpmaooailaaGreatNTl
set_option linter.unusedVariables false
set_option linter.unusedSimpArgs false
namespace Go.Proofs.YtccenpmaooailaaGreat.Ef
open Go.RowKit Go.Proofs.YtccenpmaooailaaGreatW.PrintWords Go.Proofs.YtccenpmaooailaaGreat.Wd Go.Proofs.YtccenpmaooailaaGreat.Pu Go.Proofs.YtccenpmaooailaaGreat.Pv Go.Proofs.YtccenpmaooailaaGreat.Ca Go.Proofs.YtccenpmaooailaaGreat.Cb Go.Proofs.YtccenpmaooailaaGreat.Cc Go.Proofs.YtccenpmaooailaaGreat.Cp Go.Proofs.YtccenpmaooailaaGreat.Cd Go.Proofs.YtccenpmaooailaaGreat.Ci Go.Proofs.YtccenpmaooailaaGreat.Ce Go.Proofs.YtccenpmaooailaaGreat.Cf Go.Proofs.YtccenpmaooailaaGreat.Cg Go.Proofs.YtccenpmaooailaaGreat.Sc Go.Proofs.YtccenpmaooailaaGreat.Se Go.Proofs.YtccenpmaooailaaGreat.Sh Go.Proofs.YtccenpmaooailaaGreat.Si Go.Proofs.YtccenpmaooailaaGreat.Sp Go.Proofs.YtccenpmaooailaaGreat.Ia Go.Proofs.YtccenpmaooailaaGreat.Ib Go.Proofs.YtccenpmaooailaaGreat.Ic Go.Proofs.YtccenpmaooailaaGreat.Id Go.Proofs.YtccenpmaooailaaGreat.Ie Go.Proofs.YtccenpmaooailaaGreat.If Go.Proofs.YtccenpmaooailaaGreat.Ig Go.Proofs.YtccenpmaooailaaGreat.Ih Go.Proofs.YtccenpmaooailaaGreat.Ij Go.Proofs.YtccenpmaooailaaGreat.Ik Go.Proofs.YtccenpmaooailaaGreat.Ra Go.Proofs.YtccenpmaooailaaGreat.Rb Go.Proofs.YtccenpmaooailaaGreat.Rc Go.Proofs.YtccenpmaooailaaGreat.Rd Go.Proofs.YtccenpmaooailaaGreat.Re Go.Proofs.YtccenpmaooailaaGreat.Sj Go.Proofs.YtccenpmaooailaaGreat.Ya Go.Proofs.YtccenpmaooailaaGreat.Yd Go.Proofs.YtccenpmaooailaaGreat.Yf Go.Proofs.YtccenpmaooailaaGreat.Yg Go.Proofs.YtccenpmaooailaaGreat.Ih Go.Proofs.YtccenpmaooailaaGreat.Yh Go.Proofs.YtccenpmaooailaaGreat.Yi Go.Proofs.YtccenpmaooailaaGreat.Sg Go.Proofs.YtccenpmaooailaaGreat.Sf Go.Proofs.YtccenpmaooailaaGreat.Yj Go.Proofs.YtccenpmaooailaaGreat.Ig Go.Proofs.YtccenpmaooailaaGreat.Yk Go.Proofs.YtccenpmaooailaaGreat.Ik Go.Proofs.YtccenpmaooailaaGreat.Yl Go.Proofs.YtccenpmaooailaaGreat.Ij Go.Proofs.YtccenpmaooailaaGreat.Ym Go.Proofs.YtccenpmaooailaaGreat.Il Go.Proofs.YtccenpmaooailaaGreat.Yn Go.Proofs.YtccenpmaooailaaGreat.Yo Go.Proofs.YtccenpmaooailaaGreat.In Go.Proofs.YtccenpmaooailaaGreat.Yq Go.Proofs.YtccenpmaooailaaGreat.Pw Go.Proofs.YtccenpmaooailaaGreat.Px Go.Proofs.YtccenpmaooailaaGreat.La Go.Proofs.YtccenpmaooailaaGreat.Db Go.Proofs.YtccenpmaooailaaGreat.Sh Go.Proofs.YtccenpmaooailaaGreat.Id Go.Proofs.YtccenpmaooailaaGreat.Ea Go.Proofs.YtccenpmaooailaaGreat.Eb Go.Proofs.YtccenpmaooailaaGreat.Ec Go.Proofs.YtccenpmaooailaaGreat.Ed Go.Proofs.YtccenpmaooailaaGreat.Eg Go.Proofs.YtccenpmaooailaaGreat.Ee Go.Proofs.YtccenpmaooailaaGreat.Tb Go.Proofs.YtccenpmaooailaaGreat.Td Go.Proofs.YtccenpmaooailaaGreat.Te

def In (lo hi : Nat) : Nat → Prop := fun k => lo ≤ k ∧ k < hi
/-- a row of one's own, all of it from lo to hi -/
def Row (w : World) (lo hi : Nat) (v : Value) (l : List Occ) : Prop := SS w lo (In lo hi) v l
def Row2 (w : World) (lo hi : Nat) (v0 : Value) (l : List Occ) (v1 : Value) (r : List Occ) : Prop := ∃ P Q, SS w lo P v0 l ∧ SS w lo Q v1 r ∧ ApP P Q ∧ (∀ k, P k → In lo hi k) ∧ (∀ k, Q k → In lo hi k)
def Row3 (w : World) (lo hi : Nat) (v0 v1 v2 : Value) (p : P3) : Prop := ∃ P0 P1 P2, SS w lo P0 v0 p.a ∧ SS w lo P1 v1 p.b ∧ SS w lo P2 v2 p.c ∧ ApP P0 P1 ∧ ApP P0 P2 ∧ ApP P1 P2 ∧ (∀ k, P0 k → In lo hi k) ∧ (∀ k, P1 k → In lo hi k) ∧ (∀ k, P2 k → In lo hi k)
theorem Row.of {w' : World} {n : Nat} {v : Value} {l : List Occ} {P : Nat → Prop} (h : SS w' n P v l) : Row w' n w'.heap.size v l := Kd.S_mono (SS.lt h) (fun k hk => ⟨hk.2.1, hk.2.2⟩)
theorem Row2.of {w' : World} {n : Nat} {v0 v1 : Value} {l r : List Occ} {P Q : Nat → Prop} (h0 : SS w' n P v0 l) (h1 : SS w' n Q v1 r) (hap : ApP P Q) : Row2 w' n w'.heap.size v0 l v1 r :=
  ⟨_, _, SS.lt h0, SS.lt h1, fun k a b => hap k a.1 b.1, fun k hk => ⟨hk.2.1, hk.2.2⟩, fun k hk => ⟨hk.2.1, hk.2.2⟩⟩
theorem Row3.of {w' : World} {n : Nat} {v0 v1 v2 : Value} {p : P3} (h : Three w' n v0 v1 v2 p) : Row3 w' n w'.heap.size v0 v1 v2 p := by
  obtain ⟨P0, P1, P2, h0, h1, h2, a, b, c⟩ := h
  exact ⟨_, _, _, SS.lt h0, SS.lt h1, SS.lt h2, fun k x y => a k x.1 y.1, fun k x y => b k x.1 y.1, fun k x y => c k x.1 y.1, fun k hk => ⟨hk.2.1, hk.2.2⟩, fun k hk => ⟨hk.2.1, hk.2.2⟩, fun k hk => ⟨hk.2.1, hk.2.2⟩⟩
theorem Row.fr {S : Nat → Prop} {w w' : World} {lo hi : Nat} {v : Value} {l : List Occ} (h : Row w lo hi v l) (hf : Fr S w w') (hS : ∀ k, S k → k < lo ∨ hi ≤ k) : Row w' lo hi v l := SS.fr h hf (fun k hk hs => by have := hS k hs; have := hk.1; have := hk.2; omega)
theorem Row2.fr {S : Nat → Prop} {w w' : World} {lo hi : Nat} {v0 v1 : Value} {l r : List Occ} (h : Row2 w lo hi v0 l v1 r) (hf : Fr S w w') (hS : ∀ k, S k → k < lo ∨ hi ≤ k) : Row2 w' lo hi v0 l v1 r := by
  obtain ⟨P, Q, h0, h1, hap, hp, hq⟩ := h
  exact ⟨P, Q, SS.fr h0 hf (fun k hk hs => by have := hS k hs; have := (hp k hk).1; have := (hp k hk).2; omega), SS.fr h1 hf (fun k hk hs => by have := hS k hs; have := (hq k hk).1; have := (hq k hk).2; omega), hap, hp, hq⟩
theorem Row3.fr {S : Nat → Prop} {w w' : World} {lo hi : Nat} {v0 v1 v2 : Value} {p : P3} (h : Row3 w lo hi v0 v1 v2 p) (hf : Fr S w w') (hS : ∀ k, S k → k < lo ∨ hi ≤ k) : Row3 w' lo hi v0 v1 v2 p := by
  obtain ⟨P, Q, R, h0, h1, h2, a, b, c, hp, hq, hr⟩ := h
  exact ⟨P, Q, R, SS.fr h0 hf (fun k hk hs => by have := hS k hs; have := (hp k hk).1; have := (hp k hk).2; omega), SS.fr h1 hf (fun k hk hs => by have := hS k hs; have := (hq k hk).1; have := (hq k hk).2; omega), SS.fr h2 hf (fun k hk hs => by have := hS k hs; have := (hr k hk).1; have := (hr k hk).2; omega), a, b, c, hp, hq, hr⟩
theorem fr_none {w w' : World} (hb : Below w.heap.size w w') : Fr (fun _ => False) w w' := Fr.of_below hb
theorem Row.below {w w' : World} {lo hi : Nat} {v : Value} {l : List Occ} (h : Row w lo hi v l) (hb : Below w.heap.size w w') : Row w' lo hi v l := h.fr (fr_none hb) (fun _ h => h.elim)
theorem Row2.below {w w' : World} {lo hi : Nat} {v0 v1 : Value} {l r : List Occ} (h : Row2 w lo hi v0 l v1 r) (hb : Below w.heap.size w w') : Row2 w' lo hi v0 l v1 r := h.fr (fr_none hb) (fun _ h => h.elim)
theorem Row3.below {w w' : World} {lo hi : Nat} {v0 v1 v2 : Value} {p : P3} (h : Row3 w lo hi v0 v1 v2 p) (hb : Below w.heap.size w w') : Row3 w' lo hi v0 v1 v2 p := h.fr (fr_none hb) (fun _ h => h.elim)
theorem Row.isL {w : World} {lo hi : Nat} {A : Option Addr} {n c : Nat} {l : List Occ} (h : Row w lo hi (.slice A n c) l) : IsL w l A c := SS.isL h
theorem Row2.isL {w : World} {lo hi : Nat} {A B : Option Addr} {n m c d : Nat} {l r : List Occ} (h : Row2 w lo hi (.slice A n c) l (.slice B m d) r) : IsL w l A c ∧ IsL w r B d := by
  obtain ⟨P, Q, h0, h1, _⟩ := h
  exact ⟨SS.isL h0, SS.isL h1⟩
theorem Row3.isL {w : World} {lo hi : Nat} {A B C : Option Addr} {n m q c d e : Nat} {p : P3} (h : Row3 w lo hi (.slice A n c) (.slice B m d) (.slice C q e) p) : IsL w p.a A c ∧ IsL w p.b B d ∧ IsL w p.c C e := by
  obtain ⟨P, Q, R, h0, h1, h2, _⟩ := h
  exact ⟨SS.isL h0, SS.isL h1, SS.isL h2⟩
theorem rowMark (lo hi : Nat) (v : Value) (l : List Occ) (k : Int) (w : World) (hk : 0 ≤ k) (hk2 : k + wtO l ≤ 4611686018427387904) (h : Row w lo hi v l) :
    Calls Tryz.prog 36 #[v, .int .i64 k] w fun e w' => e = .returned (.int .i64 (k + wtO l)) ∧ Row w' lo hi v (mkO k l) ∧ Fr (In lo hi) w w' :=
  (markO_any lo _ v l k w hk hk2 h).mono (fun e w' ⟨h1, h2, h3⟩ => ⟨h1, h2, Fr.mono h3 (fun k hk _ => hk.1)⟩)
theorem wtO_le (l : List Occ) (n m : Nat) (h : l.length ≤ n) (hx : ∀ x ∈ l, x.f2.length ≤ m) : wtO l ≤ n * (2 + m) := by
  induction l generalizing n with
  | nil => simp [wtO]
  | cons o os ih =>
    obtain ⟨n', rfl⟩ : ∃ n', n = n' + 1 := ⟨n - 1, by simp at h; omega⟩
    have h1 := ih n' (by simpa using h) (fun x hx2 => hx x (List.mem_cons_of_mem _ hx2))
    have h2 := hx o (by simp)
    simp only [wtO]
    rw [Nat.add_mul]
    omega
theorem wt_big (l : List Occ) (h : l.length ≤ 1048576) (hx : ∀ x ∈ l, x.f2.length ≤ 1048576) : wtO l ≤ 1099513724928 := wtO_le l 1048576 1048576 h hx
end Go.Proofs.YtccenpmaooailaaGreat.Ef

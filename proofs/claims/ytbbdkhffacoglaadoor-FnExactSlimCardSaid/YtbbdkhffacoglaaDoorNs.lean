
/- Trees of one's own that may share memory among themselves: an expression's kind over rows, not rows apart. -/
import Derived.Test.YtbbdkhffacoglaaDoorNh
set_option linter.unusedVariables false
set_option linter.unusedSimpArgs false
namespace Go.Proofs.YtbbdkhffacoglaaDoor.Ns
open Go.RowKit Go.Proofs.YtbbdkhffacoglaaDoorW.PrintWords Go.Proofs.YtbbdkhffacoglaaDoor.Ja Go.Proofs.YtbbdkhffacoglaaDoor.Jb Go.Proofs.YtbbdkhffacoglaaDoor.Jc Go.Proofs.YtbbdkhffacoglaaDoor.Jd Go.Proofs.YtbbdkhffacoglaaDoor.Jg Go.Proofs.YtbbdkhffacoglaaDoor.Nh

def kTr (t : Nat) (d : Kd Ex) : Kd Ex := Kd.iso (Kd.pair (Kd.int .i64) (Kd.pair (Kd.int .i64) (Kd.pair (Kd.int .i64) (Kd.slice t d)))) (fun x => (x.f0, x.f1, x.f2, x.f3))
def kV (t : Nat) : Nat → Kd Ex
  | 0 => void
  | n + 1 => kTr t (kV t n)
theorem kV_sz (t n : Nat) : (kV t n).sz = 4 := by cases n <;> rfl
theorem kV_E (t : Nat) : ∀ n q, q ∈ (kV t n).E → q = t
  | 0, q, h => by simp [kV, void] at h
  | n + 1, q, h => by
    have h2 : q ∈ t :: (kV t n).E := by simpa [kV, kTr, Kd.iso, Kd.pair, Kd.int, Kd.scalar, Kd.slice] using h
    rcases List.mem_cons.1 h2 with e | e
    · exact e
    · exact kV_E t n q e
theorem R_kind {d d' : Kd Ex} {w : World} {base : Nat} (hs : d.sz = d'.sz) (hM : ∀ ok p c, d.M w base ok p c → d'.M w base ok p c) {e : Nat} {ok : Nat → Prop} {v : Value} {xs : List Ex} (h : Kd.R d e w base ok v xs) : Kd.R d' e w base ok v xs := by
  obtain ⟨h0, h1⟩ := h
  refine ⟨h0, ?_⟩
  show OwnRow _ e d'.sz w base v _
  rw [← hs]
  exact OwnRow.imp_ h1 (fun p c hp => hM _ _ _ hp)
theorem kTr_open {t : Nat} {d : Kd Ex} {w : World} {x : Ex} {cs : List Value} (h : (kTr t d).K w x cs) : ∃ A c, cs = [.int .i64 x.f0, .int .i64 x.f1, .int .i64 x.f2, .slice A x.f3.length c] ∧ x.f3.length ≤ c ∧ d.C w A x.f3.length x.f3 := by
  obtain ⟨_, _, rfl, rfl, ⟨_, _, rfl, rfl, ⟨_, _, rfl, rfl, ⟨A, c, rfl, l, g⟩⟩⟩⟩ := h
  exact ⟨A, c, rfl, l, g⟩
theorem kTr_openM {t : Nat} {d : Kd Ex} {w : World} {base : Nat} {ok : Nat → Prop} {x : Ex} {cs : List Value} (h : (kTr t d).M w base ok x cs) : ∃ v, cs = [.int .i64 x.f0, .int .i64 x.f1, .int .i64 x.f2, v] ∧ Kd.R d t w base ok v x.f3 := by
  obtain ⟨_, _, rfl, rfl, ⟨_, _, rfl, rfl, ⟨_, _, rfl, rfl, ⟨v, rfl, g⟩⟩⟩⟩ := h
  exact ⟨v, rfl, g⟩
theorem kTr_mk (t : Nat) (d : Kd Ex) (w : World) (x : Ex) {A : Option Addr} {c : Nat} (l : x.f3.length ≤ c) (g : d.C w A x.f3.length x.f3) : (kTr t d).K w x [.int .i64 x.f0, .int .i64 x.f1, .int .i64 x.f2, .slice A x.f3.length c] :=
  ⟨[.int .i64 x.f0], [.int .i64 x.f1, .int .i64 x.f2, .slice A x.f3.length c], rfl, rfl, ⟨[.int .i64 x.f1], [.int .i64 x.f2, .slice A x.f3.length c], rfl, rfl, ⟨[.int .i64 x.f2], [.slice A x.f3.length c], rfl, rfl, ⟨A, c, rfl, l, g⟩⟩⟩⟩
theorem kTr_mkM (t : Nat) (d : Kd Ex) (w : World) (base : Nat) (ok : Nat → Prop) (x : Ex) {v : Value} (g : Kd.R d t w base ok v x.f3) : (kTr t d).M w base ok x [.int .i64 x.f0, .int .i64 x.f1, .int .i64 x.f2, v] :=
  ⟨[.int .i64 x.f0], [.int .i64 x.f1, .int .i64 x.f2, v], rfl, rfl, ⟨[.int .i64 x.f1], [.int .i64 x.f2, v], rfl, rfl, ⟨[.int .i64 x.f2], [v], rfl, rfl, ⟨v, rfl, g⟩⟩⟩⟩
theorem kV_K1 (t : Nat) : ∀ n w x cs, (kV t n).K w x cs → (kV t (n + 1)).K w x cs
  | 0, w, x, cs, h => False.elim h
  | n + 1, w, x, cs, h => by
    obtain ⟨A, c, rfl, l, g⟩ := kTr_open (t := t) (d := kV t n) h
    exact kTr_mk t (kV t (n + 1)) w x l (C_kind ((kV_sz t n).trans (kV_sz t (n + 1)).symm) (fun p c hp => kV_K1 t n w p c hp) g)
theorem kV_M1 (t : Nat) : ∀ n w base ok x cs, (kV t n).M w base ok x cs → (kV t (n + 1)).M w base ok x cs
  | 0, w, base, ok, x, cs, h => False.elim h
  | n + 1, w, base, ok, x, cs, h => by
    obtain ⟨v, rfl, g⟩ := kTr_openM (t := t) (d := kV t n) h
    exact kTr_mkM t (kV t (n + 1)) w base ok x (R_kind ((kV_sz t n).trans (kV_sz t (n + 1)).symm) (fun ok p c hp => kV_M1 t n w base ok p c hp) g)
theorem kV_M (t : Nat) {n m : Nat} (h : n ≤ m) {w : World} {base : Nat} {ok : Nat → Prop} {x : Ex} {cs : List Value} (hk : (kV t n).M w base ok x cs) : (kV t m).M w base ok x cs := by
  induction h with
  | refl => exact hk
  | step _ ih => exact kV_M1 t _ w base ok x cs ih
/-- read, it is the kind that was -/
theorem kV_kU (t : Nat) : ∀ n w x cs, (kV t n).K w x cs → (kU t n).K w x cs
  | 0, w, x, cs, h => False.elim h
  | n + 1, w, x, cs, h => by
    obtain ⟨A, c, rfl, l, g⟩ := kTr_open (t := t) (d := kV t n) h
    exact kTs_mk t (kU t n) w x l (C_kind ((kV_sz t n).trans (kU_sz t n).symm) (fun p c hp => kV_kU t n w p c hp) g)
def kR (t : Nat) : Kd Ex where
  sz := 4
  E := [t]
  K := fun w x cs => ∃ n, (kV t n).K w x cs
  M := fun w base ok x cs => ∃ n, (kV t n).M w base ok x cs
  K_len := fun ⟨n, h⟩ => ((kV t n).K_len h).trans (kV_sz t n)
  K_one := fun ⟨n, h⟩ => (kV t n).K_one h
  K_below := fun hb ⟨n, h⟩ => ⟨n, (kV t n).K_below hb h⟩
  K_of_M := fun ⟨n, h⟩ => ⟨n, (kV t n).K_of_M h⟩
  M_mono := fun hok ⟨n, h⟩ => ⟨n, (kV t n).M_mono hok h⟩
  M_bound := fun ⟨n, h⟩ => ⟨n, (kV t n).M_mono (fun k hk => by
    obtain ⟨h1, h2, h3, q, hq, h4⟩ := hk
    exact ⟨h1, h2, h3, q, by rw [kV_E t n q hq]; exact List.mem_cons_self, h4⟩) ((kV t n).M_bound h)⟩
  M_move := fun hm ⟨n, h⟩ => ⟨n, (kV t n).M_move hm h⟩
  M_lower := fun hb ⟨n, h⟩ => ⟨n, (kV t n).M_lower hb h⟩
theorem R_all {t : Nat} {e : Nat} {w : World} {base : Nat} {ok : Nat → Prop} {v : Value} {xs : List Ex} (h : Kd.R (kR t) e w base ok v xs) : ∃ N, Kd.R (kV t N) e w base ok v xs := by
  obtain ⟨h0, inner, ho, hr1, hr2⟩ := h
  obtain ⟨N, hN⟩ := sup_of (fun j m => ∀ p, xs[j]? = some p → (kV t m).M w base (fun k => ok k ∧ some k ≠ v.ownBlock) p ((inner.drop (j * 4)).take 4))
    (fun j a b hab hP p hp => kV_M t hab (hP p hp)) xs.length (fun j hj => by
      obtain ⟨m, hm⟩ := hr2 j _ (List.getElem?_eq_getElem hj)
      exact ⟨m, fun p hp => by rw [List.getElem?_eq_getElem hj] at hp; injection hp with hp; subst hp; exact hm⟩)
  refine ⟨N, h0, ?_⟩
  show OwnRow _ e (kV t N).sz w base v _
  rw [kV_sz]
  exact ⟨inner, ho, hr1, fun j p hp => hN j (List.getElem?_eq_some_iff.1 hp).1 p hp⟩
section
variable {t : Nat} {w : World} {base : Nat} {ok : Nat → Prop} {x : Ex} {cs : List Value}
theorem kR_kE (h : (kR t).K w x cs) : (kE t).K w x cs := ⟨h.choose, kV_kU t _ w x cs h.choose_spec⟩
theorem R_of {n e : Nat} {v : Value} {xs : List Ex} (h : Kd.R (kV t n) e w base ok v xs) : Kd.R (kR t) e w base ok v xs := R_kind (d := kV t n) (d' := kR t) (kV_sz t n) (fun ok p c hp => ⟨n, hp⟩) h
theorem kR_openM (h : (kR t).M w base ok x cs) : ∃ v, cs = [.int .i64 x.f0, .int .i64 x.f1, .int .i64 x.f2, v] ∧ Kd.R (kR t) t w base ok v x.f3 := by
  obtain ⟨n, h⟩ := h
  cases n with
  | zero => exact False.elim h
  | succ n =>
    obtain ⟨v, rfl, g⟩ := kTr_openM (t := t) (d := kV t n) h
    exact ⟨v, rfl, R_of g⟩
theorem kR_mkM (x : Ex) {v : Value} (g : Kd.R (kR t) t w base ok v x.f3) : (kR t).M w base ok x [.int .i64 x.f0, .int .i64 x.f1, .int .i64 x.f2, v] := by
  obtain ⟨N, g⟩ := R_all g
  exact ⟨N + 1, kTr_mkM t (kV t N) w base ok x g⟩
theorem R_isEL {A : Option Addr} {n c : Nat} {l : List Ex} (h : Kd.R (kR t) t w base ok (.slice A n c) l) : n = l.length ∧ IsEL t w l A c := by
  obtain ⟨rfl, h2, h3⟩ := Kd.R_reads' h
  exact ⟨rfl, h2, C_kind (d := kR t) (d' := kE t) rfl (fun p cs hp => kR_kE hp) h3⟩
end
abbrev RE (w : World) (base : Nat) (ok : Nat → Prop) (v : Value) (l : List Ex) : Prop := Kd.R (kR 29) 29 w base ok v l
/-- what is one's own from B on at a world -/
def wqO (w : World) (B : Nat) : Wq := ⟨w, fun x cs => (kR 29).M w B (fun _ => True) x cs, fun a b c => kR_mkM (.mk a b c []) (Kd.R_nil _ _ _ _ _), fun x ad n c k A2 c2 h hk hc => by
  obtain ⟨v, e, g⟩ := kR_openM h
  simp only [List.cons.injEq, and_true] at e
  obtain ⟨_, _, _, rfl⟩ := e
  have hn := (Kd.R_reads' g).1
  obtain ⟨cs, hl, hM, hcc⟩ := Kd.R_getA g zE (k : Int) (by omega) (by omega)
  rw [Int.toNat_natCast] at hM hcc
  obtain ⟨v2, rfl, g2⟩ := kR_openM hM
  have h3 := hcc 3 _ rfl
  have e3 : ad.add (k * (kR 29).sz + 3) = ⟨(ad.add (k * 4)).block, (ad.add (k * 4)).off + 3, none⟩ := by rw [← add_field _ _ 3 (by omega)]; rfl
  rw [e3, hc] at h3
  injection h3 with h3
  subst h3
  exact kR_mkM _ (Kd.R_mono g2 (fun _ _ => trivial))⟩
end Go.Proofs.YtbbdkhffacoglaaDoor.Ns

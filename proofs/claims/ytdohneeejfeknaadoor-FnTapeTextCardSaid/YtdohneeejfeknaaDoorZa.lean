
/- A drawn region in which the world's condition is asked only till its last operations come up. -/
import Derived.OrdersHeld
import Derived.Deep.RegionHeld3
set_option linter.unusedVariables false
set_option linter.unusedSimpArgs false
namespace Go.Proofs.YtdohneeejfeknaaDoor.Za
open Go

section
variable {P : Program} {ops : Array Oper} {Q : Exit → Act → World → Prop} {md : Region.Mode} {S : World → Prop} {T : List Nat}
/-- any order; behind an operation outside T the world meets S -/
def Walk (P : Program) (md : Region.Mode) (ops : Array Oper) (Q : Exit → Act → World → Prop) (S : World → Prop) (T : List Nat) : Nat → Array Bool → Act → World → Prop
  | 0 => fun listed a w => Region.ready md ops listed = [] ∧ Q .normal a w
  | n + 1 => fun listed a w => (Region.ready md ops listed = [] → Q .normal a w) ∧ ∀ i, i ∈ Region.ready md ops listed → wpOp P ops Q i (fun a' w' => (i ∉ T → S w') ∧ Walk P md ops Q S T n (listed.setIfInBounds i true) a' w') a w
theorem Walk.any : ∀ {n : Nat} {listed : Array Bool} {a : Act} {w : World}, Walk P md ops Q S T n listed a w → wpAny P md ops Q n listed a w
  | 0, _, _, _, h => h
  | _ + 1, _, _, _, h => ⟨h.1, fun i hi => wpOp_mono (fun _ _ g => Walk.any g.2) (h.2 i hi)⟩
/-- what is listed leans on what is listed -/
def Closed (md : Region.Mode) (ops : Array Oper) (listed : Array Bool) : Prop := ∀ j oj, ops[j]? = some oj → listed.getD j false = true → ∀ e, e ∈ oj.after → Region.binds md e = true → listed.getD e.on false = true
def closedB (md : Region.Mode) (ops : Array Oper) (listed : Array Bool) : Bool := (List.range ops.size).all fun j => !listed.getD j false || (match ops[j]? with | some oj => oj.after.all fun e => !Region.binds md e || listed.getD e.on false | none => true)
theorem closedB_spec {listed : Array Bool} (h : closedB md ops listed = true) : Closed md ops listed := fun j oj hj hl e he hb => by
  have hlt : j < ops.size := (Array.getElem?_eq_some_iff.1 hj).1
  have h2 := List.all_eq_true.1 h j (List.mem_range.2 hlt)
  rw [hl, hj] at h2
  simp only [Bool.not_true, Bool.false_or] at h2
  have h3 := Array.all_eq_true_iff_forall_mem.1 h2 e he
  simpa [hb] using h3
def waits (md : Region.Mode) (ops : Array Oper) : Nat → Nat → Nat → Bool
  | 0, _, _ => false
  | f + 1, j, i => match ops[j]? with
    | some oj => oj.after.any fun e => Region.binds md e && (e.on == i || waits md ops f e.on i)
    | none => false
theorem waits_spec {listed : Array Bool} {i : Nat} (hc : Closed md ops listed) : ∀ (f j : Nat) (oj : Oper), ops[j]? = some oj → (∀ e, e ∈ oj.after → Region.binds md e = true → listed.getD e.on false = true) → waits md ops f j i = true → listed.getD i false = true
  | 0, _, _, _, _, h => by simp [waits] at h
  | f + 1, j, oj, hj, hall, h => by
    unfold waits at h
    rw [hj] at h
    simp only [Array.any_eq_true] at h
    obtain ⟨k, hk, h3⟩ := h
    simp only [Bool.and_eq_true, Bool.or_eq_true, beq_iff_eq] at h3
    obtain ⟨hb, h4⟩ := h3
    have hl := hall _ (Array.getElem_mem hk) hb
    rcases h4 with h4 | h4
    · rw [← h4]; exact hl
    · cases hx : ops[(oj.after[k]).on]? with
      | none =>
        cases f with
        | zero => simp [waits] at h4
        | succ f => unfold waits at h4; rw [hx] at h4; simp at h4
      | some ox => exact waits_spec hc f _ ox hx (hc _ ox hx hl) h4
theorem Closed.set {listed : Array Bool} {j : Nat} (hc : Closed md ops listed) (hj : j ∈ Region.ready md ops listed) : Closed md ops (listed.setIfInBounds j true) := by
  obtain ⟨_, oj, hoj, hall⟩ := mem_ready.1 hj
  intro k ok hk hl e he hb
  by_cases hjk : j = k
  · subst hjk
    have : ok = oj := Option.some.inj (hk.symm.trans hoj)
    subst this
    exact getD_set_true (hall e he hb)
  · rw [getD_set_ne false hjk] at hl
    exact getD_set_true (hc k ok hk hl e he hb)
theorem un_both {listed : Array Bool} {i : Nat} (h : listed.getD i true = false) : listed.getD i false = false := by
  rcases Nat.lt_or_ge i listed.size with h' | h'
  · simp [h'] at h ⊢; exact h
  · simp [Array.getElem?_eq_none h'] at h
theorem Walk.first {i : Nat} {o : Oper} {v : Value} (hi : ops[i]? = some o) (hs : Region.noSelect ops = true) (hiT : i ∉ T)
    (hT : ∀ j, j ∈ T → waits md ops ops.size j i = true) (hQ : ∀ c a w, Q (.panic c) (a.put o.dst v) w → Q (.panic c) a w) :
    ∀ {n : Nat} {listed : Array Bool} {a : Act} {w : World}, Closed md ops listed → (∀ j oj, ops[j]? = some oj → j ≠ i → listed.getD j true = false → (∀ e ∈ oj.after, Region.binds md e = true → e.on ≠ i) → o.apart ops oj = true) → i ∈ Region.ready md ops listed →
      YieldsIf P ops S o v a → S w → Walk P md ops Q S T n (listed.setIfInBounds i true) (a.put o.dst v) w → Walk P md ops Q S T (n + 1) listed a w := by
  have hsel := Region.noSelect_spec hs
  intro n
  induction n with
  | zero =>
    intro listed a w _ _ hr hy hS H
    refine ⟨fun h => (by rw [h] at hr; cases hr), fun j hj => ?_⟩
    by_cases hji : j = i
    · rw [hji]
      exact hy.wpOp hi hS ⟨fun _ => hS, H⟩
    · have := ready_mono hj hji
      rw [H.1] at this
      cases this
  | succ n ih =>
    intro listed a w hcl hfree hr hy hS H
    refine ⟨fun h => (by rw [h] at hr; cases hr), fun j hj => ?_⟩
    by_cases hji : j = i
    · subst hji
      exact hy.wpOp hi hS ⟨fun _ => hS, H⟩
    · obtain ⟨hjun, oj, hoj, hall⟩ := mem_ready.1 hj
      have hnot : ∀ e ∈ oj.after, Region.binds md e = true → e.on ≠ i := fun e he hb heq => by
        have h1 := hall e he hb
        have h0 := (mem_ready.1 hr).1
        rw [heq] at h1
        rcases Nat.lt_or_ge i listed.size with h' | h'
        · simp [h'] at h0 h1; rw [h0] at h1; cases h1
        · simp [Array.getElem?_eq_none h'] at h1
      have hjT : j ∉ T := fun h => by
        have h5 := waits_spec hcl _ j oj hoj hall (hT j h)
        rw [un_both (mem_ready.1 hr).1] at h5
        cases h5
      have h2 := wpOp_putIf hoj (hfree j oj hoj hji hjun hnot) (fun cs b => hsel i o cs b hi) (fun cs b => hsel j oj cs b hoj) hQ hy (H.2 j (ready_mono hj hji))
      refine wpOp_mono (fun a' w' h3 => ⟨fun _ => h3.2.1 hjT, ih (listed := listed.setIfInBounds j true) (hcl.set hj) (fun k ok hk hki hun hno => ?_) (ready_mono hr (Ne.symm hji)) h3.1 (h3.2.1 hjT) ?_⟩) h2
      · refine hfree k ok hk hki ?_ hno
        by_cases hjk : j = k
        · subst hjk; exact hjun
        · rw [getD_set_ne true hjk] at hun; exact hun
      · rw [Array.setIfInBounds_comm _ _ hji]
        exact h3.2.2
/-- what yields in whatever world may be taken first, too -/
theorem Walk.pure {i : Nat} {o : Oper} {v : Value} (hi : ops[i]? = some o) (hs : Region.noSelect ops = true) (hiT : i ∈ T) (hQ : ∀ c a w, Q (.panic c) (a.put o.dst v) w → Q (.panic c) a w) :
    ∀ {n : Nat} {listed : Array Bool} {a : Act} {w : World}, (∀ j oj, ops[j]? = some oj → j ≠ i → listed.getD j true = false → (∀ e ∈ oj.after, Region.binds md e = true → e.on ≠ i) → o.apart ops oj = true) → i ∈ Region.ready md ops listed →
      YieldsIf P ops (fun _ => True) o v a → Walk P md ops Q S T n (listed.setIfInBounds i true) (a.put o.dst v) w → Walk P md ops Q S T (n + 1) listed a w := by
  have hsel := Region.noSelect_spec hs
  intro n
  induction n with
  | zero =>
    intro listed a w _ hr hy H
    refine ⟨fun h => (by rw [h] at hr; cases hr), fun j hj => ?_⟩
    by_cases hji : j = i
    · rw [hji]
      exact hy.wpOp hi trivial ⟨fun h => absurd hiT h, H⟩
    · have := ready_mono hj hji
      rw [H.1] at this
      cases this
  | succ n ih =>
    intro listed a w hfree hr hy H
    refine ⟨fun h => (by rw [h] at hr; cases hr), fun j hj => ?_⟩
    by_cases hji : j = i
    · subst hji
      exact hy.wpOp hi trivial ⟨fun h => absurd hiT h, H⟩
    · obtain ⟨hjun, oj, hoj, hall⟩ := mem_ready.1 hj
      have hnot : ∀ e ∈ oj.after, Region.binds md e = true → e.on ≠ i := fun e he hb heq => by
        have h1 := hall e he hb
        have h0 := (mem_ready.1 hr).1
        rw [heq] at h1
        rcases Nat.lt_or_ge i listed.size with h' | h'
        · simp [h'] at h0 h1; rw [h0] at h1; cases h1
        · simp [Array.getElem?_eq_none h'] at h1
      have h2 := wpOp_putIf hoj (hfree j oj hoj hji hjun hnot) (fun cs b => hsel i o cs b hi) (fun cs b => hsel j oj cs b hoj) hQ hy (H.2 j (ready_mono hj hji))
      refine wpOp_mono (fun a' w' h3 => ⟨h3.2.1, ih (listed := listed.setIfInBounds j true) (fun k ok hk hki hun hno => ?_) (ready_mono hr (Ne.symm hji)) h3.1 ?_⟩) h2
      · refine hfree k ok hk hki ?_ hno
        by_cases hjk : j = k
        · subst hjk; exact hjun
        · rw [getD_set_ne true hjk] at hun; exact hun
      · rw [Array.setIfInBounds_comm _ _ hji]
        exact h3.2.2
/-- none of T comes up before number i -/
def later (md : Region.Mode) (ops : Array Oper) (T : List Nat) (listed : Array Bool) (i : Nat) : Bool :=
  closedB md ops listed && !T.contains i && T.all fun j => waits md ops ops.size j i
theorem later_spec {i : Nat} {listed : Array Bool} (h : later md ops T listed i = true) : Closed md ops listed ∧ i ∉ T ∧ ∀ j, j ∈ T → waits md ops ops.size j i = true := by
  unfold later at h
  simp only [Bool.and_eq_true] at h
  exact ⟨closedB_spec h.1.1, fun hi => by simp [hi] at h, fun j hj => List.all_eq_true.1 h.2 j hj⟩
theorem Walk.take (i : Nat) {o : Oper} {v : Value} {n : Nat} {listed : Array Bool} {a : Act} {w : World} (hi : ops[i]? = some o) (hs : Region.noSelect ops = true) (hf : Region.free md ops listed i = true) (hr : (Region.ready md ops listed).contains i = true) (hT : later md ops T listed i = true)
    (hQ : ∀ c a w, Q (.panic c) (a.put o.dst v) w → Q (.panic c) a w) (hy : YieldsIf P ops S o v a) (hS : S w) (h : Walk P md ops Q S T n (listed.setIfInBounds i true) (a.put o.dst v) w) : Walk P md ops Q S T (n + 1) listed a w :=
  Walk.first hi hs (later_spec hT).2.1 (later_spec hT).2.2 hQ (later_spec hT).1 (Region.free_spec hi hf) (by simpa using hr) hy hS h
theorem Walk.next (i : Nat) {o : Oper} {n : Nat} {listed : Array Bool} {a : Act} {w : World} (hr : Region.ready md ops listed = [i]) (ho : ops[i]? = some o)
    (h : ∀ K' : Act → World → Prop, Shut (∀ a w, ((i ∉ T → S w) ∧ Walk P md ops Q S T n (listed.setIfInBounds i true) a w) → K' a w) → if Region.wanted o (yielded ops a.tmps) = true then Oper.wp P o a w K' Q else K' (a.put o.dst undef) w) : Walk P md ops Q S T (n + 1) listed a w := by
  refine ⟨fun h0 => (by rw [hr] at h0; cases h0), fun j hj => ?_⟩
  rw [hr, List.mem_singleton] at hj
  subst hj
  exact wpOp_step ho (fun K' hK => h K' (fun a w g => hK a w g))
theorem Walk.done {n : Nat} {listed : Array Bool} {a : Act} {w : World} (hr : Region.ready md ops listed = []) (h : Q .normal a w) : Walk P md ops Q S T n listed a w := by
  cases n with
  | zero => exact ⟨hr, h⟩
  | succ n => exact ⟨fun _ => h, fun i hi => by rw [hr] at hi; cases hi⟩
theorem region_walk {id : Nat} {a : Act} {w : World} (hm : P.follows .mixedOrders = true) (h : Walk P .any ops Q S T ops.size (Array.replicate ops.size false) a w.drew) : (Code.region id ops true).wp P Q a w :=
  wp_region_any hm (Walk.any h)
end
end Go.Proofs.YtdohneeejfeknaaDoor.Za
namespace Go.Proofs.YtdohneeejfeknaaDoor.Za
open Go
section
variable {P : Program} {l : List Oper} {Q : Exit → Act → World → Prop} {md : Region.Mode} {S : World → Prop} {T : List Nat}
theorem takeL (i : Nat) {o : Oper} {v : Value} {n : Nat} {listed : Array Bool} {a : Act} {w : World} (hi : l[i]? = some o) (hs : Region.noSelect l.toArray = true) (hf : Region.free md l.toArray listed i = true) (hr : (Region.ready md l.toArray listed).contains i = true) (hT : later md l.toArray T listed i = true)
    (hQ : ∀ c a w, Q (.panic c) (a.put o.dst v) w → Q (.panic c) a w) (hy : YieldsIf P l.toArray S o v a) (hS : S w) (h : Walk P md l.toArray Q S T n (listed.setIfInBounds i true) (a.put o.dst v) w) : Walk P md l.toArray Q S T (n + 1) listed a w :=
  Walk.take i (by simpa using hi) hs hf hr hT hQ hy hS h
theorem pureL (i : Nat) {o : Oper} {v : Value} {n : Nat} {listed : Array Bool} {a : Act} {w : World} (hi : l[i]? = some o) (hs : Region.noSelect l.toArray = true) (hf : Region.free md l.toArray listed i = true) (hr : (Region.ready md l.toArray listed).contains i = true) (hT : T.contains i = true)
    (hQ : ∀ c a w, Q (.panic c) (a.put o.dst v) w → Q (.panic c) a w) (hy : YieldsIf P l.toArray (fun _ => True) o v a) (h : Walk P md l.toArray Q S T n (listed.setIfInBounds i true) (a.put o.dst v) w) : Walk P md l.toArray Q S T (n + 1) listed a w :=
  Walk.pure (by simpa using hi) hs (by simpa using hT) hQ (Region.free_spec (by simpa using hi) hf) (by simpa using hr) hy h
theorem nextL (i : Nat) {o : Oper} {n : Nat} {listed : Array Bool} {a : Act} {w : World} (hr : Region.ready md l.toArray listed = [i]) (ho : l[i]? = some o)
    (h : ∀ K' : Act → World → Prop, Shut (∀ a w, ((i ∉ T → S w) ∧ Walk P md l.toArray Q S T n (listed.setIfInBounds i true) a w) → K' a w) → if Region.wanted o (yielded l.toArray a.tmps) = true then Oper.wp P o a w K' Q else K' (a.put o.dst undef) w) : Walk P md l.toArray Q S T (n + 1) listed a w :=
  Walk.next i hr (by simpa using ho) h
theorem regionL {id : Nat} {a : Act} {w : World} (S : World → Prop) (T : List Nat) (hm : P.follows .mixedOrders = true) (h : Walk P .any l.toArray Q S T l.length (Array.replicate l.length false) a w.drew) : (Code.region id l.toArray true).wp P Q a w :=
  region_walk (S := S) (T := T) hm (by simpa using h)
end
end Go.Proofs.YtdohneeejfeknaaDoor.Za


/- Nodes in memory are the nodes of parts: plain; what the search finds. -/
import Derived.Test.YtckblabkapeigaaEg8
import Derived.Test.YtckblabkapeigaaEh8
set_option linter.unusedVariables false
set_option linter.unusedSimpArgs false
namespace Go.Proofs.Ytckblabkapeigaa.El8
open Go.RowKit Go.Proofs.YtckblabkapeigaaW.PrintWords Go.Proofs.Ytckblabkapeigaa.Ja Go.Proofs.Ytckblabkapeigaa.Jb Go.Proofs.Ytckblabkapeigaa.Jc Go.Proofs.Ytckblabkapeigaa.Jg Go.Proofs.Ytckblabkapeigaa.Ka Go.Proofs.Ytckblabkapeigaa.Ke Go.Proofs.Ytckblabkapeigaa.Ki Go.Proofs.Ytckblabkapeigaa.Na Go.Proofs.Ytckblabkapeigaa.Nb Go.Proofs.Ytckblabkapeigaa.Kf Go.Proofs.Ytckblabkapeigaa.Eg8 Go.Proofs.Ytckblabkapeigaa.Eh8

theorem nodup_inj {es : List Ex} (hd : es.Nodup) {i j : Nat} (hi : i < es.length) (hj : j < es.length) (h : es[i] = es[j]) : i = j := by
  have hp := List.pairwise_iff_getElem.1 hd
  rcases Nat.lt_trichotomy i j with h1 | h1 | h1
  · exact absurd h (hp i j hi hj h1)
  · exact h1
  · exact absurd h.symm (hp j i hj hi h1)
theorem eqI_iff : ∀ a b : List Int, eqQ sameI a b = true ↔ a = b
  | [], [] => by simp [eqQ]
  | [], y :: ys => by simp [eqQ]
  | x :: xs, [] => by simp [eqQ]
  | x :: xs, y :: ys => by
    have ih := eqI_iff xs ys
    simp [eqQ, sameI, ih]
/-- a part's node as it lies in memory: nothing found yet -/
def mkN (d : Nd) : TNode := ⟨d.a, d.b, d.c, d.k, zPair, zSpan, [], 0⟩
theorem mkN_M (w : World) (base : Nat) (ok : Nat → Prop) (d : Nd) {v : Value} (h : Kd.S (Kd.int .i64) 3 w base ok v d.k) : kNode.M w base ok (mkN d) [.int .i64 d.a, .int .i64 d.b, .int .i64 d.c, v, .slice none 0 0, .slice none 0 0, .slice none 0 0, .slice none 0 0, .slice none 0 0, .int .i64 0] :=
  kNode_mkM w base ok (mkN d) (o3 := ok) (o4 := fun _ => False) (o5 := fun _ => False) (o6 := fun _ => False) (o7 := fun _ => False) (o8 := fun _ => False) h (Kd.S_nil _ _ _ _ _) (Kd.S_nil _ _ _ _ _) (Kd.S_nil _ _ _ _ _) (Kd.S_nil _ _ _ _ _) (Kd.S_nil _ _ _ _ _) (by simp [Ap])
def ndsT (es : List Ex) : List TNode := (nds es).map mkN
theorem ndsT_len (es : List Ex) : (ndsT es).length = es.length := by simp [ndsT, nds]
theorem ndsT_snoc {es : List Ex} {x : Ex} (hc : Closed es) (hx : ∀ z ∈ x.f3, z ∈ es) : ndsT (es ++ [x]) = ndsT es ++ [mkN (ndOf es x)] := by
  unfold ndsT
  rw [nds_snoc hc hx, List.map_append]; rfl
theorem like_iff {a b c : Int} {k : List Int} {d : Nd} : likeN a b c k (mkN d) = true ↔ d = ⟨a, b, c, k⟩ := by
  unfold likeN mkN
  simp only [Bool.and_eq_true, beq_iff_eq, eqI_iff]
  cases d
  simp
/-- the search finds a part's node exactly where the part stands -/
theorem found_at {es : List Ex} {x : Ex} {r : Int} (hc : Closed es) (hd : es.Nodup) (hx : ∀ z ∈ x.f3, z ∈ es) (h : Go.Proofs.Ytckblabkapeigaa.Eh8.Found (ndsT es) (likeN x.f0 x.f1 x.f2 (x.f3.map (fun y => (at_ es y : Int)))) r) : (x ∈ es ∧ r = at_ es x) ∨ (¬ x ∈ es ∧ r = -1) := by
  have hn : ∀ i, (ndsT es)[i]? = (nds es)[i]?.map mkN := fun i => by unfold ndsT; rw [List.getElem?_map]
  rcases h with ⟨hr, hno⟩ | ⟨k, hr, hk, hp, _⟩
  · right
    refine ⟨fun hm => ?_, hr⟩
    have h1 := at_get hm
    have h2 : (nds es)[at_ es x]? = some (ndOf es x) := by unfold nds; rw [List.getElem?_map, h1]; rfl
    have h3 : mkN (ndOf es x) ∈ ndsT es := by
      unfold ndsT
      exact List.mem_map_of_mem (List.mem_of_getElem? h2)
    have h4 : (ndsT es).any (likeN x.f0 x.f1 x.f2 (x.f3.map (fun y => (at_ es y : Int)))) = true := List.any_eq_true.2 ⟨_, h3, like_iff.2 rfl⟩
    rw [hno] at h4
    cases h4
  · left
    rw [ndsT_len] at hk
    have h1 : (nds es)[k]? = some (ndOf es es[k]) := by unfold nds; rw [List.getElem?_map, List.getElem?_eq_getElem hk]; rfl
    have h2 : (ndsT es).getD k zNode = mkN (ndOf es es[k]) := by rw [List.getD_eq_getElem?_getD, hn, h1]; rfl
    rw [h2, like_iff] at hp
    have h3 : (nds es)[k]? = some (ndOf es x) := by rw [h1, hp]; rfl
    have h4 := nd_at hc hx k h3
    have hm : x ∈ es := List.mem_of_getElem? h4
    refine ⟨hm, ?_⟩
    have h5 := at_get hm
    have h6 := at_lt hm
    have h7 : k = at_ es x := by
      rw [List.getElem?_eq_getElem hk] at h4
      rw [List.getElem?_eq_getElem h6] at h5
      exact nodup_inj hd hk h6 ((Option.some.inj h4).trans (Option.some.inj h5).symm)
    omega
/-- the reference's search by texts -/
theorem foundS_at {es : List Ex} {x : Ex} {r : Int} (hf : AllF es) (hx : formB x = true) (hd : es.Nodup) (h : FoundS (es.map textB) (textB x) r) : (x ∈ es ∧ r = at_ es x) ∨ (¬ x ∈ es ∧ r = -1) := by
  rcases h with ⟨hr, hno⟩ | ⟨k, hr, hk⟩
  · exact .inr ⟨fun hm => hno (List.mem_map_of_mem hm), hr⟩
  · left
    rw [List.getElem?_map] at hk
    obtain ⟨z, hz, e⟩ := Option.map_eq_some_iff.1 hk
    have hzm : z ∈ es := List.mem_of_getElem? hz
    obtain rfl : z = x := text_inj (hf z hzm) hx e
    refine ⟨hzm, ?_⟩
    have h5 := at_get hzm
    have h6 := at_lt hzm
    have hk2 := (List.getElem?_eq_some_iff.1 hz).1
    have h7 : k = at_ es z := by
      rw [List.getElem?_eq_getElem hk2] at hz
      rw [List.getElem?_eq_getElem h6] at h5
      exact nodup_inj hd hk2 h6 ((Option.some.inj hz).trans (Option.some.inj h5).symm)
    omega
end Go.Proofs.Ytckblabkapeigaa.El8

/- The reference's own lists: what keeps them; one list put into another. -/
import Derived.Test.YtjeojdbfpncnkaaSp
import Derived.Test.YtjeojdbfpncnkaaIk
set_option linter.unusedVariables false
set_option linter.unusedSimpArgs false
namespace Go.Proofs.Ytjeojdbfpncnkaa.Ra
open Go.RowKit Go.Proofs.YtjeojdbfpncnkaaW.PrintWords Go.Proofs.Ytjeojdbfpncnkaa.Wd Go.Proofs.Ytjeojdbfpncnkaa.Pu Go.Proofs.Ytjeojdbfpncnkaa.Pv Go.Proofs.Ytjeojdbfpncnkaa.Ca Go.Proofs.Ytjeojdbfpncnkaa.Cb Go.Proofs.Ytjeojdbfpncnkaa.Cc Go.Proofs.Ytjeojdbfpncnkaa.Cp Go.Proofs.Ytjeojdbfpncnkaa.Cd Go.Proofs.Ytjeojdbfpncnkaa.Ci Go.Proofs.Ytjeojdbfpncnkaa.Ce Go.Proofs.Ytjeojdbfpncnkaa.Cf Go.Proofs.Ytjeojdbfpncnkaa.Cg Go.Proofs.Ytjeojdbfpncnkaa.Sc Go.Proofs.Ytjeojdbfpncnkaa.Sh Go.Proofs.Ytjeojdbfpncnkaa.Si Go.Proofs.Ytjeojdbfpncnkaa.Sp Go.Proofs.Ytjeojdbfpncnkaa.Ia Go.Proofs.Ytjeojdbfpncnkaa.Ib Go.Proofs.Ytjeojdbfpncnkaa.Ic Go.Proofs.Ytjeojdbfpncnkaa.Id Go.Proofs.Ytjeojdbfpncnkaa.Ie Go.Proofs.Ytjeojdbfpncnkaa.If Go.Proofs.Ytjeojdbfpncnkaa.Ig Go.Proofs.Ytjeojdbfpncnkaa.Ih Go.Proofs.Ytjeojdbfpncnkaa.Ij Go.Proofs.Ytjeojdbfpncnkaa.Ik

structure Fr (S : Nat → Prop) (w w' : World) : Prop where
  os : w'.os = w.os
  tape : w'.tape = w.tape
  output : w'.output = w.output
  size : w.heap.size ≤ w'.heap.size
  block : ∀ k, k < w.heap.size → ¬ S k → w'.heap[k]? = w.heap[k]?
section
variable {S T : Nat → Prop} {w w' a b c : World} {B : Nat} {row : Option Nat}
theorem Fr.refl (S : Nat → Prop) (w : World) : Fr S w w := ⟨rfl, rfl, rfl, Nat.le_refl _, fun _ _ _ => rfl⟩
theorem Fr.of_below (h : Below w.heap.size w w') : Fr S w w' := ⟨h.os, h.tape, h.output, h.size, fun k hk _ => h.block k hk⟩
theorem Fr.of_grown (h : w.grownBy w' row) (hS : ∀ k, some k = row → S k) : Fr S w w' := ⟨h.os, h.tape, h.output, h.size, fun k hk hn => h.block k hk (fun e => hn (hS k e))⟩
theorem Fr.trans (h : Fr S a b) (g : Fr T b c) (hT : ∀ k, T k → k < a.heap.size → S k) : Fr S a c :=
  ⟨g.os.trans h.os, g.tape.trans h.tape, g.output.trans h.output, Nat.le_trans h.size g.size, fun k hk hn => (g.block k (Nat.lt_of_lt_of_le hk h.size) (fun ht => hn (hT k ht hk))).trans (h.block k hk hn)⟩
theorem Fr.below (h : Fr S w w') (hB : B ≤ w.heap.size) (hS : ∀ k, S k → B ≤ k) : Below B w w' := ⟨h.os, h.tape, h.output, h.size, fun k hk => h.block k (by omega) (fun hs => by have := hS k hs; omega)⟩
theorem Fr.grown (h : Fr S w w') (hS : ∀ k, S k → some k = row) : w.grownBy w' row := ⟨h.os, h.tape, h.output, h.size, fun k hk hn => h.block k hk (fun hs => hn (hS k hs))⟩
theorem Fr.mono (h : Fr S w w') (hS : ∀ k, S k → k < w.heap.size → T k) : Fr T w w' := ⟨h.os, h.tape, h.output, h.size, fun k hk hn => h.block k hk (fun hs => hn (hS k hs hk))⟩
theorem Fr.set {g j : Nat} {u : Value} (h : Fr S w w') (hg : g < w.heap.size → S g) : Fr S w (w'.setCell ⟨g, j, none⟩ u) :=
  h.trans (T := fun k => k = g) ⟨rfl, rfl, rfl, by simp [World.setCell], fun k _ hn => Below.heap_setCell w' ⟨g, j, none⟩ u k hn⟩ (fun k hk hlt => by subst hk; exact hg hlt)
end
/-- a value's own block -/
abbrev own (v : Value) : Nat → Prop := fun k => v.ownBlock = some k
abbrev Rw (w : World) (base : Nat) (v : Value) (l : List Occ) : Prop := kO.R 25 w base (fun _ => True) v l
/-- blocks that hold no numbers of events -/
def NotInt (w : World) (S : Nat → Prop) : Prop := ∀ k, S k → k < w.heap.size → ∃ (cells : Array Value) (t : TypeId), t ≠ 3 ∧ w.heap[k]? = some (.cells cells t (0, 0))
theorem Rw.keep {S : Nat → Prop} {w w' : World} {base : Nat} {v : Value} {l : List Occ} (h : Rw w base v l) (hf : Fr S w w') (h1 : ∀ k, own v k → ¬ S k) (h2 : NotInt w S) : Rw w' base v l := by
  have h3 : kO.R 25 w base (fun k => ¬ S k) v l := R_split h h1 (fun k q cells _ _ hlt hq hc hs => by
    obtain ⟨cs, t, ht, he⟩ := h2 k hs hlt
    rw [hc] at he
    injection he with he
    injection he with _ e2 _
    have hq2 : q = 3 := by simpa using (show q ∈ [3] from hq)
    exact ht (by rw [← e2, hq2]))
  exact Kd.R_mono (Kd.R_step h3 (fun k hk hlt => hf.block k hlt hk)) (fun _ _ => trivial)
theorem Rw.typed {w : World} {base : Nat} {v : Value} {l : List Occ} (h : Rw w base v l) : NotInt w (own v) := fun k hk _ => by
  obtain ⟨cells, hc⟩ := Kd.R_typed h k hk
  exact ⟨cells, 25, by decide, hc⟩
theorem Rw.isL {w : World} {base : Nat} {A : Option Addr} {n c : Nat} {l : List Occ} (h : Rw w base (.slice A n c) l) : n = l.length ∧ IsL w l A c := by
  have hq := Kd.R_reads' h
  exact ⟨hq.1, ⟨by have := hq.2.1; omega, hq.2.2⟩⟩
theorem Rw.below {w w' : World} {base : Nat} {v : Value} {l : List Occ} (h : Rw w base v l) (hb : Below w.heap.size w w') : Rw w' base v l := Kd.R_below h hb
def At' (v v' : Value) (n : Nat) : Prop := v'.ownBlock = v.ownBlock ∨ ∃ b, v'.ownBlock = some b ∧ n ≤ b
def GrowOut (w w' : World) (base : Nat) (v : Value) (l : List Occ) (e : Ending) : Prop := ∃ v', e = .returned v' ∧ Rw w' base v' l ∧ w.grownBy w' v.ownBlock ∧ At' v v' w.heap.size
theorem at_trans {u v x : Value} {n m : Nat} (h : At' u v n) (g : At' v x m) (hm : n ≤ m) : At' u x n := by
  rcases g with g | ⟨b, g1, g2⟩
  · rcases h with h | ⟨c, h1, h2⟩
    · exact .inl (g.trans h)
    · exact .inr ⟨c, g.trans h1, h2⟩
  · exact .inr ⟨b, g1, by omega⟩

set_option maxHeartbeats 1000000 in
set_option maxRecDepth 100000 in
theorem merge_any (base : Nat) (v : Value) (a : List Occ) (B : Option Addr) (cb : Nat) (b : List Occ) (w : World) (ha : AreOk a) (hb : ∀ x ∈ b, IsOk x) (hl : a.length + b.length ≤ 1048576) (hR : Rw w base v a) (hB : ∀ W, Fr (own v) w W → IsL W b B cb) (hbase : base ≤ w.heap.size) :
    Calls Try.prog 89 #[v, .slice B b.length cb] w fun e w' => GrowOut w w' base v (putAll a b) e := by
  have HBB := Aside0.mk hB
  clear hB
  go_enter Try.func89, Try.ntmps89
  go_wp2
  go_loopw [0, 5] (fun v0 vi wr => ∃ (k : Nat) (v1 : Value), k ≤ b.length ∧ vi = .int .i64 k ∧ v1 = v0 ∧ Aside0 (Rw wr base v1 (putAll a (b.take k))) ∧ Aside0 (w.grownBy wr v.ownBlock) ∧ Aside0 (At' v v1 w.heap.size)) (fun _ vi _ => b.length - (intOf vi).toNat)
  case atStart => exact ⟨0, _, Nat.zero_le _, rfl, rfl, ⟨by simpa [putAll] using hR⟩, ⟨World.grownBy.refl _ _⟩, ⟨.inl rfl⟩⟩
  case round =>
    obtain ⟨k, v1, hk, rfl, rfl, HR, HG, HAT⟩ := hrel
    by_cases hlt : k < b.length
    · have g1 : decide (k < b.length) = true := decide_eq_true hlt
      have hI := HBB.out wr (Fr.of_grown HG.out (fun k e => e.symm))
      obtain ⟨ad, A2, c3, rfl, pa, pb, pc, pl, pC⟩ := atO hI.rd k hlt
      have hIo : IsO wr (b.getD k zO) A2 c3 := ⟨pl, pC⟩
      have hy := hb _ (getD_mem (l := b) (i := k) hlt)
      have hT := take_succ_getD b k zO hlt
      have hln := len_putAll1 a (b.take k)
      rw [List.length_take] at hln
      generalize b.getD k zO = o at pa pb pc hIo hy hT
      have HT := Aside0.mk (show putAll a (b.take (k + 1)) = put (putAll a (b.take k)) o by rw [hT, putAll_append]; rfl)
      have hsk : AreOk (putAll a (b.take k)) := ha.putAll (fun x hx => hb x (List.mem_of_mem_take hx))
      have HSK := Aside0.mk hsk
      have HIo := Aside0.mk hIo
      have HY := Aside0.mk hy
      clear pl pC hy hT hI hsk hIo
      generalize putAll a (b.take k) = L at *
      go_wp2_with (go_at_call 106; refine (oPut_any _ base (fun _ => True) v1 L A2 c3 o _ (Below.refl _ _) HSK.out.sorted (by omega) HR.out HIo.out (isOk_big HY.out) (Nat.le_trans hbase HG.out.size) (fun _ _ => trivial)).mono ?_; rintro e w2 ⟨v2, rfl, hr2, hg2, hat2⟩; have HR2 := Aside0.mk hr2; have HG2 := Aside0.mk hg2; have HAT2 := Aside0.mk (at_trans HAT.out hat2 HG.out.size); clear hr2 hg2 hat2)
      go_roundw
      case rel => exact ⟨k + 1, v2, by omega, by go_num, rfl, ⟨by rw [HT.out]; exact HR2.out⟩, ⟨grown_new HG.out HG2.out (fun j hj => by
        rcases HAT.out with h | ⟨b2, h1, h2⟩
        · rw [h] at hj; exact .inr hj.symm
        · rw [h1] at hj; injection hj with hj; exact .inl (by omega))⟩, HAT2⟩
      case measure => simp [intOf]; omega
    · have hke : k = b.length := by omega
      subst hke
      have g1 : decide (b.length < b.length) = false := decide_eq_false (by omega)
      have hR2 := HR.out
      rw [List.take_length] at hR2
      go_wp2
      go_ret
      exact ⟨v1, rfl, hR2, HG.out, HAT.out⟩
end Go.Proofs.Ytjeojdbfpncnkaa.Ra

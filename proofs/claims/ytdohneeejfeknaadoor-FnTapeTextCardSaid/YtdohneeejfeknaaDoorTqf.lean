
/- Go's library as this program calls it: Itoa, Atoi, Cut, IndexByte, Split, Join, over bytes; the package variables that they read. -/
import Derived.Test.YtdohneeejfeknaaDoorTqe
import Derived.Test.YtdohneeejfeknaaDoorTp6
import Derived.Test.YtdohneeejfeknaaDoorLs
import Derived.Shelf.Strings.PiecesUse
import Derived.Lib.SmallJoins
import Derived.Lib.AppendIntMem
set_option linter.unusedVariables false
set_option linter.unusedSimpArgs false
namespace Go.Proofs.YtdohneeejfeknaaDoor.Tqf
open Go.RowKit Go.Proofs.YtdohneeejfeknaaDoorW.PrintWords Go.Proofs.YtdohneeejfeknaaDoor.Ja Go.Proofs.YtdohneeejfeknaaDoor.Tqa Go.Proofs.YtdohneeejfeknaaDoor.Tqb Go.Proofs.YtdohneeejfeknaaDoor.Tqc Go.Proofs.YtdohneeejfeknaaDoor.Tqe Go.Proofs.YtdohneeejfeknaaDoor.Tp1 Go.Proofs.YtdohneeejfeknaaDoor.Tp4 Go.Proofs.YtdohneeejfeknaaDoor.Tp6
/-- the package variables that the library reads -/
structure Vars (w : World) : Prop where
  m : ∃ m, w.cell? ⟨Ls.cutRen.g 1, 0, none⟩ = some (.int .i64 m)
  es : ∃ ev, w.cell? ⟨Ls.atoiRen.g 15, 0, none⟩ = some ev ∧ (ev = .nilIface ∨ ∃ te pe, ev = .iface te pe)
  er : ∃ ev, w.cell? ⟨Ls.atoiRen.g 16, 0, none⟩ = some ev ∧ (ev = .nilIface ∨ ∃ te pe, ev = .iface te pe)
  tab : Lib.TabIs Tryd.prog w "internal/strconv.uint64pow10" .u64 Lib.pow10Tab
theorem Vars.below {w w' : World} (h : Vars w) (hb : Below w.heap.size w w') : Vars w' := by
  obtain ⟨⟨m, hm⟩, ⟨ev, he, hv⟩, ⟨ev2, he2, hv2⟩, ht⟩ := h
  exact ⟨⟨m, pw_cell_below hb hm⟩, ⟨ev, pw_cell_below hb he, hv⟩, ⟨ev2, pw_cell_below hb he2, hv2⟩, Lib.tabBelow_of_tabIs ht _ hb⟩
theorem itoa_any (n : Int) (h0 : -9223372036854775808 ≤ n) (h1 : n ≤ 9223372036854775807) (w : World) (hV : Vars w) : Calls Tryd.prog 42 #[.int .i64 n] w fun e w' => e = .returned (.string (bs (Lib.itoa n))) ∧ Below w.heap.size w w' :=
  (Any.strconv_Itoa Ls.itoa n h0 h1 w hV.tab).mono fun e w' ⟨he, k, os, hw⟩ => ⟨he, by rw [hw]; exact Lib.below_grow _ _ (Nat.le_refl _) _ _⟩
theorem bs_data (l : List UInt8) : (bs l).data.toList = l := rfl
theorem atoi_any (l : List UInt8) (hl : l.length ≤ 1048576) (w : World) (hV : Vars w) : Calls Tryd.prog 37 #[.string (bs l)] w fun e w' => ∃ ev, e = .returned (.tuple #[.int .i64 (atoiV l), ev]) ∧ Below w.heap.size w w' := by
  have hs : (bs l).size = l.length := bs_size l
  cases hc : Lib.atoiAll l with
  | ok v =>
    refine (Any.strconv_Atoi_ok Ls.atoi (bs l) (by omega) v hc w).mono ?_
    rintro e w' ⟨rfl, rfl | ⟨t, rfl⟩⟩
    · exact ⟨_, by unfold atoiV; rw [hc], Below.refl _ _⟩
    · exact ⟨_, by unfold atoiV; rw [hc], Lib.bytesWorld_below _ _ _⟩
  | «syntax» =>
    obtain ⟨ev, he, hv⟩ := hV.es
    refine (Any.strconv_Atoi_syntax Ls.atoi (bs l) (by omega) hc ev w he hv).mono ?_
    rintro e w' ⟨N, rfl, _, _, hb⟩
    exact ⟨_, by unfold atoiV; rw [hc], hb⟩
  | range =>
    obtain ⟨ev, he, hv⟩ := hV.er
    refine (Any.strconv_Atoi_range Ls.atoi (bs l) (by omega) hc ev w he hv).mono ?_
    rintro e w' ⟨N, rfl, _, _, hb⟩
    exact ⟨_, by unfold atoiV; rw [hc]; rfl, hb⟩
theorem cut_any (l : List UInt8) (hl : l.length ≤ 1048576) (w : World) (hV : Vars w) : Calls Tryd.prog 36 #[.string (bs l), .string ⟨#[61]⟩] w fun e w' => e = .returned (.tuple #[.string (bs (cutE l).1), .string (bs ((cutE l).2.getD [])), .bool (cutE l).2.isSome]) ∧ Below w.heap.size w w' := by
  have hs : (bs l).size = l.length := bs_size l
  obtain ⟨m, hm⟩ := hV.m
  refine (Any.strings_Cut Ls.cut (bs l) ⟨#[61]⟩ m w (by omega) hm).mono ?_
  rintro e w' ⟨rfl, n, rfl⟩
  have e1 : Lib.cut (bs l).data.toList (⟨#[61]⟩ : ByteArray).data.toList = _ := cut_cutE l
  rw [e1]
  exact ⟨rfl, pw_below_drewN (Below.refl _ _) _⟩
theorem ibyte_any (l : List UInt8) (c : Int) (w : World) : Calls Tryd.prog 38 #[.string (bs l), .int .u8 c] w fun e w' => e = .returned (.int .i64 (Lib.indexByte l c.toNat.toUInt8)) ∧ w' = w :=
  Any.strings_IndexByte Ls.ibyte (bs l) c w
theorem map_bs_data : ∀ (ws : List (List UInt8)) (xs : List ByteArray), xs.map (·.data.toList) = ws → xs = ws.map bs
  | _, [], h => by subst h; rfl
  | _, x :: xs, h => by
    subst h
    rw [List.map_cons, List.map_cons, ← map_bs_data _ xs rfl]
    congr 1
theorem split_eq (l : List UInt8) : Lib.splitB ⟨#[32]⟩ 0 (Lib.countB (bs l) ⟨#[32]⟩) (bs l) = (cutC 32 l).map bs := by
  refine map_bs_data _ _ ?_
  rw [Lib.splitB_data]
  exact split_cutC 32 l
theorem blk_S {w : World} {B : Nat} {t : TypeId} {xs : List ByteArray} (hB : w.heap[B]? = some (.cells (xs.map Value.string).toArray t (0, 0))) (hl : xs.length ≤ 9223372036854775807) : Kd.string.C w (some ⟨B, 0, none⟩) xs.length xs :=
  ⟨rfl, hl, fun _ => ⟨_, rfl, fun j q hj => ⟨[.string q], rfl, rfl, fun i u hi => by
    obtain ⟨rfl, rfl⟩ : i = 0 ∧ u = .string q := by
      rcases i with _ | i
      · exact ⟨rfl, by simpa using hi.symm⟩
      · simp at hi
    rw [add_plain, blk_cell hB]
    show (xs.map Value.string).toArray[j * 1 + 0]? = _
    simp [hj]⟩⟩⟩
/-- a row of texts that is read -/
abbrev IsT (w : World) (ws : List (List UInt8)) (A : Option Addr) (c : Nat) : Prop := IsS Kd.string w (ws.map bs) A c
theorem split_any (l : List UInt8) (hl : l.length ≤ 1048576) (w : World) (hV : Vars w) : Calls Tryd.prog 18 #[.string (bs l), .string ⟨#[32]⟩] w fun e w' => ∃ A c, e = .returned (.slice A (cutC 32 l).length c) ∧ IsT w' (cutC 32 l) A c ∧ Below w.heap.size w w' := by
  have hs : (bs l).size = l.length := bs_size l
  obtain ⟨m, hm⟩ := hV.m
  refine (Any.strings_Split { Ls.split with } Ls.split.i9 (bs l) ⟨#[32]⟩ m w (by omega) hm (by decide)).mono ?_
  rintro e w' ⟨rfl, rfl⟩
  have hlen := Lib.splitB_all (⟨#[32]⟩ : ByteArray) (by decide) 0 _ (bs l) rfl
  rw [split_eq, List.length_map] at hlen
  rw [← hlen, split_eq]
  have hle : (cutC 32 l).length ≤ 9223372036854775807 := by
    have := Lib.countB_le (⟨#[32]⟩ : ByteArray) (by decide) (bs l).size (bs l) (Nat.le_refl _)
    omega
  have hC := blk_S (xs := (cutC 32 l).map bs) (blk_new w (.cells (((cutC 32 l).map bs).map Value.string).toArray (Ls.splitRen.t 9))) (by rw [List.length_map]; exact hle)
  exact ⟨_, _, rfl, ⟨by rw [List.length_map]; exact Nat.le_refl _, hC⟩, below_alloc (Below.refl _ _) _⟩
theorem joinX : Builder.Extra Tryd.prog Ls.joinRen where
  sizeBuilder := by kernel_rfl
  liesBuilder := by kernel_rfl
  t5 := by kernel_rfl
  a5 := run_isAgg_plain (show Tryd.prog.underlying (Ls.joinRen.t 5) = some (.int .u8) by kernel_rfl) rfl
  z5 := fun _ => by kernel_rfl
  v5 := fun _ => by kernel_rfl
  infoByte := by kernel_rfl
  cellsByte := by kernel_rfl
  sizeByte := by kernel_rfl
  neB5 := by decide
theorem join_any (ws : List (List UInt8)) (v : Value) (base : Nat) (hl : ws.length ≤ 1048576) (hj : (Lib.join ws [32]).length ≤ 140737488355328) (w : World) (hR : RS w base v ws) : Calls Tryd.prog 24 #[v, .string ⟨#[32]⟩] w fun e w' => e = .returned (.string (bs (Lib.join ws [32]))) ∧ Below w.heap.size w w' := by
  cases ws with
  | nil =>
    obtain ⟨A, c, rfl, _, _⟩ := Kd.R_reads hR
    refine (Any.strings_Join_none Ls.join joinX A c ⟨#[32]⟩ w).mono ?_
    rintro e w' ⟨rfl, rfl⟩
    exact ⟨rfl, Below.refl _ _⟩
  | cons x r =>
    obtain ⟨A, c, e1, hc, hC⟩ := Kd.R_reads hR
    obtain ⟨g, cap, e2, hgb, hgl, _⟩ := Kd.R_form hR (by simp)
    rw [e2] at e1
    injection e1 with e3 e4 e5
    subst e3
    have hcell : ∀ (j : Nat) (y : ByteArray), ((x :: r).map bs)[j]? = some y → w.cell? ⟨g, 0 + j, none⟩ = some (.string y) := fun j y hy => by
      obtain ⟨ad, e, h⟩ := hC.2.2 (by simp)
      obtain rfl := Option.some.inj e
      obtain ⟨cs, _, hK, hq⟩ := h j y hy
      obtain rfl : cs = [.string y] := hK
      have h1 := hq 0 _ rfl
      rw [add_plain] at h1
      have h2 : j * Kd.string.sz + 0 = 0 + j := by show j * 1 + 0 = _; omega
      rw [h2] at h1
      exact h1
    have hmm : ((x :: r).map bs).map (·.data.toList) = x :: r := by
      rw [List.map_map]
      exact List.map_id'' (fun _ => rfl) _
    have H := Any.strings_Join Ls.join joinX g 0 cap ((x :: r).map bs) ⟨#[32]⟩ w hcell hgl (by rw [List.length_map]; omega) (by omega) (by rw [hmm]; exact hj)
    rw [hmm] at H
    rw [e2]
    exact H
end Go.Proofs.YtdohneeejfeknaaDoor.Tqf

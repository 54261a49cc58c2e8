
/- Small texts: a letter, a number in decimals, words of kinds: the program's functions and the reference's. -/
import Derived.Test.YtckblabkapeigaaGreatNNa
import Derived.Test.YtckblabkapeigaaGreatNJd
import Derived.Laws.IdiomStrings
set_option linter.unusedVariables false
set_option linter.unusedSimpArgs false
namespace Go.Proofs.YtckblabkapeigaaGreat.Nd
open Go.RowKit Go.Proofs.YtckblabkapeigaaGreatW.PrintWords Go.Proofs.YtckblabkapeigaaGreat.Ja Go.Proofs.YtckblabkapeigaaGreat.Jb Go.Proofs.YtckblabkapeigaaGreat.Jc Go.Proofs.YtckblabkapeigaaGreat.Jd Go.Proofs.YtckblabkapeigaaGreat.Jg Go.Proofs.YtckblabkapeigaaGreat.Na

/-- bytes as a text -/
def bs (l : List UInt8) : ByteArray := ⟨l.toArray⟩
theorem bs_app (a b : List UInt8) : bs a ++ bs b = bs (a ++ b) := by
 apply ByteArray.ext
 rw [ByteArray.data_append]
 simp [bs]
theorem bs_size (a : List UInt8) : (bs a).size = a.length := by simp [bs, ByteArray.size]
theorem dec_step (m : Nat) (h : 9 < m) : Lib.decDigits m = Lib.decDigits (m / 10) ++ [UInt8.ofNat (48 + m % 10)] := by
 conv => lhs; rw [Lib.decDigits, dif_neg (by omega)]
theorem conv1 (w : World) (z : Nat) (hz : z < 256) (t : TypeId) : (convert 141 9 (.slice (some ⟨w.heap.size, 0, none⟩) 1 1)).run Tryz.prog (w.alloc (.cells #[.int .u8 z] t)) = .ok (.string (bs [UInt8.ofNat z])) (w.alloc (.cells #[.int .u8 z] t)) :=
 run_convert_bytes_back _ _ _ 5 ⟨w.heap.size, 0, none⟩ 1 [UInt8.ofNat z] Tryz.underlying141 Tryz.underlying5 Tryz.underlying9 (fun j hj => by
  have h0 : j = 0 := by simpa using hj
  subst h0
  have hc : (w.alloc (.cells #[.int .u8 z] t)).cell? ⟨w.heap.size, 0, none⟩ = some (.int .u8 z) := (blk_cell (blk_new w (.cells #[.int .u8 z] t)) 0).trans rfl
  have hb : ((UInt8.ofNat z).toNat : Int) = z := by rw [UInt8.toNat_ofNat_of_lt' (by show z < 256; exact hz)]
  show (w.alloc (.cells #[.int .u8 z] t)).cell? ⟨w.heap.size, 0 + 0, none⟩ = some (.int .u8 ((UInt8.ofNat z).toNat : Int))
  rw [hb]; exact hc)
end Go.Proofs.YtckblabkapeigaaGreat.Nd

/- Plain lemmas on texts, the second part. -/
import Derived.Test.YtkklccccjmipkaaDoorZGPlain
namespace Go.Proofs.YtkklccccjmipkaaDoor.GPlain
open Go.RowKit Go.Proofs.YtkklccccjmipkaaDoorW.PrintWords
theorem bs_eq (a b : List UInt8) : (bs a = bs b) = (a = b) := propext ⟨bs_inj, fun h => by rw [h]⟩
theorem bs_append (a b : List UInt8) : bs a ++ bs b = bs (a ++ b) := by
  rw [bs_of (bs a ++ bs b)]
  congr 1
theorem bs_extract (l : List UInt8) (i j : Nat) : (bs l).extract i j = bs ((l.take j).drop i) := by
  rw [bs_of ((bs l).extract i j)]
  congr 1
  simp [bs, List.take_drop]
  by_cases h : i ≤ j
  · rw [show i + (j - i) = j by omega]
  · rw [List.drop_of_length_le (by simp; omega), List.drop_of_length_le (by simp; omega)]
theorem bs_mk (a : Array UInt8) : (⟨a⟩ : ByteArray) = bs a.toList := by simp [bs]
end Go.Proofs.YtkklccccjmipkaaDoor.GPlain

/- lines.Write's contract, in the print's form. -/
import Derived.Test.YtkklccccjmipkaaDoorLLWrite
namespace Go.Proofs.YtkklccccjmipkaaDoor.PAll
open Go.RowKit Go.Proofs.YtkklccccjmipkaaDoorW.PrintWords GPlain
open Go.Proofs.YtkklccccjmipkaaDoor.Lin
def lines_Write.f (l0 : List (S68)) : Option (ByteArray × Int) := if (wbytes true l0).length ≤ 1000000 then some (lwrite l0) else none
theorem wbytes_take : ∀ (first : Bool) (l : List S68) (n : Nat), (wbytes first (l.take n)).length ≤ (wbytes first l).length
  | _, [], n => by rw [List.take_nil]; exact Nat.le_refl _
  | _, f :: r, 0 => Nat.zero_le _
  | first, f :: r, n + 1 => by
    have ih := wbytes_take false r n
    rw [List.take_succ_cons]
    simp only [wbytes, List.length_append]
    omega
theorem lines_Write.calls (A0 : Option Addr) (c0 : Nat) (l0 : List (S68)) (r1 : ByteArray) (r2 : Int) (w : World) (hr0 : Kd.C k68 w A0 l0.length l0) (hc0 : l0.length ≤ c0) (h : lines_Write.f l0 = some (r1, r2)) (hG : GW w) :
    Calls Tryd.prog 36 #[.slice A0 l0.length c0] w fun e w' => e = .returned (.tuple #[.string r1, .int .i64 r2]) ∧ Below w.heap.size w w' := by
  unfold lines_Write.f at h
  by_cases hs : (wbytes true l0).length ≤ 1000000
  · rw [if_pos hs] at h
    have h := Option.some.inj h
    have h1 : (lwrite l0).1 = r1 := congrArg Prod.fst h
    have h2 : (lwrite l0).2 = r2 := congrArg Prod.snd h
    have := write_walk A0 c0 l0 w hr0 hc0 (fun n => Nat.le_trans (wbytes_take true l0 n) hs) hG
    rw [h1, h2] at this
    exact this
  · rw [if_neg hs] at h
    cases h
end Go.Proofs.YtkklccccjmipkaaDoor.PAll

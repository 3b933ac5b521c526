/- LinesLong, in plain Lean: as many lines as may be, and one more. -/
import Derived.Test.YtkklccccjmipkaaDoorLPureLin5
import Derived.Test.YtkklccccjmipkaaDoorLPLLon
namespace Go.Proofs.YtkklccccjmipkaaDoor.Pure
open Go.RowKit Go.Proofs.YtkklccccjmipkaaDoor.PAll Go.Proofs.YtkklccccjmipkaaDoorW.PrintWords GPlain
open Go.Proofs.YtkklccccjmipkaaDoor.Lin
theorem long_app (n : Nat) : bs (long n) ++ (⟨#[13, 10, 65]⟩ : ByteArray) = bs (long (n + 1)) := by
  show bs (long n) ++ bs [13, 10, 65] = _
  rw [bs_append]; rfl
theorem long_l0 (N : Nat) (hN : N = 2000) : ∀ (m i k : Nat), i + m = N → 1 ≤ i → m + 5 < k → remitterlaw15_LinesLong.l0 k (bs (long (i - 1))) (i : Int) = some true
  | 0, i, k, hi, h1, hk => by
    obtain ⟨k, rfl⟩ : ∃ k', k = k' + 1 := ⟨k - 1, by omega⟩
    have e0 := long_length (i - 1)
    have e1 := long_length i
    obtain ⟨o, ho⟩ := long_read (i - 1) (by omega)
    have hov := long_over i (by omega)
    have hla := long_app (i - 1)
    rw [show i - 1 + 1 = i by omega] at hla
    have p1 := prog_read (long (i - 1)) (by omega)
    have p2 := prog_read (long i) (by omega)
    rw [ho] at p1
    rw [hov] at p2
    rw [remitterlaw15_LinesLong.l0, if_neg (by omega), p1, Option.bind_some, bs_size, if_pos (by omega), hla, p2, Option.bind_some, if_pos rfl, if_pos rfl, if_pos ?_, wakes_bind]
    have hw := Lib.hid (show wrap64 (((long (i - 1)).length : Int) + 2) = ((long (i - 1)).length : Int) + 2 by rw [wrap_ok (by omega) (by omega)])
    rw [hw.out]
    dsimp only
    omega
  | m + 1, i, k, hi, h1, hk => by
    obtain ⟨k, rfl⟩ : ∃ k', k = k' + 1 := ⟨k - 1, by omega⟩
    have e0 := long_length (i - 1)
    have hla := long_app (i - 1)
    have hi1 : i - 1 + 1 = i := by omega
    rw [hi1] at hla
    rw [remitterlaw15_LinesLong.l0, if_pos (by omega), bs_size, if_pos (by omega), hla, wrap_ok (x := (i : Int) + 1) (by omega) (by omega), show ((i : Int) + 1) = ((i + 1 : Nat) : Int) by omega]
    exact long_l0 N hN m (i + 1) k (by omega) (by omega) (by omega)
theorem LinesLong : remitterlaw15_LinesLong.Pure := by
  refine ⟨4000, ?_⟩
  unfold remitterlaw15_LinesLong.f
  exact long_l0 2000 rfl 1999 1 4000 (by omega) (by omega) (by omega)
end Go.Proofs.YtkklccccjmipkaaDoor.Pure

/- The document's answer for messages: the first fault, the rest, the whole. -/
import Derived.Test.YtkklccccjmipkaaDoorZPureFin1
import Derived.Test.YtkklccccjmipkaaDoorZPFReadsx3
namespace Go.Proofs.YtkklccccjmipkaaDoor.Pure
open Go.RowKit Go.Proofs.YtkklccccjmipkaaDoor.PAll Go.Proofs.YtkklccccjmipkaaDoorW.PrintWords GPlain
open Go.Proofs.YtkklccccjmipkaaDoor.Fin
set_option linter.unusedSimpArgs false
theorem badB_iff (l : List UInt8) (i : Nat) : badB l i = true ↔ ((l.getD i 0).toNat = 123 ∨ (l.getD i 0).toNat = 125 ∨ ((l.getD i 0).toNat = 13 ∧ ¬ (i + 1 < l.length ∧ (l.getD (i + 1) 0).toNat = 10)) ∨ ((l.getD i 0).toNat = 10 ∧ (i = 0 ∨ ¬ (l.getD (i - 1) 0).toNat = 13)) ∨ ((l.getD i 0).toNat = 45 ∧ (i = 0 ∨ (l.getD (i - 1) 0).toNat = 10))) := by
  unfold badB
  simp only [Bool.or_eq_true, Bool.and_eq_true, beq_iff_eq, Bool.not_eq_true', Bool.and_eq_false_iff, decide_eq_true_eq, decide_eq_false_iff_not, beq_eq_false_iff_ne, ne_eq]
  omega
theorem fault_l0 (l : List UInt8) (hl : l.length ≤ 4000) : ∀ (n i k : Nat), i + n = l.length → n < k → remitterref14_Fault.l0 k (bs l) (i : Int) = some ((faultFrom l n i : Nat) : Int)
  | 0, i, k, hi, hk => by
    obtain ⟨k, rfl⟩ : ∃ k', k = k' + 1 := ⟨k - 1, by omega⟩
    unfold remitterref14_Fault.l0
    rw [bs_size, if_neg (by omega)]
    rfl
  | n + 1, i, k, hi, hk => by
    obtain ⟨k, rfl⟩ : ∃ k', k = k' + 1 := ⟨k - 1, by omega⟩
    have ih := fault_l0 l hl n (i + 1) k (by omega) (by omega)
    have hw : wrap64 ((i : Int) + 1) = ((i + 1 : Nat) : Int) := by rw [wrap_ok (by omega) (by omega)]; omega
    have hw2 : wrap64 ((i : Int) - 1) = (i : Int) - 1 := wrap_ok (by omega) (by omega)
    have hb2 : bt (bs l) ((i : Int) - 1) = ((l.getD (i - 1) 0).toNat : Int) := by rw [bt_bs, show ((i : Int) - 1).toNat = i - 1 by omega]
    unfold remitterref14_Fault.l0
    rw [bs_size, if_pos (by omega), if_pos (by omega)]
    simp only [hw, hw2, hb2, bt_nat]
    rw [ih]
    have hbad := badB_iff l i
    have e : faultFrom l (n + 1) i = if badB l i = true then i else faultFrom l n (i + 1) := rfl
    rw [e]
    obtain ⟨c, hc⟩ : ∃ c, (l.getD i 0).toNat = c := ⟨_, rfl⟩
    obtain ⟨d, hd⟩ : ∃ d, (l.getD (i + 1) 0).toNat = d := ⟨_, rfl⟩
    obtain ⟨f, hf⟩ : ∃ f, (l.getD (i - 1) 0).toNat = f := ⟨_, rfl⟩
    rw [hc, hd, hf] at hbad
    simp only [hc, hd, hf]
    clear hw hw2 hb2 ih e hc hd hf
    by_cases h1 : c = 123
    · first | (rw [if_pos (hbad.2 (by omega))]; (repeat (first | rw [if_pos (by omega)] | rw [if_neg (by omega)])); done) | (rw [if_neg (fun h => absurd (hbad.1 h) (by omega))]; (repeat (first | rw [if_pos (by omega)] | rw [if_neg (by omega)])); done) | (rw [if_pos (hbad.2 (by omega))]; (repeat (first | rw [if_pos (by omega)] | rw [if_neg (by omega)])); rfl) | (rw [if_neg (fun h => absurd (hbad.1 h) (by omega))]; (repeat (first | rw [if_pos (by omega)] | rw [if_neg (by omega)])); rfl)
    by_cases h2 : c = 125
    · first | (rw [if_pos (hbad.2 (by omega))]; (repeat (first | rw [if_pos (by omega)] | rw [if_neg (by omega)])); done) | (rw [if_neg (fun h => absurd (hbad.1 h) (by omega))]; (repeat (first | rw [if_pos (by omega)] | rw [if_neg (by omega)])); done) | (rw [if_pos (hbad.2 (by omega))]; (repeat (first | rw [if_pos (by omega)] | rw [if_neg (by omega)])); rfl) | (rw [if_neg (fun h => absurd (hbad.1 h) (by omega))]; (repeat (first | rw [if_pos (by omega)] | rw [if_neg (by omega)])); rfl)
    by_cases h3 : c = 13
    · by_cases q1 : i + 1 = l.length
      · first | (rw [if_pos (hbad.2 (by omega))]; (repeat (first | rw [if_pos (by omega)] | rw [if_neg (by omega)])); done) | (rw [if_neg (fun h => absurd (hbad.1 h) (by omega))]; (repeat (first | rw [if_pos (by omega)] | rw [if_neg (by omega)])); done) | (rw [if_pos (hbad.2 (by omega))]; (repeat (first | rw [if_pos (by omega)] | rw [if_neg (by omega)])); rfl) | (rw [if_neg (fun h => absurd (hbad.1 h) (by omega))]; (repeat (first | rw [if_pos (by omega)] | rw [if_neg (by omega)])); rfl)
      · by_cases q2 : d = 10
        · first | (rw [if_pos (hbad.2 (by omega))]; (repeat (first | rw [if_pos (by omega)] | rw [if_neg (by omega)])); done) | (rw [if_neg (fun h => absurd (hbad.1 h) (by omega))]; (repeat (first | rw [if_pos (by omega)] | rw [if_neg (by omega)])); done) | (rw [if_pos (hbad.2 (by omega))]; (repeat (first | rw [if_pos (by omega)] | rw [if_neg (by omega)])); rfl) | (rw [if_neg (fun h => absurd (hbad.1 h) (by omega))]; (repeat (first | rw [if_pos (by omega)] | rw [if_neg (by omega)])); rfl)
        · first | (rw [if_pos (hbad.2 (by omega))]; (repeat (first | rw [if_pos (by omega)] | rw [if_neg (by omega)])); done) | (rw [if_neg (fun h => absurd (hbad.1 h) (by omega))]; (repeat (first | rw [if_pos (by omega)] | rw [if_neg (by omega)])); done) | (rw [if_pos (hbad.2 (by omega))]; (repeat (first | rw [if_pos (by omega)] | rw [if_neg (by omega)])); rfl) | (rw [if_neg (fun h => absurd (hbad.1 h) (by omega))]; (repeat (first | rw [if_pos (by omega)] | rw [if_neg (by omega)])); rfl)
    by_cases h4 : c = 10
    · by_cases q1 : i = 0
      · first | (rw [if_pos (hbad.2 (by omega))]; (repeat (first | rw [if_pos (by omega)] | rw [if_neg (by omega)])); done) | (rw [if_neg (fun h => absurd (hbad.1 h) (by omega))]; (repeat (first | rw [if_pos (by omega)] | rw [if_neg (by omega)])); done) | (rw [if_pos (hbad.2 (by omega))]; (repeat (first | rw [if_pos (by omega)] | rw [if_neg (by omega)])); rfl) | (rw [if_neg (fun h => absurd (hbad.1 h) (by omega))]; (repeat (first | rw [if_pos (by omega)] | rw [if_neg (by omega)])); rfl)
      · by_cases q2 : f = 13
        · first | (rw [if_pos (hbad.2 (by omega))]; (repeat (first | rw [if_pos (by omega)] | rw [if_neg (by omega)])); done) | (rw [if_neg (fun h => absurd (hbad.1 h) (by omega))]; (repeat (first | rw [if_pos (by omega)] | rw [if_neg (by omega)])); done) | (rw [if_pos (hbad.2 (by omega))]; (repeat (first | rw [if_pos (by omega)] | rw [if_neg (by omega)])); rfl) | (rw [if_neg (fun h => absurd (hbad.1 h) (by omega))]; (repeat (first | rw [if_pos (by omega)] | rw [if_neg (by omega)])); rfl)
        · first | (rw [if_pos (hbad.2 (by omega))]; (repeat (first | rw [if_pos (by omega)] | rw [if_neg (by omega)])); done) | (rw [if_neg (fun h => absurd (hbad.1 h) (by omega))]; (repeat (first | rw [if_pos (by omega)] | rw [if_neg (by omega)])); done) | (rw [if_pos (hbad.2 (by omega))]; (repeat (first | rw [if_pos (by omega)] | rw [if_neg (by omega)])); rfl) | (rw [if_neg (fun h => absurd (hbad.1 h) (by omega))]; (repeat (first | rw [if_pos (by omega)] | rw [if_neg (by omega)])); rfl)
    by_cases h5 : c = 45
    · by_cases q1 : i = 0
      · first | (rw [if_pos (hbad.2 (by omega))]; (repeat (first | rw [if_pos (by omega)] | rw [if_neg (by omega)])); done) | (rw [if_neg (fun h => absurd (hbad.1 h) (by omega))]; (repeat (first | rw [if_pos (by omega)] | rw [if_neg (by omega)])); done) | (rw [if_pos (hbad.2 (by omega))]; (repeat (first | rw [if_pos (by omega)] | rw [if_neg (by omega)])); rfl) | (rw [if_neg (fun h => absurd (hbad.1 h) (by omega))]; (repeat (first | rw [if_pos (by omega)] | rw [if_neg (by omega)])); rfl)
      · by_cases q2 : f = 10
        · first | (rw [if_pos (hbad.2 (by omega))]; (repeat (first | rw [if_pos (by omega)] | rw [if_neg (by omega)])); done) | (rw [if_neg (fun h => absurd (hbad.1 h) (by omega))]; (repeat (first | rw [if_pos (by omega)] | rw [if_neg (by omega)])); done) | (rw [if_pos (hbad.2 (by omega))]; (repeat (first | rw [if_pos (by omega)] | rw [if_neg (by omega)])); rfl) | (rw [if_neg (fun h => absurd (hbad.1 h) (by omega))]; (repeat (first | rw [if_pos (by omega)] | rw [if_neg (by omega)])); rfl)
        · first | (rw [if_pos (hbad.2 (by omega))]; (repeat (first | rw [if_pos (by omega)] | rw [if_neg (by omega)])); done) | (rw [if_neg (fun h => absurd (hbad.1 h) (by omega))]; (repeat (first | rw [if_pos (by omega)] | rw [if_neg (by omega)])); done) | (rw [if_pos (hbad.2 (by omega))]; (repeat (first | rw [if_pos (by omega)] | rw [if_neg (by omega)])); rfl) | (rw [if_neg (fun h => absurd (hbad.1 h) (by omega))]; (repeat (first | rw [if_pos (by omega)] | rw [if_neg (by omega)])); rfl)
    first | (rw [if_pos (hbad.2 (by omega))]; (repeat (first | rw [if_pos (by omega)] | rw [if_neg (by omega)])); done) | (rw [if_neg (fun h => absurd (hbad.1 h) (by omega))]; (repeat (first | rw [if_pos (by omega)] | rw [if_neg (by omega)])); done) | (rw [if_pos (hbad.2 (by omega))]; (repeat (first | rw [if_pos (by omega)] | rw [if_neg (by omega)])); rfl) | (rw [if_neg (fun h => absurd (hbad.1 h) (by omega))]; (repeat (first | rw [if_pos (by omega)] | rw [if_neg (by omega)])); rfl)
theorem fault_f (l : List UInt8) (k : Nat) (hl : l.length ≤ 4000) (hk : 4000 < k) : remitterref14_Fault.f k (bs l) = some ((faultL l : Nat) : Int) := fault_l0 l hl l.length 0 k (by omega) (by omega)
end Go.Proofs.YtkklccccjmipkaaDoor.Pure

/- The document's UETR: the contracts of remitterref12.uetr and of remitterref12.Check at "uetr", by hand. -/
import Derived.Test.YtkklccccjmipkaaDoorZGFin
import Derived.Deep.Cut
namespace Go.Proofs.YtkklccccjmipkaaDoor.PAll
open Go.RowKit Go.Deep Go.Proofs.YtkklccccjmipkaaDoorW.PrintWords GPlain
set_option linter.unusedSimpArgs false
def hexB (c : Nat) : Bool := decide ((48 ≤ c ∧ c ≤ 57) ∨ (97 ≤ c ∧ c ≤ 102))
def dashB (i : Nat) : Bool := decide (i = 8 ∨ i = 13 ∨ i = 18 ∨ i = 23)
/-- Is a byte right at a place? -/
def rowB (i c : Nat) : Bool := if dashB i = true then decide (c = 45) else decide (c ≠ 45) && hexB c && (!decide (i = 14) || decide (c = 52)) && (!decide (i = 19) || decide (c = 56 ∨ c = 57 ∨ c = 97 ∨ c = 98))
def byteN (s : ByteArray) (i : Nat) : Nat := (s.data.toList.getD i 0).toNat
theorem byteN_eq (s : ByteArray) (i : Nat) (h : i < s.size) : (s[i]'h).toNat = byteN s i := by
  obtain ⟨d⟩ := s
  have hd : i < d.toList.length := by rw [Array.length_toList]; exact h
  unfold byteN
  rw [List.getD_eq_getElem?_getD, List.getElem?_eq_getElem hd]
  rfl
set_option maxRecDepth 100000 in
theorem rowB_okU : ∀ (i : Fin 36) (c : Fin 256), rowB i.val c.val = okU i.val (UInt8.ofNat c.val) := by decide +kernel
theorem rowB_iff (i c : Nat) : rowB i c = true ↔ ((i = 8 ∨ i = 13 ∨ i = 18 ∨ i = 23) ∧ c = 45) ∨ (¬ (i = 8 ∨ i = 13 ∨ i = 18 ∨ i = 23) ∧ c ≠ 45 ∧ ((48 ≤ c ∧ c ≤ 57) ∨ (97 ≤ c ∧ c ≤ 102)) ∧ (i ≠ 14 ∨ c = 52) ∧ (i ≠ 19 ∨ (c = 56 ∨ c = 57 ∨ c = 97 ∨ c = 98))) := by
  unfold rowB dashB hexB
  by_cases h : i = 8 ∨ i = 13 ∨ i = 18 ∨ i = 23
  · rw [if_pos (decide_eq_true h)]
    simp only [decide_eq_true_eq]
    omega
  · rw [if_neg (fun e => h (of_decide_eq_true e))]
    simp only [Bool.and_eq_true, Bool.or_eq_true, Bool.not_eq_true', decide_eq_true_eq, decide_eq_false_iff_not]
    omega
/-- What the document's UETR is. -/
def UPost (s : ByteArray) (w : World) (e : Ending) (w' : World) : Prop := (∃ b, e = .returned (.bool b) ∧ (b = true ↔ s.size = 36 ∧ ∀ j, j < s.size → rowB j (byteN s j) = true)) ∧ w = w'
theorem UPost.no {s : ByteArray} {w : World} {k c : Nat} (hk : k < s.size) (hc : Hid (byteN s k = c)) (h : ¬ rowB k c = true) : UPost s w (.returned (.bool false)) w :=
  ⟨⟨false, rfl, by constructor
                   · intro e; cases e
                   · intro e; exact absurd (by rw [← hc.out]; exact e.2 k hk) h⟩, rfl⟩
set_option maxRecDepth 100000 in
set_option maxHeartbeats 2000000 in
theorem uref_walk (s : ByteArray) (hs : s.size ≤ 1048576) (w : World) :
    Calls Tryd.prog 94 #[.string s] w (UPost s w) := by
  go_enter Tryd.func94, Tryd.ntmps94
  go_wp2
  go_loop [3] (fun i => ∃ k : Nat, k ≤ s.size ∧ i = .int .i64 (k : Int) ∧ Hid (∀ j, j < k → rowB j (byteN s j) = true)) (fun i => s.size - (intOf i).toNat)
  case atStart => exact ⟨0, Nat.zero_le _, rfl, Lib.hid (fun j hj => by omega)⟩
  case round =>
    obtain ⟨k, hk, rfl, HA⟩ := hrel
    by_cases hlt : k < s.size
    · obtain ⟨c, hc⟩ : ∃ c : Nat, (s[k]'hlt).toNat = c := ⟨_, rfl⟩
      have hcx : ∀ h : k < s.size, (s[k]'h).toNat = c := fun _ => hc
      have HC : Hid (byteN s k = c) := Lib.hid (by rw [← byteN_eq s k hlt]; exact hc)
      clear hc
      go_wp2
      all_goals
        first
        | (go_round
           case rel => exact ⟨_, by omega, by go_num, Lib.hid (fun j hj => by rcases Nat.lt_succ_iff_lt_or_eq.1 hj with h | h; exact HA.out j h; subst h; rw [HC.out, rowB_iff]; omega)⟩
           case measure => simp [intOf]; omega)
        | (go_ret; exact UPost.no (by omega) HC (by rw [rowB_iff]; omega))
        | exact ⟨⟨k + 1, by omega, congrArg (Value.int .i64) (by omega), Lib.hid (fun j hj => by rcases Nat.lt_succ_iff_lt_or_eq.1 hj with h | h; exact HA.out j h; subst h; rw [HC.out, rowB_iff]; omega)⟩, by simp [intOf]; omega⟩
        | (exfalso; simp only [Bool.and_eq_true, Bool.or_eq_true, Bool.not_eq_true', decide_eq_true_eq, decide_eq_false_iff_not, beq_iff_eq, beq_eq_false_iff_ne, ne_eq] at *; omega)
        | (simp only [Bool.and_eq_true, Bool.or_eq_true, Bool.not_eq_true', decide_eq_true_eq, decide_eq_false_iff_not, beq_iff_eq, beq_eq_false_iff_ne, ne_eq] at *; go_ret; exact UPost.no (by omega) HC (by rw [rowB_iff]; omega))
        | skip
      all_goals (try simp only [Bool.and_eq_true, Bool.or_eq_true, Bool.not_eq_true', Bool.not_eq_false', bne_iff_ne, bne_eq_false_iff_eq, Bool.and_eq_false_iff, Bool.or_eq_false_iff, decide_eq_true_eq, decide_eq_false_iff_not, beq_iff_eq, beq_eq_false_iff_ne, ne_eq] at *)
      all_goals (try rw [Bool.eq_iff_iff] at *)
      all_goals (try simp only [Bool.and_eq_true, Bool.or_eq_true, Bool.not_eq_true', Bool.not_eq_false', bne_iff_ne, bne_eq_false_iff_eq, Bool.and_eq_false_iff, Bool.or_eq_false_iff, decide_eq_true_eq, decide_eq_false_iff_not, beq_iff_eq, beq_eq_false_iff_ne, ne_eq] at *)
      all_goals
        first
        | (exfalso; omega)
        | exact ⟨⟨k + 1, by omega, congrArg (Value.int .i64) (by omega), Lib.hid (fun j hj => by rcases Nat.lt_succ_iff_lt_or_eq.1 hj with h | h; exact HA.out j h; subst h; rw [HC.out, rowB_iff]; omega)⟩, by simp [intOf]; omega⟩
        | (go_ret; exact UPost.no (by omega) HC (by rw [rowB_iff]; omega))
    · obtain rfl : k = s.size := by omega
      by_cases h36 : s.size = 36
      · have h1 : ((s.size : Int) == 36) = true := beq_iff_eq.2 (by omega)
        go_wp2
        go_ret
        exact ⟨⟨_, rfl, ⟨fun _ => ⟨h36, HA.out⟩, fun _ => rfl⟩⟩, rfl⟩
      · have h1 : ((s.size : Int) == 36) = false := beq_eq_false_iff_ne.2 (by omega)
        go_wp2
        go_ret
        exact ⟨⟨_, rfl, ⟨fun e => (by cases e), fun e => absurd e.1 h36⟩⟩, rfl⟩
end Go.Proofs.YtkklccccjmipkaaDoor.PAll

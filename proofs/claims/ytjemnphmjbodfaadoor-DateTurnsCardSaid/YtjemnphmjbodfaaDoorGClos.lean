/- date.CheckMoment's closure, by hand. -/
import Derived.Test.YtjemnphmjbodfaaDoorGToXML
namespace Go.Proofs.YtjemnphmjbodfaaDoor.PAll
open Go.RowKit Go.Proofs.YtjemnphmjbodfaaDoorW.PrintWords GPlain
set_option linter.unusedSimpArgs false

theorem below_calls (s : ByteArray) (i : Nat) (n x : Int) (hs : s.size = 19) (hi : i = 11 ∨ i = 14 ∨ i = 17) (hn : date_number.f (s.extract i (i + 2)) = some x) (B : Nat) (w : World) (hB : w.cell? ⟨B, 0, none⟩ = some (.string s)) :
    Calls Tryd.prog 26 #[.int .i64 (i : Int), .int .i64 n, .pointer (some ⟨B, 0, none⟩)] w fun e w' => e = .returned (.bool (decide (0 ≤ x) && decide (x < n))) ∧ Below w.heap.size w w' := by
  rcases hi with rfl | rfl | rfl
  all_goals
    have HN := Lib.hid hn
    clear hn
    by_cases hx : 0 ≤ x
    · rw [decide_eq_true hx, Bool.true_and]
      go_enter Tryd.func26, Tryd.ntmps26
      go_wp2_with (go_at_call 19; refine (date_number.calls _ x _ HN.out).mono ?_; rintro e w' ⟨rfl, hb⟩)
      go_ret
      exact ⟨rfl, hb⟩
    · rw [decide_eq_false hx, Bool.false_and]
      go_enter Tryd.func26, Tryd.ntmps26
      go_wp2_with (go_at_call 19; refine (date_number.calls _ x _ HN.out).mono ?_; rintro e w' ⟨rfl, hb⟩)
      go_ret
      exact ⟨rfl, hb⟩

/-- date.all: are all so? -/
theorem all_calls (bl : List Bool) (hl : bl.length ≤ 1000) (b c : Nat) (w : World) (hc : ∀ j, j < bl.length → w.cell? ⟨b, j, none⟩ = some (.bool (bl.getD j false))) :
    Calls Tryd.prog 27 #[.slice (some ⟨b, 0, none⟩) bl.length c] w fun e w' => e = .returned (.bool (bl.all id)) ∧ w' = w := by
  have HC := Lib.hid hc
  clear hc
  go_enter Tryd.func27, Tryd.ntmps27
  go_wp2
  go_loopw [4, 7] (fun _ v7 wr => ∃ i : Nat, v7 = .int .i64 i ∧ i ≤ bl.length ∧ Hid ((bl.drop i).all id = bl.all id) ∧ wr = w) (fun _ i _ => bl.length - (intOf i).toNat)
  case atStart => exact ⟨0, rfl, Nat.zero_le _, Lib.hid rfl, rfl⟩
  case round =>
    obtain ⟨i, rfl, hi, HA, rfl⟩ := hrel
    by_cases h : i < bl.length
    · have hcx := HC.out i h
      have HD : Hid (bl.drop i = bl.getD i false :: bl.drop (i + 1)) := Lib.hid (by
        rw [List.drop_eq_getElem_cons h, List.getD_eq_getElem?_getD, List.getElem?_eq_getElem h]
        rfl)
      cases hb : bl.getD i false
      · rw [hb] at hcx HD
        go_wp2
        go_ret
        refine ⟨?_, rfl⟩
        have := HA.out
        rw [HD.out] at this
        rw [← this]
        rfl
      · rw [hb] at hcx HD
        have HA2 : Hid ((bl.drop (i + 1)).all id = bl.all id) := Lib.hid (by
          have := HA.out
          rw [HD.out] at this
          simpa using this)
        clear hb
        go_wp2
        go_roundw
        case rel => exact ⟨i + 1, by simp, h, HA2, (by first | rfl | trivial)⟩
        case measure => simp [intOf]; omega
    · go_wp2
      go_ret
      refine ⟨?_, rfl⟩
      have := HA.out
      rw [List.drop_of_length_le (by omega)] at this
      rw [← this]
      rfl
theorem moment_short (s : ByteArray) (hs : ¬ s.size = 19) (w : World) :
    Calls Tryd.prog 15 #[.string s] w fun e w' => e = .returned (.int .i64 16) ∧ Below w.heap.size w w' := by
  have h1 : ((s.size : Int) == 19) = false := beq_eq_false_iff_ne.2 (by omega)
  have h2 : ((s.size : Int) != 19) = true := bne_iff_ne.2 (by omega)
  clear hs
  go_enter Tryd.func15, Tryd.ntmps15
  go_wp2
  go_ret
  exact ⟨rfl, (Below.refl _ w).alloc (Nat.le_refl _) _⟩
end Go.Proofs.YtjemnphmjbodfaaDoor.PAll

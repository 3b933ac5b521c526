/- date.leap, date.months, date.good, by hand. -/
import Derived.Test.YtjemnphmjbodfaaDoorGNumber
namespace Go.Proofs.YtjemnphmjbodfaaDoor.PAll
open Go.RowKit Go.Proofs.YtjemnphmjbodfaaDoorW.PrintWords GPlain
set_option linter.unusedSimpArgs false

theorem leap_calls (y : Nat) (h0 : 1980 ≤ y) (h1 : y ≤ 2079) (w : World) : Calls Tryd.prog 22 #[.int .i64 (y : Int)] w fun e w' => e = .returned (.bool (decide (y % 4 = 0))) ∧ w' = w := by
  by_cases h : y % 4 = 0
  · have b4 : ((y : Int) % 4 == 0) = true := beq_iff_eq.2 (by omega)
    rw [decide_eq_true h]
    by_cases h2 : y % 100 = 0
    · have e : y = 2000 := by omega
      subst e
      go_enter Tryd.func22, Tryd.ntmps22
      go_wp2
      go_ret
      exact ⟨rfl, rfl⟩
    · have b100 : ((y : Int) % 100 == 0) = false := beq_eq_false_iff_ne.2 (by omega)
      have c100 : ((y : Int) % 100 != 0) = true := bne_iff_ne.2 (by omega)
      have HH := Lib.hid h2
      clear h2
      have HG := Lib.hid h
      clear h
      go_enter Tryd.func22, Tryd.ntmps22
      go_wp2
      go_ret
      exact ⟨by simp only [c100]; rfl, rfl⟩
  · have b4 : ((y : Int) % 4 == 0) = false := beq_eq_false_iff_ne.2 (by omega)
    have b400 : ((y : Int) % 400 == 0) = false := beq_eq_false_iff_ne.2 (by omega)
    rw [decide_eq_false h]
    have HG := Lib.hid h
    clear h
    go_enter Tryd.func22, Tryd.ntmps22
    go_wp2
    go_ret
    exact ⟨rfl, rfl⟩
def monthsA (y : Nat) : Array Value := #[.int .i64 0, .int .i64 31, .int .i64 (if y % 4 = 0 then 29 else 28), .int .i64 31, .int .i64 30, .int .i64 31, .int .i64 30, .int .i64 31, .int .i64 31, .int .i64 30, .int .i64 31, .int .i64 30, .int .i64 31]
theorem months_calls (y : Nat) (h0 : 1980 ≤ y) (h1 : y ≤ 2079) (w : World) : Calls Tryd.prog 21 #[.int .i64 (y : Int)] w fun e w' => e = .returned (.agg (monthsA y)) ∧ Below w.heap.size w w' := by
  by_cases hy : y % 4 = 0
  · have hb : decide (y % 4 = 0) = true := decide_eq_true hy
    have e : monthsA y = #[.int .i64 0, .int .i64 31, .int .i64 29, .int .i64 31, .int .i64 30, .int .i64 31, .int .i64 30, .int .i64 31, .int .i64 31, .int .i64 30, .int .i64 31, .int .i64 30, .int .i64 31] := by unfold monthsA; rw [if_pos hy]
    rw [e]
    clear e hy
    go_enter Tryd.func21, Tryd.ntmps21
    go_wp2_with (go_at_call 22; refine (leap_calls y h0 h1 _).mono ?_; rw [hb]; rintro e w' ⟨rfl, rfl⟩)
    refine bodyPost_ret (results_cell_row (fn := Tryd.f21) rfl _ _ w.heap.size 38 #[.int .i64 0, .int .i64 31, .int .i64 29, .int .i64 31, .int .i64 30, .int .i64 31, .int .i64 30, .int .i64 31, .int .i64 31, .int .i64 30, .int .i64 31, .int .i64 30, .int .i64 31] (0, 0) _ rfl ((Below.heap_alloc _ _ _ (by simp)).trans (heap_alloc_new w _)) Tryd.underlying38 rfl (by kernel_rfl)) rfl ?_
    exact ⟨rfl, ((Below.refl _ w).alloc (Nat.le_refl _) _).alloc (by simp) _⟩
  · have hb : decide (y % 4 = 0) = false := decide_eq_false hy
    have e : monthsA y = #[.int .i64 0, .int .i64 31, .int .i64 28, .int .i64 31, .int .i64 30, .int .i64 31, .int .i64 30, .int .i64 31, .int .i64 31, .int .i64 30, .int .i64 31, .int .i64 30, .int .i64 31] := by unfold monthsA; rw [if_neg hy]
    rw [e]
    clear e hy
    go_enter Tryd.func21, Tryd.ntmps21
    go_wp2_with (go_at_call 22; refine (leap_calls y h0 h1 _).mono ?_; rw [hb]; rintro e w' ⟨rfl, rfl⟩)
    refine bodyPost_ret (results_cell_row (fn := Tryd.f21) rfl _ _ w.heap.size 38 #[.int .i64 0, .int .i64 31, .int .i64 28, .int .i64 31, .int .i64 30, .int .i64 31, .int .i64 30, .int .i64 31, .int .i64 31, .int .i64 30, .int .i64 31, .int .i64 30, .int .i64 31] (0, 0) _ rfl ((Below.heap_alloc _ _ _ (by simp)).trans (heap_alloc_new w _)) Tryd.underlying38 rfl (by kernel_rfl)) rfl ?_
    exact ⟨rfl, ((Below.refl _ w).alloc (Nat.le_refl _) _).alloc (by simp) _⟩

/-- How many days a month has. -/
def monthLen (y m : Nat) : Int := ([0, 31, (if y % 4 = 0 then 29 else 28), 31, 30, 31, 30, 31, 31, 30, 31, 30, 31] : List Int).getD m 0
def goodB (y m d : Int) : Bool := decide (1980 ≤ y ∧ y ≤ 2079 ∧ 1 ≤ m ∧ m ≤ 12 ∧ 1 ≤ d ∧ d ≤ monthLen y.toNat m.toNat)
theorem index_1 (x : Int) (W : World) : (Instr.index 38 (.agg #[.int .i64 0, .int .i64 31, .int .i64 x, .int .i64 31, .int .i64 30, .int .i64 31, .int .i64 30, .int .i64 31, .int .i64 31, .int .i64 30, .int .i64 31, .int .i64 30, .int .i64 31]) (.int .i64 1)).run Tryd.prog W = .ok (.int .i64 31) W := by
  simp [Instr.index, run_underlying Tryd.underlying38, asIntOf, go_sem]
theorem index_2 (x : Int) (W : World) : (Instr.index 38 (.agg #[.int .i64 0, .int .i64 31, .int .i64 x, .int .i64 31, .int .i64 30, .int .i64 31, .int .i64 30, .int .i64 31, .int .i64 31, .int .i64 30, .int .i64 31, .int .i64 30, .int .i64 31]) (.int .i64 2)).run Tryd.prog W = .ok (.int .i64 x) W := by
  simp [Instr.index, run_underlying Tryd.underlying38, asIntOf, go_sem]
theorem index_3 (x : Int) (W : World) : (Instr.index 38 (.agg #[.int .i64 0, .int .i64 31, .int .i64 x, .int .i64 31, .int .i64 30, .int .i64 31, .int .i64 30, .int .i64 31, .int .i64 31, .int .i64 30, .int .i64 31, .int .i64 30, .int .i64 31]) (.int .i64 3)).run Tryd.prog W = .ok (.int .i64 31) W := by
  simp [Instr.index, run_underlying Tryd.underlying38, asIntOf, go_sem]
theorem index_4 (x : Int) (W : World) : (Instr.index 38 (.agg #[.int .i64 0, .int .i64 31, .int .i64 x, .int .i64 31, .int .i64 30, .int .i64 31, .int .i64 30, .int .i64 31, .int .i64 31, .int .i64 30, .int .i64 31, .int .i64 30, .int .i64 31]) (.int .i64 4)).run Tryd.prog W = .ok (.int .i64 30) W := by
  simp [Instr.index, run_underlying Tryd.underlying38, asIntOf, go_sem]
theorem index_5 (x : Int) (W : World) : (Instr.index 38 (.agg #[.int .i64 0, .int .i64 31, .int .i64 x, .int .i64 31, .int .i64 30, .int .i64 31, .int .i64 30, .int .i64 31, .int .i64 31, .int .i64 30, .int .i64 31, .int .i64 30, .int .i64 31]) (.int .i64 5)).run Tryd.prog W = .ok (.int .i64 31) W := by
  simp [Instr.index, run_underlying Tryd.underlying38, asIntOf, go_sem]
theorem index_6 (x : Int) (W : World) : (Instr.index 38 (.agg #[.int .i64 0, .int .i64 31, .int .i64 x, .int .i64 31, .int .i64 30, .int .i64 31, .int .i64 30, .int .i64 31, .int .i64 31, .int .i64 30, .int .i64 31, .int .i64 30, .int .i64 31]) (.int .i64 6)).run Tryd.prog W = .ok (.int .i64 30) W := by
  simp [Instr.index, run_underlying Tryd.underlying38, asIntOf, go_sem]
theorem index_7 (x : Int) (W : World) : (Instr.index 38 (.agg #[.int .i64 0, .int .i64 31, .int .i64 x, .int .i64 31, .int .i64 30, .int .i64 31, .int .i64 30, .int .i64 31, .int .i64 31, .int .i64 30, .int .i64 31, .int .i64 30, .int .i64 31]) (.int .i64 7)).run Tryd.prog W = .ok (.int .i64 31) W := by
  simp [Instr.index, run_underlying Tryd.underlying38, asIntOf, go_sem]
theorem index_8 (x : Int) (W : World) : (Instr.index 38 (.agg #[.int .i64 0, .int .i64 31, .int .i64 x, .int .i64 31, .int .i64 30, .int .i64 31, .int .i64 30, .int .i64 31, .int .i64 31, .int .i64 30, .int .i64 31, .int .i64 30, .int .i64 31]) (.int .i64 8)).run Tryd.prog W = .ok (.int .i64 31) W := by
  simp [Instr.index, run_underlying Tryd.underlying38, asIntOf, go_sem]
theorem index_9 (x : Int) (W : World) : (Instr.index 38 (.agg #[.int .i64 0, .int .i64 31, .int .i64 x, .int .i64 31, .int .i64 30, .int .i64 31, .int .i64 30, .int .i64 31, .int .i64 31, .int .i64 30, .int .i64 31, .int .i64 30, .int .i64 31]) (.int .i64 9)).run Tryd.prog W = .ok (.int .i64 30) W := by
  simp [Instr.index, run_underlying Tryd.underlying38, asIntOf, go_sem]
theorem index_10 (x : Int) (W : World) : (Instr.index 38 (.agg #[.int .i64 0, .int .i64 31, .int .i64 x, .int .i64 31, .int .i64 30, .int .i64 31, .int .i64 30, .int .i64 31, .int .i64 31, .int .i64 30, .int .i64 31, .int .i64 30, .int .i64 31]) (.int .i64 10)).run Tryd.prog W = .ok (.int .i64 31) W := by
  simp [Instr.index, run_underlying Tryd.underlying38, asIntOf, go_sem]
theorem index_11 (x : Int) (W : World) : (Instr.index 38 (.agg #[.int .i64 0, .int .i64 31, .int .i64 x, .int .i64 31, .int .i64 30, .int .i64 31, .int .i64 30, .int .i64 31, .int .i64 31, .int .i64 30, .int .i64 31, .int .i64 30, .int .i64 31]) (.int .i64 11)).run Tryd.prog W = .ok (.int .i64 30) W := by
  simp [Instr.index, run_underlying Tryd.underlying38, asIntOf, go_sem]
theorem index_12 (x : Int) (W : World) : (Instr.index 38 (.agg #[.int .i64 0, .int .i64 31, .int .i64 x, .int .i64 31, .int .i64 30, .int .i64 31, .int .i64 30, .int .i64 31, .int .i64 31, .int .i64 30, .int .i64 31, .int .i64 30, .int .i64 31]) (.int .i64 12)).run Tryd.prog W = .ok (.int .i64 31) W := by
  simp [Instr.index, run_underlying Tryd.underlying38, asIntOf, go_sem]
set_option maxRecDepth 100000 in
set_option maxHeartbeats 4000000 in
theorem good_in (y m : Nat) (d : Int) (h0 : 1980 ≤ y) (h1 : y ≤ 2079) (h2 : 1 ≤ m) (h3 : m ≤ 12) (h4 : 1 ≤ d) (w : World) :
    Calls Tryd.prog 25 #[.int .i64 (y : Int), .int .i64 (m : Int), .int .i64 d] w fun e w' => e = .returned (.bool (decide (d ≤ monthLen y m))) ∧ Below w.heap.size w w' := by
  obtain ⟨x, hx⟩ : ∃ x : Int, (if y % 4 = 0 then 29 else 28) = x := ⟨_, rfl⟩
  have hm := fun w => months_calls y h0 h1 w
  unfold monthsA at hm
  unfold monthLen
  simp only [hx] at hm ⊢
  rcases (show m = 1 ∨ m = 2 ∨ m = 3 ∨ m = 4 ∨ m = 5 ∨ m = 6 ∨ m = 7 ∨ m = 8 ∨ m = 9 ∨ m = 10 ∨ m = 11 ∨ m = 12 by omega) with rfl | rfl | rfl | rfl | rfl | rfl | rfl | rfl | rfl | rfl | rfl | rfl
  all_goals
    have HM := Lib.hid hm
    clear hm
    have i1 := index_1 x
    have i2 := index_2 x
    have i3 := index_3 x
    have i4 := index_4 x
    have i5 := index_5 x
    have i6 := index_6 x
    have i7 := index_7 x
    have i8 := index_8 x
    have i9 := index_9 x
    have i10 := index_10 x
    have i11 := index_11 x
    have i12 := index_12 x
    go_enter Tryd.func25, Tryd.ntmps25
    go_wp2_with (go_at_call 21; refine (HM.out _).mono ?_; rintro e w' ⟨rfl, hb⟩)
    go_ret
    exact ⟨rfl, hb⟩

theorem good_bad (y m d : Int) (h : ¬ (1980 ≤ y ∧ y ≤ 2079 ∧ 1 ≤ m ∧ m ≤ 12 ∧ 1 ≤ d)) (w : World) :
    Calls Tryd.prog 25 #[.int .i64 y, .int .i64 m, .int .i64 d] w fun e w' => e = .returned (.bool false) ∧ w' = w := by
  by_cases h1 : 1980 ≤ y
  · by_cases h2 : y ≤ 2079
    · by_cases h3 : 1 ≤ m
      · by_cases h4 : m ≤ 12
        · have h5 : ¬ 1 ≤ d := fun e => h ⟨h1, h2, h3, h4, e⟩
          clear h
          go_enter Tryd.func25, Tryd.ntmps25
          go_wp2
          go_ret
          exact ⟨rfl, rfl⟩
        · clear h
          go_enter Tryd.func25, Tryd.ntmps25
          go_wp2
          go_ret
          exact ⟨rfl, rfl⟩
      · clear h
        go_enter Tryd.func25, Tryd.ntmps25
        go_wp2
        go_ret
        exact ⟨rfl, rfl⟩
    · clear h
      go_enter Tryd.func25, Tryd.ntmps25
      go_wp2
      go_ret
      exact ⟨rfl, rfl⟩
  · clear h
    go_enter Tryd.func25, Tryd.ntmps25
    go_wp2
    go_ret
    exact ⟨rfl, rfl⟩
/-- date.good: is there such a day? -/
def date_good.f (a0 a1 a2 : Int) : Option Bool := some (goodB a0 a1 a2)
theorem date_good.calls (a0 a1 a2 : Int) (r : Bool) (w : World) (h : date_good.f a0 a1 a2 = some r) :
    Calls Tryd.prog 25 #[.int .i64 a0, .int .i64 a1, .int .i64 a2] w fun e w' => e = .returned (.bool r) ∧ Below w.heap.size w w' := by
  obtain rfl := Option.some.inj h
  clear h
  by_cases hg : 1980 ≤ a0 ∧ a0 ≤ 2079 ∧ 1 ≤ a1 ∧ a1 ≤ 12 ∧ 1 ≤ a2
  · obtain ⟨y, rfl⟩ : ∃ y : Nat, a0 = (y : Int) := ⟨a0.toNat, by omega⟩
    obtain ⟨m, rfl⟩ : ∃ m : Nat, a1 = (m : Int) := ⟨a1.toNat, by omega⟩
    refine (good_in y m a2 (by omega) (by omega) (by omega) (by omega) (by omega) w).mono ?_
    rintro e w' ⟨rfl, hb⟩
    refine ⟨?_, hb⟩
    unfold goodB
    rw [Int.toNat_natCast, Int.toNat_natCast]
    congr 2
    exact decide_eq_decide.2 ⟨fun e => ⟨hg.1, hg.2.1, hg.2.2.1, hg.2.2.2.1, hg.2.2.2.2, e⟩, fun e => e.2.2.2.2.2⟩
  · refine (good_bad a0 a1 a2 hg w).mono ?_
    rintro e w' ⟨rfl, rfl⟩
    refine ⟨?_, Below.refl _ _⟩
    unfold goodB
    rw [decide_eq_false (fun e => hg ⟨e.1, e.2.1, e.2.2.1, e.2.2.2.1, e.2.2.2.2.1⟩)]
end Go.Proofs.YtjemnphmjbodfaaDoor.PAll

/- date.Day, by hand: an array that is sliced and ranged over, and a loop over the years. -/
import Derived.Test.YtjemnphmjbodfaaDoorPAllx2
import Derived.Test.YtjemnphmjbodfaaDoorGGood
import Derived.WalkKit
import Derived.Lib.Hide
namespace Go.Proofs.YtjemnphmjbodfaaDoor.PAll
open Go.RowKit Go.Proofs.YtjemnphmjbodfaaDoorW.PrintWords GPlain
set_option linter.unusedSimpArgs false

/-- The months' lengths. -/
def monthsL (y : Nat) : List Int := [0, 31, (if y % 4 = 0 then 29 else 28), 31, 30, 31, 30, 31, 31, 30, 31, 30, 31]
/-- The days of the first months. -/
def sumM (y m : Nat) : Int := ((monthsL y).take m).foldl (· + ·) 0
/-- The days of the years from 1980 on. -/
def sumY : Nat → Int
  | 0 => 0
  | k + 1 => sumY k + (if (1980 + k) % 4 = 0 then 366 else 365)
theorem sumY_bd (k : Nat) (h : k ≤ 99) : 0 ≤ sumY k ∧ sumY k ≤ 366 * k := by
  induction k with
  | zero => exact ⟨by decide, by decide⟩
  | succ k ih =>
    have := ih (by omega)
    rw [sumY]
    split <;> omega
theorem monthsL_bd (y k : Nat) : 0 ≤ (monthsL y).getD k 0 ∧ (monthsL y).getD k 0 ≤ 31 := by
  unfold monthsL
  split
  all_goals
    by_cases h : k < 13
    · rcases (show k = 0 ∨ k = 1 ∨ k = 2 ∨ k = 3 ∨ k = 4 ∨ k = 5 ∨ k = 6 ∨ k = 7 ∨ k = 8 ∨ k = 9 ∨ k = 10 ∨ k = 11 ∨ k = 12 by omega) with rfl | rfl | rfl | rfl | rfl | rfl | rfl | rfl | rfl | rfl | rfl | rfl | rfl <;> decide
    · rw [List.getD_eq_getElem?_getD, List.getElem?_eq_none (by simp; omega)]
      decide
theorem sumM_succ (y k : Nat) (h : k < 13) : sumM y (k + 1) = sumM y k + (monthsL y).getD k 0 := by
  unfold sumM
  have h' : k < (monthsL y).length := by unfold monthsL; exact h
  rw [List.take_succ_eq_append_getElem h', List.foldl_append, List.getD_eq_getElem?_getD, List.getElem?_eq_getElem h']
  rfl
theorem sumM_bd (y k : Nat) (h : k ≤ 13) : 0 ≤ sumM y k ∧ sumM y k ≤ 31 * k := by
  induction k with
  | zero => exact ⟨by simp [sumM], by simp [sumM]⟩
  | succ k ih =>
    have := ih (by omega)
    have b := monthsL_bd y k
    rw [sumM_succ y k (by omega)]
    omega
set_option maxRecDepth 100000 in
set_option maxHeartbeats 4000000 in
theorem day_walk (s : ByteArray) (hs : s.size = 10) (y m : Nat) (d : Int) (he : date_CheckXML.f s = some 0) (h1 : date_number.f (s.extract 8 10) = some d) (h2 : date_number.f (s.extract 0 4) = some (y : Int)) (h3 : date_number.f (s.extract 5 7) = some (m : Int)) (hy0 : 1980 ≤ y) (hy1 : y ≤ 2079) (hm0 : 1 ≤ m) (hm1 : m ≤ 12) (hd0 : 0 ≤ d) (hd1 : d ≤ 99) (w : World) :
    Calls Tryd.prog 9 #[.string s] w fun e w' => e = .returned (.tuple #[.int .i64 (d - 1 + sumM y m + sumY (y - 1980)), .int .i64 0]) ∧ Below w.heap.size w w' := by
  have HE := Lib.hid he
  have H1 := Lib.hid h1
  have H2 := Lib.hid h2
  have H3 := Lib.hid h3
  clear he h1 h2 h3
  obtain ⟨x, hx⟩ : ∃ x : Int, (if y % 4 = 0 then 29 else 28) = x := ⟨_, rfl⟩
  have hm := fun w => months_calls y hy0 hy1 w
  unfold monthsA at hm
  simp only [hx] at hm
  have HM := Lib.hid hm
  clear hm
  have HX := Lib.hid hx
  clear hx
  have hal : Tryd.prog.arrayLen 38 = 13 := by kernel_rfl
  have hsl : ∀ (a : Addr) (w : World), (Instr.sliceAt 38 (.pointer (some a)) none (some (.int .i64 (m : Int))) none).run Tryd.prog w = .ok (.slice (some a) m 13) w := fun a w => by
    rw [run_sliceAt_array_h (P := Tryd.prog) w 38 a (by rw [hal]; kernel_rfl) .i64 m (by omega) (by rw [hal]; omega), hal]
    rfl
  clear hal
  go_enter Tryd.func9, Tryd.ntmps9
  go_wp2_with (first | (go_at_call 14; (with_reducible refine (date_CheckXML.calls _ 0 _ HE.out).mono ?_); rintro e w1 ⟨rfl, hb1⟩) | (go_at_call 19; (with_reducible refine (date_number.calls _ d _ H1.out).mono ?_); rintro e w2 ⟨rfl, hb2⟩) | (go_at_call 19; (with_reducible refine (date_number.calls _ (y : Int) _ H2.out).mono ?_); rintro e w3 ⟨rfl, hb3⟩) | (go_at_call 19; (with_reducible refine (date_number.calls _ (m : Int) _ H3.out).mono ?_); rintro e w5 ⟨rfl, hb5⟩) | (go_at_call 21; (with_reducible refine (HM.out _).mono ?_); rintro e w4 ⟨rfl, hb4⟩))
  have hcell : Hid (∀ j, j < 13 → w5.cell? ⟨w4.heap.size, j, none⟩ = some (.int .i64 ((monthsL y).getD j 0))) := Lib.hid (fun j hj => by
    rw [hb5.cell (p := ⟨w4.heap.size, j, none⟩) (by simp)]
    unfold monthsL
    rw [HX.out]
    rcases (show j = 0 ∨ j = 1 ∨ j = 2 ∨ j = 3 ∨ j = 4 ∨ j = 5 ∨ j = 6 ∨ j = 7 ∨ j = 8 ∨ j = 9 ∨ j = 10 ∨ j = 11 ∨ j = 12 by omega) with rfl | rfl | rfl | rfl | rfl | rfl | rfl | rfl | rfl | rfl | rfl | rfl | rfl <;> simp)
  have hbe : Hid (Below w.heap.size w w5) := Lib.hid (by
    have c3 := below_then (below_then (below_then hb1 hb1.size hb2) (Nat.le_trans hb1.size hb2.size) hb3) (Nat.le_trans (Nat.le_trans hb1.size hb2.size) hb3.size) hb4
    have c4 : Below w.heap.size w (w4.alloc (.cells #[.int .i64 0, .int .i64 31, .int .i64 x, .int .i64 31, .int .i64 30, .int .i64 31, .int .i64 30, .int .i64 31, .int .i64 31, .int .i64 30, .int .i64 31, .int .i64 30, .int .i64 31] 38)) := c3.alloc c3.size _
    exact below_then c4 c4.size hb5)
  clear hb1 hb2 hb3 hb4 hb5
  go_loop [5, 30] (fun n i => ∃ k : Nat, k ≤ m ∧ i = .int .i64 k ∧ n = .int .i64 (d - 1 + sumM y k)) (fun _ i => m - (intOf i).toNat)
  case atStart => exact ⟨0, Nat.zero_le _, rfl, by simp [sumM]⟩
  case round =>
    obtain ⟨k, hk, rfl, rfl⟩ := hrel
    have hB := sumM_bd y k (by omega)
    by_cases hlt : k < m
    · have hc := hcell.out k (by omega)
      have hv := monthsL_bd y k
      have HS := Lib.hid (sumM_succ y k (by omega))
      generalize (monthsL y).getD k 0 = v at hc hv HS
      go_wp2
      go_round
      case rel => exact ⟨k + 1, by omega, by go_num, by rw [HS.out]; go_num⟩
      case measure => simp [intOf]; omega
    · obtain rfl : k = m := by omega
      clear hlt
      go_wp2
      go_loop [5, 10] (fun n i => ∃ j : Nat, 1980 ≤ j ∧ j ≤ y ∧ i = .int .i64 j ∧ n = .int .i64 (d - 1 + sumM y k + sumY (j - 1980))) (fun _ i => y - (intOf i).toNat)
      case atStart => exact ⟨1980, by omega, by omega, rfl, by simp [sumY]⟩
      case round =>
        obtain ⟨j, hj0, hj1, rfl, rfl⟩ := hrel
        have hY := sumY_bd (j - 1980) (by omega)
        by_cases hlt : j < y
        · by_cases h4 : j % 4 = 0
          · have hb : decide (j % 4 = 0) = true := decide_eq_true h4
            have HS : Hid (sumY (j + 1 - 1980) = sumY (j - 1980) + 366) := Lib.hid (by rw [show j + 1 - 1980 = (j - 1980) + 1 by omega, sumY, if_pos (by omega)])
            clear h4
            generalize sumY (j - 1980) = v at hY HS
            go_wp2_with (go_at_call 22; (with_reducible refine (leap_calls j (by omega) (by omega) _).mono ?_); rw [hb]; rintro e w' ⟨rfl, rfl⟩)
            go_round
            case rel => exact ⟨j + 1, by omega, by omega, by go_num, by rw [HS.out]; go_num⟩
            case measure => simp [intOf]; omega
          · have hb : decide (j % 4 = 0) = false := decide_eq_false h4
            have HS : Hid (sumY (j + 1 - 1980) = sumY (j - 1980) + 365) := Lib.hid (by rw [show j + 1 - 1980 = (j - 1980) + 1 by omega, sumY, if_neg (by omega)])
            clear h4
            generalize sumY (j - 1980) = v at hY HS
            go_wp2_with (go_at_call 22; (with_reducible refine (leap_calls j (by omega) (by omega) _).mono ?_); rw [hb]; rintro e w' ⟨rfl, rfl⟩)
            go_round
            case rel => exact ⟨j + 1, by omega, by omega, by go_num, by rw [HS.out]; go_num⟩
            case measure => simp [intOf]; omega
        · obtain rfl : j = y := by omega
          clear hlt
          go_wp2
          go_ret2
          exact ⟨rfl, hbe.out⟩
theorem day_bad (s : ByteArray) (e : Int) (he : date_CheckXML.f s = some e) (hz : ¬ e = 0) (w : World) :
    Calls Tryd.prog 9 #[.string s] w fun e' w' => e' = .returned (.tuple #[.int .i64 0, .int .i64 e]) ∧ Below w.heap.size w w' := by
  have HE := Lib.hid he
  clear he
  have hz1 : (e == 0) = false := beq_eq_false_iff_ne.2 hz
  have hz2 : (e != 0) = true := bne_iff_ne.2 hz
  clear hz
  go_enter Tryd.func9, Tryd.ntmps9
  go_wp2_with (go_at_call 14; (with_reducible refine (date_CheckXML.calls _ e _ HE.out).mono ?_); rintro e' w1 ⟨rfl, hb1⟩)
  go_ret2
  exact ⟨rfl, hb1⟩
/-- date.Day. -/
def date_Day.f (s : ByteArray) : Option (Int × Int) :=
  (date_CheckXML.f s).bind fun e => if e = 0 then (if s.size = 10 then ((date_number.f (s.extract 8 10)).bind fun d => (date_number.f (s.extract 0 4)).bind fun y => (date_number.f (s.extract 5 7)).bind fun m =>
    if 1980 ≤ y ∧ y ≤ 2079 ∧ 1 ≤ m ∧ m ≤ 12 ∧ 0 ≤ d ∧ d ≤ 99 then some (d - 1 + sumM y.toNat m.toNat + sumY (y.toNat - 1980), 0) else none) else none) else some (0, e)
theorem date_Day.calls (a0 : ByteArray) (r1 r2 : Int) (w : World) (h : date_Day.f a0 = some (r1, r2)) :
    Calls Tryd.prog 9 #[.string a0] w fun e w' => e = .returned (.tuple #[.int .i64 r1, .int .i64 r2]) ∧ Below w.heap.size w w' := by
  unfold date_Day.f at h
  obtain ⟨e, he, h⟩ := Option.bind_eq_some_iff.1 h
  by_cases hz : e = 0
  · subst hz
    rw [if_pos rfl] at h
    by_cases hs : a0.size = 10
    · rw [if_pos hs] at h
      obtain ⟨d, h1, h⟩ := Option.bind_eq_some_iff.1 h
      obtain ⟨y, h2, h⟩ := Option.bind_eq_some_iff.1 h
      obtain ⟨m, h3, h⟩ := Option.bind_eq_some_iff.1 h
      by_cases hc : 1980 ≤ y ∧ y ≤ 2079 ∧ 1 ≤ m ∧ m ≤ 12 ∧ 0 ≤ d ∧ d ≤ 99
      · rw [if_pos hc] at h
        have h' := Option.some.inj h
        obtain ⟨rfl, rfl⟩ := Prod.mk.inj h'
        obtain ⟨y, rfl⟩ : ∃ n : Nat, y = (n : Int) := ⟨y.toNat, by omega⟩
        obtain ⟨m, rfl⟩ : ∃ n : Nat, m = (n : Int) := ⟨m.toNat, by omega⟩
        exact day_walk a0 hs y m d he h1 h2 h3 (by omega) (by omega) (by omega) (by omega) (by omega) (by omega) w
      · rw [if_neg hc] at h
        cases h
    · rw [if_neg hs] at h
      cases h
  · rw [if_neg hz] at h
    obtain ⟨rfl, rfl⟩ := Prod.mk.inj (Option.some.inj h)
    exact day_bad a0 e he hz w
end Go.Proofs.YtjemnphmjbodfaaDoor.PAll

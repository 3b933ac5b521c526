-- Made by this session's wip/tools/gprint.py, which runs the kit's print program; some functions' contracts are proved by hand.
import Derived.Test.YtggakekljbgeoaaDoorPAllx0
import Derived.Test.YtggakekljbgeoaaDoorGWords
namespace Go.Proofs.YtggakekljbgeoaaDoor.PAll
open Go.RowKit Go.Proofs.YtggakekljbgeoaaDoorW.PrintWords Go.Proofs.YtggakekljbgeoaaDoorW.PrintLast Go.Proofs.YtggakekljbgeoaaDoorW.PrintMore
attribute [local go_sem] max2_int min2_int max_two min_two max_three min_three max_four min_four   -- for this text's walks alone
set_option linter.unusedVariables false
set_option linter.unusedSimpArgs false

-- GIVEN: function 30 (remitterref02_Words): YtggakekljbgeoaaDoorGWords

/-! ### remitterref02_Digits: function 31 -/
mutual
def remitterref02_Digits.l0 : Nat → ByteArray → Int → Option (Int × Bool)
  | 0, _, _ => none
  | k + 1, x0, x4 => if x4 ≤ 4 then ((remitterref02_Words.f x4).bind fun t101 => (remitterref02_Digits.l1 k x0 x4 t101 0)) else (some (0, false))
def remitterref02_Digits.l1 : Nat → ByteArray → Int → ByteArray → Int → Option (Int × Bool)
  | 0, _, _, _, _ => none
  | k + 1, x0, x4, x5, x6 => if (wrap64 (x6 + 4)) ≤ (x5.size : Int) then (if 0 ≤ x6 then (if x6 ≤ (wrap64 (x6 + 3)) then (if (wrap64 (x6 + 3)) ≤ (x5.size : Int) then (if (x5.extract (x6 : Int).toNat ((wrap64 (x6 + 3)) : Int).toNat).toList = x0.toList then (some (x4, true)) else (remitterref02_Digits.l1 k x0 x4 x5 (wrap64 (x6 + 4)))) else (none)) else (none)) else (none)) else (remitterref02_Digits.l0 k x0 (wrap64 (x4 + 1)))
end
def remitterref02_Digits.f (k : Nat) (a0 : ByteArray) : Option (Int × Bool) := remitterref02_Digits.l0 k a0 0
theorem remitterref02_Digits.mono_l : ∀ k, (∀ y0 y1, LeO (remitterref02_Digits.l0 k y0 y1) (remitterref02_Digits.l0 (k + 1) y0 y1)) ∧ (∀ y0 y1 y2 y3, LeO (remitterref02_Digits.l1 k y0 y1 y2 y3) (remitterref02_Digits.l1 (k + 1) y0 y1 y2 y3))
  | 0 => ⟨fun _ _ r h => by simp [remitterref02_Digits.l0] at h, fun _ _ _ _ r h => by simp [remitterref02_Digits.l1] at h⟩
  | k + 1 => by
    obtain ⟨ih0, ih1⟩ := remitterref02_Digits.mono_l k
    refine ⟨?_, ?_⟩
    · intro y0 y1
      unfold remitterref02_Digits.l0
      repeat' first
      | (with_reducible exact ih0 _ _)
      | (with_reducible exact ih1 _ _ _ _)
      | (with_reducible exact LeO.refl _)
      | (with_reducible exact LeO.none _)
      | (with_reducible refine LeO.ite ?_ ?_)
      | (with_reducible refine LeO.bind ?_ (fun _ => ?_))
      | exact ih0 _ _
      | exact ih1 _ _ _ _
      | exact LeO.none _
      | refine LeO.ite ?_ ?_
      | refine LeO.bind ?_ (fun _ => ?_)
    · intro y0 y1 y2 y3
      unfold remitterref02_Digits.l1
      repeat' first
      | (with_reducible exact ih0 _ _)
      | (with_reducible exact ih1 _ _ _ _)
      | (with_reducible exact LeO.refl _)
      | (with_reducible exact LeO.none _)
      | (with_reducible refine LeO.ite ?_ ?_)
      | (with_reducible refine LeO.bind ?_ (fun _ => ?_))
      | exact ih0 _ _
      | exact ih1 _ _ _ _
      | exact LeO.none _
      | refine LeO.ite ?_ ?_
      | refine LeO.bind ?_ (fun _ => ?_)
theorem remitterref02_Digits.mono : ∀ a0 k, LeO (remitterref02_Digits.f k a0) (remitterref02_Digits.f (k + 1) a0) := by
  intro a0 k
  obtain ⟨ih0, ih1⟩ := remitterref02_Digits.mono_l k
  unfold remitterref02_Digits.f
  repeat' first
      | (with_reducible exact ih0 _ _)
      | (with_reducible exact ih1 _ _ _ _)
      | (with_reducible exact LeO.refl _)
      | (with_reducible exact LeO.none _)
      | (with_reducible refine LeO.ite ?_ ?_)
      | (with_reducible refine LeO.bind ?_ (fun _ => ?_))
      | exact ih0 _ _
      | exact ih1 _ _ _ _
      | exact LeO.none _
      | refine LeO.ite ?_ ?_
      | refine LeO.bind ?_ (fun _ => ?_)
set_option maxHeartbeats 8000000 in
set_option maxRecDepth 100000 in
theorem remitterref02_Digits.calls (k : Nat) (a0 : ByteArray) (r1 : Int) (r2 : Bool) (w : World) (h : remitterref02_Digits.f k a0 = some (r1, r2)) :
    Calls Tryd.prog 31 #[.string a0] w fun e w' => e = .returned (.tuple #[.int .i64 r1, .bool r2]) ∧ Drawn0 w w' := by
  have H : (remitterref02_Digits.l0 k a0 0) = some (r1, r2) := h
  clear h
  have H' := Aside0.mk H
  clear H
  go_enter Tryd.func31, Tryd.ntmps31
  go_wp2
  go_loopg [4] k (fun kq v4 w' => ∃ (x4_1 : Int), v4 = .int .i64 x4_1 ∧ Aside0 (remitterref02_Digits.l0 kq a0 x4_1 = some (r1, r2)) ∧ Aside0 (kq ≤ k) ∧ Drawn0 w w')
  case atStart => exact ⟨(0), (by first | rfl | (simp; done) | (simp [*]; done) | exact congrArg Value.bool (Go.Proofs.YtggakekljbgeoaaDoor.GLib.not_isEmpty _) | exact congrArg Value.bool (Go.Proofs.YtggakekljbgeoaaDoor.GLib.not_isEmpty _).symm), H', ⟨Nat.le_refl _⟩, by repeat (first | exact Drawn0.refl _ | apply Drawn0.step)⟩
  case round =>
    clear H'
    obtain ⟨x4_1, rfl, HA, HK1, ⟨m1, rfl⟩⟩ := hrel
    cases gk with
    | zero => exact absurd HA.out (by simp [remitterref02_Digits.l0])
    | succ k1 =>
      have H := HA.out
      clear HA
      simp only [remitterref02_Digits.l0] at H
      by_cases c2 : x4_1 ≤ 4
      · rw [if_pos c2] at H
        have c2b0 : decide (x4_1 ≤ 4) = true := decide_eq_true c2
        clear c2
        replace H := Option.bind_eq_some_iff.mp H
        obtain ⟨t101, A30, H⟩ := H
        replace H : (remitterref02_Digits.l1 k1 a0 x4_1 t101 0) = some (r1, r2) := H
        have A3 := Aside0.mk A30
        clear A30
        have H' := Aside0.mk H
        clear H
        go_wp2_with (first | ((with_reducible refine gate_callee (f := 30) rfl ?_); refine goesL_ (some 12) rfl rfl Tryd.func30 (by kernel_rfl) rfl #[.int .i64 x4_1] rfl (by (try simp only [List.map_toArray, List.map_cons, List.map_nil]); first | done | rfl | (simp only [List.length_drop, List.length_take]; rfl)) ?_; (with_reducible refine (remitterref02_Words.calls x4_1 t101 _ A3.out).mono ?_); rintro e w' ⟨rfl, ⟨nd, rfl⟩⟩; refine ⟨_, rfl, ?_⟩))
        go_loopg [6] k1 (fun kq v6 w' => ∃ (x6_2 : Int), v6 = .int .i64 x6_2 ∧ Aside0 (remitterref02_Digits.l1 kq a0 x4_1 t101 x6_2 = some (r1, r2)) ∧ Aside0 (kq ≤ k1) ∧ Drawn0 w w')
        case atStart => exact ⟨(0), (by first | rfl | (simp; done) | (simp [*]; done) | exact congrArg Value.bool (Go.Proofs.YtggakekljbgeoaaDoor.GLib.not_isEmpty _) | exact congrArg Value.bool (Go.Proofs.YtggakekljbgeoaaDoor.GLib.not_isEmpty _).symm), H', ⟨Nat.le_refl _⟩, by repeat (first | exact Drawn0.refl _ | apply Drawn0.step)⟩
        case round =>
          clear H'
          try clear c2
          try clear c2b0
          try clear p2
          try clear c3
          obtain ⟨x6_2, rfl, HA, HK2, ⟨m2, rfl⟩⟩ := hrel
          cases gk with
          | zero => exact absurd HA.out (by simp [remitterref02_Digits.l1])
          | succ k2 =>
            have H := HA.out
            clear HA
            simp only [remitterref02_Digits.l1] at H
            by_cases c4 : (wrap64 (x6_2 + 4)) ≤ (t101.size : Int)
            · rw [if_pos c4] at H
              have c4b0 : decide ((wrap64 (x6_2 + 4)) ≤ (t101.size : Int)) = true := decide_eq_true c4
              clear c4
              by_cases c5 : 0 ≤ x6_2
              · rw [if_pos c5] at H
                have c5b0 := eq_true c5
                have c5b1 : decide (0 ≤ x6_2) = true := decide_eq_true c5
                clear c5
                by_cases c6 : x6_2 ≤ (wrap64 (x6_2 + 3))
                · rw [if_pos c6] at H
                  have c6b0 := eq_true c6
                  have c6b1 : decide (x6_2 ≤ (wrap64 (x6_2 + 3))) = true := decide_eq_true c6
                  by_cases c7 : (wrap64 (x6_2 + 3)) ≤ (t101.size : Int)
                  · rw [if_pos c7] at H
                    have c7b0 := eq_true c7
                    have c7b1 : decide ((wrap64 (x6_2 + 3)) ≤ (t101.size : Int)) = true := decide_eq_true c7
                    by_cases c8 : (t101.extract (x6_2 : Int).toNat ((wrap64 (x6_2 + 3)) : Int).toNat).toList = a0.toList
                    · rw [if_pos c8] at H
                      have c8b0 : ((t101.extract (x6_2 : Int).toNat ((wrap64 (x6_2 + 3)) : Int).toNat).toList == a0.toList) = true := beq_iff_eq.mpr c8
                      have c8b1 : ((t101.extract (x6_2 : Int).toNat ((wrap64 (x6_2 + 3)) : Int).toNat).toList != a0.toList) = false := bne_eq_false_iff_eq.mpr c8
                      clear c8
                      simp only [Option.some.injEq, Prod.mk.injEq] at H
                      obtain ⟨rfl, rfl⟩ := H
                      go_wp2
                      all_goals (first | (exfalso; simp_all; done) | (exfalso; omega) | (go_ret2; exact ⟨by first | rfl | (simp; done) | (simp [*]; done), by repeat (first | exact Drawn0.refl _ | apply Drawn0.step)⟩))
                    · rw [if_neg c8] at H
                      have c8b0 : ((t101.extract (x6_2 : Int).toNat ((wrap64 (x6_2 + 3)) : Int).toNat).toList == a0.toList) = false := beq_eq_false_iff_ne.mpr c8
                      have c8b1 : ((t101.extract (x6_2 : Int).toNat ((wrap64 (x6_2 + 3)) : Int).toNat).toList != a0.toList) = true := bne_iff_ne.mpr c8
                      have H' := Aside0.mk H
                      clear H
                      go_wp2
                      go_roundg k2
                      case measure => have := HK1.out; have := HK2.out; omega
                      case rel => exact ⟨(wrap64 (x6_2 + 4)), (by first | rfl | (simp; done) | (simp [*]; done) | exact congrArg Value.bool (Go.Proofs.YtggakekljbgeoaaDoor.GLib.not_isEmpty _) | exact congrArg Value.bool (Go.Proofs.YtggakekljbgeoaaDoor.GLib.not_isEmpty _).symm), H', ⟨by have := HK1.out; have := HK2.out; omega⟩, by repeat (first | exact Drawn0.refl _ | apply Drawn0.step)⟩
                  · rw [if_neg c7] at H
                    exact absurd H (by simp)
                · rw [if_neg c6] at H
                  exact absurd H (by simp)
              · rw [if_neg c5] at H
                exact absurd H (by simp)
            · rw [if_neg c4] at H
              have c4b0 : decide ((wrap64 (x6_2 + 4)) ≤ (t101.size : Int)) = false := decide_eq_false c4
              clear c4
              have H' := Aside0.mk H
              clear H
              go_wp2
              go_roundg k2
              case measure => have := HK1.out; have := HK2.out; omega
              case rel => exact ⟨(wrap64 (x4_1 + 1)), (by first | rfl | (simp; done) | (simp [*]; done) | exact congrArg Value.bool (Go.Proofs.YtggakekljbgeoaaDoor.GLib.not_isEmpty _) | exact congrArg Value.bool (Go.Proofs.YtggakekljbgeoaaDoor.GLib.not_isEmpty _).symm), H', ⟨by have := HK1.out; have := HK2.out; omega⟩, by repeat (first | exact Drawn0.refl _ | apply Drawn0.step)⟩
      · rw [if_neg c2] at H
        have c2b0 : decide (x4_1 ≤ 4) = false := decide_eq_false c2
        clear c2
        simp only [Option.some.injEq, Prod.mk.injEq] at H
        obtain ⟨rfl, rfl⟩ := H
        go_wp2
        all_goals (first | (exfalso; simp_all; done) | (exfalso; omega) | (go_ret2; exact ⟨by first | rfl | (simp; done) | (simp [*]; done), by repeat (first | exact Drawn0.refl _ | apply Drawn0.step)⟩))

end Go.Proofs.YtggakekljbgeoaaDoor.PAll

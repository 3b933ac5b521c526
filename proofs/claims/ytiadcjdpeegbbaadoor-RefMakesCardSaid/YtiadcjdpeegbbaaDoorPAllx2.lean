-- Made by this session's wip/tools/gprint.py, which runs the kit's print program; some functions' contracts are proved by hand.
import Derived.Test.YtiadcjdpeegbbaaDoorPAllx0
import Derived.Test.YtiadcjdpeegbbaaDoorPAllx1
import Derived.Test.YtiadcjdpeegbbaaDoorGUetr
namespace Go.Proofs.YtiadcjdpeegbbaaDoor.PAll
open Go.RowKit Go.Proofs.YtiadcjdpeegbbaaDoorW.PrintWords Go.Proofs.YtiadcjdpeegbbaaDoorW.PrintLast Go.Proofs.YtiadcjdpeegbbaaDoorW.PrintMore
attribute [local go_sem] max2_int min2_int max_two min_two max_three min_three max_four min_four   -- for this text's walks alone
set_option linter.unusedVariables false
set_option linter.unusedSimpArgs false

/-! ### remitterlaw07_good: function 8 -/
mutual
def remitterlaw07_good.j0 : Nat → ByteArray → Bool → Option (Bool)
  | 0, _, _ => none
  | k + 1, x0, x5 => remitterlaw07_good.l0 k x0 x5 0
def remitterlaw07_good.l0 : Nat → ByteArray → Bool → Int → Option (Bool)
  | 0, _, _, _ => none
  | k + 1, x0, x5, x6 => if x6 < (x0.size : Int) then (if 0 ≤ x6 then (if x5 = true then ((remitterref05_In.f k 88 (bt x0 x6)).bind fun t120 => (if t120 = true then (if (bt x0 x6) = 47 then (if x6 = 0 then (remitterlaw07_good.l0 k x0 (!true) (wrap64 (x6 + 1))) else (if x6 = (wrap64 ((x0.size : Int) - 1)) then (remitterlaw07_good.l0 k x0 (!true) (wrap64 (x6 + 1))) else (if 0 ≤ (wrap64 (x6 - 1)) then (if (wrap64 (x6 - 1)) < (x0.size : Int) then (remitterlaw07_good.l0 k x0 (!((bt x0 (wrap64 (x6 - 1))) == 47)) (wrap64 (x6 + 1))) else (none)) else (none)))) else (remitterlaw07_good.l0 k x0 (!false) (wrap64 (x6 + 1)))) else (remitterlaw07_good.l0 k x0 false (wrap64 (x6 + 1))))) else (remitterlaw07_good.l0 k x0 false (wrap64 (x6 + 1)))) else (none)) else (some x5)
end
def remitterlaw07_good.f (k : Nat) (a0 : ByteArray) (a1 : Int) : Option (Bool) := if (a0.size : Int) ≥ 1 then (remitterlaw07_good.j0 k a0 (decide ((a0.size : Int) ≤ a1))) else (remitterlaw07_good.j0 k a0 false)
theorem remitterlaw07_good.mono_l : ∀ k, (∀ y0 y1, LeO (remitterlaw07_good.j0 k y0 y1) (remitterlaw07_good.j0 (k + 1) y0 y1)) ∧ (∀ y0 y1 y2, LeO (remitterlaw07_good.l0 k y0 y1 y2) (remitterlaw07_good.l0 (k + 1) y0 y1 y2))
  | 0 => ⟨fun _ _ r h => by simp [remitterlaw07_good.j0] at h, fun _ _ _ r h => by simp [remitterlaw07_good.l0] at h⟩
  | k + 1 => by
    obtain ⟨ih0, ih1⟩ := remitterlaw07_good.mono_l k
    refine ⟨?_, ?_⟩
    · intro y0 y1
      unfold remitterlaw07_good.j0
      repeat' first
      | (with_reducible exact ih0 _ _)
      | (with_reducible exact ih1 _ _ _)
      | (with_reducible exact remitterref05_In.mono _ _ _)
      | (with_reducible exact LeO.refl _)
      | (with_reducible exact LeO.none _)
      | (with_reducible refine LeO.ite ?_ ?_)
      | (with_reducible refine LeO.bind ?_ (fun _ => ?_))
      | exact ih0 _ _
      | exact ih1 _ _ _
      | exact remitterref05_In.mono _ _ _
      | exact LeO.none _
      | refine LeO.ite ?_ ?_
      | refine LeO.bind ?_ (fun _ => ?_)
    · intro y0 y1 y2
      unfold remitterlaw07_good.l0
      repeat' first
      | (with_reducible exact ih0 _ _)
      | (with_reducible exact ih1 _ _ _)
      | (with_reducible exact remitterref05_In.mono _ _ _)
      | (with_reducible exact LeO.refl _)
      | (with_reducible exact LeO.none _)
      | (with_reducible refine LeO.ite ?_ ?_)
      | (with_reducible refine LeO.bind ?_ (fun _ => ?_))
      | exact ih0 _ _
      | exact ih1 _ _ _
      | exact remitterref05_In.mono _ _ _
      | exact LeO.none _
      | refine LeO.ite ?_ ?_
      | refine LeO.bind ?_ (fun _ => ?_)
theorem remitterlaw07_good.mono : ∀ a0 a1 k, LeO (remitterlaw07_good.f k a0 a1) (remitterlaw07_good.f (k + 1) a0 a1) := by
  intro a0 a1 k
  obtain ⟨ih0, ih1⟩ := remitterlaw07_good.mono_l k
  unfold remitterlaw07_good.f
  repeat' first
      | (with_reducible exact ih0 _ _)
      | (with_reducible exact ih1 _ _ _)
      | (with_reducible exact remitterref05_In.mono _ _ _)
      | (with_reducible exact LeO.refl _)
      | (with_reducible exact LeO.none _)
      | (with_reducible refine LeO.ite ?_ ?_)
      | (with_reducible refine LeO.bind ?_ (fun _ => ?_))
      | exact ih0 _ _
      | exact ih1 _ _ _
      | exact remitterref05_In.mono _ _ _
      | exact LeO.none _
      | refine LeO.ite ?_ ?_
      | refine LeO.bind ?_ (fun _ => ?_)
set_option maxHeartbeats 8000000 in
set_option maxRecDepth 100000 in
theorem remitterlaw07_good.calls (k : Nat) (a0 : ByteArray) (a1 : Int) (r : Bool) (w : World) (h : remitterlaw07_good.f k a0 a1 = some r) :
    Calls Tryd.prog 8 #[.string a0, .int .i64 a1] w fun e w' => e = .returned (.bool r) ∧ Drawn0 w w' := by
  have H : (if (a0.size : Int) ≥ 1 then (remitterlaw07_good.j0 k a0 (decide ((a0.size : Int) ≤ a1))) else (remitterlaw07_good.j0 k a0 false)) = some r := h
  clear h
  have HC3 := Aside0.mk H
  clear H
  go_enter Tryd.func8, Tryd.ntmps8
  go_upto_region 1 with (fail)
  go_cut [5] (fun v5 wc => ∃ (kq : Nat) (x5_2 : Bool), v5 = .bool x5_2 ∧ Aside0 (remitterlaw07_good.j0 kq a0 x5_2 = some r) ∧ Aside0 (kq ≤ k) ∧ Drawn0 w wc)
  case first =>
    have H := HC3.out
    clear HC3
    by_cases c4 : (a0.size : Int) ≥ 1
    · rw [if_pos c4] at H
      have c4b0 : decide (1 ≤ (a0.size : Int)) = true := decide_eq_true c4
      have c4b1 : decide (1 ≤ a0.size) = true := decide_eq_true (by omega)
      clear c4
      (first | rw [c4b0] | (simp only [i64_w, i32_w]; rw [c4b0]) | skip)
      have H' := Aside0.mk H
      clear H
      go_wp2
      go_meet
      case rel => exact ⟨_, (decide ((a0.size : Int) ≤ a1)), (by first | rfl | (simp; done) | (simp [*]; done) | exact congrArg Value.bool (Go.Proofs.YtiadcjdpeegbbaaDoor.GLib.not_isEmpty _) | exact congrArg Value.bool (Go.Proofs.YtiadcjdpeegbbaaDoor.GLib.not_isEmpty _).symm), H', ⟨by first | omega | exact Nat.le_refl _⟩, by repeat (first | exact Drawn0.refl _ | apply Drawn0.step)⟩
    · rw [if_neg c4] at H
      have c4b0 : decide (1 ≤ (a0.size : Int)) = false := decide_eq_false c4
      have c4b1 : decide (1 ≤ a0.size) = false := decide_eq_false (by omega)
      clear c4
      (first | rw [c4b0] | (simp only [i64_w, i32_w]; rw [c4b0]) | skip)
      have H' := Aside0.mk H
      clear H
      go_wp2
      go_meet
      case rel => exact ⟨_, (false), (by first | rfl | (simp; done) | (simp [*]; done) | exact congrArg Value.bool (Go.Proofs.YtiadcjdpeegbbaaDoor.GLib.not_isEmpty _) | exact congrArg Value.bool (Go.Proofs.YtiadcjdpeegbbaaDoor.GLib.not_isEmpty _).symm), H', ⟨by first | omega | exact Nat.le_refl _⟩, by repeat (first | exact Drawn0.refl _ | apply Drawn0.step)⟩
  case rest =>
    clear HC3
    try clear p2
    try clear c4
    try clear c4b0
    try clear c4b1
    obtain ⟨kq, x5_2, rfl, HA, HJ2, ⟨mc2, rfl⟩⟩ := hcut
    cases kq with
    | zero => exact absurd HA.out (by simp [remitterlaw07_good.j0])
    | succ kj2 =>
      have H := HA.out
      clear HA
      simp only [remitterlaw07_good.j0] at H
      have H' := Aside0.mk H
      clear H
      go_wp2
      go_loopg [5, 6] kj2 (fun kq v5 v6 w' => ∃ (x5_2 : Bool) (x6_2 : Int), v5 = .bool x5_2 ∧ v6 = .int .i64 x6_2 ∧ Aside0 (remitterlaw07_good.l0 kq a0 x5_2 x6_2 = some r) ∧ Aside0 (kq ≤ kj2) ∧ Drawn0 w w')
      case atStart => exact ⟨(x5_2), (0), (by first | rfl | (simp; done) | (simp [*]; done) | exact congrArg Value.bool (Go.Proofs.YtiadcjdpeegbbaaDoor.GLib.not_isEmpty _) | exact congrArg Value.bool (Go.Proofs.YtiadcjdpeegbbaaDoor.GLib.not_isEmpty _).symm), (by first | rfl | (simp; done) | (simp [*]; done) | exact congrArg Value.bool (Go.Proofs.YtiadcjdpeegbbaaDoor.GLib.not_isEmpty _) | exact congrArg Value.bool (Go.Proofs.YtiadcjdpeegbbaaDoor.GLib.not_isEmpty _).symm), H', ⟨Nat.le_refl _⟩, by repeat (first | exact Drawn0.refl _ | apply Drawn0.step)⟩
      case round =>
        clear H'
        try clear c2
        try clear p2
        try clear c4
        try clear c4b0
        try clear c4b1
        try clear p2
        obtain ⟨x5_2, x6_2, rfl, rfl, HA, HK2, ⟨m2, rfl⟩⟩ := hrel
        cases gk with
        | zero => exact absurd HA.out (by simp [remitterlaw07_good.l0])
        | succ k2 =>
          have H := HA.out
          clear HA
          simp only [remitterlaw07_good.l0] at H
          by_cases c5 : x6_2 < (a0.size : Int)
          · rw [if_pos c5] at H
            have c5b0 : decide (x6_2 < (a0.size : Int)) = true := decide_eq_true c5
            clear c5
            by_cases c6 : 0 ≤ x6_2
            · rw [if_pos c6] at H
              have c6b0 : decide (0 ≤ x6_2) = true := decide_eq_true c6
              clear c6
              by_cases c8 : x5_2 = true
              · subst c8
                have H1 : ((remitterref05_In.f k2 88 (bt a0 x6_2)).bind fun t120 => (if t120 = true then (if (bt a0 x6_2) = 47 then (if x6_2 = 0 then (remitterlaw07_good.l0 k2 a0 (!true) (wrap64 (x6_2 + 1))) else (if x6_2 = (wrap64 ((a0.size : Int) - 1)) then (remitterlaw07_good.l0 k2 a0 (!true) (wrap64 (x6_2 + 1))) else (if 0 ≤ (wrap64 (x6_2 - 1)) then (if (wrap64 (x6_2 - 1)) < (a0.size : Int) then (remitterlaw07_good.l0 k2 a0 (!((bt a0 (wrap64 (x6_2 - 1))) == 47)) (wrap64 (x6_2 + 1))) else (none)) else (none)))) else (remitterlaw07_good.l0 k2 a0 (!false) (wrap64 (x6_2 + 1)))) else (remitterlaw07_good.l0 k2 a0 false (wrap64 (x6_2 + 1))))) = some r := by rw [if_pos rfl] at H; exact H
                clear H
                have H := H1
                clear H1
                replace H := Option.bind_eq_some_iff.mp H
                obtain ⟨t120, A100, H⟩ := H
                replace H : (if t120 = true then (if (bt a0 x6_2) = 47 then (if x6_2 = 0 then (remitterlaw07_good.l0 k2 a0 (!true) (wrap64 (x6_2 + 1))) else (if x6_2 = (wrap64 ((a0.size : Int) - 1)) then (remitterlaw07_good.l0 k2 a0 (!true) (wrap64 (x6_2 + 1))) else (if 0 ≤ (wrap64 (x6_2 - 1)) then (if (wrap64 (x6_2 - 1)) < (a0.size : Int) then (remitterlaw07_good.l0 k2 a0 (!((bt a0 (wrap64 (x6_2 - 1))) == 47)) (wrap64 (x6_2 + 1))) else (none)) else (none)))) else (remitterlaw07_good.l0 k2 a0 (!false) (wrap64 (x6_2 + 1)))) else (remitterlaw07_good.l0 k2 a0 false (wrap64 (x6_2 + 1)))) = some r := H
                have A10 := Aside0.mk A100
                clear A100
                by_cases c11 : t120 = true
                · subst c11
                  have H1 : (if (bt a0 x6_2) = 47 then (if x6_2 = 0 then (remitterlaw07_good.l0 k2 a0 (!true) (wrap64 (x6_2 + 1))) else (if x6_2 = (wrap64 ((a0.size : Int) - 1)) then (remitterlaw07_good.l0 k2 a0 (!true) (wrap64 (x6_2 + 1))) else (if 0 ≤ (wrap64 (x6_2 - 1)) then (if (wrap64 (x6_2 - 1)) < (a0.size : Int) then (remitterlaw07_good.l0 k2 a0 (!((bt a0 (wrap64 (x6_2 - 1))) == 47)) (wrap64 (x6_2 + 1))) else (none)) else (none)))) else (remitterlaw07_good.l0 k2 a0 (!false) (wrap64 (x6_2 + 1)))) = some r := by rw [if_pos rfl] at H; exact H
                  clear H
                  have H := H1
                  clear H1
                  by_cases c12 : (bt a0 x6_2) = 47
                  · rw [if_pos c12] at H
                    have c12b0 : ((bt a0 x6_2) == 47) = true := beq_iff_eq.mpr c12
                    have c12b1 : ((bt a0 x6_2) != 47) = false := bne_eq_false_iff_eq.mpr c12
                    clear c12
                    by_cases c13 : x6_2 = 0
                    · rw [if_pos c13] at H
                      have c13b0 : (x6_2 == 0) = true := beq_iff_eq.mpr c13
                      have c13b1 : (x6_2 != 0) = false := bne_eq_false_iff_eq.mpr c13
                      clear c13
                      have H' := Aside0.mk H
                      clear H
                      have p7 : 0 ≤ (x6_2 : Int) := of_decide_eq_true (by first | (with_reducible assumption) | assumption)
                      have q7 : x6_2 < (a0.size : Int) := of_decide_eq_true (by first | (with_reducible assumption) | assumption)
                      have hx7 := bt_at a0 x6_2
                      replace p7 := eq_true p7
                      replace q7 := eq_true q7
                      have p9 : 0 ≤ (x6_2 : Int) := of_decide_eq_true (by first | (with_reducible assumption) | assumption)
                      have q9 : x6_2 < (a0.size : Int) := of_decide_eq_true (by first | (with_reducible assumption) | assumption)
                      have hx9 := bt_at a0 x6_2
                      replace p9 := eq_true p9
                      replace q9 := eq_true q9
                      go_wp2_with (first | (go_at_call 14; (with_reducible refine (remitterref05_In.calls k2 88 (bt a0 x6_2) true _ A10.out).mono ?_); rintro e w' ⟨rfl, ⟨nd, rfl⟩⟩))
                      go_roundg k2
                      case measure => have := HJ2.out; have := HK2.out; omega
                      case rel => exact ⟨(!true), (wrap64 (x6_2 + 1)), (by first | rfl | (simp; done) | (simp [*]; done) | exact congrArg Value.bool (Go.Proofs.YtiadcjdpeegbbaaDoor.GLib.not_isEmpty _) | exact congrArg Value.bool (Go.Proofs.YtiadcjdpeegbbaaDoor.GLib.not_isEmpty _).symm), (by first | rfl | (simp; done) | (simp [*]; done) | exact congrArg Value.bool (Go.Proofs.YtiadcjdpeegbbaaDoor.GLib.not_isEmpty _) | exact congrArg Value.bool (Go.Proofs.YtiadcjdpeegbbaaDoor.GLib.not_isEmpty _).symm), H', ⟨by have := HJ2.out; have := HK2.out; omega⟩, by repeat (first | exact Drawn0.refl _ | apply Drawn0.step)⟩
                    · rw [if_neg c13] at H
                      have c13b0 : (x6_2 == 0) = false := beq_eq_false_iff_ne.mpr c13
                      have c13b1 : (x6_2 != 0) = true := bne_iff_ne.mpr c13
                      by_cases c14 : x6_2 = (wrap64 ((a0.size : Int) - 1))
                      · rw [if_pos c14] at H
                        have c14b0 : (x6_2 == (wrap64 ((a0.size : Int) - 1))) = true := beq_iff_eq.mpr c14
                        have c14b1 : (x6_2 != (wrap64 ((a0.size : Int) - 1))) = false := bne_eq_false_iff_eq.mpr c14
                        clear c14
                        have H' := Aside0.mk H
                        clear H
                        have p7 : 0 ≤ (x6_2 : Int) := of_decide_eq_true (by first | (with_reducible assumption) | assumption)
                        have q7 : x6_2 < (a0.size : Int) := of_decide_eq_true (by first | (with_reducible assumption) | assumption)
                        have hx7 := bt_at a0 x6_2
                        replace p7 := eq_true p7
                        replace q7 := eq_true q7
                        have p9 : 0 ≤ (x6_2 : Int) := of_decide_eq_true (by first | (with_reducible assumption) | assumption)
                        have q9 : x6_2 < (a0.size : Int) := of_decide_eq_true (by first | (with_reducible assumption) | assumption)
                        have hx9 := bt_at a0 x6_2
                        replace p9 := eq_true p9
                        replace q9 := eq_true q9
                        go_wp2_with (first | (go_at_call 14; (with_reducible refine (remitterref05_In.calls k2 88 (bt a0 x6_2) true _ A10.out).mono ?_); rintro e w' ⟨rfl, ⟨nd, rfl⟩⟩))
                        go_roundg k2
                        case measure => have := HJ2.out; have := HK2.out; omega
                        case rel => exact ⟨(!true), (wrap64 (x6_2 + 1)), (by first | rfl | (simp; done) | (simp [*]; done) | exact congrArg Value.bool (Go.Proofs.YtiadcjdpeegbbaaDoor.GLib.not_isEmpty _) | exact congrArg Value.bool (Go.Proofs.YtiadcjdpeegbbaaDoor.GLib.not_isEmpty _).symm), (by first | rfl | (simp; done) | (simp [*]; done) | exact congrArg Value.bool (Go.Proofs.YtiadcjdpeegbbaaDoor.GLib.not_isEmpty _) | exact congrArg Value.bool (Go.Proofs.YtiadcjdpeegbbaaDoor.GLib.not_isEmpty _).symm), H', ⟨by have := HJ2.out; have := HK2.out; omega⟩, by repeat (first | exact Drawn0.refl _ | apply Drawn0.step)⟩
                      · rw [if_neg c14] at H
                        have c14b0 : (x6_2 == (wrap64 ((a0.size : Int) - 1))) = false := beq_eq_false_iff_ne.mpr c14
                        have c14b1 : (x6_2 != (wrap64 ((a0.size : Int) - 1))) = true := bne_iff_ne.mpr c14
                        obtain ⟨ji15, hji15⟩ : ∃ j_ : Int, (wrap64 (x6_2 - 1)) = j_ := ⟨_, rfl⟩
                        replace H : (if 0 ≤ (ji15) then (if (ji15) < (a0.size : Int) then (remitterlaw07_good.l0 k2 a0 (!((bt a0 (ji15)) == 47)) (wrap64 (x6_2 + 1))) else (none)) else (none)) = some r := by first | (rw [hji15] at H; exact H) | (simp only [hji15] at H ⊢; exact H)
                        (try rw [hji15] at A10)
                        have hji15w : (IntKind.i64.wrap (x6_2 - 1)) = ji15 := (i64_w _).trans hji15
                        by_cases c16 : 0 ≤ (ji15)
                        · rw [if_pos c16] at H
                          have c16b0 : decide (0 ≤ (ji15)) = true := decide_eq_true c16
                          clear c16
                          by_cases c17 : (ji15) < (a0.size : Int)
                          · rw [if_pos c17] at H
                            have c17b0 : decide ((ji15) < (a0.size : Int)) = true := decide_eq_true c17
                            clear c17
                            have H' := Aside0.mk H
                            clear H
                            have p7 : 0 ≤ (x6_2 : Int) := of_decide_eq_true (by first | (with_reducible assumption) | assumption)
                            have q7 : x6_2 < (a0.size : Int) := of_decide_eq_true (by first | (with_reducible assumption) | assumption)
                            have hx7 := bt_at a0 x6_2
                            replace p7 := eq_true p7
                            replace q7 := eq_true q7
                            have p9 : 0 ≤ (x6_2 : Int) := of_decide_eq_true (by first | (with_reducible assumption) | assumption)
                            have q9 : x6_2 < (a0.size : Int) := of_decide_eq_true (by first | (with_reducible assumption) | assumption)
                            have hx9 := bt_at a0 x6_2
                            replace p9 := eq_true p9
                            replace q9 := eq_true q9
                            go_wp2_with (first | (go_at_call 14; (with_reducible refine (remitterref05_In.calls k2 88 (bt a0 x6_2) true _ A10.out).mono ?_); rintro e w' ⟨rfl, ⟨nd, rfl⟩⟩; have p18 : 0 ≤ ((ji15) : Int) := of_decide_eq_true (by first | (with_reducible assumption) | assumption); have q18 : (ji15) < (a0.size : Int) := of_decide_eq_true (by first | (with_reducible assumption) | assumption); have hx18 := bt_at a0 (ji15); replace p18 := eq_true p18; replace q18 := eq_true q18))
                            go_roundg k2
                            case measure => have := HJ2.out; have := HK2.out; omega
                            case rel => exact ⟨(!((bt a0 (ji15)) == 47)), (wrap64 (x6_2 + 1)), (by first | rfl | (simp; done) | (simp only [← hji15] <;> (first | rfl | simp)) | (simp [*]; done)), (by first | rfl | (simp; done) | (simp [*]; done) | exact congrArg Value.bool (Go.Proofs.YtiadcjdpeegbbaaDoor.GLib.not_isEmpty _) | exact congrArg Value.bool (Go.Proofs.YtiadcjdpeegbbaaDoor.GLib.not_isEmpty _).symm), H', ⟨by have := HJ2.out; have := HK2.out; omega⟩, by repeat (first | exact Drawn0.refl _ | apply Drawn0.step)⟩
                          · rw [if_neg c17] at H
                            exact absurd H (by simp)
                        · rw [if_neg c16] at H
                          exact absurd H (by simp)
                  · rw [if_neg c12] at H
                    have c12b0 : ((bt a0 x6_2) == 47) = false := beq_eq_false_iff_ne.mpr c12
                    have c12b1 : ((bt a0 x6_2) != 47) = true := bne_iff_ne.mpr c12
                    have H' := Aside0.mk H
                    clear H
                    have p7 : 0 ≤ (x6_2 : Int) := of_decide_eq_true (by first | (with_reducible assumption) | assumption)
                    have q7 : x6_2 < (a0.size : Int) := of_decide_eq_true (by first | (with_reducible assumption) | assumption)
                    have hx7 := bt_at a0 x6_2
                    replace p7 := eq_true p7
                    replace q7 := eq_true q7
                    have p9 : 0 ≤ (x6_2 : Int) := of_decide_eq_true (by first | (with_reducible assumption) | assumption)
                    have q9 : x6_2 < (a0.size : Int) := of_decide_eq_true (by first | (with_reducible assumption) | assumption)
                    have hx9 := bt_at a0 x6_2
                    replace p9 := eq_true p9
                    replace q9 := eq_true q9
                    go_wp2_with (first | (go_at_call 14; (with_reducible refine (remitterref05_In.calls k2 88 (bt a0 x6_2) true _ A10.out).mono ?_); rintro e w' ⟨rfl, ⟨nd, rfl⟩⟩))
                    go_roundg k2
                    case measure => have := HJ2.out; have := HK2.out; omega
                    case rel => exact ⟨(!false), (wrap64 (x6_2 + 1)), (by first | rfl | (simp; done) | (simp [*]; done) | exact congrArg Value.bool (Go.Proofs.YtiadcjdpeegbbaaDoor.GLib.not_isEmpty _) | exact congrArg Value.bool (Go.Proofs.YtiadcjdpeegbbaaDoor.GLib.not_isEmpty _).symm), (by first | rfl | (simp; done) | (simp [*]; done) | exact congrArg Value.bool (Go.Proofs.YtiadcjdpeegbbaaDoor.GLib.not_isEmpty _) | exact congrArg Value.bool (Go.Proofs.YtiadcjdpeegbbaaDoor.GLib.not_isEmpty _).symm), H', ⟨by have := HJ2.out; have := HK2.out; omega⟩, by repeat (first | exact Drawn0.refl _ | apply Drawn0.step)⟩
                · replace c11 := Bool.eq_false_iff.mpr c11
                  subst c11
                  have H1 : (remitterlaw07_good.l0 k2 a0 false (wrap64 (x6_2 + 1))) = some r := by rw [if_neg (show ¬ (false = true) by decide)] at H; exact H
                  clear H
                  have H := H1
                  clear H1
                  have H' := Aside0.mk H
                  clear H
                  have p7 : 0 ≤ (x6_2 : Int) := of_decide_eq_true (by first | (with_reducible assumption) | assumption)
                  have q7 : x6_2 < (a0.size : Int) := of_decide_eq_true (by first | (with_reducible assumption) | assumption)
                  have hx7 := bt_at a0 x6_2
                  replace p7 := eq_true p7
                  replace q7 := eq_true q7
                  have p9 : 0 ≤ (x6_2 : Int) := of_decide_eq_true (by first | (with_reducible assumption) | assumption)
                  have q9 : x6_2 < (a0.size : Int) := of_decide_eq_true (by first | (with_reducible assumption) | assumption)
                  have hx9 := bt_at a0 x6_2
                  replace p9 := eq_true p9
                  replace q9 := eq_true q9
                  go_wp2_with (first | (go_at_call 14; (with_reducible refine (remitterref05_In.calls k2 88 (bt a0 x6_2) false _ A10.out).mono ?_); rintro e w' ⟨rfl, ⟨nd, rfl⟩⟩))
                  go_roundg k2
                  case measure => have := HJ2.out; have := HK2.out; omega
                  case rel => exact ⟨(false), (wrap64 (x6_2 + 1)), (by first | rfl | (simp; done) | (simp [*]; done) | exact congrArg Value.bool (Go.Proofs.YtiadcjdpeegbbaaDoor.GLib.not_isEmpty _) | exact congrArg Value.bool (Go.Proofs.YtiadcjdpeegbbaaDoor.GLib.not_isEmpty _).symm), (by first | rfl | (simp; done) | (simp [*]; done) | exact congrArg Value.bool (Go.Proofs.YtiadcjdpeegbbaaDoor.GLib.not_isEmpty _) | exact congrArg Value.bool (Go.Proofs.YtiadcjdpeegbbaaDoor.GLib.not_isEmpty _).symm), H', ⟨by have := HJ2.out; have := HK2.out; omega⟩, by repeat (first | exact Drawn0.refl _ | apply Drawn0.step)⟩
              · replace c8 := Bool.eq_false_iff.mpr c8
                subst c8
                have H1 : (remitterlaw07_good.l0 k2 a0 false (wrap64 (x6_2 + 1))) = some r := by rw [if_neg (show ¬ (false = true) by decide)] at H; exact H
                clear H
                have H := H1
                clear H1
                have H' := Aside0.mk H
                clear H
                have p7 : 0 ≤ (x6_2 : Int) := of_decide_eq_true (by first | (with_reducible assumption) | assumption)
                have q7 : x6_2 < (a0.size : Int) := of_decide_eq_true (by first | (with_reducible assumption) | assumption)
                have hx7 := bt_at a0 x6_2
                replace p7 := eq_true p7
                replace q7 := eq_true q7
                go_wp2
                go_roundg k2
                case measure => have := HJ2.out; have := HK2.out; omega
                case rel => exact ⟨(false), (wrap64 (x6_2 + 1)), (by first | rfl | (simp; done) | (simp [*]; done) | exact congrArg Value.bool (Go.Proofs.YtiadcjdpeegbbaaDoor.GLib.not_isEmpty _) | exact congrArg Value.bool (Go.Proofs.YtiadcjdpeegbbaaDoor.GLib.not_isEmpty _).symm), (by first | rfl | (simp; done) | (simp [*]; done) | exact congrArg Value.bool (Go.Proofs.YtiadcjdpeegbbaaDoor.GLib.not_isEmpty _) | exact congrArg Value.bool (Go.Proofs.YtiadcjdpeegbbaaDoor.GLib.not_isEmpty _).symm), H', ⟨by have := HJ2.out; have := HK2.out; omega⟩, by repeat (first | exact Drawn0.refl _ | apply Drawn0.step)⟩
            · rw [if_neg c6] at H
              exact absurd H (by simp)
          · rw [if_neg c5] at H
            have c5b0 : decide (x6_2 < (a0.size : Int)) = false := decide_eq_false c5
            clear c5
            obtain rfl := Option.some.inj H
            go_wp2
            all_goals (first | (exfalso; simp_all; done) | (exfalso; omega) | (go_ret; exact ⟨by first | rfl | (simp; done) | (simp [*]; done), by repeat (first | exact Drawn0.refl _ | apply Drawn0.step)⟩))

/-! ### remitterlaw07_uetr: function 11 -/
mutual
def remitterlaw07_uetr.l0 : Nat → ByteArray → Bool → Int → Option (Bool)
  | 0, _, _, _ => none
  | k + 1, x0, x3, x4 => if x4 < (x0.size : Int) then (remitterlaw07_uetr.j1 k x0 x3 x4 x3) else (remitterlaw07_uetr.j1 k x0 x3 x4 false)
def remitterlaw07_uetr.j1 : Nat → ByteArray → Bool → Int → Bool → Option (Bool)
  | 0, _, _, _, _ => none
  | k + 1, x0, x3, x4, x15 => if x15 = true then (if 0 ≤ x4 then (if x4 < (x0.size : Int) then (if x4 = 8 then (remitterlaw07_uetr.j2 k x0 x4 (bt x0 x4) true) else (if x4 = 13 then (remitterlaw07_uetr.j2 k x0 x4 (bt x0 x4) true) else (if x4 = 18 then (remitterlaw07_uetr.j2 k x0 x4 (bt x0 x4) true) else (remitterlaw07_uetr.j2 k x0 x4 (bt x0 x4) (x4 == 23))))) else (none)) else (none)) else (some x3)
def remitterlaw07_uetr.j2 : Nat → ByteArray → Int → Int → Bool → Option (Bool)
  | 0, _, _, _, _ => none
  | k + 1, x0, x4, x5, x35 => if x35 = true then (remitterlaw07_uetr.l0 k x0 (x5 == 45) (wrap64 (x4 + 1))) else (if x4 = 14 then (remitterlaw07_uetr.l0 k x0 (x5 == 52) (wrap64 (x4 + 1))) else (if x4 = 19 then (if x5 = 56 then (remitterlaw07_uetr.l0 k x0 true (wrap64 (x4 + 1))) else (if x5 = 57 then (remitterlaw07_uetr.l0 k x0 true (wrap64 (x4 + 1))) else (if x5 = 97 then (remitterlaw07_uetr.l0 k x0 true (wrap64 (x4 + 1))) else (remitterlaw07_uetr.l0 k x0 (x5 == 98) (wrap64 (x4 + 1)))))) else (if x5 ≥ 48 then (if x5 ≤ 57 then (remitterlaw07_uetr.l0 k x0 true (wrap64 (x4 + 1))) else (if x5 ≥ 97 then (remitterlaw07_uetr.l0 k x0 (decide (x5 ≤ 102)) (wrap64 (x4 + 1))) else (remitterlaw07_uetr.l0 k x0 false (wrap64 (x4 + 1))))) else (if x5 ≥ 97 then (remitterlaw07_uetr.l0 k x0 (decide (x5 ≤ 102)) (wrap64 (x4 + 1))) else (remitterlaw07_uetr.l0 k x0 false (wrap64 (x4 + 1)))))))
end
def remitterlaw07_uetr.f (k : Nat) (a0 : ByteArray) : Option (Bool) := remitterlaw07_uetr.l0 k a0 ((a0.size : Int) == 36) 0
theorem remitterlaw07_uetr.mono_l : ∀ k, (∀ y0 y1 y2, LeO (remitterlaw07_uetr.l0 k y0 y1 y2) (remitterlaw07_uetr.l0 (k + 1) y0 y1 y2)) ∧ (∀ y0 y1 y2 y3, LeO (remitterlaw07_uetr.j1 k y0 y1 y2 y3) (remitterlaw07_uetr.j1 (k + 1) y0 y1 y2 y3)) ∧ (∀ y0 y1 y2 y3, LeO (remitterlaw07_uetr.j2 k y0 y1 y2 y3) (remitterlaw07_uetr.j2 (k + 1) y0 y1 y2 y3))
  | 0 => ⟨fun _ _ _ r h => by simp [remitterlaw07_uetr.l0] at h, fun _ _ _ _ r h => by simp [remitterlaw07_uetr.j1] at h, fun _ _ _ _ r h => by simp [remitterlaw07_uetr.j2] at h⟩
  | k + 1 => by
    obtain ⟨ih0, ih1, ih2⟩ := remitterlaw07_uetr.mono_l k
    refine ⟨?_, ?_, ?_⟩
    · intro y0 y1 y2
      unfold remitterlaw07_uetr.l0
      repeat' first
      | (with_reducible exact ih0 _ _ _)
      | (with_reducible exact ih1 _ _ _ _)
      | (with_reducible exact ih2 _ _ _ _)
      | (with_reducible exact LeO.refl _)
      | (with_reducible exact LeO.none _)
      | (with_reducible refine LeO.ite ?_ ?_)
      | (with_reducible refine LeO.bind ?_ (fun _ => ?_))
      | exact ih0 _ _ _
      | exact ih1 _ _ _ _
      | exact ih2 _ _ _ _
      | exact LeO.none _
      | refine LeO.ite ?_ ?_
      | refine LeO.bind ?_ (fun _ => ?_)
    · intro y0 y1 y2 y3
      unfold remitterlaw07_uetr.j1
      repeat' first
      | (with_reducible exact ih0 _ _ _)
      | (with_reducible exact ih1 _ _ _ _)
      | (with_reducible exact ih2 _ _ _ _)
      | (with_reducible exact LeO.refl _)
      | (with_reducible exact LeO.none _)
      | (with_reducible refine LeO.ite ?_ ?_)
      | (with_reducible refine LeO.bind ?_ (fun _ => ?_))
      | exact ih0 _ _ _
      | exact ih1 _ _ _ _
      | exact ih2 _ _ _ _
      | exact LeO.none _
      | refine LeO.ite ?_ ?_
      | refine LeO.bind ?_ (fun _ => ?_)
    · intro y0 y1 y2 y3
      unfold remitterlaw07_uetr.j2
      repeat' first
      | (with_reducible exact ih0 _ _ _)
      | (with_reducible exact ih1 _ _ _ _)
      | (with_reducible exact ih2 _ _ _ _)
      | (with_reducible exact LeO.refl _)
      | (with_reducible exact LeO.none _)
      | (with_reducible refine LeO.ite ?_ ?_)
      | (with_reducible refine LeO.bind ?_ (fun _ => ?_))
      | exact ih0 _ _ _
      | exact ih1 _ _ _ _
      | exact ih2 _ _ _ _
      | exact LeO.none _
      | refine LeO.ite ?_ ?_
      | refine LeO.bind ?_ (fun _ => ?_)
theorem remitterlaw07_uetr.mono : ∀ a0 k, LeO (remitterlaw07_uetr.f k a0) (remitterlaw07_uetr.f (k + 1) a0) := by
  intro a0 k
  obtain ⟨ih0, ih1, ih2⟩ := remitterlaw07_uetr.mono_l k
  unfold remitterlaw07_uetr.f
  repeat' first
      | (with_reducible exact ih0 _ _ _)
      | (with_reducible exact ih1 _ _ _ _)
      | (with_reducible exact ih2 _ _ _ _)
      | (with_reducible exact LeO.refl _)
      | (with_reducible exact LeO.none _)
      | (with_reducible refine LeO.ite ?_ ?_)
      | (with_reducible refine LeO.bind ?_ (fun _ => ?_))
      | exact ih0 _ _ _
      | exact ih1 _ _ _ _
      | exact ih2 _ _ _ _
      | exact LeO.none _
      | refine LeO.ite ?_ ?_
      | refine LeO.bind ?_ (fun _ => ?_)
set_option maxHeartbeats 8000000 in
set_option maxRecDepth 100000 in
theorem remitterlaw07_uetr.calls (k : Nat) (a0 : ByteArray) (r : Bool) (w : World) (h : remitterlaw07_uetr.f k a0 = some r) :
    Calls Tryd.prog 11 #[.string a0] w fun e w' => e = .returned (.bool r) ∧ Drawn0 w w' := by
  have H : (remitterlaw07_uetr.l0 k a0 ((a0.size : Int) == 36) 0) = some r := h
  clear h
  have H' := Aside0.mk H
  clear H
  go_enter Tryd.func11, Tryd.ntmps11
  go_wp2
  go_loopg [3, 4] k (fun kq v3 v4 w' => ∃ (x3_1 : Bool) (x4_1 : Int), v3 = .bool x3_1 ∧ v4 = .int .i64 x4_1 ∧ Aside0 (remitterlaw07_uetr.l0 kq a0 x3_1 x4_1 = some r) ∧ Aside0 (kq ≤ k) ∧ Drawn0 w w')
  case atStart => exact ⟨(((a0.size : Int) == 36)), (0), (by first | rfl | (simp; done) | (simp [*]; done) | exact congrArg Value.bool (Go.Proofs.YtiadcjdpeegbbaaDoor.GLib.not_isEmpty _) | exact congrArg Value.bool (Go.Proofs.YtiadcjdpeegbbaaDoor.GLib.not_isEmpty _).symm), (by first | rfl | (simp; done) | (simp [*]; done) | exact congrArg Value.bool (Go.Proofs.YtiadcjdpeegbbaaDoor.GLib.not_isEmpty _) | exact congrArg Value.bool (Go.Proofs.YtiadcjdpeegbbaaDoor.GLib.not_isEmpty _).symm), H', ⟨Nat.le_refl _⟩, by repeat (first | exact Drawn0.refl _ | apply Drawn0.step)⟩
  case round =>
    clear H'
    try clear c1
    obtain ⟨x3_1, x4_1, rfl, rfl, HA, HK1, ⟨m1, rfl⟩⟩ := hrel
    cases gk with
    | zero => exact absurd HA.out (by simp [remitterlaw07_uetr.l0])
    | succ k1 =>
      have H := HA.out
      clear HA
      simp only [remitterlaw07_uetr.l0] at H
      have HC2 := Aside0.mk H
      clear H
      go_upto_region 3 with (fail)
      go_cut [15] (fun v15 wc => ∃ (kq : Nat) (x15_1 : Bool), v15 = .bool x15_1 ∧ Aside0 (remitterlaw07_uetr.j1 kq a0 x3_1 x4_1 x15_1 = some r) ∧ Aside0 (kq ≤ k1) ∧ Drawn0 w wc)
      case first =>
        have H := HC2.out
        clear HC2
        by_cases c3 : x4_1 < (a0.size : Int)
        · rw [if_pos c3] at H
          have c3b0 : decide (x4_1 < (a0.size : Int)) = true := decide_eq_true c3
          clear c3
          (first | rw [c3b0] | (simp only [i64_w, i32_w]; rw [c3b0]) | skip)
          have H' := Aside0.mk H
          clear H
          go_wp2
          go_meet
          case rel => exact ⟨_, (x3_1), (by first | rfl | (simp; done) | (simp [*]; done) | exact congrArg Value.bool (Go.Proofs.YtiadcjdpeegbbaaDoor.GLib.not_isEmpty _) | exact congrArg Value.bool (Go.Proofs.YtiadcjdpeegbbaaDoor.GLib.not_isEmpty _).symm), H', ⟨by have := HK1.out; first | omega | exact Nat.le_refl _⟩, by repeat (first | exact Drawn0.refl _ | apply Drawn0.step)⟩
        · rw [if_neg c3] at H
          have c3b0 : decide (x4_1 < (a0.size : Int)) = false := decide_eq_false c3
          clear c3
          (first | rw [c3b0] | (simp only [i64_w, i32_w]; rw [c3b0]) | skip)
          have H' := Aside0.mk H
          clear H
          go_wp2
          go_meet
          case rel => exact ⟨_, (false), (by first | rfl | (simp; done) | (simp [*]; done) | exact congrArg Value.bool (Go.Proofs.YtiadcjdpeegbbaaDoor.GLib.not_isEmpty _) | exact congrArg Value.bool (Go.Proofs.YtiadcjdpeegbbaaDoor.GLib.not_isEmpty _).symm), H', ⟨by have := HK1.out; first | omega | exact Nat.le_refl _⟩, by repeat (first | exact Drawn0.refl _ | apply Drawn0.step)⟩
      case rest =>
        clear HC2
        try clear c1
        try clear p2
        try clear c3
        try clear c3b0
        obtain ⟨kq, x15_1, rfl, HA, HJ1, ⟨mc1, rfl⟩⟩ := hcut
        cases kq with
        | zero => exact absurd HA.out (by simp [remitterlaw07_uetr.j1])
        | succ kj1 =>
          have H := HA.out
          clear HA
          simp only [remitterlaw07_uetr.j1] at H
          by_cases c4 : x15_1 = true
          · subst c4
            have H1 : (if 0 ≤ x4_1 then (if x4_1 < (a0.size : Int) then (if x4_1 = 8 then (remitterlaw07_uetr.j2 kj1 a0 x4_1 (bt a0 x4_1) true) else (if x4_1 = 13 then (remitterlaw07_uetr.j2 kj1 a0 x4_1 (bt a0 x4_1) true) else (if x4_1 = 18 then (remitterlaw07_uetr.j2 kj1 a0 x4_1 (bt a0 x4_1) true) else (remitterlaw07_uetr.j2 kj1 a0 x4_1 (bt a0 x4_1) (x4_1 == 23))))) else (none)) else (none)) = some r := by rw [if_pos rfl] at H; exact H
            clear H
            have H := H1
            clear H1
            by_cases c5 : 0 ≤ x4_1
            · rw [if_pos c5] at H
              have c5b0 : decide (0 ≤ x4_1) = true := decide_eq_true c5
              clear c5
              by_cases c6 : x4_1 < (a0.size : Int)
              · rw [if_pos c6] at H
                have c6b0 : decide (x4_1 < (a0.size : Int)) = true := decide_eq_true c6
                clear c6
                have HC8 := Aside0.mk H
                clear H
                have p7 : 0 ≤ (x4_1 : Int) := of_decide_eq_true (by first | (with_reducible assumption) | assumption)
                have q7 : x4_1 < (a0.size : Int) := of_decide_eq_true (by first | (with_reducible assumption) | assumption)
                have hx7 := bt_at a0 x4_1
                replace p7 := eq_true p7
                replace q7 := eq_true q7
                go_upto_region 7 with (fail)
                go_cut [35] (fun v35 wc => ∃ (kq : Nat) (x35_7 : Bool), v35 = .bool x35_7 ∧ Aside0 (remitterlaw07_uetr.j2 kq a0 x4_1 (bt a0 x4_1) x35_7 = some r) ∧ Aside0 (kq ≤ kj1) ∧ Drawn0 w wc)
                case first =>
                  have H := HC8.out
                  clear HC8
                  by_cases c9 : x4_1 = 8
                  · rw [if_pos c9] at H
                    have c9b0 : (x4_1 == 8) = true := beq_iff_eq.mpr c9
                    have c9b1 : (x4_1 != 8) = false := bne_eq_false_iff_eq.mpr c9
                    clear c9
                    (first | rw [c9b0] | (simp only [i64_w, i32_w]; rw [c9b0]) | skip)
                    have H' := Aside0.mk H
                    clear H
                    go_wp2
                    go_meet
                    case rel => exact ⟨_, (true), (by first | rfl | (simp; done) | (simp [*]; done) | exact congrArg Value.bool (Go.Proofs.YtiadcjdpeegbbaaDoor.GLib.not_isEmpty _) | exact congrArg Value.bool (Go.Proofs.YtiadcjdpeegbbaaDoor.GLib.not_isEmpty _).symm), H', ⟨by have := HK1.out; have := HJ1.out; first | omega | exact Nat.le_refl _⟩, by repeat (first | exact Drawn0.refl _ | apply Drawn0.step)⟩
                  · rw [if_neg c9] at H
                    have c9b0 : (x4_1 == 8) = false := beq_eq_false_iff_ne.mpr c9
                    have c9b1 : (x4_1 != 8) = true := bne_iff_ne.mpr c9
                    (first | rw [c9b0] | (simp only [i64_w, i32_w]; rw [c9b0]) | skip)
                    by_cases c10 : x4_1 = 13
                    · rw [if_pos c10] at H
                      have c10b0 : (x4_1 == 13) = true := beq_iff_eq.mpr c10
                      have c10b1 : (x4_1 != 13) = false := bne_eq_false_iff_eq.mpr c10
                      clear c10
                      have H' := Aside0.mk H
                      clear H
                      go_wp2
                      go_meet
                      case rel => exact ⟨_, (true), (by first | rfl | (simp; done) | (simp [*]; done) | exact congrArg Value.bool (Go.Proofs.YtiadcjdpeegbbaaDoor.GLib.not_isEmpty _) | exact congrArg Value.bool (Go.Proofs.YtiadcjdpeegbbaaDoor.GLib.not_isEmpty _).symm), H', ⟨by have := HK1.out; have := HJ1.out; first | omega | exact Nat.le_refl _⟩, by repeat (first | exact Drawn0.refl _ | apply Drawn0.step)⟩
                    · rw [if_neg c10] at H
                      have c10b0 : (x4_1 == 13) = false := beq_eq_false_iff_ne.mpr c10
                      have c10b1 : (x4_1 != 13) = true := bne_iff_ne.mpr c10
                      by_cases c11 : x4_1 = 18
                      · rw [if_pos c11] at H
                        have c11b0 : (x4_1 == 18) = true := beq_iff_eq.mpr c11
                        have c11b1 : (x4_1 != 18) = false := bne_eq_false_iff_eq.mpr c11
                        clear c11
                        have H' := Aside0.mk H
                        clear H
                        go_wp2
                        go_meet
                        case rel => exact ⟨_, (true), (by first | rfl | (simp; done) | (simp [*]; done) | exact congrArg Value.bool (Go.Proofs.YtiadcjdpeegbbaaDoor.GLib.not_isEmpty _) | exact congrArg Value.bool (Go.Proofs.YtiadcjdpeegbbaaDoor.GLib.not_isEmpty _).symm), H', ⟨by have := HK1.out; have := HJ1.out; first | omega | exact Nat.le_refl _⟩, by repeat (first | exact Drawn0.refl _ | apply Drawn0.step)⟩
                      · rw [if_neg c11] at H
                        have c11b0 : (x4_1 == 18) = false := beq_eq_false_iff_ne.mpr c11
                        have c11b1 : (x4_1 != 18) = true := bne_iff_ne.mpr c11
                        have H' := Aside0.mk H
                        clear H
                        go_wp2
                        go_meet
                        case rel => exact ⟨_, ((x4_1 == 23)), (by first | rfl | (simp; done) | (simp [*]; done) | exact congrArg Value.bool (Go.Proofs.YtiadcjdpeegbbaaDoor.GLib.not_isEmpty _) | exact congrArg Value.bool (Go.Proofs.YtiadcjdpeegbbaaDoor.GLib.not_isEmpty _).symm), H', ⟨by have := HK1.out; have := HJ1.out; first | omega | exact Nat.le_refl _⟩, by repeat (first | exact Drawn0.refl _ | apply Drawn0.step)⟩
                case rest =>
                  clear HC8
                  try clear c1
                  try clear p2
                  try clear c3
                  try clear c3b0
                  try clear c4
                  try clear c5
                  try clear c5b0
                  try clear c6
                  try clear c6b0
                  try clear p7
                  try clear q7
                  try clear hx7
                  try clear c9
                  try clear c9b0
                  try clear c9b1
                  try clear c10
                  try clear c10b0
                  try clear c10b1
                  try clear c11
                  try clear c11b0
                  try clear c11b1
                  try clear p2
                  try clear p7
                  try clear q7
                  obtain ⟨kq, x35_7, rfl, HA, HJ7, ⟨mc7, rfl⟩⟩ := hcut
                  cases kq with
                  | zero => exact absurd HA.out (by simp [remitterlaw07_uetr.j2])
                  | succ kj7 =>
                    have H := HA.out
                    clear HA
                    simp only [remitterlaw07_uetr.j2] at H
                    by_cases c12 : x35_7 = true
                    · subst c12
                      have H1 : (remitterlaw07_uetr.l0 kj7 a0 ((bt a0 x4_1) == 45) (wrap64 (x4_1 + 1))) = some r := by rw [if_pos rfl] at H; exact H
                      clear H
                      have H := H1
                      clear H1
                      have H' := Aside0.mk H
                      clear H
                      go_wp2
                      go_roundg kj7
                      case measure => have := HK1.out; have := HJ1.out; have := HJ7.out; omega
                      case rel => exact ⟨(((bt a0 x4_1) == 45)), (wrap64 (x4_1 + 1)), (by first | rfl | (simp; done) | (simp [*]; done) | exact congrArg Value.bool (Go.Proofs.YtiadcjdpeegbbaaDoor.GLib.not_isEmpty _) | exact congrArg Value.bool (Go.Proofs.YtiadcjdpeegbbaaDoor.GLib.not_isEmpty _).symm), (by first | rfl | (simp; done) | (simp [*]; done) | exact congrArg Value.bool (Go.Proofs.YtiadcjdpeegbbaaDoor.GLib.not_isEmpty _) | exact congrArg Value.bool (Go.Proofs.YtiadcjdpeegbbaaDoor.GLib.not_isEmpty _).symm), H', ⟨by have := HK1.out; have := HJ1.out; have := HJ7.out; omega⟩, by repeat (first | exact Drawn0.refl _ | apply Drawn0.step)⟩
                    · replace c12 := Bool.eq_false_iff.mpr c12
                      subst c12
                      have H1 : (if x4_1 = 14 then (remitterlaw07_uetr.l0 kj7 a0 ((bt a0 x4_1) == 52) (wrap64 (x4_1 + 1))) else (if x4_1 = 19 then (if (bt a0 x4_1) = 56 then (remitterlaw07_uetr.l0 kj7 a0 true (wrap64 (x4_1 + 1))) else (if (bt a0 x4_1) = 57 then (remitterlaw07_uetr.l0 kj7 a0 true (wrap64 (x4_1 + 1))) else (if (bt a0 x4_1) = 97 then (remitterlaw07_uetr.l0 kj7 a0 true (wrap64 (x4_1 + 1))) else (remitterlaw07_uetr.l0 kj7 a0 ((bt a0 x4_1) == 98) (wrap64 (x4_1 + 1)))))) else (if (bt a0 x4_1) ≥ 48 then (if (bt a0 x4_1) ≤ 57 then (remitterlaw07_uetr.l0 kj7 a0 true (wrap64 (x4_1 + 1))) else (if (bt a0 x4_1) ≥ 97 then (remitterlaw07_uetr.l0 kj7 a0 (decide ((bt a0 x4_1) ≤ 102)) (wrap64 (x4_1 + 1))) else (remitterlaw07_uetr.l0 kj7 a0 false (wrap64 (x4_1 + 1))))) else (if (bt a0 x4_1) ≥ 97 then (remitterlaw07_uetr.l0 kj7 a0 (decide ((bt a0 x4_1) ≤ 102)) (wrap64 (x4_1 + 1))) else (remitterlaw07_uetr.l0 kj7 a0 false (wrap64 (x4_1 + 1))))))) = some r := by rw [if_neg (show ¬ (false = true) by decide)] at H; exact H
                      clear H
                      have H := H1
                      clear H1
                      by_cases c13 : x4_1 = 14
                      · rw [if_pos c13] at H
                        have c13b0 : (x4_1 == 14) = true := beq_iff_eq.mpr c13
                        have c13b1 : (x4_1 != 14) = false := bne_eq_false_iff_eq.mpr c13
                        clear c13
                        have H' := Aside0.mk H
                        clear H
                        go_wp2
                        go_roundg kj7
                        case measure => have := HK1.out; have := HJ1.out; have := HJ7.out; omega
                        case rel => exact ⟨(((bt a0 x4_1) == 52)), (wrap64 (x4_1 + 1)), (by first | rfl | (simp; done) | (simp [*]; done) | exact congrArg Value.bool (Go.Proofs.YtiadcjdpeegbbaaDoor.GLib.not_isEmpty _) | exact congrArg Value.bool (Go.Proofs.YtiadcjdpeegbbaaDoor.GLib.not_isEmpty _).symm), (by first | rfl | (simp; done) | (simp [*]; done) | exact congrArg Value.bool (Go.Proofs.YtiadcjdpeegbbaaDoor.GLib.not_isEmpty _) | exact congrArg Value.bool (Go.Proofs.YtiadcjdpeegbbaaDoor.GLib.not_isEmpty _).symm), H', ⟨by have := HK1.out; have := HJ1.out; have := HJ7.out; omega⟩, by repeat (first | exact Drawn0.refl _ | apply Drawn0.step)⟩
                      · rw [if_neg c13] at H
                        have c13b0 : (x4_1 == 14) = false := beq_eq_false_iff_ne.mpr c13
                        have c13b1 : (x4_1 != 14) = true := bne_iff_ne.mpr c13
                        by_cases c14 : x4_1 = 19
                        · rw [if_pos c14] at H
                          have c14b0 : (x4_1 == 19) = true := beq_iff_eq.mpr c14
                          have c14b1 : (x4_1 != 19) = false := bne_eq_false_iff_eq.mpr c14
                          clear c14
                          by_cases c15 : (bt a0 x4_1) = 56
                          · rw [if_pos c15] at H
                            have c15b0 : ((bt a0 x4_1) == 56) = true := beq_iff_eq.mpr c15
                            have c15b1 : ((bt a0 x4_1) != 56) = false := bne_eq_false_iff_eq.mpr c15
                            clear c15
                            have H' := Aside0.mk H
                            clear H
                            go_wp2
                            go_roundg kj7
                            case measure => have := HK1.out; have := HJ1.out; have := HJ7.out; omega
                            case rel => exact ⟨(true), (wrap64 (x4_1 + 1)), (by first | rfl | (simp; done) | (simp [*]; done) | exact congrArg Value.bool (Go.Proofs.YtiadcjdpeegbbaaDoor.GLib.not_isEmpty _) | exact congrArg Value.bool (Go.Proofs.YtiadcjdpeegbbaaDoor.GLib.not_isEmpty _).symm), (by first | rfl | (simp; done) | (simp [*]; done) | exact congrArg Value.bool (Go.Proofs.YtiadcjdpeegbbaaDoor.GLib.not_isEmpty _) | exact congrArg Value.bool (Go.Proofs.YtiadcjdpeegbbaaDoor.GLib.not_isEmpty _).symm), H', ⟨by have := HK1.out; have := HJ1.out; have := HJ7.out; omega⟩, by repeat (first | exact Drawn0.refl _ | apply Drawn0.step)⟩
                          · rw [if_neg c15] at H
                            have c15b0 : ((bt a0 x4_1) == 56) = false := beq_eq_false_iff_ne.mpr c15
                            have c15b1 : ((bt a0 x4_1) != 56) = true := bne_iff_ne.mpr c15
                            by_cases c16 : (bt a0 x4_1) = 57
                            · rw [if_pos c16] at H
                              have c16b0 : ((bt a0 x4_1) == 57) = true := beq_iff_eq.mpr c16
                              have c16b1 : ((bt a0 x4_1) != 57) = false := bne_eq_false_iff_eq.mpr c16
                              clear c16
                              have H' := Aside0.mk H
                              clear H
                              go_wp2
                              go_roundg kj7
                              case measure => have := HK1.out; have := HJ1.out; have := HJ7.out; omega
                              case rel => exact ⟨(true), (wrap64 (x4_1 + 1)), (by first | rfl | (simp; done) | (simp [*]; done) | exact congrArg Value.bool (Go.Proofs.YtiadcjdpeegbbaaDoor.GLib.not_isEmpty _) | exact congrArg Value.bool (Go.Proofs.YtiadcjdpeegbbaaDoor.GLib.not_isEmpty _).symm), (by first | rfl | (simp; done) | (simp [*]; done) | exact congrArg Value.bool (Go.Proofs.YtiadcjdpeegbbaaDoor.GLib.not_isEmpty _) | exact congrArg Value.bool (Go.Proofs.YtiadcjdpeegbbaaDoor.GLib.not_isEmpty _).symm), H', ⟨by have := HK1.out; have := HJ1.out; have := HJ7.out; omega⟩, by repeat (first | exact Drawn0.refl _ | apply Drawn0.step)⟩
                            · rw [if_neg c16] at H
                              have c16b0 : ((bt a0 x4_1) == 57) = false := beq_eq_false_iff_ne.mpr c16
                              have c16b1 : ((bt a0 x4_1) != 57) = true := bne_iff_ne.mpr c16
                              by_cases c17 : (bt a0 x4_1) = 97
                              · rw [if_pos c17] at H
                                have c17b0 : ((bt a0 x4_1) == 97) = true := beq_iff_eq.mpr c17
                                have c17b1 : ((bt a0 x4_1) != 97) = false := bne_eq_false_iff_eq.mpr c17
                                clear c17
                                have H' := Aside0.mk H
                                clear H
                                go_wp2
                                go_roundg kj7
                                case measure => have := HK1.out; have := HJ1.out; have := HJ7.out; omega
                                case rel => exact ⟨(true), (wrap64 (x4_1 + 1)), (by first | rfl | (simp; done) | (simp [*]; done) | exact congrArg Value.bool (Go.Proofs.YtiadcjdpeegbbaaDoor.GLib.not_isEmpty _) | exact congrArg Value.bool (Go.Proofs.YtiadcjdpeegbbaaDoor.GLib.not_isEmpty _).symm), (by first | rfl | (simp; done) | (simp [*]; done) | exact congrArg Value.bool (Go.Proofs.YtiadcjdpeegbbaaDoor.GLib.not_isEmpty _) | exact congrArg Value.bool (Go.Proofs.YtiadcjdpeegbbaaDoor.GLib.not_isEmpty _).symm), H', ⟨by have := HK1.out; have := HJ1.out; have := HJ7.out; omega⟩, by repeat (first | exact Drawn0.refl _ | apply Drawn0.step)⟩
                              · rw [if_neg c17] at H
                                have c17b0 : ((bt a0 x4_1) == 97) = false := beq_eq_false_iff_ne.mpr c17
                                have c17b1 : ((bt a0 x4_1) != 97) = true := bne_iff_ne.mpr c17
                                have H' := Aside0.mk H
                                clear H
                                go_wp2
                                go_roundg kj7
                                case measure => have := HK1.out; have := HJ1.out; have := HJ7.out; omega
                                case rel => exact ⟨(((bt a0 x4_1) == 98)), (wrap64 (x4_1 + 1)), (by first | rfl | (simp; done) | (simp [*]; done) | exact congrArg Value.bool (Go.Proofs.YtiadcjdpeegbbaaDoor.GLib.not_isEmpty _) | exact congrArg Value.bool (Go.Proofs.YtiadcjdpeegbbaaDoor.GLib.not_isEmpty _).symm), (by first | rfl | (simp; done) | (simp [*]; done) | exact congrArg Value.bool (Go.Proofs.YtiadcjdpeegbbaaDoor.GLib.not_isEmpty _) | exact congrArg Value.bool (Go.Proofs.YtiadcjdpeegbbaaDoor.GLib.not_isEmpty _).symm), H', ⟨by have := HK1.out; have := HJ1.out; have := HJ7.out; omega⟩, by repeat (first | exact Drawn0.refl _ | apply Drawn0.step)⟩
                        · rw [if_neg c14] at H
                          have c14b0 : (x4_1 == 19) = false := beq_eq_false_iff_ne.mpr c14
                          have c14b1 : (x4_1 != 19) = true := bne_iff_ne.mpr c14
                          by_cases c18 : (bt a0 x4_1) ≥ 48
                          · rw [if_pos c18] at H
                            have c18b0 : decide (48 ≤ (bt a0 x4_1)) = true := decide_eq_true c18
                            clear c18
                            by_cases c19 : (bt a0 x4_1) ≤ 57
                            · rw [if_pos c19] at H
                              have c19b0 : decide ((bt a0 x4_1) ≤ 57) = true := decide_eq_true c19
                              clear c19
                              have H' := Aside0.mk H
                              clear H
                              go_wp2
                              go_roundg kj7
                              case measure => have := HK1.out; have := HJ1.out; have := HJ7.out; omega
                              case rel => exact ⟨(true), (wrap64 (x4_1 + 1)), (by first | rfl | (simp; done) | (simp [*]; done) | exact congrArg Value.bool (Go.Proofs.YtiadcjdpeegbbaaDoor.GLib.not_isEmpty _) | exact congrArg Value.bool (Go.Proofs.YtiadcjdpeegbbaaDoor.GLib.not_isEmpty _).symm), (by first | rfl | (simp; done) | (simp [*]; done) | exact congrArg Value.bool (Go.Proofs.YtiadcjdpeegbbaaDoor.GLib.not_isEmpty _) | exact congrArg Value.bool (Go.Proofs.YtiadcjdpeegbbaaDoor.GLib.not_isEmpty _).symm), H', ⟨by have := HK1.out; have := HJ1.out; have := HJ7.out; omega⟩, by repeat (first | exact Drawn0.refl _ | apply Drawn0.step)⟩
                            · rw [if_neg c19] at H
                              have c19b0 : decide ((bt a0 x4_1) ≤ 57) = false := decide_eq_false c19
                              clear c19
                              by_cases c20 : (bt a0 x4_1) ≥ 97
                              · rw [if_pos c20] at H
                                have c20b0 : decide (97 ≤ (bt a0 x4_1)) = true := decide_eq_true c20
                                clear c20
                                have H' := Aside0.mk H
                                clear H
                                go_wp2
                                go_roundg kj7
                                case measure => have := HK1.out; have := HJ1.out; have := HJ7.out; omega
                                case rel => exact ⟨(decide ((bt a0 x4_1) ≤ 102)), (wrap64 (x4_1 + 1)), (by first | rfl | (simp; done) | (simp [*]; done) | exact congrArg Value.bool (Go.Proofs.YtiadcjdpeegbbaaDoor.GLib.not_isEmpty _) | exact congrArg Value.bool (Go.Proofs.YtiadcjdpeegbbaaDoor.GLib.not_isEmpty _).symm), (by first | rfl | (simp; done) | (simp [*]; done) | exact congrArg Value.bool (Go.Proofs.YtiadcjdpeegbbaaDoor.GLib.not_isEmpty _) | exact congrArg Value.bool (Go.Proofs.YtiadcjdpeegbbaaDoor.GLib.not_isEmpty _).symm), H', ⟨by have := HK1.out; have := HJ1.out; have := HJ7.out; omega⟩, by repeat (first | exact Drawn0.refl _ | apply Drawn0.step)⟩
                              · rw [if_neg c20] at H
                                have c20b0 : decide (97 ≤ (bt a0 x4_1)) = false := decide_eq_false c20
                                clear c20
                                have H' := Aside0.mk H
                                clear H
                                go_wp2
                                go_roundg kj7
                                case measure => have := HK1.out; have := HJ1.out; have := HJ7.out; omega
                                case rel => exact ⟨(false), (wrap64 (x4_1 + 1)), (by first | rfl | (simp; done) | (simp [*]; done) | exact congrArg Value.bool (Go.Proofs.YtiadcjdpeegbbaaDoor.GLib.not_isEmpty _) | exact congrArg Value.bool (Go.Proofs.YtiadcjdpeegbbaaDoor.GLib.not_isEmpty _).symm), (by first | rfl | (simp; done) | (simp [*]; done) | exact congrArg Value.bool (Go.Proofs.YtiadcjdpeegbbaaDoor.GLib.not_isEmpty _) | exact congrArg Value.bool (Go.Proofs.YtiadcjdpeegbbaaDoor.GLib.not_isEmpty _).symm), H', ⟨by have := HK1.out; have := HJ1.out; have := HJ7.out; omega⟩, by repeat (first | exact Drawn0.refl _ | apply Drawn0.step)⟩
                          · rw [if_neg c18] at H
                            have c18b0 : decide (48 ≤ (bt a0 x4_1)) = false := decide_eq_false c18
                            clear c18
                            by_cases c21 : (bt a0 x4_1) ≥ 97
                            · rw [if_pos c21] at H
                              have c21b0 : decide (97 ≤ (bt a0 x4_1)) = true := decide_eq_true c21
                              clear c21
                              have H' := Aside0.mk H
                              clear H
                              go_wp2
                              go_roundg kj7
                              case measure => have := HK1.out; have := HJ1.out; have := HJ7.out; omega
                              case rel => exact ⟨(decide ((bt a0 x4_1) ≤ 102)), (wrap64 (x4_1 + 1)), (by first | rfl | (simp; done) | (simp [*]; done) | exact congrArg Value.bool (Go.Proofs.YtiadcjdpeegbbaaDoor.GLib.not_isEmpty _) | exact congrArg Value.bool (Go.Proofs.YtiadcjdpeegbbaaDoor.GLib.not_isEmpty _).symm), (by first | rfl | (simp; done) | (simp [*]; done) | exact congrArg Value.bool (Go.Proofs.YtiadcjdpeegbbaaDoor.GLib.not_isEmpty _) | exact congrArg Value.bool (Go.Proofs.YtiadcjdpeegbbaaDoor.GLib.not_isEmpty _).symm), H', ⟨by have := HK1.out; have := HJ1.out; have := HJ7.out; omega⟩, by repeat (first | exact Drawn0.refl _ | apply Drawn0.step)⟩
                            · rw [if_neg c21] at H
                              have c21b0 : decide (97 ≤ (bt a0 x4_1)) = false := decide_eq_false c21
                              clear c21
                              have H' := Aside0.mk H
                              clear H
                              go_wp2
                              go_roundg kj7
                              case measure => have := HK1.out; have := HJ1.out; have := HJ7.out; omega
                              case rel => exact ⟨(false), (wrap64 (x4_1 + 1)), (by first | rfl | (simp; done) | (simp [*]; done) | exact congrArg Value.bool (Go.Proofs.YtiadcjdpeegbbaaDoor.GLib.not_isEmpty _) | exact congrArg Value.bool (Go.Proofs.YtiadcjdpeegbbaaDoor.GLib.not_isEmpty _).symm), (by first | rfl | (simp; done) | (simp [*]; done) | exact congrArg Value.bool (Go.Proofs.YtiadcjdpeegbbaaDoor.GLib.not_isEmpty _) | exact congrArg Value.bool (Go.Proofs.YtiadcjdpeegbbaaDoor.GLib.not_isEmpty _).symm), H', ⟨by have := HK1.out; have := HJ1.out; have := HJ7.out; omega⟩, by repeat (first | exact Drawn0.refl _ | apply Drawn0.step)⟩
              · rw [if_neg c6] at H
                exact absurd H (by simp)
            · rw [if_neg c5] at H
              exact absurd H (by simp)
          · replace c4 := Bool.eq_false_iff.mpr c4
            subst c4
            have H1 : (some x3_1) = some r := by rw [if_neg (show ¬ (false = true) by decide)] at H; exact H
            clear H
            have H := H1
            clear H1
            obtain rfl := Option.some.inj H
            go_wp2
            all_goals (first | (exfalso; simp_all; done) | (exfalso; omega) | (go_ret; exact ⟨by first | rfl | (simp; done) | (simp [*]; done), by repeat (first | exact Drawn0.refl _ | apply Drawn0.step)⟩))

/-! ### remitterlaw07_RefTells: function 3 -/
def remitterlaw07_RefTells.f (k : Nat) (a0 : ByteArray) : Option (Bool) := if (a0.size : Int) > 100 then ((remitterlaw07_wakes.f).bind fun t121 => (some t121)) else ((ref_Check.f a0).bind fun t122 => ((remitterlaw07_good.f k a0 16).bind fun t123 => ((remitterlaw07_say.f t123).bind fun t124 => (if t122 = t124 then ((ref_CheckId.f a0).bind fun t125 => ((remitterlaw07_good.f k a0 35).bind fun t126 => ((remitterlaw07_say.f t126).bind fun t127 => (if t125 = t127 then ((ref_CheckUETR.f a0).bind fun t128 => ((remitterlaw07_uetr.f k a0).bind fun t129 => ((remitterlaw07_say.f t129).bind fun t130 => (if t128 = t130 then ((remitterlaw07_wakes.f).bind fun t131 => (some t131)) else (some false))))) else (some false))))) else (some false)))))
theorem remitterlaw07_RefTells.mono : ∀ a0 k, LeO (remitterlaw07_RefTells.f k a0) (remitterlaw07_RefTells.f (k + 1) a0) := by
  intro a0 k
  unfold remitterlaw07_RefTells.f
  repeat' first
      | (with_reducible exact remitterlaw07_good.mono _ _ _)
      | (with_reducible exact remitterlaw07_uetr.mono _ _)
      | (with_reducible exact LeO.refl _)
      | (with_reducible exact LeO.none _)
      | (with_reducible refine LeO.ite ?_ ?_)
      | (with_reducible refine LeO.bind ?_ (fun _ => ?_))
      | exact remitterlaw07_good.mono _ _ _
      | exact remitterlaw07_uetr.mono _ _
      | exact LeO.none _
      | refine LeO.ite ?_ ?_
      | refine LeO.bind ?_ (fun _ => ?_)
set_option maxHeartbeats 8000000 in
set_option maxRecDepth 100000 in
theorem remitterlaw07_RefTells.calls (k : Nat) (a0 : ByteArray) (r : Bool) (w : World) (h : remitterlaw07_RefTells.f k a0 = some r) (hG : GW w) (hGP : GWP w) :
    Calls Tryd.prog 3 #[.string a0] w fun e w' => e = .returned (.bool r) ∧ Below w.heap.size w w' := by
  have HG := Aside0.mk hG
  clear hG
  have HGP := Aside0.mk hGP
  clear hGP
  have HB := Aside0.mk (Below.refl w.heap.size w)
  have H : (if (a0.size : Int) > 100 then ((remitterlaw07_wakes.f).bind fun t121 => (some t121)) else ((ref_Check.f a0).bind fun t122 => ((remitterlaw07_good.f k a0 16).bind fun t123 => ((remitterlaw07_say.f t123).bind fun t124 => (if t122 = t124 then ((ref_CheckId.f a0).bind fun t125 => ((remitterlaw07_good.f k a0 35).bind fun t126 => ((remitterlaw07_say.f t126).bind fun t127 => (if t125 = t127 then ((ref_CheckUETR.f a0).bind fun t128 => ((remitterlaw07_uetr.f k a0).bind fun t129 => ((remitterlaw07_say.f t129).bind fun t130 => (if t128 = t130 then ((remitterlaw07_wakes.f).bind fun t131 => (some t131)) else (some false))))) else (some false))))) else (some false)))))) = some r := h
  clear h
  by_cases c2 : (a0.size : Int) > 100
  · rw [if_pos c2] at H
    have c2b0 : decide (100 < (a0.size : Int)) = true := decide_eq_true c2
    have c2b1 : decide (100 < a0.size) = true := decide_eq_true (by omega)
    clear c2
    replace H := Option.bind_eq_some_iff.mp H
    obtain ⟨t121, A30, H⟩ := H
    replace H : (some t121) = some r := H
    have A3 := Aside0.mk A30
    clear A30
    obtain rfl := Option.some.inj H
    go_enter Tryd.func3, Tryd.ntmps3
    go_wp2_with (first | ((with_reducible refine gate_callee (f := 5) rfl ?_); refine goesL_ (some 6) rfl rfl Tryd.func5 (by kernel_rfl) rfl #[] rfl (by (try simp only [List.map_toArray, List.map_cons, List.map_nil]); first | done | rfl | (simp only [List.length_drop, List.length_take]; rfl)) ?_; (with_reducible refine (remitterlaw07_wakes.calls  t121 _ A3.out (GW_below HG.out (by repeat (first | (with_reducible first | exact HB.out | apply below_alloc | apply pw_below_drewN | apply below_drew1) | exact HB.out))) (GWP_below HGP.out (by repeat (first | (with_reducible first | exact HB.out | apply below_alloc | apply pw_below_drewN | apply below_drew1) | exact HB.out)))).mono ?_); rintro e w4 ⟨rfl, hb⟩; refine ⟨_, rfl, ?_⟩; have n0_ := Aside0.mk (below_step (by repeat (first | (with_reducible first | exact HB.out | apply below_alloc | apply pw_below_drewN | apply below_drew1) | exact HB.out)) hb); clear HB; have HB := n0_; clear n0_; (try clear hb); (try clear hb2); (try clear hk); (try clear hi)))
    all_goals (first | (exfalso; simp_all; done) | (exfalso; omega) | (go_ret; exact ⟨by first | rfl | (simp [errW_none, errW_some] <;> rfl) | (simp [*, errW_none, errW_some] <;> rfl), by repeat (first | (with_reducible first | exact HB.out | apply below_alloc | apply pw_below_drewN | apply below_drew1) | exact HB.out)⟩))
  · rw [if_neg c2] at H
    have c2b0 : decide (100 < (a0.size : Int)) = false := decide_eq_false c2
    have c2b1 : decide (100 < a0.size) = false := decide_eq_false (by omega)
    clear c2
    replace H := Option.bind_eq_some_iff.mp H
    obtain ⟨t122, A50, H⟩ := H
    replace H : ((remitterlaw07_good.f k a0 16).bind fun t123 => ((remitterlaw07_say.f t123).bind fun t124 => (if t122 = t124 then ((ref_CheckId.f a0).bind fun t125 => ((remitterlaw07_good.f k a0 35).bind fun t126 => ((remitterlaw07_say.f t126).bind fun t127 => (if t125 = t127 then ((ref_CheckUETR.f a0).bind fun t128 => ((remitterlaw07_uetr.f k a0).bind fun t129 => ((remitterlaw07_say.f t129).bind fun t130 => (if t128 = t130 then ((remitterlaw07_wakes.f).bind fun t131 => (some t131)) else (some false))))) else (some false))))) else (some false)))) = some r := H
    have A5 := Aside0.mk A50
    clear A50
    replace H := Option.bind_eq_some_iff.mp H
    obtain ⟨t123, A60, H⟩ := H
    replace H : ((remitterlaw07_say.f t123).bind fun t124 => (if t122 = t124 then ((ref_CheckId.f a0).bind fun t125 => ((remitterlaw07_good.f k a0 35).bind fun t126 => ((remitterlaw07_say.f t126).bind fun t127 => (if t125 = t127 then ((ref_CheckUETR.f a0).bind fun t128 => ((remitterlaw07_uetr.f k a0).bind fun t129 => ((remitterlaw07_say.f t129).bind fun t130 => (if t128 = t130 then ((remitterlaw07_wakes.f).bind fun t131 => (some t131)) else (some false))))) else (some false))))) else (some false))) = some r := H
    have A6 := Aside0.mk A60
    clear A60
    replace H := Option.bind_eq_some_iff.mp H
    obtain ⟨t124, A70, H⟩ := H
    replace H : (if t122 = t124 then ((ref_CheckId.f a0).bind fun t125 => ((remitterlaw07_good.f k a0 35).bind fun t126 => ((remitterlaw07_say.f t126).bind fun t127 => (if t125 = t127 then ((ref_CheckUETR.f a0).bind fun t128 => ((remitterlaw07_uetr.f k a0).bind fun t129 => ((remitterlaw07_say.f t129).bind fun t130 => (if t128 = t130 then ((remitterlaw07_wakes.f).bind fun t131 => (some t131)) else (some false))))) else (some false))))) else (some false)) = some r := H
    have A7 := Aside0.mk A70
    clear A70
    by_cases c8 : t122 = t124
    · rw [if_pos c8] at H
      have c8b0 : (t122 == t124) = true := beq_iff_eq.mpr c8
      have c8b1 : (t122 != t124) = false := bne_eq_false_iff_eq.mpr c8
      clear c8
      replace H := Option.bind_eq_some_iff.mp H
      obtain ⟨t125, A90, H⟩ := H
      replace H : ((remitterlaw07_good.f k a0 35).bind fun t126 => ((remitterlaw07_say.f t126).bind fun t127 => (if t125 = t127 then ((ref_CheckUETR.f a0).bind fun t128 => ((remitterlaw07_uetr.f k a0).bind fun t129 => ((remitterlaw07_say.f t129).bind fun t130 => (if t128 = t130 then ((remitterlaw07_wakes.f).bind fun t131 => (some t131)) else (some false))))) else (some false)))) = some r := H
      have A9 := Aside0.mk A90
      clear A90
      replace H := Option.bind_eq_some_iff.mp H
      obtain ⟨t126, A100, H⟩ := H
      replace H : ((remitterlaw07_say.f t126).bind fun t127 => (if t125 = t127 then ((ref_CheckUETR.f a0).bind fun t128 => ((remitterlaw07_uetr.f k a0).bind fun t129 => ((remitterlaw07_say.f t129).bind fun t130 => (if t128 = t130 then ((remitterlaw07_wakes.f).bind fun t131 => (some t131)) else (some false))))) else (some false))) = some r := H
      have A10 := Aside0.mk A100
      clear A100
      replace H := Option.bind_eq_some_iff.mp H
      obtain ⟨t127, A110, H⟩ := H
      replace H : (if t125 = t127 then ((ref_CheckUETR.f a0).bind fun t128 => ((remitterlaw07_uetr.f k a0).bind fun t129 => ((remitterlaw07_say.f t129).bind fun t130 => (if t128 = t130 then ((remitterlaw07_wakes.f).bind fun t131 => (some t131)) else (some false))))) else (some false)) = some r := H
      have A11 := Aside0.mk A110
      clear A110
      by_cases c12 : t125 = t127
      · rw [if_pos c12] at H
        have c12b0 : (t125 == t127) = true := beq_iff_eq.mpr c12
        have c12b1 : (t125 != t127) = false := bne_eq_false_iff_eq.mpr c12
        clear c12
        replace H := Option.bind_eq_some_iff.mp H
        obtain ⟨t128, A130, H⟩ := H
        replace H : ((remitterlaw07_uetr.f k a0).bind fun t129 => ((remitterlaw07_say.f t129).bind fun t130 => (if t128 = t130 then ((remitterlaw07_wakes.f).bind fun t131 => (some t131)) else (some false)))) = some r := H
        have A13 := Aside0.mk A130
        clear A130
        replace H := Option.bind_eq_some_iff.mp H
        obtain ⟨t129, A140, H⟩ := H
        replace H : ((remitterlaw07_say.f t129).bind fun t130 => (if t128 = t130 then ((remitterlaw07_wakes.f).bind fun t131 => (some t131)) else (some false))) = some r := H
        have A14 := Aside0.mk A140
        clear A140
        replace H := Option.bind_eq_some_iff.mp H
        obtain ⟨t130, A150, H⟩ := H
        replace H : (if t128 = t130 then ((remitterlaw07_wakes.f).bind fun t131 => (some t131)) else (some false)) = some r := H
        have A15 := Aside0.mk A150
        clear A150
        by_cases c16 : t128 = t130
        · rw [if_pos c16] at H
          have c16b0 : (t128 == t130) = true := beq_iff_eq.mpr c16
          have c16b1 : (t128 != t130) = false := bne_eq_false_iff_eq.mpr c16
          clear c16
          replace H := Option.bind_eq_some_iff.mp H
          obtain ⟨t131, A170, H⟩ := H
          replace H : (some t131) = some r := H
          have A17 := Aside0.mk A170
          clear A170
          obtain rfl := Option.some.inj H
          go_enter Tryd.func3, Tryd.ntmps3
          go_wp2_with (first | ((with_reducible refine gate_callee (f := 6) rfl ?_); refine goesL_ (some 8) rfl rfl Tryd.func6 (by kernel_rfl) rfl #[.string a0] rfl (by (try simp only [List.map_toArray, List.map_cons, List.map_nil]); first | done | rfl | (simp only [List.length_drop, List.length_take]; rfl)) ?_; (with_reducible refine (ref_Check.calls a0 t122 _ A5.out (GW_below HG.out (by repeat (first | (with_reducible first | exact HB.out | apply below_alloc | apply pw_below_drewN | apply below_drew1) | exact HB.out)))).mono ?_); rintro e w18 ⟨rfl, hb⟩; refine ⟨_, rfl, ?_⟩; have n0_ := Aside0.mk (below_step (by repeat (first | (with_reducible first | exact HB.out | apply below_alloc | apply pw_below_drewN | apply below_drew1) | exact HB.out)) hb); clear HB; have HB := n0_; clear n0_; (try clear hb); (try clear hb2); (try clear hk); (try clear hi)) | ((with_reducible refine gate_callee (f := 8) rfl ?_); refine goesL_ (some 10) rfl rfl Tryd.func8 (by kernel_rfl) rfl #[.string a0, .int .i64 16] rfl (by (try simp only [List.map_toArray, List.map_cons, List.map_nil]); first | done | rfl | (simp only [List.length_drop, List.length_take]; rfl)) ?_; (with_reducible refine (remitterlaw07_good.calls k a0 16 t123 _ A6.out).mono ?_); rintro e w' ⟨rfl, ⟨nd, rfl⟩⟩; refine ⟨_, rfl, ?_⟩) | ((with_reducible refine gate_callee (f := 7) rfl ?_); refine goesL_ (some 11) rfl rfl Tryd.func7 (by kernel_rfl) rfl #[.bool t123] rfl (by (try simp only [List.map_toArray, List.map_cons, List.map_nil]); first | done | rfl | (simp only [List.length_drop, List.length_take]; rfl)) ?_; (with_reducible refine (remitterlaw07_say.calls t123 t124 _ A7.out).mono ?_); rintro e w' ⟨rfl, ⟨nd, rfl⟩⟩; refine ⟨_, rfl, ?_⟩) | (go_at_call 9; (with_reducible refine (ref_CheckId.calls a0 t125 _ A9.out (GW_below HG.out (by repeat (first | (with_reducible first | exact HB.out | apply below_alloc | apply pw_below_drewN | apply below_drew1) | exact HB.out)))).mono ?_); rintro e w19 ⟨rfl, hb⟩; have n0_ := Aside0.mk (below_step (by repeat (first | (with_reducible first | exact HB.out | apply below_alloc | apply pw_below_drewN | apply below_drew1) | exact HB.out)) hb); clear HB; have HB := n0_; clear n0_; (try clear hb); (try clear hb2); (try clear hk); (try clear hi)) | (go_at_call 8; (with_reducible refine (remitterlaw07_good.calls k a0 35 t126 _ A10.out).mono ?_); rintro e w' ⟨rfl, ⟨nd, rfl⟩⟩) | (go_at_call 7; (with_reducible refine (remitterlaw07_say.calls t126 t127 _ A11.out).mono ?_); rintro e w' ⟨rfl, ⟨nd, rfl⟩⟩) | (go_at_call 10; (with_reducible refine (ref_CheckUETR.calls a0 t128 _ A13.out).mono ?_); rintro e w20 ⟨rfl, hb⟩; have n0_ := Aside0.mk (below_step (by repeat (first | (with_reducible first | exact HB.out | apply below_alloc | apply pw_below_drewN | apply below_drew1) | exact HB.out)) hb); clear HB; have HB := n0_; clear n0_; (try clear hb); (try clear hb2); (try clear hk); (try clear hi)) | (go_at_call 11; (with_reducible refine (remitterlaw07_uetr.calls k a0 t129 _ A14.out).mono ?_); rintro e w' ⟨rfl, ⟨nd, rfl⟩⟩) | (go_at_call 7; (with_reducible refine (remitterlaw07_say.calls t129 t130 _ A15.out).mono ?_); rintro e w' ⟨rfl, ⟨nd, rfl⟩⟩) | (go_at_call 5; (with_reducible refine (remitterlaw07_wakes.calls  t131 _ A17.out (GW_below HG.out (by repeat (first | (with_reducible first | exact HB.out | apply below_alloc | apply pw_below_drewN | apply below_drew1) | exact HB.out))) (GWP_below HGP.out (by repeat (first | (with_reducible first | exact HB.out | apply below_alloc | apply pw_below_drewN | apply below_drew1) | exact HB.out)))).mono ?_); rintro e w21 ⟨rfl, hb⟩; have n0_ := Aside0.mk (below_step (by repeat (first | (with_reducible first | exact HB.out | apply below_alloc | apply pw_below_drewN | apply below_drew1) | exact HB.out)) hb); clear HB; have HB := n0_; clear n0_; (try clear hb); (try clear hb2); (try clear hk); (try clear hi)))
          all_goals (first | (exfalso; simp_all; done) | (exfalso; omega) | (go_ret; exact ⟨by first | rfl | (simp [errW_none, errW_some] <;> rfl) | (simp [*, errW_none, errW_some] <;> rfl), by repeat (first | (with_reducible first | exact HB.out | apply below_alloc | apply pw_below_drewN | apply below_drew1) | exact HB.out)⟩))
        · rw [if_neg c16] at H
          have c16b0 : (t128 == t130) = false := beq_eq_false_iff_ne.mpr c16
          have c16b1 : (t128 != t130) = true := bne_iff_ne.mpr c16
          obtain rfl := Option.some.inj H
          go_enter Tryd.func3, Tryd.ntmps3
          go_wp2_with (first | ((with_reducible refine gate_callee (f := 6) rfl ?_); refine goesL_ (some 8) rfl rfl Tryd.func6 (by kernel_rfl) rfl #[.string a0] rfl (by (try simp only [List.map_toArray, List.map_cons, List.map_nil]); first | done | rfl | (simp only [List.length_drop, List.length_take]; rfl)) ?_; (with_reducible refine (ref_Check.calls a0 t122 _ A5.out (GW_below HG.out (by repeat (first | (with_reducible first | exact HB.out | apply below_alloc | apply pw_below_drewN | apply below_drew1) | exact HB.out)))).mono ?_); rintro e w22 ⟨rfl, hb⟩; refine ⟨_, rfl, ?_⟩; have n0_ := Aside0.mk (below_step (by repeat (first | (with_reducible first | exact HB.out | apply below_alloc | apply pw_below_drewN | apply below_drew1) | exact HB.out)) hb); clear HB; have HB := n0_; clear n0_; (try clear hb); (try clear hb2); (try clear hk); (try clear hi)) | ((with_reducible refine gate_callee (f := 8) rfl ?_); refine goesL_ (some 10) rfl rfl Tryd.func8 (by kernel_rfl) rfl #[.string a0, .int .i64 16] rfl (by (try simp only [List.map_toArray, List.map_cons, List.map_nil]); first | done | rfl | (simp only [List.length_drop, List.length_take]; rfl)) ?_; (with_reducible refine (remitterlaw07_good.calls k a0 16 t123 _ A6.out).mono ?_); rintro e w' ⟨rfl, ⟨nd, rfl⟩⟩; refine ⟨_, rfl, ?_⟩) | ((with_reducible refine gate_callee (f := 7) rfl ?_); refine goesL_ (some 11) rfl rfl Tryd.func7 (by kernel_rfl) rfl #[.bool t123] rfl (by (try simp only [List.map_toArray, List.map_cons, List.map_nil]); first | done | rfl | (simp only [List.length_drop, List.length_take]; rfl)) ?_; (with_reducible refine (remitterlaw07_say.calls t123 t124 _ A7.out).mono ?_); rintro e w' ⟨rfl, ⟨nd, rfl⟩⟩; refine ⟨_, rfl, ?_⟩) | (go_at_call 9; (with_reducible refine (ref_CheckId.calls a0 t125 _ A9.out (GW_below HG.out (by repeat (first | (with_reducible first | exact HB.out | apply below_alloc | apply pw_below_drewN | apply below_drew1) | exact HB.out)))).mono ?_); rintro e w23 ⟨rfl, hb⟩; have n0_ := Aside0.mk (below_step (by repeat (first | (with_reducible first | exact HB.out | apply below_alloc | apply pw_below_drewN | apply below_drew1) | exact HB.out)) hb); clear HB; have HB := n0_; clear n0_; (try clear hb); (try clear hb2); (try clear hk); (try clear hi)) | (go_at_call 8; (with_reducible refine (remitterlaw07_good.calls k a0 35 t126 _ A10.out).mono ?_); rintro e w' ⟨rfl, ⟨nd, rfl⟩⟩) | (go_at_call 7; (with_reducible refine (remitterlaw07_say.calls t126 t127 _ A11.out).mono ?_); rintro e w' ⟨rfl, ⟨nd, rfl⟩⟩) | (go_at_call 10; (with_reducible refine (ref_CheckUETR.calls a0 t128 _ A13.out).mono ?_); rintro e w24 ⟨rfl, hb⟩; have n0_ := Aside0.mk (below_step (by repeat (first | (with_reducible first | exact HB.out | apply below_alloc | apply pw_below_drewN | apply below_drew1) | exact HB.out)) hb); clear HB; have HB := n0_; clear n0_; (try clear hb); (try clear hb2); (try clear hk); (try clear hi)) | (go_at_call 11; (with_reducible refine (remitterlaw07_uetr.calls k a0 t129 _ A14.out).mono ?_); rintro e w' ⟨rfl, ⟨nd, rfl⟩⟩) | (go_at_call 7; (with_reducible refine (remitterlaw07_say.calls t129 t130 _ A15.out).mono ?_); rintro e w' ⟨rfl, ⟨nd, rfl⟩⟩))
          all_goals (first | (exfalso; simp_all; done) | (exfalso; omega) | (go_ret; exact ⟨by first | rfl | (simp [errW_none, errW_some] <;> rfl) | (simp [*, errW_none, errW_some] <;> rfl), by repeat (first | (with_reducible first | exact HB.out | apply below_alloc | apply pw_below_drewN | apply below_drew1) | exact HB.out)⟩))
      · rw [if_neg c12] at H
        have c12b0 : (t125 == t127) = false := beq_eq_false_iff_ne.mpr c12
        have c12b1 : (t125 != t127) = true := bne_iff_ne.mpr c12
        obtain rfl := Option.some.inj H
        go_enter Tryd.func3, Tryd.ntmps3
        go_wp2_with (first | ((with_reducible refine gate_callee (f := 6) rfl ?_); refine goesL_ (some 8) rfl rfl Tryd.func6 (by kernel_rfl) rfl #[.string a0] rfl (by (try simp only [List.map_toArray, List.map_cons, List.map_nil]); first | done | rfl | (simp only [List.length_drop, List.length_take]; rfl)) ?_; (with_reducible refine (ref_Check.calls a0 t122 _ A5.out (GW_below HG.out (by repeat (first | (with_reducible first | exact HB.out | apply below_alloc | apply pw_below_drewN | apply below_drew1) | exact HB.out)))).mono ?_); rintro e w25 ⟨rfl, hb⟩; refine ⟨_, rfl, ?_⟩; have n0_ := Aside0.mk (below_step (by repeat (first | (with_reducible first | exact HB.out | apply below_alloc | apply pw_below_drewN | apply below_drew1) | exact HB.out)) hb); clear HB; have HB := n0_; clear n0_; (try clear hb); (try clear hb2); (try clear hk); (try clear hi)) | ((with_reducible refine gate_callee (f := 8) rfl ?_); refine goesL_ (some 10) rfl rfl Tryd.func8 (by kernel_rfl) rfl #[.string a0, .int .i64 16] rfl (by (try simp only [List.map_toArray, List.map_cons, List.map_nil]); first | done | rfl | (simp only [List.length_drop, List.length_take]; rfl)) ?_; (with_reducible refine (remitterlaw07_good.calls k a0 16 t123 _ A6.out).mono ?_); rintro e w' ⟨rfl, ⟨nd, rfl⟩⟩; refine ⟨_, rfl, ?_⟩) | ((with_reducible refine gate_callee (f := 7) rfl ?_); refine goesL_ (some 11) rfl rfl Tryd.func7 (by kernel_rfl) rfl #[.bool t123] rfl (by (try simp only [List.map_toArray, List.map_cons, List.map_nil]); first | done | rfl | (simp only [List.length_drop, List.length_take]; rfl)) ?_; (with_reducible refine (remitterlaw07_say.calls t123 t124 _ A7.out).mono ?_); rintro e w' ⟨rfl, ⟨nd, rfl⟩⟩; refine ⟨_, rfl, ?_⟩) | (go_at_call 9; (with_reducible refine (ref_CheckId.calls a0 t125 _ A9.out (GW_below HG.out (by repeat (first | (with_reducible first | exact HB.out | apply below_alloc | apply pw_below_drewN | apply below_drew1) | exact HB.out)))).mono ?_); rintro e w26 ⟨rfl, hb⟩; have n0_ := Aside0.mk (below_step (by repeat (first | (with_reducible first | exact HB.out | apply below_alloc | apply pw_below_drewN | apply below_drew1) | exact HB.out)) hb); clear HB; have HB := n0_; clear n0_; (try clear hb); (try clear hb2); (try clear hk); (try clear hi)) | (go_at_call 8; (with_reducible refine (remitterlaw07_good.calls k a0 35 t126 _ A10.out).mono ?_); rintro e w' ⟨rfl, ⟨nd, rfl⟩⟩) | (go_at_call 7; (with_reducible refine (remitterlaw07_say.calls t126 t127 _ A11.out).mono ?_); rintro e w' ⟨rfl, ⟨nd, rfl⟩⟩))
        all_goals (first | (exfalso; simp_all; done) | (exfalso; omega) | (go_ret; exact ⟨by first | rfl | (simp [errW_none, errW_some] <;> rfl) | (simp [*, errW_none, errW_some] <;> rfl), by repeat (first | (with_reducible first | exact HB.out | apply below_alloc | apply pw_below_drewN | apply below_drew1) | exact HB.out)⟩))
    · rw [if_neg c8] at H
      have c8b0 : (t122 == t124) = false := beq_eq_false_iff_ne.mpr c8
      have c8b1 : (t122 != t124) = true := bne_iff_ne.mpr c8
      obtain rfl := Option.some.inj H
      go_enter Tryd.func3, Tryd.ntmps3
      go_wp2_with (first | ((with_reducible refine gate_callee (f := 6) rfl ?_); refine goesL_ (some 8) rfl rfl Tryd.func6 (by kernel_rfl) rfl #[.string a0] rfl (by (try simp only [List.map_toArray, List.map_cons, List.map_nil]); first | done | rfl | (simp only [List.length_drop, List.length_take]; rfl)) ?_; (with_reducible refine (ref_Check.calls a0 t122 _ A5.out (GW_below HG.out (by repeat (first | (with_reducible first | exact HB.out | apply below_alloc | apply pw_below_drewN | apply below_drew1) | exact HB.out)))).mono ?_); rintro e w27 ⟨rfl, hb⟩; refine ⟨_, rfl, ?_⟩; have n0_ := Aside0.mk (below_step (by repeat (first | (with_reducible first | exact HB.out | apply below_alloc | apply pw_below_drewN | apply below_drew1) | exact HB.out)) hb); clear HB; have HB := n0_; clear n0_; (try clear hb); (try clear hb2); (try clear hk); (try clear hi)) | ((with_reducible refine gate_callee (f := 8) rfl ?_); refine goesL_ (some 10) rfl rfl Tryd.func8 (by kernel_rfl) rfl #[.string a0, .int .i64 16] rfl (by (try simp only [List.map_toArray, List.map_cons, List.map_nil]); first | done | rfl | (simp only [List.length_drop, List.length_take]; rfl)) ?_; (with_reducible refine (remitterlaw07_good.calls k a0 16 t123 _ A6.out).mono ?_); rintro e w' ⟨rfl, ⟨nd, rfl⟩⟩; refine ⟨_, rfl, ?_⟩) | ((with_reducible refine gate_callee (f := 7) rfl ?_); refine goesL_ (some 11) rfl rfl Tryd.func7 (by kernel_rfl) rfl #[.bool t123] rfl (by (try simp only [List.map_toArray, List.map_cons, List.map_nil]); first | done | rfl | (simp only [List.length_drop, List.length_take]; rfl)) ?_; (with_reducible refine (remitterlaw07_say.calls t123 t124 _ A7.out).mono ?_); rintro e w' ⟨rfl, ⟨nd, rfl⟩⟩; refine ⟨_, rfl, ?_⟩))
      all_goals (first | (exfalso; simp_all; done) | (exfalso; omega) | (go_ret; exact ⟨by first | rfl | (simp [errW_none, errW_some] <;> rfl) | (simp [*, errW_none, errW_some] <;> rfl), by repeat (first | (with_reducible first | exact HB.out | apply below_alloc | apply pw_below_drewN | apply below_drew1) | exact HB.out)⟩))

/-- THE ONE PURE STATEMENT of remitterlaw07_RefTells: yours. -/
def remitterlaw07_RefTells.Pure : Prop := ∀ (a0 : ByteArray), a0.size ≤ 140737488351232 → ∃ k, remitterlaw07_RefTells.f k a0 = some true
theorem remitterlaw07_RefTells.walk (P : remitterlaw07_RefTells.Pure) (a0 : ByteArray) (w : World) (w0 : a0.size ≤ 140737488351232) (hG : GW w) (hGP : GWP w) :
    Calls Tryd.prog 3 #[.string a0] w fun e w' => e = .returned (.bool true) ∧ Below w.heap.size w w' := by
  obtain ⟨k, h⟩ := P a0 w0
  refine (remitterlaw07_RefTells.calls k a0 true w h hG hGP).mono ?_
  rintro e w' ⟨rfl, hd⟩
  exact ⟨rfl, hd⟩

end Go.Proofs.YtiadcjdpeegbbaaDoor.PAll

-- Made by this session's wip/tools/gprint.py, which runs the kit's print program; some functions' contracts are proved by hand.
import Derived.Test.YtjemnphmjbodfaaDoorPAllx0
import Derived.Test.YtjemnphmjbodfaaDoorPAllx3
import Derived.Test.YtjemnphmjbodfaaDoorPAllx4
namespace Go.Proofs.YtjemnphmjbodfaaDoor.PAll
open Go.RowKit Go.Proofs.YtjemnphmjbodfaaDoorW.PrintWords Go.Proofs.YtjemnphmjbodfaaDoorW.PrintLast Go.Proofs.YtjemnphmjbodfaaDoorW.PrintMore
attribute [local go_sem] max2_int min2_int max_two min_two max_three min_three max_four min_four   -- for this text's walks alone
set_option linter.unusedVariables false
set_option linter.unusedSimpArgs false

/-! ### remitterref06_Moment: function 16 -/
def remitterref06_Moment.j0 : Nat → ByteArray → Bool → Option (Bool)
  | 0, _, _ => none
  | k + 1, x0, x29 => if x29 = true then (some false) else ((remitterref06_digits.f k x0 11 2).bind fun t133 => ((remitterref06_digits.f k x0 14 2).bind fun t134 => ((remitterref06_digits.f k x0 17 2).bind fun t135 => (if t133 ≥ 0 then (if t133 < 24 then (if t134 ≥ 0 then (if t134 < 60 then (if t135 ≥ 0 then (some (decide (t135 < 60))) else (some false)) else (some false)) else (some false)) else (some false)) else (some false)))))
def remitterref06_Moment.f (k : Nat) (a0 : ByteArray) : Option (Bool) := if (a0.size : Int) = 19 then (if 0 ≤ 10 then (if 10 ≤ (a0.size : Int) then ((remitterref06_XML.f k (a0.extract 0 10)).bind fun t132 => (if t132 < 0 then (remitterref06_Moment.j0 k a0 true) else (if 10 < (a0.size : Int) then (if (bt a0 10) = 84 then (if 13 < (a0.size : Int) then (if (bt a0 13) = 58 then (if 16 < (a0.size : Int) then (remitterref06_Moment.j0 k a0 ((bt a0 16) != 58)) else (none)) else (remitterref06_Moment.j0 k a0 true)) else (none)) else (remitterref06_Moment.j0 k a0 true)) else (none)))) else (none)) else (none)) else (remitterref06_Moment.j0 k a0 true)
theorem remitterref06_Moment.mono_l : ∀ k, (∀ y0 y1, LeO (remitterref06_Moment.j0 k y0 y1) (remitterref06_Moment.j0 (k + 1) y0 y1))
  | 0 => fun _ _ r h => by simp [remitterref06_Moment.j0] at h
  | k + 1 => by
    have ih0 := remitterref06_Moment.mono_l k
    · intro y0 y1
      unfold remitterref06_Moment.j0
      repeat' first
      | (with_reducible exact ih0 _ _)
      | (with_reducible exact remitterref06_XML.mono _ _)
      | (with_reducible exact remitterref06_digits.mono _ _ _ _)
      | (with_reducible exact LeO.refl _)
      | (with_reducible exact LeO.none _)
      | (with_reducible refine LeO.ite ?_ ?_)
      | (with_reducible refine LeO.bind ?_ (fun _ => ?_))
      | exact ih0 _ _
      | exact remitterref06_XML.mono _ _
      | exact remitterref06_digits.mono _ _ _ _
      | exact LeO.none _
      | refine LeO.ite ?_ ?_
      | refine LeO.bind ?_ (fun _ => ?_)
theorem remitterref06_Moment.mono : ∀ a0 k, LeO (remitterref06_Moment.f k a0) (remitterref06_Moment.f (k + 1) a0) := by
  intro a0 k
  have ih0 := remitterref06_Moment.mono_l k
  unfold remitterref06_Moment.f
  repeat' first
      | (with_reducible exact ih0 _ _)
      | (with_reducible exact remitterref06_XML.mono _ _)
      | (with_reducible exact remitterref06_digits.mono _ _ _ _)
      | (with_reducible exact LeO.refl _)
      | (with_reducible exact LeO.none _)
      | (with_reducible refine LeO.ite ?_ ?_)
      | (with_reducible refine LeO.bind ?_ (fun _ => ?_))
      | exact ih0 _ _
      | exact remitterref06_XML.mono _ _
      | exact remitterref06_digits.mono _ _ _ _
      | exact LeO.none _
      | refine LeO.ite ?_ ?_
      | refine LeO.bind ?_ (fun _ => ?_)
set_option maxHeartbeats 8000000 in
set_option maxRecDepth 100000 in
theorem remitterref06_Moment.calls (k : Nat) (a0 : ByteArray) (r : Bool) (w : World) (h : remitterref06_Moment.f k a0 = some r) :
    Calls Tryd.prog 16 #[.string a0] w fun e w' => e = .returned (.bool r) ∧ Drawn0 w w' := by
  have H : (if (a0.size : Int) = 19 then (if 0 ≤ 10 then (if 10 ≤ (a0.size : Int) then ((remitterref06_XML.f k (a0.extract 0 10)).bind fun t132 => (if t132 < 0 then (remitterref06_Moment.j0 k a0 true) else (if 10 < (a0.size : Int) then (if (bt a0 10) = 84 then (if 13 < (a0.size : Int) then (if (bt a0 13) = 58 then (if 16 < (a0.size : Int) then (remitterref06_Moment.j0 k a0 ((bt a0 16) != 58)) else (none)) else (remitterref06_Moment.j0 k a0 true)) else (none)) else (remitterref06_Moment.j0 k a0 true)) else (none)))) else (none)) else (none)) else (remitterref06_Moment.j0 k a0 true)) = some r := h
  clear h
  have HC2 := Aside0.mk H
  clear H
  go_enter Tryd.func16, Tryd.ntmps16
  go_upto_region 1 with (fail)
  go_cut [29] (fun v29 wc => ∃ (kq : Nat) (x29_1 : Bool), v29 = .bool x29_1 ∧ Aside0 (remitterref06_Moment.j0 kq a0 x29_1 = some r) ∧ Aside0 (kq ≤ k) ∧ Drawn0 w wc)
  case first =>
    have H := HC2.out
    clear HC2
    by_cases c3 : (a0.size : Int) = 19
    · rw [if_pos c3] at H
      have c3b0 : ((a0.size : Int) == 19) = true := beq_iff_eq.mpr c3
      have c3b1 : ((a0.size : Int) != 19) = false := bne_eq_false_iff_eq.mpr c3
      clear c3
      (first | rw [c3b0] | (simp only [i64_w, i32_w]; rw [c3b0]) | skip)
      by_cases c4 : 0 ≤ 10
      · rw [if_pos c4] at H
        have c4b0 := eq_true c4
        have c4b1 : decide (0 ≤ 10) = true := decide_eq_true c4
        clear c4
        by_cases c5 : 10 ≤ (a0.size : Int)
        · rw [if_pos c5] at H
          have c5b0 := eq_true c5
          have c5b1 : decide (10 ≤ (a0.size : Int)) = true := decide_eq_true c5
          clear c5
          replace H := Option.bind_eq_some_iff.mp H
          obtain ⟨t132, A60, H⟩ := H
          replace H : (if t132 < 0 then (remitterref06_Moment.j0 k a0 true) else (if 10 < (a0.size : Int) then (if (bt a0 10) = 84 then (if 13 < (a0.size : Int) then (if (bt a0 13) = 58 then (if 16 < (a0.size : Int) then (remitterref06_Moment.j0 k a0 ((bt a0 16) != 58)) else (none)) else (remitterref06_Moment.j0 k a0 true)) else (none)) else (remitterref06_Moment.j0 k a0 true)) else (none))) = some r := H
          have A6 := Aside0.mk A60
          clear A60
          by_cases c7 : t132 < 0
          · rw [if_pos c7] at H
            have c7b0 : decide (t132 < 0) = true := decide_eq_true c7
            clear c7
            have H' := Aside0.mk H
            clear H
            go_wp2_with (first | (go_at_call 11; (with_reducible refine (remitterref06_XML.calls k (a0.extract 0 10) t132 _ A6.out).mono ?_); rintro e w' ⟨rfl, ⟨nd, rfl⟩⟩))
            go_meet
            case rel => exact ⟨_, (true), (by first | rfl | (simp; done) | (simp [*]; done) | exact congrArg Value.bool (Go.Proofs.YtjemnphmjbodfaaDoor.GLib.not_isEmpty _) | exact congrArg Value.bool (Go.Proofs.YtjemnphmjbodfaaDoor.GLib.not_isEmpty _).symm), H', ⟨by first | omega | exact Nat.le_refl _⟩, by repeat (first | exact Drawn0.refl _ | apply Drawn0.step)⟩
          · rw [if_neg c7] at H
            have c7b0 : decide (t132 < 0) = false := decide_eq_false c7
            clear c7
            by_cases c8 : 10 < (a0.size : Int)
            · rw [if_pos c8] at H
              have c8b0 : decide (10 < (a0.size : Int)) = true := decide_eq_true c8
              have c8b1 : decide (10 < a0.size) = true := decide_eq_true (by omega)
              clear c8
              by_cases c10 : (bt a0 10) = 84
              · rw [if_pos c10] at H
                have c10b0 : ((bt a0 10) == 84) = true := beq_iff_eq.mpr c10
                have c10b1 : ((bt a0 10) != 84) = false := bne_eq_false_iff_eq.mpr c10
                clear c10
                by_cases c11 : 13 < (a0.size : Int)
                · rw [if_pos c11] at H
                  have c11b0 : decide (13 < (a0.size : Int)) = true := decide_eq_true c11
                  have c11b1 : decide (13 < a0.size) = true := decide_eq_true (by omega)
                  clear c11
                  by_cases c13 : (bt a0 13) = 58
                  · rw [if_pos c13] at H
                    have c13b0 : ((bt a0 13) == 58) = true := beq_iff_eq.mpr c13
                    have c13b1 : ((bt a0 13) != 58) = false := bne_eq_false_iff_eq.mpr c13
                    clear c13
                    by_cases c14 : 16 < (a0.size : Int)
                    · rw [if_pos c14] at H
                      have c14b0 : decide (16 < (a0.size : Int)) = true := decide_eq_true c14
                      have c14b1 : decide (16 < a0.size) = true := decide_eq_true (by omega)
                      clear c14
                      have H' := Aside0.mk H
                      clear H
                      go_wp2_with (first | (go_at_call 11; (with_reducible refine (remitterref06_XML.calls k (a0.extract 0 10) t132 _ A6.out).mono ?_); rintro e w' ⟨rfl, ⟨nd, rfl⟩⟩; have p9 : 0 ≤ (10 : Int) := (by omega); have q9 : 10 < a0.size := (by have : (10 : Int) < (a0.size : Int) := of_decide_eq_true (by first | (with_reducible assumption) | assumption); omega); have hx9 : ∀ h : 10 < a0.size, ((a0[10]'h).toNat : Int) = bt a0 10 := bt_at a0 10; clear p9; have qi9 : (10 < (a0.size : Int)) = True := eq_true (of_decide_eq_true (by first | (with_reducible assumption) | assumption)); replace q9 := eq_true q9; have p12 : 0 ≤ (13 : Int) := (by omega); have q12 : 13 < a0.size := (by have : (13 : Int) < (a0.size : Int) := of_decide_eq_true (by first | (with_reducible assumption) | assumption); omega); have hx12 : ∀ h : 13 < a0.size, ((a0[13]'h).toNat : Int) = bt a0 13 := bt_at a0 13; clear p12; have qi12 : (13 < (a0.size : Int)) = True := eq_true (of_decide_eq_true (by first | (with_reducible assumption) | assumption)); replace q12 := eq_true q12; have p15 : 0 ≤ (16 : Int) := (by omega); have q15 : 16 < a0.size := (by have : (16 : Int) < (a0.size : Int) := of_decide_eq_true (by first | (with_reducible assumption) | assumption); omega); have hx15 : ∀ h : 16 < a0.size, ((a0[16]'h).toNat : Int) = bt a0 16 := bt_at a0 16; clear p15; have qi15 : (16 < (a0.size : Int)) = True := eq_true (of_decide_eq_true (by first | (with_reducible assumption) | assumption)); replace q15 := eq_true q15))
                      go_meet
                      case rel => exact ⟨_, (((bt a0 16) != 58)), (by first | rfl | (simp; done) | (simp [*]; done) | exact congrArg Value.bool (Go.Proofs.YtjemnphmjbodfaaDoor.GLib.not_isEmpty _) | exact congrArg Value.bool (Go.Proofs.YtjemnphmjbodfaaDoor.GLib.not_isEmpty _).symm), H', ⟨by first | omega | exact Nat.le_refl _⟩, by repeat (first | exact Drawn0.refl _ | apply Drawn0.step)⟩
                    · rw [if_neg c14] at H
                      exact absurd H (by simp)
                  · rw [if_neg c13] at H
                    have c13b0 : ((bt a0 13) == 58) = false := beq_eq_false_iff_ne.mpr c13
                    have c13b1 : ((bt a0 13) != 58) = true := bne_iff_ne.mpr c13
                    have H' := Aside0.mk H
                    clear H
                    go_wp2_with (first | (go_at_call 11; (with_reducible refine (remitterref06_XML.calls k (a0.extract 0 10) t132 _ A6.out).mono ?_); rintro e w' ⟨rfl, ⟨nd, rfl⟩⟩; have p9 : 0 ≤ (10 : Int) := (by omega); have q9 : 10 < a0.size := (by have : (10 : Int) < (a0.size : Int) := of_decide_eq_true (by first | (with_reducible assumption) | assumption); omega); have hx9 : ∀ h : 10 < a0.size, ((a0[10]'h).toNat : Int) = bt a0 10 := bt_at a0 10; clear p9; have qi9 : (10 < (a0.size : Int)) = True := eq_true (of_decide_eq_true (by first | (with_reducible assumption) | assumption)); replace q9 := eq_true q9; have p12 : 0 ≤ (13 : Int) := (by omega); have q12 : 13 < a0.size := (by have : (13 : Int) < (a0.size : Int) := of_decide_eq_true (by first | (with_reducible assumption) | assumption); omega); have hx12 : ∀ h : 13 < a0.size, ((a0[13]'h).toNat : Int) = bt a0 13 := bt_at a0 13; clear p12; have qi12 : (13 < (a0.size : Int)) = True := eq_true (of_decide_eq_true (by first | (with_reducible assumption) | assumption)); replace q12 := eq_true q12))
                    go_meet
                    case rel => exact ⟨_, (true), (by first | rfl | (simp; done) | (simp [*]; done) | exact congrArg Value.bool (Go.Proofs.YtjemnphmjbodfaaDoor.GLib.not_isEmpty _) | exact congrArg Value.bool (Go.Proofs.YtjemnphmjbodfaaDoor.GLib.not_isEmpty _).symm), H', ⟨by first | omega | exact Nat.le_refl _⟩, by repeat (first | exact Drawn0.refl _ | apply Drawn0.step)⟩
                · rw [if_neg c11] at H
                  exact absurd H (by simp)
              · rw [if_neg c10] at H
                have c10b0 : ((bt a0 10) == 84) = false := beq_eq_false_iff_ne.mpr c10
                have c10b1 : ((bt a0 10) != 84) = true := bne_iff_ne.mpr c10
                have H' := Aside0.mk H
                clear H
                go_wp2_with (first | (go_at_call 11; (with_reducible refine (remitterref06_XML.calls k (a0.extract 0 10) t132 _ A6.out).mono ?_); rintro e w' ⟨rfl, ⟨nd, rfl⟩⟩; have p9 : 0 ≤ (10 : Int) := (by omega); have q9 : 10 < a0.size := (by have : (10 : Int) < (a0.size : Int) := of_decide_eq_true (by first | (with_reducible assumption) | assumption); omega); have hx9 : ∀ h : 10 < a0.size, ((a0[10]'h).toNat : Int) = bt a0 10 := bt_at a0 10; clear p9; have qi9 : (10 < (a0.size : Int)) = True := eq_true (of_decide_eq_true (by first | (with_reducible assumption) | assumption)); replace q9 := eq_true q9))
                go_meet
                case rel => exact ⟨_, (true), (by first | rfl | (simp; done) | (simp [*]; done) | exact congrArg Value.bool (Go.Proofs.YtjemnphmjbodfaaDoor.GLib.not_isEmpty _) | exact congrArg Value.bool (Go.Proofs.YtjemnphmjbodfaaDoor.GLib.not_isEmpty _).symm), H', ⟨by first | omega | exact Nat.le_refl _⟩, by repeat (first | exact Drawn0.refl _ | apply Drawn0.step)⟩
            · rw [if_neg c8] at H
              exact absurd H (by simp)
        · rw [if_neg c5] at H
          exact absurd H (by simp)
      · rw [if_neg c4] at H
        exact absurd H (by simp)
    · rw [if_neg c3] at H
      have c3b0 : ((a0.size : Int) == 19) = false := beq_eq_false_iff_ne.mpr c3
      have c3b1 : ((a0.size : Int) != 19) = true := bne_iff_ne.mpr c3
      (first | rw [c3b0] | (simp only [i64_w, i32_w]; rw [c3b0]) | skip)
      have H' := Aside0.mk H
      clear H
      go_wp2
      go_meet
      case rel => exact ⟨_, (true), (by first | rfl | (simp; done) | (simp [*]; done) | exact congrArg Value.bool (Go.Proofs.YtjemnphmjbodfaaDoor.GLib.not_isEmpty _) | exact congrArg Value.bool (Go.Proofs.YtjemnphmjbodfaaDoor.GLib.not_isEmpty _).symm), H', ⟨by first | omega | exact Nat.le_refl _⟩, by repeat (first | exact Drawn0.refl _ | apply Drawn0.step)⟩
  case rest =>
    clear HC2
    try clear c1
    try clear p1
    try clear q1
    try clear hx1
    try clear qi1
    try clear p2
    try clear c3
    try clear c3b0
    try clear c3b1
    try clear c4
    try clear c4b0
    try clear c4b1
    try clear c5
    try clear c5b0
    try clear c5b1
    try clear c7
    try clear c7b0
    try clear c8
    try clear c8b0
    try clear c8b1
    try clear p9
    try clear q9
    try clear hx9
    try clear qi9
    try clear c10
    try clear c10b0
    try clear c10b1
    try clear c11
    try clear c11b0
    try clear c11b1
    try clear p12
    try clear q12
    try clear hx12
    try clear qi12
    try clear c13
    try clear c13b0
    try clear c13b1
    try clear c14
    try clear c14b0
    try clear c14b1
    try clear p15
    try clear q15
    try clear hx15
    try clear qi15
    try clear p12
    try clear p15
    try clear p9
    try clear q12
    try clear q15
    try clear q9
    obtain ⟨kq, x29_1, rfl, HA, HJ1, ⟨mc1, rfl⟩⟩ := hcut
    cases kq with
    | zero => exact absurd HA.out (by simp [remitterref06_Moment.j0])
    | succ kj1 =>
      have H := HA.out
      clear HA
      simp only [remitterref06_Moment.j0] at H
      by_cases c16 : x29_1 = true
      · subst c16
        have H1 : (some false) = some r := by rw [if_pos rfl] at H; exact H
        clear H
        have H := H1
        clear H1
        obtain rfl := Option.some.inj H
        go_wp2
        all_goals (first | (exfalso; simp_all; done) | (exfalso; omega) | (go_ret; exact ⟨by first | rfl | (simp; done) | (simp [*]; done), by repeat (first | exact Drawn0.refl _ | apply Drawn0.step)⟩))
      · replace c16 := Bool.eq_false_iff.mpr c16
        subst c16
        have H1 : ((remitterref06_digits.f kj1 a0 11 2).bind fun t133 => ((remitterref06_digits.f kj1 a0 14 2).bind fun t134 => ((remitterref06_digits.f kj1 a0 17 2).bind fun t135 => (if t133 ≥ 0 then (if t133 < 24 then (if t134 ≥ 0 then (if t134 < 60 then (if t135 ≥ 0 then (some (decide (t135 < 60))) else (some false)) else (some false)) else (some false)) else (some false)) else (some false))))) = some r := by rw [if_neg (show ¬ (false = true) by decide)] at H; exact H
        clear H
        have H := H1
        clear H1
        replace H := Option.bind_eq_some_iff.mp H
        obtain ⟨t133, A170, H⟩ := H
        replace H : ((remitterref06_digits.f kj1 a0 14 2).bind fun t134 => ((remitterref06_digits.f kj1 a0 17 2).bind fun t135 => (if t133 ≥ 0 then (if t133 < 24 then (if t134 ≥ 0 then (if t134 < 60 then (if t135 ≥ 0 then (some (decide (t135 < 60))) else (some false)) else (some false)) else (some false)) else (some false)) else (some false)))) = some r := H
        have A17 := Aside0.mk A170
        clear A170
        replace H := Option.bind_eq_some_iff.mp H
        obtain ⟨t134, A180, H⟩ := H
        replace H : ((remitterref06_digits.f kj1 a0 17 2).bind fun t135 => (if t133 ≥ 0 then (if t133 < 24 then (if t134 ≥ 0 then (if t134 < 60 then (if t135 ≥ 0 then (some (decide (t135 < 60))) else (some false)) else (some false)) else (some false)) else (some false)) else (some false))) = some r := H
        have A18 := Aside0.mk A180
        clear A180
        replace H := Option.bind_eq_some_iff.mp H
        obtain ⟨t135, A190, H⟩ := H
        replace H : (if t133 ≥ 0 then (if t133 < 24 then (if t134 ≥ 0 then (if t134 < 60 then (if t135 ≥ 0 then (some (decide (t135 < 60))) else (some false)) else (some false)) else (some false)) else (some false)) else (some false)) = some r := H
        have A19 := Aside0.mk A190
        clear A190
        by_cases c20 : t133 ≥ 0
        · rw [if_pos c20] at H
          have c20b0 : decide (0 ≤ t133) = true := decide_eq_true c20
          clear c20
          by_cases c21 : t133 < 24
          · rw [if_pos c21] at H
            have c21b0 : decide (t133 < 24) = true := decide_eq_true c21
            clear c21
            by_cases c22 : t134 ≥ 0
            · rw [if_pos c22] at H
              have c22b0 : decide (0 ≤ t134) = true := decide_eq_true c22
              clear c22
              by_cases c23 : t134 < 60
              · rw [if_pos c23] at H
                have c23b0 : decide (t134 < 60) = true := decide_eq_true c23
                clear c23
                by_cases c24 : t135 ≥ 0
                · rw [if_pos c24] at H
                  have c24b0 : decide (0 ≤ t135) = true := decide_eq_true c24
                  clear c24
                  obtain rfl := Option.some.inj H
                  go_wp2_with (first | ((with_reducible refine gate_callee (f := 23) rfl ?_); refine goesL_ (some 31) rfl rfl Tryd.func23 (by kernel_rfl) rfl #[.string a0, .int .i64 11, .int .i64 2] rfl (by (try simp only [List.map_toArray, List.map_cons, List.map_nil]); first | done | rfl | (simp only [List.length_drop, List.length_take]; rfl)) ?_; (with_reducible refine (remitterref06_digits.calls kj1 a0 11 2 t133 _ A17.out).mono ?_); rintro e w' ⟨rfl, ⟨nd, rfl⟩⟩; refine ⟨_, rfl, ?_⟩) | ((with_reducible refine gate_callee (f := 23) rfl ?_); refine goesL_ (some 33) rfl rfl Tryd.func23 (by kernel_rfl) rfl #[.string a0, .int .i64 14, .int .i64 2] rfl (by (try simp only [List.map_toArray, List.map_cons, List.map_nil]); first | done | rfl | (simp only [List.length_drop, List.length_take]; rfl)) ?_; (with_reducible refine (remitterref06_digits.calls kj1 a0 14 2 t134 _ A18.out).mono ?_); rintro e w' ⟨rfl, ⟨nd, rfl⟩⟩; refine ⟨_, rfl, ?_⟩) | ((with_reducible refine gate_callee (f := 23) rfl ?_); refine goesL_ (some 35) rfl rfl Tryd.func23 (by kernel_rfl) rfl #[.string a0, .int .i64 17, .int .i64 2] rfl (by (try simp only [List.map_toArray, List.map_cons, List.map_nil]); first | done | rfl | (simp only [List.length_drop, List.length_take]; rfl)) ?_; (with_reducible refine (remitterref06_digits.calls kj1 a0 17 2 t135 _ A19.out).mono ?_); rintro e w' ⟨rfl, ⟨nd, rfl⟩⟩; refine ⟨_, rfl, ?_⟩))
                  all_goals (first | (exfalso; simp_all; done) | (exfalso; omega) | (go_ret; exact ⟨by first | rfl | (simp; done) | (simp [*]; done), by repeat (first | exact Drawn0.refl _ | apply Drawn0.step)⟩))
                · rw [if_neg c24] at H
                  have c24b0 : decide (0 ≤ t135) = false := decide_eq_false c24
                  clear c24
                  obtain rfl := Option.some.inj H
                  go_wp2_with (first | ((with_reducible refine gate_callee (f := 23) rfl ?_); refine goesL_ (some 31) rfl rfl Tryd.func23 (by kernel_rfl) rfl #[.string a0, .int .i64 11, .int .i64 2] rfl (by (try simp only [List.map_toArray, List.map_cons, List.map_nil]); first | done | rfl | (simp only [List.length_drop, List.length_take]; rfl)) ?_; (with_reducible refine (remitterref06_digits.calls kj1 a0 11 2 t133 _ A17.out).mono ?_); rintro e w' ⟨rfl, ⟨nd, rfl⟩⟩; refine ⟨_, rfl, ?_⟩) | ((with_reducible refine gate_callee (f := 23) rfl ?_); refine goesL_ (some 33) rfl rfl Tryd.func23 (by kernel_rfl) rfl #[.string a0, .int .i64 14, .int .i64 2] rfl (by (try simp only [List.map_toArray, List.map_cons, List.map_nil]); first | done | rfl | (simp only [List.length_drop, List.length_take]; rfl)) ?_; (with_reducible refine (remitterref06_digits.calls kj1 a0 14 2 t134 _ A18.out).mono ?_); rintro e w' ⟨rfl, ⟨nd, rfl⟩⟩; refine ⟨_, rfl, ?_⟩) | ((with_reducible refine gate_callee (f := 23) rfl ?_); refine goesL_ (some 35) rfl rfl Tryd.func23 (by kernel_rfl) rfl #[.string a0, .int .i64 17, .int .i64 2] rfl (by (try simp only [List.map_toArray, List.map_cons, List.map_nil]); first | done | rfl | (simp only [List.length_drop, List.length_take]; rfl)) ?_; (with_reducible refine (remitterref06_digits.calls kj1 a0 17 2 t135 _ A19.out).mono ?_); rintro e w' ⟨rfl, ⟨nd, rfl⟩⟩; refine ⟨_, rfl, ?_⟩))
                  all_goals (first | (exfalso; simp_all; done) | (exfalso; omega) | (go_ret; exact ⟨by first | rfl | (simp; done) | (simp [*]; done), by repeat (first | exact Drawn0.refl _ | apply Drawn0.step)⟩))
              · rw [if_neg c23] at H
                have c23b0 : decide (t134 < 60) = false := decide_eq_false c23
                clear c23
                obtain rfl := Option.some.inj H
                go_wp2_with (first | ((with_reducible refine gate_callee (f := 23) rfl ?_); refine goesL_ (some 31) rfl rfl Tryd.func23 (by kernel_rfl) rfl #[.string a0, .int .i64 11, .int .i64 2] rfl (by (try simp only [List.map_toArray, List.map_cons, List.map_nil]); first | done | rfl | (simp only [List.length_drop, List.length_take]; rfl)) ?_; (with_reducible refine (remitterref06_digits.calls kj1 a0 11 2 t133 _ A17.out).mono ?_); rintro e w' ⟨rfl, ⟨nd, rfl⟩⟩; refine ⟨_, rfl, ?_⟩) | ((with_reducible refine gate_callee (f := 23) rfl ?_); refine goesL_ (some 33) rfl rfl Tryd.func23 (by kernel_rfl) rfl #[.string a0, .int .i64 14, .int .i64 2] rfl (by (try simp only [List.map_toArray, List.map_cons, List.map_nil]); first | done | rfl | (simp only [List.length_drop, List.length_take]; rfl)) ?_; (with_reducible refine (remitterref06_digits.calls kj1 a0 14 2 t134 _ A18.out).mono ?_); rintro e w' ⟨rfl, ⟨nd, rfl⟩⟩; refine ⟨_, rfl, ?_⟩) | ((with_reducible refine gate_callee (f := 23) rfl ?_); refine goesL_ (some 35) rfl rfl Tryd.func23 (by kernel_rfl) rfl #[.string a0, .int .i64 17, .int .i64 2] rfl (by (try simp only [List.map_toArray, List.map_cons, List.map_nil]); first | done | rfl | (simp only [List.length_drop, List.length_take]; rfl)) ?_; (with_reducible refine (remitterref06_digits.calls kj1 a0 17 2 t135 _ A19.out).mono ?_); rintro e w' ⟨rfl, ⟨nd, rfl⟩⟩; refine ⟨_, rfl, ?_⟩))
                all_goals (first | (exfalso; simp_all; done) | (exfalso; omega) | (go_ret; exact ⟨by first | rfl | (simp; done) | (simp [*]; done), by repeat (first | exact Drawn0.refl _ | apply Drawn0.step)⟩))
            · rw [if_neg c22] at H
              have c22b0 : decide (0 ≤ t134) = false := decide_eq_false c22
              clear c22
              obtain rfl := Option.some.inj H
              go_wp2_with (first | ((with_reducible refine gate_callee (f := 23) rfl ?_); refine goesL_ (some 31) rfl rfl Tryd.func23 (by kernel_rfl) rfl #[.string a0, .int .i64 11, .int .i64 2] rfl (by (try simp only [List.map_toArray, List.map_cons, List.map_nil]); first | done | rfl | (simp only [List.length_drop, List.length_take]; rfl)) ?_; (with_reducible refine (remitterref06_digits.calls kj1 a0 11 2 t133 _ A17.out).mono ?_); rintro e w' ⟨rfl, ⟨nd, rfl⟩⟩; refine ⟨_, rfl, ?_⟩) | ((with_reducible refine gate_callee (f := 23) rfl ?_); refine goesL_ (some 33) rfl rfl Tryd.func23 (by kernel_rfl) rfl #[.string a0, .int .i64 14, .int .i64 2] rfl (by (try simp only [List.map_toArray, List.map_cons, List.map_nil]); first | done | rfl | (simp only [List.length_drop, List.length_take]; rfl)) ?_; (with_reducible refine (remitterref06_digits.calls kj1 a0 14 2 t134 _ A18.out).mono ?_); rintro e w' ⟨rfl, ⟨nd, rfl⟩⟩; refine ⟨_, rfl, ?_⟩) | ((with_reducible refine gate_callee (f := 23) rfl ?_); refine goesL_ (some 35) rfl rfl Tryd.func23 (by kernel_rfl) rfl #[.string a0, .int .i64 17, .int .i64 2] rfl (by (try simp only [List.map_toArray, List.map_cons, List.map_nil]); first | done | rfl | (simp only [List.length_drop, List.length_take]; rfl)) ?_; (with_reducible refine (remitterref06_digits.calls kj1 a0 17 2 t135 _ A19.out).mono ?_); rintro e w' ⟨rfl, ⟨nd, rfl⟩⟩; refine ⟨_, rfl, ?_⟩))
              all_goals (first | (exfalso; simp_all; done) | (exfalso; omega) | (go_ret; exact ⟨by first | rfl | (simp; done) | (simp [*]; done), by repeat (first | exact Drawn0.refl _ | apply Drawn0.step)⟩))
          · rw [if_neg c21] at H
            have c21b0 : decide (t133 < 24) = false := decide_eq_false c21
            clear c21
            obtain rfl := Option.some.inj H
            go_wp2_with (first | ((with_reducible refine gate_callee (f := 23) rfl ?_); refine goesL_ (some 31) rfl rfl Tryd.func23 (by kernel_rfl) rfl #[.string a0, .int .i64 11, .int .i64 2] rfl (by (try simp only [List.map_toArray, List.map_cons, List.map_nil]); first | done | rfl | (simp only [List.length_drop, List.length_take]; rfl)) ?_; (with_reducible refine (remitterref06_digits.calls kj1 a0 11 2 t133 _ A17.out).mono ?_); rintro e w' ⟨rfl, ⟨nd, rfl⟩⟩; refine ⟨_, rfl, ?_⟩) | ((with_reducible refine gate_callee (f := 23) rfl ?_); refine goesL_ (some 33) rfl rfl Tryd.func23 (by kernel_rfl) rfl #[.string a0, .int .i64 14, .int .i64 2] rfl (by (try simp only [List.map_toArray, List.map_cons, List.map_nil]); first | done | rfl | (simp only [List.length_drop, List.length_take]; rfl)) ?_; (with_reducible refine (remitterref06_digits.calls kj1 a0 14 2 t134 _ A18.out).mono ?_); rintro e w' ⟨rfl, ⟨nd, rfl⟩⟩; refine ⟨_, rfl, ?_⟩) | ((with_reducible refine gate_callee (f := 23) rfl ?_); refine goesL_ (some 35) rfl rfl Tryd.func23 (by kernel_rfl) rfl #[.string a0, .int .i64 17, .int .i64 2] rfl (by (try simp only [List.map_toArray, List.map_cons, List.map_nil]); first | done | rfl | (simp only [List.length_drop, List.length_take]; rfl)) ?_; (with_reducible refine (remitterref06_digits.calls kj1 a0 17 2 t135 _ A19.out).mono ?_); rintro e w' ⟨rfl, ⟨nd, rfl⟩⟩; refine ⟨_, rfl, ?_⟩))
            all_goals (first | (exfalso; simp_all; done) | (exfalso; omega) | (go_ret; exact ⟨by first | rfl | (simp; done) | (simp [*]; done), by repeat (first | exact Drawn0.refl _ | apply Drawn0.step)⟩))
        · rw [if_neg c20] at H
          have c20b0 : decide (0 ≤ t133) = false := decide_eq_false c20
          clear c20
          obtain rfl := Option.some.inj H
          go_wp2_with (first | ((with_reducible refine gate_callee (f := 23) rfl ?_); refine goesL_ (some 31) rfl rfl Tryd.func23 (by kernel_rfl) rfl #[.string a0, .int .i64 11, .int .i64 2] rfl (by (try simp only [List.map_toArray, List.map_cons, List.map_nil]); first | done | rfl | (simp only [List.length_drop, List.length_take]; rfl)) ?_; (with_reducible refine (remitterref06_digits.calls kj1 a0 11 2 t133 _ A17.out).mono ?_); rintro e w' ⟨rfl, ⟨nd, rfl⟩⟩; refine ⟨_, rfl, ?_⟩) | ((with_reducible refine gate_callee (f := 23) rfl ?_); refine goesL_ (some 33) rfl rfl Tryd.func23 (by kernel_rfl) rfl #[.string a0, .int .i64 14, .int .i64 2] rfl (by (try simp only [List.map_toArray, List.map_cons, List.map_nil]); first | done | rfl | (simp only [List.length_drop, List.length_take]; rfl)) ?_; (with_reducible refine (remitterref06_digits.calls kj1 a0 14 2 t134 _ A18.out).mono ?_); rintro e w' ⟨rfl, ⟨nd, rfl⟩⟩; refine ⟨_, rfl, ?_⟩) | ((with_reducible refine gate_callee (f := 23) rfl ?_); refine goesL_ (some 35) rfl rfl Tryd.func23 (by kernel_rfl) rfl #[.string a0, .int .i64 17, .int .i64 2] rfl (by (try simp only [List.map_toArray, List.map_cons, List.map_nil]); first | done | rfl | (simp only [List.length_drop, List.length_take]; rfl)) ?_; (with_reducible refine (remitterref06_digits.calls kj1 a0 17 2 t135 _ A19.out).mono ?_); rintro e w' ⟨rfl, ⟨nd, rfl⟩⟩; refine ⟨_, rfl, ?_⟩))
          all_goals (first | (exfalso; simp_all; done) | (exfalso; omega) | (go_ret; exact ⟨by first | rfl | (simp; done) | (simp [*]; done), by repeat (first | exact Drawn0.refl _ | apply Drawn0.step)⟩))

end Go.Proofs.YtjemnphmjbodfaaDoor.PAll

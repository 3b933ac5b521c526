-- Made by this session's wip/tools/gprint.py, which runs the kit's print program; some functions' contracts are proved by hand.
import Derived.Test.YtjemnphmjbodfaaPAllx0
import Derived.Test.YtjemnphmjbodfaaPAllx4
namespace Go.Proofs.Ytjemnphmjbodfaa.PAll
open Go.RowKit Go.Proofs.YtjemnphmjbodfaaW.PrintWords Go.Proofs.YtjemnphmjbodfaaW.PrintLast Go.Proofs.YtjemnphmjbodfaaW.PrintMore
attribute [local go_sem] max2_int min2_int max_two min_two max_three min_three max_four min_four   -- for this text's walks alone
set_option linter.unusedVariables false
set_option linter.unusedSimpArgs false

/-! ### remitterref05_size: function 41 -/
mutual
def remitterref05_size.j2 : Nat → ByteArray → Int → Int → Int → Option (Int)
  | 0, _, _, _, _ => none
  | k + 1, x0, x4, x5, x6 => if (x0.size : Int) < x4 then (some 1) else (remitterref05_size.l0 k x0 x4 x5 x6 1)
def remitterref05_size.l0 : Nat → ByteArray → Int → Int → Int → Int → Option (Int)
  | 0, _, _, _, _, _ => none
  | k + 1, x0, x4, x5, x6, x7 => if x7 < x4 then (if 0 ≤ x7 then (if x7 < (x0.size : Int) then (if (Go.bits .and .u8 (bt x0 x7) 192) = 128 then (remitterref05_size.l0 k x0 x4 x5 (Go.bits .or .i32 (wrap32 (x6 * 64)) (wrap32 (Go.bits .and .u8 (bt x0 x7) 63))) (wrap64 (x7 + 1))) else (some 1)) else (none)) else (none)) else (if x6 < x5 then (some 1) else (if x6 > 1114111 then (some 1) else (if x6 ≥ 55296 then (if x6 ≤ 57343 then (some 1) else (some x4)) else (some x4))))
def remitterref05_size.j0 : Nat → ByteArray → Int → Bool → Option (Int)
  | 0, _, _, _ => none
  | k + 1, x0, x3, x12 => if x12 = true then (remitterref05_size.j2 k x0 4 65536 (wrap32 (Go.bits .and .u8 x3 7))) else (if x3 ≥ 224 then (remitterref05_size.j1 k x0 x3 (decide (x3 ≤ 239))) else (remitterref05_size.j1 k x0 x3 false))
def remitterref05_size.j1 : Nat → ByteArray → Int → Bool → Option (Int)
  | 0, _, _, _ => none
  | k + 1, x0, x3, x22 => if x22 = true then (remitterref05_size.j2 k x0 3 2048 (wrap32 (Go.bits .and .u8 x3 15))) else (if x3 ≥ 194 then (if x3 ≤ 223 then (remitterref05_size.j2 k x0 2 128 (wrap32 (Go.bits .and .u8 x3 31))) else (some 1)) else (some 1))
end
def remitterref05_size.f (k : Nat) (a0 : ByteArray) : Option (Int) := if 0 < (a0.size : Int) then (if (bt a0 0) ≥ 240 then (remitterref05_size.j0 k a0 (bt a0 0) (decide ((bt a0 0) ≤ 244))) else (remitterref05_size.j0 k a0 (bt a0 0) false)) else (none)
theorem remitterref05_size.mono_l : ∀ k, (∀ y0 y1 y2 y3, LeO (remitterref05_size.j2 k y0 y1 y2 y3) (remitterref05_size.j2 (k + 1) y0 y1 y2 y3)) ∧ (∀ y0 y1 y2 y3 y4, LeO (remitterref05_size.l0 k y0 y1 y2 y3 y4) (remitterref05_size.l0 (k + 1) y0 y1 y2 y3 y4)) ∧ (∀ y0 y1 y2, LeO (remitterref05_size.j0 k y0 y1 y2) (remitterref05_size.j0 (k + 1) y0 y1 y2)) ∧ (∀ y0 y1 y2, LeO (remitterref05_size.j1 k y0 y1 y2) (remitterref05_size.j1 (k + 1) y0 y1 y2))
  | 0 => ⟨fun _ _ _ _ r h => by simp [remitterref05_size.j2] at h, fun _ _ _ _ _ r h => by simp [remitterref05_size.l0] at h, fun _ _ _ r h => by simp [remitterref05_size.j0] at h, fun _ _ _ r h => by simp [remitterref05_size.j1] at h⟩
  | k + 1 => by
    obtain ⟨ih0, ih1, ih2, ih3⟩ := remitterref05_size.mono_l k
    refine ⟨?_, ?_, ?_, ?_⟩
    · intro y0 y1 y2 y3
      unfold remitterref05_size.j2
      repeat' first
      | (with_reducible exact ih0 _ _ _ _)
      | (with_reducible exact ih1 _ _ _ _ _)
      | (with_reducible exact ih2 _ _ _)
      | (with_reducible exact ih3 _ _ _)
      | (with_reducible exact LeO.refl _)
      | (with_reducible exact LeO.none _)
      | (with_reducible refine LeO.ite ?_ ?_)
      | (with_reducible refine LeO.bind ?_ (fun _ => ?_))
      | exact ih0 _ _ _ _
      | exact ih1 _ _ _ _ _
      | exact ih2 _ _ _
      | exact ih3 _ _ _
      | exact LeO.none _
      | refine LeO.ite ?_ ?_
      | refine LeO.bind ?_ (fun _ => ?_)
    · intro y0 y1 y2 y3 y4
      unfold remitterref05_size.l0
      repeat' first
      | (with_reducible exact ih0 _ _ _ _)
      | (with_reducible exact ih1 _ _ _ _ _)
      | (with_reducible exact ih2 _ _ _)
      | (with_reducible exact ih3 _ _ _)
      | (with_reducible exact LeO.refl _)
      | (with_reducible exact LeO.none _)
      | (with_reducible refine LeO.ite ?_ ?_)
      | (with_reducible refine LeO.bind ?_ (fun _ => ?_))
      | exact ih0 _ _ _ _
      | exact ih1 _ _ _ _ _
      | exact ih2 _ _ _
      | exact ih3 _ _ _
      | exact LeO.none _
      | refine LeO.ite ?_ ?_
      | refine LeO.bind ?_ (fun _ => ?_)
    · intro y0 y1 y2
      unfold remitterref05_size.j0
      repeat' first
      | (with_reducible exact ih0 _ _ _ _)
      | (with_reducible exact ih1 _ _ _ _ _)
      | (with_reducible exact ih2 _ _ _)
      | (with_reducible exact ih3 _ _ _)
      | (with_reducible exact LeO.refl _)
      | (with_reducible exact LeO.none _)
      | (with_reducible refine LeO.ite ?_ ?_)
      | (with_reducible refine LeO.bind ?_ (fun _ => ?_))
      | exact ih0 _ _ _ _
      | exact ih1 _ _ _ _ _
      | exact ih2 _ _ _
      | exact ih3 _ _ _
      | exact LeO.none _
      | refine LeO.ite ?_ ?_
      | refine LeO.bind ?_ (fun _ => ?_)
    · intro y0 y1 y2
      unfold remitterref05_size.j1
      repeat' first
      | (with_reducible exact ih0 _ _ _ _)
      | (with_reducible exact ih1 _ _ _ _ _)
      | (with_reducible exact ih2 _ _ _)
      | (with_reducible exact ih3 _ _ _)
      | (with_reducible exact LeO.refl _)
      | (with_reducible exact LeO.none _)
      | (with_reducible refine LeO.ite ?_ ?_)
      | (with_reducible refine LeO.bind ?_ (fun _ => ?_))
      | exact ih0 _ _ _ _
      | exact ih1 _ _ _ _ _
      | exact ih2 _ _ _
      | exact ih3 _ _ _
      | exact LeO.none _
      | refine LeO.ite ?_ ?_
      | refine LeO.bind ?_ (fun _ => ?_)
theorem remitterref05_size.mono : ∀ a0 k, LeO (remitterref05_size.f k a0) (remitterref05_size.f (k + 1) a0) := by
  intro a0 k
  obtain ⟨ih0, ih1, ih2, ih3⟩ := remitterref05_size.mono_l k
  unfold remitterref05_size.f
  repeat' first
      | (with_reducible exact ih0 _ _ _ _)
      | (with_reducible exact ih1 _ _ _ _ _)
      | (with_reducible exact ih2 _ _ _)
      | (with_reducible exact ih3 _ _ _)
      | (with_reducible exact LeO.refl _)
      | (with_reducible exact LeO.none _)
      | (with_reducible refine LeO.ite ?_ ?_)
      | (with_reducible refine LeO.bind ?_ (fun _ => ?_))
      | exact ih0 _ _ _ _
      | exact ih1 _ _ _ _ _
      | exact ih2 _ _ _
      | exact ih3 _ _ _
      | exact LeO.none _
      | refine LeO.ite ?_ ?_
      | refine LeO.bind ?_ (fun _ => ?_)
set_option maxHeartbeats 8000000 in
set_option maxRecDepth 100000 in
theorem remitterref05_size.calls (k : Nat) (a0 : ByteArray) (r : Int) (w : World) (h : remitterref05_size.f k a0 = some r) :
    Calls Try.prog 41 #[.string a0] w fun e w' => e = .returned (.int .i64 r) ∧ Drawn0 w w' := by
  have H : (if 0 < (a0.size : Int) then (if (bt a0 0) ≥ 240 then (remitterref05_size.j0 k a0 (bt a0 0) (decide ((bt a0 0) ≤ 244))) else (remitterref05_size.j0 k a0 (bt a0 0) false)) else (none)) = some r := h
  clear h
  by_cases c2 : 0 < (a0.size : Int)
  · rw [if_pos c2] at H
    have c2b0 : decide (0 < (a0.size : Int)) = true := decide_eq_true c2
    have c2b1 : decide (0 < a0.size) = true := decide_eq_true (by omega)
    clear c2
    have HC4 := Aside0.mk H
    clear H
    have p3 : 0 ≤ (0 : Int) := (by omega)
    have q3 : 0 < a0.size := (by have : (0 : Int) < (a0.size : Int) := of_decide_eq_true (by first | (with_reducible assumption) | assumption); omega)
    have hx3 : ∀ h : 0 < a0.size, ((a0[0]'h).toNat : Int) = bt a0 0 := bt_at a0 0
    clear p3
    have qi3 : (0 < (a0.size : Int)) = True := eq_true (of_decide_eq_true (by first | (with_reducible assumption) | assumption))
    replace q3 := eq_true q3
    go_enter Try.func41, Try.ntmps41
    go_upto_block 0 with (fail)
    go_cut [4, 5, 6] (fun v4 v5 v6 wc => ∃ (kq : Nat) (x4_3 : Int) (x5_3 : Int) (x6_3 : Int), v4 = .int .i64 x4_3 ∧ v5 = .int .i32 x5_3 ∧ v6 = .int .i32 x6_3 ∧ Aside0 (remitterref05_size.j2 kq a0 x4_3 x5_3 x6_3 = some r) ∧ Aside0 (kq ≤ k) ∧ Drawn0 w wc)
    case first =>
      have H := HC4.out
      clear HC4
      have HC5 := Aside0.mk H
      clear H
      go_upto_region 4 with (fail)
      go_cut [12] (fun v12 wc => ∃ (kq : Nat) (x12_4 : Bool), v12 = .bool x12_4 ∧ Aside0 (remitterref05_size.j0 kq a0 (bt a0 0) x12_4 = some r) ∧ Aside0 (kq ≤ k) ∧ Drawn0 w wc)
      case first =>
        have H := HC5.out
        clear HC5
        by_cases c6 : (bt a0 0) ≥ 240
        · rw [if_pos c6] at H
          have c6b0 : decide (240 ≤ (bt a0 0)) = true := decide_eq_true c6
          clear c6
          (first | rw [c6b0] | (simp only [i64_w, i32_w]; rw [c6b0]) | skip)
          have H' := Aside0.mk H
          clear H
          go_wp2
          go_meet
          case rel => exact ⟨_, (decide ((bt a0 0) ≤ 244)), (by first | rfl | (simp; done) | (simp [*]; done) | exact congrArg Value.bool (Go.Proofs.Ytjemnphmjbodfaa.GLib.not_isEmpty _) | exact congrArg Value.bool (Go.Proofs.Ytjemnphmjbodfaa.GLib.not_isEmpty _).symm), H', ⟨by first | omega | exact Nat.le_refl _⟩, by repeat (first | exact Drawn0.refl _ | apply Drawn0.step)⟩
        · rw [if_neg c6] at H
          have c6b0 : decide (240 ≤ (bt a0 0)) = false := decide_eq_false c6
          clear c6
          (first | rw [c6b0] | (simp only [i64_w, i32_w]; rw [c6b0]) | skip)
          have H' := Aside0.mk H
          clear H
          go_wp2
          go_meet
          case rel => exact ⟨_, (false), (by first | rfl | (simp; done) | (simp [*]; done) | exact congrArg Value.bool (Go.Proofs.Ytjemnphmjbodfaa.GLib.not_isEmpty _) | exact congrArg Value.bool (Go.Proofs.Ytjemnphmjbodfaa.GLib.not_isEmpty _).symm), H', ⟨by first | omega | exact Nat.le_refl _⟩, by repeat (first | exact Drawn0.refl _ | apply Drawn0.step)⟩
      case rest =>
        clear HC5
        try clear c2
        try clear c2b0
        try clear c2b1
        try clear p2
        try clear p3
        try clear q3
        try clear hx3
        try clear qi3
        try clear c4
        try clear c6
        try clear c6b0
        try clear p3
        try clear q3
        obtain ⟨kq, x12_4, rfl, HA, HJ4, ⟨mc4, rfl⟩⟩ := hcut
        cases kq with
        | zero => exact absurd HA.out (by simp [remitterref05_size.j0])
        | succ kj4 =>
          have H := HA.out
          clear HA
          simp only [remitterref05_size.j0] at H
          by_cases c7 : x12_4 = true
          · subst c7
            have H1 : (remitterref05_size.j2 kj4 a0 4 65536 (wrap32 (Go.bits .and .u8 (bt a0 0) 7))) = some r := by rw [if_pos rfl] at H; exact H
            clear H
            have H := H1
            clear H1
            have H' := Aside0.mk H
            clear H
            go_wp2
            go_meet
            case rel => exact ⟨_, (4), (65536), (wrap32 (Go.bits .and .u8 (bt a0 0) 7)), (by first | rfl | (simp; done) | (simp [*]; done) | exact congrArg Value.bool (Go.Proofs.Ytjemnphmjbodfaa.GLib.not_isEmpty _) | exact congrArg Value.bool (Go.Proofs.Ytjemnphmjbodfaa.GLib.not_isEmpty _).symm), (by first | rfl | (simp; done) | (simp [*]; done) | exact congrArg Value.bool (Go.Proofs.Ytjemnphmjbodfaa.GLib.not_isEmpty _) | exact congrArg Value.bool (Go.Proofs.Ytjemnphmjbodfaa.GLib.not_isEmpty _).symm), (by first | rfl | (simp; done) | (simp [*]; done) | exact congrArg Value.bool (Go.Proofs.Ytjemnphmjbodfaa.GLib.not_isEmpty _) | exact congrArg Value.bool (Go.Proofs.Ytjemnphmjbodfaa.GLib.not_isEmpty _).symm), H', ⟨by have := HJ4.out; first | omega | exact Nat.le_refl _⟩, by repeat (first | exact Drawn0.refl _ | apply Drawn0.step)⟩
          · replace c7 := Bool.eq_false_iff.mpr c7
            subst c7
            have H1 : (if (bt a0 0) ≥ 224 then (remitterref05_size.j1 kj4 a0 (bt a0 0) (decide ((bt a0 0) ≤ 239))) else (remitterref05_size.j1 kj4 a0 (bt a0 0) false)) = some r := by rw [if_neg (show ¬ (false = true) by decide)] at H; exact H
            clear H
            have H := H1
            clear H1
            have HC8 := Aside0.mk H
            clear H
            go_upto_region 8 with (fail)
            go_cut [22] (fun v22 wc => ∃ (kq : Nat) (x22_7 : Bool), v22 = .bool x22_7 ∧ Aside0 (remitterref05_size.j1 kq a0 (bt a0 0) x22_7 = some r) ∧ Aside0 (kq ≤ kj4) ∧ Drawn0 w wc)
            case first =>
              have H := HC8.out
              clear HC8
              by_cases c9 : (bt a0 0) ≥ 224
              · rw [if_pos c9] at H
                have c9b0 : decide (224 ≤ (bt a0 0)) = true := decide_eq_true c9
                clear c9
                (first | rw [c9b0] | (simp only [i64_w, i32_w]; rw [c9b0]) | skip)
                have H' := Aside0.mk H
                clear H
                go_wp2
                go_meet
                case rel => exact ⟨_, (decide ((bt a0 0) ≤ 239)), (by first | rfl | (simp; done) | (simp [*]; done) | exact congrArg Value.bool (Go.Proofs.Ytjemnphmjbodfaa.GLib.not_isEmpty _) | exact congrArg Value.bool (Go.Proofs.Ytjemnphmjbodfaa.GLib.not_isEmpty _).symm), H', ⟨by have := HJ4.out; first | omega | exact Nat.le_refl _⟩, by repeat (first | exact Drawn0.refl _ | apply Drawn0.step)⟩
              · rw [if_neg c9] at H
                have c9b0 : decide (224 ≤ (bt a0 0)) = false := decide_eq_false c9
                clear c9
                (first | rw [c9b0] | (simp only [i64_w, i32_w]; rw [c9b0]) | skip)
                have H' := Aside0.mk H
                clear H
                go_wp2
                go_meet
                case rel => exact ⟨_, (false), (by first | rfl | (simp; done) | (simp [*]; done) | exact congrArg Value.bool (Go.Proofs.Ytjemnphmjbodfaa.GLib.not_isEmpty _) | exact congrArg Value.bool (Go.Proofs.Ytjemnphmjbodfaa.GLib.not_isEmpty _).symm), H', ⟨by have := HJ4.out; first | omega | exact Nat.le_refl _⟩, by repeat (first | exact Drawn0.refl _ | apply Drawn0.step)⟩
            case rest =>
              clear HC8
              try clear c2
              try clear c2b0
              try clear c2b1
              try clear p2
              try clear p3
              try clear q3
              try clear hx3
              try clear qi3
              try clear c4
              try clear c6
              try clear c6b0
              try clear c7
              try clear c9
              try clear c9b0
              try clear p2
              try clear p3
              try clear q3
              obtain ⟨kq, x22_7, rfl, HA, HJ7, ⟨mc7, rfl⟩⟩ := hcut
              cases kq with
              | zero => exact absurd HA.out (by simp [remitterref05_size.j1])
              | succ kj7 =>
                have H := HA.out
                clear HA
                simp only [remitterref05_size.j1] at H
                by_cases c10 : x22_7 = true
                · subst c10
                  have H1 : (remitterref05_size.j2 kj7 a0 3 2048 (wrap32 (Go.bits .and .u8 (bt a0 0) 15))) = some r := by rw [if_pos rfl] at H; exact H
                  clear H
                  have H := H1
                  clear H1
                  have H' := Aside0.mk H
                  clear H
                  go_wp2
                  go_meet
                  case rel => exact ⟨_, (3), (2048), (wrap32 (Go.bits .and .u8 (bt a0 0) 15)), (by first | rfl | (simp; done) | (simp [*]; done) | exact congrArg Value.bool (Go.Proofs.Ytjemnphmjbodfaa.GLib.not_isEmpty _) | exact congrArg Value.bool (Go.Proofs.Ytjemnphmjbodfaa.GLib.not_isEmpty _).symm), (by first | rfl | (simp; done) | (simp [*]; done) | exact congrArg Value.bool (Go.Proofs.Ytjemnphmjbodfaa.GLib.not_isEmpty _) | exact congrArg Value.bool (Go.Proofs.Ytjemnphmjbodfaa.GLib.not_isEmpty _).symm), (by first | rfl | (simp; done) | (simp [*]; done) | exact congrArg Value.bool (Go.Proofs.Ytjemnphmjbodfaa.GLib.not_isEmpty _) | exact congrArg Value.bool (Go.Proofs.Ytjemnphmjbodfaa.GLib.not_isEmpty _).symm), H', ⟨by have := HJ4.out; have := HJ7.out; first | omega | exact Nat.le_refl _⟩, by repeat (first | exact Drawn0.refl _ | apply Drawn0.step)⟩
                · replace c10 := Bool.eq_false_iff.mpr c10
                  subst c10
                  have H1 : (if (bt a0 0) ≥ 194 then (if (bt a0 0) ≤ 223 then (remitterref05_size.j2 kj7 a0 2 128 (wrap32 (Go.bits .and .u8 (bt a0 0) 31))) else (some 1)) else (some 1)) = some r := by rw [if_neg (show ¬ (false = true) by decide)] at H; exact H
                  clear H
                  have H := H1
                  clear H1
                  by_cases c11 : (bt a0 0) ≥ 194
                  · rw [if_pos c11] at H
                    have c11b0 : decide (194 ≤ (bt a0 0)) = true := decide_eq_true c11
                    clear c11
                    by_cases c12 : (bt a0 0) ≤ 223
                    · rw [if_pos c12] at H
                      have c12b0 : decide ((bt a0 0) ≤ 223) = true := decide_eq_true c12
                      clear c12
                      have H' := Aside0.mk H
                      clear H
                      go_wp2
                      go_meet
                      case rel => exact ⟨_, (2), (128), (wrap32 (Go.bits .and .u8 (bt a0 0) 31)), (by first | rfl | (simp; done) | (simp [*]; done) | exact congrArg Value.bool (Go.Proofs.Ytjemnphmjbodfaa.GLib.not_isEmpty _) | exact congrArg Value.bool (Go.Proofs.Ytjemnphmjbodfaa.GLib.not_isEmpty _).symm), (by first | rfl | (simp; done) | (simp [*]; done) | exact congrArg Value.bool (Go.Proofs.Ytjemnphmjbodfaa.GLib.not_isEmpty _) | exact congrArg Value.bool (Go.Proofs.Ytjemnphmjbodfaa.GLib.not_isEmpty _).symm), (by first | rfl | (simp; done) | (simp [*]; done) | exact congrArg Value.bool (Go.Proofs.Ytjemnphmjbodfaa.GLib.not_isEmpty _) | exact congrArg Value.bool (Go.Proofs.Ytjemnphmjbodfaa.GLib.not_isEmpty _).symm), H', ⟨by have := HJ4.out; have := HJ7.out; first | omega | exact Nat.le_refl _⟩, by repeat (first | exact Drawn0.refl _ | apply Drawn0.step)⟩
                    · rw [if_neg c12] at H
                      have c12b0 : decide ((bt a0 0) ≤ 223) = false := decide_eq_false c12
                      clear c12
                      obtain rfl := Option.some.inj H
                      go_wp2
                      go_ret
                      exact ⟨by first | rfl | (simp; done) | (simp [*]; done), by repeat (first | exact Drawn0.refl _ | apply Drawn0.step)⟩
                      all_goals (first | (exfalso; simp_all; done) | (exfalso; omega) | (go_ret; exact ⟨by first | rfl | (simp; done) | (simp [*]; done), by repeat (first | exact Drawn0.refl _ | apply Drawn0.step)⟩))
                  · rw [if_neg c11] at H
                    have c11b0 : decide (194 ≤ (bt a0 0)) = false := decide_eq_false c11
                    clear c11
                    obtain rfl := Option.some.inj H
                    go_wp2
                    go_ret
                    exact ⟨by first | rfl | (simp; done) | (simp [*]; done), by repeat (first | exact Drawn0.refl _ | apply Drawn0.step)⟩
                    all_goals (first | (exfalso; simp_all; done) | (exfalso; omega) | (go_ret; exact ⟨by first | rfl | (simp; done) | (simp [*]; done), by repeat (first | exact Drawn0.refl _ | apply Drawn0.step)⟩))
    case rest =>
      clear HC4
      try clear c1
      try clear c2
      try clear c2b0
      try clear c2b1
      try clear p2
      try clear p3
      try clear q3
      try clear hx3
      try clear qi3
      try clear c4
      try clear c6
      try clear c6b0
      try clear c7
      try clear c9
      try clear c9b0
      try clear c10
      try clear c11
      try clear c11b0
      try clear c12
      try clear c12b0
      try clear p2
      try clear p3
      try clear q3
      obtain ⟨kq, x4_3, x5_3, x6_3, rfl, rfl, rfl, HA, HJ3, ⟨mc3, rfl⟩⟩ := hcut
      cases kq with
      | zero => exact absurd HA.out (by simp [remitterref05_size.j2])
      | succ kj3 =>
        have H := HA.out
        clear HA
        simp only [remitterref05_size.j2] at H
        by_cases c13 : (a0.size : Int) < x4_3
        · rw [if_pos c13] at H
          have c13b0 : decide ((a0.size : Int) < x4_3) = true := decide_eq_true c13
          clear c13
          obtain rfl := Option.some.inj H
          go_wp2
          go_ret
          exact ⟨by first | rfl | (simp; done) | (simp [*]; done), by repeat (first | exact Drawn0.refl _ | apply Drawn0.step)⟩
          all_goals (first | (exfalso; simp_all; done) | (exfalso; omega) | (go_ret; exact ⟨by first | rfl | (simp; done) | (simp [*]; done), by repeat (first | exact Drawn0.refl _ | apply Drawn0.step)⟩))
        · rw [if_neg c13] at H
          have c13b0 : decide ((a0.size : Int) < x4_3) = false := decide_eq_false c13
          clear c13
          have H' := Aside0.mk H
          clear H
          go_wp2
          go_loopg [6, 7] kj3 (fun kq v6 v7 w' => ∃ (x6_2 : Int) (x7_2 : Int), v6 = .int .i32 x6_2 ∧ v7 = .int .i64 x7_2 ∧ Aside0 (remitterref05_size.l0 kq a0 x4_3 x5_3 x6_2 x7_2 = some r) ∧ Aside0 (kq ≤ kj3) ∧ Drawn0 w w')
          case atStart => exact ⟨(x6_3), (1), (by first | rfl | (simp; done) | (simp [*]; done) | exact congrArg Value.bool (Go.Proofs.Ytjemnphmjbodfaa.GLib.not_isEmpty _) | exact congrArg Value.bool (Go.Proofs.Ytjemnphmjbodfaa.GLib.not_isEmpty _).symm), (by first | rfl | (simp; done) | (simp [*]; done) | exact congrArg Value.bool (Go.Proofs.Ytjemnphmjbodfaa.GLib.not_isEmpty _) | exact congrArg Value.bool (Go.Proofs.Ytjemnphmjbodfaa.GLib.not_isEmpty _).symm), H', ⟨Nat.le_refl _⟩, by repeat (first | exact Drawn0.refl _ | apply Drawn0.step)⟩
          case round =>
            clear H'
            try clear c1
            try clear c2
            try clear c2b0
            try clear c2b1
            try clear p2
            try clear c3
            try clear p3
            try clear q3
            try clear hx3
            try clear qi3
            try clear c4
            try clear c6
            try clear c6b0
            try clear c7
            try clear c9
            try clear c9b0
            try clear c10
            try clear c11
            try clear c11b0
            try clear c12
            try clear c12b0
            try clear c13
            try clear c13b0
            try clear p2
            try clear p3
            try clear q3
            obtain ⟨x6_2, x7_2, rfl, rfl, HA, HK2, ⟨m2, rfl⟩⟩ := hrel
            cases gk with
            | zero => exact absurd HA.out (by simp [remitterref05_size.l0])
            | succ k2 =>
              have H := HA.out
              clear HA
              simp only [remitterref05_size.l0] at H
              by_cases c14 : x7_2 < x4_3
              · rw [if_pos c14] at H
                have c14b0 : decide (x7_2 < x4_3) = true := decide_eq_true c14
                clear c14
                by_cases c15 : 0 ≤ x7_2
                · rw [if_pos c15] at H
                  have c15b0 : decide (0 ≤ x7_2) = true := decide_eq_true c15
                  clear c15
                  by_cases c16 : x7_2 < (a0.size : Int)
                  · rw [if_pos c16] at H
                    have c16b0 : decide (x7_2 < (a0.size : Int)) = true := decide_eq_true c16
                    clear c16
                    by_cases c18 : (Go.bits .and .u8 (bt a0 x7_2) 192) = 128
                    · rw [if_pos c18] at H
                      have c18b0 : ((Go.bits .and .u8 (bt a0 x7_2) 192) == 128) = true := beq_iff_eq.mpr c18
                      have c18b1 : ((Go.bits .and .u8 (bt a0 x7_2) 192) != 128) = false := bne_eq_false_iff_eq.mpr c18
                      clear c18
                      have H' := Aside0.mk H
                      clear H
                      have p17 : 0 ≤ (x7_2 : Int) := of_decide_eq_true (by first | (with_reducible assumption) | assumption)
                      have q17 : x7_2 < (a0.size : Int) := of_decide_eq_true (by first | (with_reducible assumption) | assumption)
                      have hx17 := bt_at a0 x7_2
                      replace p17 := eq_true p17
                      replace q17 := eq_true q17
                      have p19 : 0 ≤ (x7_2 : Int) := of_decide_eq_true (by first | (with_reducible assumption) | assumption)
                      have q19 : x7_2 < (a0.size : Int) := of_decide_eq_true (by first | (with_reducible assumption) | assumption)
                      have hx19 := bt_at a0 x7_2
                      replace p19 := eq_true p19
                      replace q19 := eq_true q19
                      go_wp2
                      go_roundg k2
                      case measure => have := HJ3.out; have := HK2.out; omega
                      case rel => exact ⟨(Go.bits .or .i32 (wrap32 (x6_2 * 64)) (wrap32 (Go.bits .and .u8 (bt a0 x7_2) 63))), (wrap64 (x7_2 + 1)), (by first | rfl | (simp; done) | (simp [*]; done) | exact congrArg Value.bool (Go.Proofs.Ytjemnphmjbodfaa.GLib.not_isEmpty _) | exact congrArg Value.bool (Go.Proofs.Ytjemnphmjbodfaa.GLib.not_isEmpty _).symm), (by first | rfl | (simp; done) | (simp [*]; done) | exact congrArg Value.bool (Go.Proofs.Ytjemnphmjbodfaa.GLib.not_isEmpty _) | exact congrArg Value.bool (Go.Proofs.Ytjemnphmjbodfaa.GLib.not_isEmpty _).symm), H', ⟨by have := HJ3.out; have := HK2.out; omega⟩, by repeat (first | exact Drawn0.refl _ | apply Drawn0.step)⟩
                    · rw [if_neg c18] at H
                      have c18b0 : ((Go.bits .and .u8 (bt a0 x7_2) 192) == 128) = false := beq_eq_false_iff_ne.mpr c18
                      have c18b1 : ((Go.bits .and .u8 (bt a0 x7_2) 192) != 128) = true := bne_iff_ne.mpr c18
                      obtain rfl := Option.some.inj H
                      have p17 : 0 ≤ (x7_2 : Int) := of_decide_eq_true (by first | (with_reducible assumption) | assumption)
                      have q17 : x7_2 < (a0.size : Int) := of_decide_eq_true (by first | (with_reducible assumption) | assumption)
                      have hx17 := bt_at a0 x7_2
                      replace p17 := eq_true p17
                      replace q17 := eq_true q17
                      go_wp2
                      go_ret
                      exact ⟨by first | rfl | (simp; done) | (simp [*]; done), by repeat (first | exact Drawn0.refl _ | apply Drawn0.step)⟩
                      all_goals (first | (exfalso; simp_all; done) | (exfalso; omega) | (go_ret; exact ⟨by first | rfl | (simp; done) | (simp [*]; done), by repeat (first | exact Drawn0.refl _ | apply Drawn0.step)⟩))
                  · rw [if_neg c16] at H
                    exact absurd H (by simp)
                · rw [if_neg c15] at H
                  exact absurd H (by simp)
              · rw [if_neg c14] at H
                have c14b0 : decide (x7_2 < x4_3) = false := decide_eq_false c14
                clear c14
                by_cases c20 : x6_2 < x5_3
                · rw [if_pos c20] at H
                  have c20b0 : decide (x6_2 < x5_3) = true := decide_eq_true c20
                  clear c20
                  obtain rfl := Option.some.inj H
                  go_wp2
                  go_ret
                  exact ⟨by first | rfl | (simp; done) | (simp [*]; done), by repeat (first | exact Drawn0.refl _ | apply Drawn0.step)⟩
                  all_goals (first | (exfalso; simp_all; done) | (exfalso; omega) | (go_ret; exact ⟨by first | rfl | (simp; done) | (simp [*]; done), by repeat (first | exact Drawn0.refl _ | apply Drawn0.step)⟩))
                · rw [if_neg c20] at H
                  have c20b0 : decide (x6_2 < x5_3) = false := decide_eq_false c20
                  clear c20
                  by_cases c21 : x6_2 > 1114111
                  · rw [if_pos c21] at H
                    have c21b0 : decide (1114111 < x6_2) = true := decide_eq_true c21
                    clear c21
                    obtain rfl := Option.some.inj H
                    go_wp2
                    go_ret
                    exact ⟨by first | rfl | (simp; done) | (simp [*]; done), by repeat (first | exact Drawn0.refl _ | apply Drawn0.step)⟩
                    all_goals (first | (exfalso; simp_all; done) | (exfalso; omega) | (go_ret; exact ⟨by first | rfl | (simp; done) | (simp [*]; done), by repeat (first | exact Drawn0.refl _ | apply Drawn0.step)⟩))
                  · rw [if_neg c21] at H
                    have c21b0 : decide (1114111 < x6_2) = false := decide_eq_false c21
                    clear c21
                    by_cases c22 : x6_2 ≥ 55296
                    · rw [if_pos c22] at H
                      have c22b0 : decide (55296 ≤ x6_2) = true := decide_eq_true c22
                      clear c22
                      by_cases c23 : x6_2 ≤ 57343
                      · rw [if_pos c23] at H
                        have c23b0 : decide (x6_2 ≤ 57343) = true := decide_eq_true c23
                        clear c23
                        obtain rfl := Option.some.inj H
                        go_wp2
                        go_ret
                        exact ⟨by first | rfl | (simp; done) | (simp [*]; done), by repeat (first | exact Drawn0.refl _ | apply Drawn0.step)⟩
                        all_goals (first | (exfalso; simp_all; done) | (exfalso; omega) | (go_ret; exact ⟨by first | rfl | (simp; done) | (simp [*]; done), by repeat (first | exact Drawn0.refl _ | apply Drawn0.step)⟩))
                      · rw [if_neg c23] at H
                        have c23b0 : decide (x6_2 ≤ 57343) = false := decide_eq_false c23
                        clear c23
                        obtain rfl := Option.some.inj H
                        go_wp2
                        go_ret
                        exact ⟨by first | rfl | (simp; done) | (simp [*]; done), by repeat (first | exact Drawn0.refl _ | apply Drawn0.step)⟩
                        all_goals (first | (exfalso; simp_all; done) | (exfalso; omega) | (go_ret; exact ⟨by first | rfl | (simp; done) | (simp [*]; done), by repeat (first | exact Drawn0.refl _ | apply Drawn0.step)⟩))
                    · rw [if_neg c22] at H
                      have c22b0 : decide (55296 ≤ x6_2) = false := decide_eq_false c22
                      clear c22
                      obtain rfl := Option.some.inj H
                      go_wp2
                      go_ret
                      exact ⟨by first | rfl | (simp; done) | (simp [*]; done), by repeat (first | exact Drawn0.refl _ | apply Drawn0.step)⟩
                      all_goals (first | (exfalso; simp_all; done) | (exfalso; omega) | (go_ret; exact ⟨by first | rfl | (simp; done) | (simp [*]; done), by repeat (first | exact Drawn0.refl _ | apply Drawn0.step)⟩))
  · rw [if_neg c2] at H
    exact absurd H (by simp)

/-! ### remitterref05_Chars: function 28 -/
def remitterref05_Chars.l0 : Nat → ByteArray → List ByteArray → Int → Option (List ByteArray)
  | 0, _, _, _ => none
  | k + 1, x0, x3, x4 => if x4 < (x0.size : Int) then (if 0 ≤ x4 then (if x4 ≤ (x0.size : Int) then ((remitterref05_size.f k (x0.extract (x4 : Int).toNat x0.size)).bind fun t181 => (if x4 ≤ (wrap64 (x4 + t181)) then (if (wrap64 (x4 + t181)) ≤ (x0.size : Int) then (if x3.length < 8796093022208 then (remitterref05_Chars.l0 k x0 (x3 ++ [x0.extract (x4 : Int).toNat ((wrap64 (x4 + t181)) : Int).toNat]) (wrap64 (x4 + t181))) else (none)) else (none)) else (none))) else (none)) else (none)) else (some x3)
def remitterref05_Chars.f (k : Nat) (a0 : ByteArray) : Option (List ByteArray) := remitterref05_Chars.l0 k a0 ([] : List ByteArray) 0
theorem remitterref05_Chars.mono_l : ∀ k, (∀ y0 y1 y2, LeO (remitterref05_Chars.l0 k y0 y1 y2) (remitterref05_Chars.l0 (k + 1) y0 y1 y2))
  | 0 => fun _ _ _ r h => by simp [remitterref05_Chars.l0] at h
  | k + 1 => by
    have ih0 := remitterref05_Chars.mono_l k
    · intro y0 y1 y2
      unfold remitterref05_Chars.l0
      repeat' first
      | (with_reducible exact ih0 _ _ _)
      | (with_reducible exact remitterref05_size.mono _ _)
      | (with_reducible exact LeO.refl _)
      | (with_reducible exact LeO.none _)
      | (with_reducible refine LeO.ite ?_ ?_)
      | (with_reducible refine LeO.bind ?_ (fun _ => ?_))
      | exact ih0 _ _ _
      | exact remitterref05_size.mono _ _
      | exact LeO.none _
      | refine LeO.ite ?_ ?_
      | refine LeO.bind ?_ (fun _ => ?_)
theorem remitterref05_Chars.mono : ∀ a0 k, LeO (remitterref05_Chars.f k a0) (remitterref05_Chars.f (k + 1) a0) := by
  intro a0 k
  have ih0 := remitterref05_Chars.mono_l k
  unfold remitterref05_Chars.f
  repeat' first
      | (with_reducible exact ih0 _ _ _)
      | (with_reducible exact remitterref05_size.mono _ _)
      | (with_reducible exact LeO.refl _)
      | (with_reducible exact LeO.none _)
      | (with_reducible refine LeO.ite ?_ ?_)
      | (with_reducible refine LeO.bind ?_ (fun _ => ?_))
      | exact ih0 _ _ _
      | exact remitterref05_size.mono _ _
      | exact LeO.none _
      | refine LeO.ite ?_ ?_
      | refine LeO.bind ?_ (fun _ => ?_)
set_option maxHeartbeats 8000000 in
set_option maxRecDepth 100000 in
theorem remitterref05_Chars.calls (k : Nat) (a0 : ByteArray) (r : List ByteArray) (w : World) (h : remitterref05_Chars.f k a0 = some r) :
    Calls Try.prog 28 #[.string a0] w fun e w' => ∃ v0_ : Value, e = .returned (v0_) ∧ Kd.R Kd.string 9 w' w.heap.size (fun _ => True) v0_ r ∧ Below w.heap.size w w' := by
  have HB := Aside0.mk (Below.refl w.heap.size w)
  have H : (remitterref05_Chars.l0 k a0 ([] : List ByteArray) 0) = some r := h
  clear h
  have H' := Aside0.mk H
  clear H
  go_enter Try.func28, Try.ntmps28
  go_wp2
  go_loopg [3, 4] k (fun kq v3 v4 w' => ∃ (x3_1 : List ByteArray) (x4_1 : Int), v4 = .int .i64 x4_1 ∧ Aside0 (remitterref05_Chars.l0 kq a0 x3_1 x4_1 = some r) ∧ Aside0 (kq ≤ k) ∧ Aside0 (Kd.R Kd.string 9 w' w.heap.size (fun _ => True) v3 x3_1) ∧ Aside0 (Below w.heap.size w w'))
  case atStart => exact ⟨(([] : List ByteArray)), (0), (by first | rfl | (simp; done) | (simp [*]; done) | exact congrArg Value.bool (Go.Proofs.Ytjemnphmjbodfaa.GLib.not_isEmpty _) | exact congrArg Value.bool (Go.Proofs.Ytjemnphmjbodfaa.GLib.not_isEmpty _).symm), H', ⟨Nat.le_refl _⟩, ⟨by first | exact Kd.R_nil _ _ _ _ _ | exact Kd.N_nil _ _ _ _ _ | exact Kd.V_nil _ _ _ _ _ | exact Kd.Q_nil _ _ _ _ _ | exact Kd.S_nil _ _ _ _ _⟩, ⟨by repeat (first | (with_reducible first | exact HB.out | apply below_alloc | apply pw_below_drewN | apply below_drew1) | exact HB.out)⟩⟩
  case round =>
    clear H'
    obtain ⟨x3_1, x4_1, rfl, HA, HK1, HO_3, HB⟩ := hrel
    cases gk with
    | zero => exact absurd HA.out (by simp [remitterref05_Chars.l0])
    | succ k1 =>
      have H := HA.out
      clear HA
      simp only [remitterref05_Chars.l0] at H
      by_cases c2 : x4_1 < (a0.size : Int)
      · rw [if_pos c2] at H
        have c2b0 : decide (x4_1 < (a0.size : Int)) = true := decide_eq_true c2
        clear c2
        by_cases c3 : 0 ≤ x4_1
        · rw [if_pos c3] at H
          have c3b0 := eq_true c3
          have c3b1 : decide (0 ≤ x4_1) = true := decide_eq_true c3
          clear c3
          by_cases c4 : x4_1 ≤ (a0.size : Int)
          · rw [if_pos c4] at H
            have c4b0 := eq_true c4
            have c4b1 : decide (x4_1 ≤ (a0.size : Int)) = true := decide_eq_true c4
            clear c4
            replace H := Option.bind_eq_some_iff.mp H
            obtain ⟨t181, A50, H⟩ := H
            replace H : (if x4_1 ≤ (wrap64 (x4_1 + t181)) then (if (wrap64 (x4_1 + t181)) ≤ (a0.size : Int) then (if x3_1.length < 8796093022208 then (remitterref05_Chars.l0 k1 a0 (x3_1 ++ [a0.extract (x4_1 : Int).toNat ((wrap64 (x4_1 + t181)) : Int).toNat]) (wrap64 (x4_1 + t181))) else (none)) else (none)) else (none)) = some r := H
            have A5 := Aside0.mk A50
            clear A50
            have c6b0 := eq_true (of_decide_eq_true (by first | (with_reducible assumption) | assumption) : 0 ≤ x4_1)
            by_cases c7 : x4_1 ≤ (wrap64 (x4_1 + t181))
            · rw [if_pos c7] at H
              have c7b0 := eq_true c7
              have c7b1 : decide (x4_1 ≤ (wrap64 (x4_1 + t181))) = true := decide_eq_true c7
              by_cases c8 : (wrap64 (x4_1 + t181)) ≤ (a0.size : Int)
              · rw [if_pos c8] at H
                have c8b0 := eq_true c8
                have c8b1 : decide ((wrap64 (x4_1 + t181)) ≤ (a0.size : Int)) = true := decide_eq_true c8
                by_cases c9 : x3_1.length < 8796093022208
                · rw [if_pos c9] at H
                  have LMc9 := Aside0.mk c9
                  clear c9
                  obtain ⟨y182, hy182⟩ : ∃ y_ : List ByteArray, y_ = (x3_1 ++ [a0.extract (x4_1 : Int).toNat ((wrap64 (x4_1 + t181)) : Int).toNat]) := ⟨_, rfl⟩
                  replace H : (remitterref05_Chars.l0 k1 a0 y182 (wrap64 (x4_1 + t181))) = some r := by first | (rw [hy182]; with_reducible exact H) | (have H2_ := (Option.bind_some _ _).symm.trans H; rw [hy182]; with_reducible exact H2_) | (have H2_ := (Option.bind_some _ _).symm.trans H; with_reducible exact H2_) | with_reducible exact H | (rw [hy182]; exact H) | exact H
                  have Ny182 := Aside0.mk hy182
                  clear hy182
                  have H' := Aside0.mk H
                  clear H
                  go_wp2_with (first | ((with_reducible refine gate_callee (f := 41) rfl ?_); refine goesL_ (some 13) rfl rfl Try.func41 (by kernel_rfl) rfl #[.string (a0.extract (x4_1 : Int).toNat a0.size)] rfl (by (try simp only [List.map_toArray, List.map_cons, List.map_nil]); first | done | rfl | (simp only [List.length_drop, List.length_take]; rfl)) ?_; (with_reducible refine (remitterref05_size.calls k1 (a0.extract (x4_1 : Int).toNat a0.size) t181 _ A5.out).mono ?_); rintro e w' ⟨rfl, ⟨nd, rfl⟩⟩; refine ⟨_, rfl, ?_⟩) | ((with_reducible refine gate_builtin (b := .append) (xs := #[.tmp 14, .tmp 21]) rfl ?_); at_builtin; refine Kd.R_append Kd.string (w0 := w) w.heap.size rfl (.tmp 14) (.tmp 21) 35 9 (.string ⟨#[]⟩) 16 rfl Try.underlying35 info9 rfl (by decide) (by omega) u3 x3_1 (a0.extract (x4_1 : Int).toNat ((wrap64 (x4_1 + t181)) : Int).toNat) [.string (a0.extract (x4_1 : Int).toNat ((wrap64 (x4_1 + t181)) : Int).toNat)] (fun _ => True) (fun _ => False) rfl rfl ?aP (fun _ hk => hk.elim) ?aF ?aO ?aB ?aS ?aL ?_; (case aP => exact rfl); (case aB => exact (by repeat (first | (with_reducible first | exact HB.out | apply below_alloc | apply pw_below_drewN | apply below_drew1) | exact HB.out))); (case aF => exact (fun _ _ => trivial)); (case aO => exact (by (with_reducible repeat (first | apply Kd.R_alloc | apply Kd.R_drewN | apply Kd.R_drew)); exact HO_3.out)); (case aS => exact (below_size (by repeat (first | (with_reducible first | exact HB.out | apply below_alloc | apply pw_below_drewN | apply below_drew1) | exact HB.out)))); (case aL => have := LMc9.out; omega); intro v183 w10 ho hb hg hat; rw [← Ny182.out] at ho; have n0_ := Aside0.mk (hb); have n1_ := Aside0.mk (ho); clear HB; clear HO_3; have HB := n0_; have HO184 := n1_; clear n0_ n1_; clear ho hb hg hat))
                  go_roundg k1
                  case measure => have := HK1.out; omega
                  case rel => exact ⟨(y182), (wrap64 (x4_1 + t181)), (by first | rfl | (simp; done) | (simp [*]; done) | exact congrArg Value.bool (Go.Proofs.Ytjemnphmjbodfaa.GLib.not_isEmpty _) | exact congrArg Value.bool (Go.Proofs.Ytjemnphmjbodfaa.GLib.not_isEmpty _).symm), H', ⟨by have := HK1.out; omega⟩, ⟨by (with_reducible repeat (first | apply Kd.R_alloc | apply Kd.R_drewN | apply Kd.R_drew)); exact HO184.out⟩, ⟨by repeat (first | (with_reducible first | exact HB.out | apply below_alloc | apply pw_below_drewN | apply below_drew1) | exact HB.out)⟩⟩
                · rw [if_neg c9] at H
                  exact absurd H (by simp)
              · rw [if_neg c8] at H
                exact absurd H (by simp)
            · rw [if_neg c7] at H
              exact absurd H (by simp)
          · rw [if_neg c4] at H
            exact absurd H (by simp)
        · rw [if_neg c3] at H
          exact absurd H (by simp)
      · rw [if_neg c2] at H
        have c2b0 : decide (x4_1 < (a0.size : Int)) = false := decide_eq_false c2
        clear c2
        obtain rfl := Option.some.inj H
        go_wp2
        go_ret
        exact ⟨_, by first | rfl | (simp [errW_none, errW_some] <;> rfl) | (simp [*, errW_none, errW_some] <;> rfl), by (with_reducible repeat (first | apply Kd.R_alloc | apply Kd.R_drewN | apply Kd.R_drew)); exact HO_3.out, by repeat (first | (with_reducible first | exact HB.out | apply below_alloc | apply pw_below_drewN | apply below_drew1) | exact HB.out)⟩

/-! ### remitterref05_Substitute: function 23 -/
def remitterref05_Substitute.l0 : Nat → ByteArray → List ByteArray → Int → Option (ByteArray)
  | 0, _, _, _ => none
  | k + 1, x3, x4, x5 => if x5 < (x4.length : Int) then (if 0 ≤ x5 then (if ((rdOf ByteArray.empty x4 x5).size : Int) = 1 then (if 0 < ((rdOf ByteArray.empty x4 x5).size : Int) then ((remitterref05_In.f k 88 (bt (rdOf ByteArray.empty x4 x5) 0)).bind fun t190 => (if t190 = true then (if x3.size + (rdOf ByteArray.empty x4 x5).size ≤ 9223372036854775807 then (remitterref05_Substitute.l0 k (x3 ++ (rdOf ByteArray.empty x4 x5)) x4 (wrap64 (x5 + 1))) else (none)) else (if x3.size + 1 ≤ 9223372036854775807 then (remitterref05_Substitute.l0 k (x3 ++ (⟨#[46]⟩ : ByteArray)) x4 (wrap64 (x5 + 1))) else (none)))) else (none)) else (if x3.size + 1 ≤ 9223372036854775807 then (remitterref05_Substitute.l0 k (x3 ++ (⟨#[46]⟩ : ByteArray)) x4 (wrap64 (x5 + 1))) else (none))) else (none)) else (some x3)
def remitterref05_Substitute.f (k : Nat) (a0 : ByteArray) : Option (ByteArray) := (remitterref05_Chars.f k a0).bind fun t185 => (remitterref05_Substitute.l0 k (⟨#[]⟩ : ByteArray) t185 0)
theorem remitterref05_Substitute.mono_l : ∀ k, (∀ y0 y1 y2, LeO (remitterref05_Substitute.l0 k y0 y1 y2) (remitterref05_Substitute.l0 (k + 1) y0 y1 y2))
  | 0 => fun _ _ _ r h => by simp [remitterref05_Substitute.l0] at h
  | k + 1 => by
    have ih0 := remitterref05_Substitute.mono_l k
    · intro y0 y1 y2
      unfold remitterref05_Substitute.l0
      repeat' first
      | (with_reducible exact ih0 _ _ _)
      | (with_reducible exact remitterref05_Chars.mono _ _)
      | (with_reducible exact remitterref05_In.mono _ _ _)
      | (with_reducible exact LeO.refl _)
      | (with_reducible exact LeO.none _)
      | (with_reducible refine LeO.ite ?_ ?_)
      | (with_reducible refine LeO.bind ?_ (fun _ => ?_))
      | exact ih0 _ _ _
      | exact remitterref05_Chars.mono _ _
      | exact remitterref05_In.mono _ _ _
      | exact LeO.none _
      | refine LeO.ite ?_ ?_
      | refine LeO.bind ?_ (fun _ => ?_)
theorem remitterref05_Substitute.mono : ∀ a0 k, LeO (remitterref05_Substitute.f k a0) (remitterref05_Substitute.f (k + 1) a0) := by
  intro a0 k
  have ih0 := remitterref05_Substitute.mono_l k
  unfold remitterref05_Substitute.f
  repeat' first
      | (with_reducible exact ih0 _ _ _)
      | (with_reducible exact remitterref05_Chars.mono _ _)
      | (with_reducible exact remitterref05_In.mono _ _ _)
      | (with_reducible exact LeO.refl _)
      | (with_reducible exact LeO.none _)
      | (with_reducible refine LeO.ite ?_ ?_)
      | (with_reducible refine LeO.bind ?_ (fun _ => ?_))
      | exact ih0 _ _ _
      | exact remitterref05_Chars.mono _ _
      | exact remitterref05_In.mono _ _ _
      | exact LeO.none _
      | refine LeO.ite ?_ ?_
      | refine LeO.bind ?_ (fun _ => ?_)
set_option maxHeartbeats 8000000 in
set_option maxRecDepth 100000 in
theorem remitterref05_Substitute.calls (k : Nat) (a0 : ByteArray) (r : ByteArray) (w : World) (h : remitterref05_Substitute.f k a0 = some r) :
    Calls Try.prog 23 #[.string a0] w fun e w' => e = .returned (.string r) ∧ Below w.heap.size w w' := by
  have HB := Aside0.mk (Below.refl w.heap.size w)
  have H : ((remitterref05_Chars.f k a0).bind fun t185 => (remitterref05_Substitute.l0 k (⟨#[]⟩ : ByteArray) t185 0)) = some r := h
  clear h
  replace H := Option.bind_eq_some_iff.mp H
  obtain ⟨t185, A20, H⟩ := H
  replace H : (remitterref05_Substitute.l0 k (⟨#[]⟩ : ByteArray) t185 0) = some r := H
  have A2 := Aside0.mk A20
  clear A20
  have H' := Aside0.mk H
  clear H
  go_enter Try.func23, Try.ntmps23
  go_wp2_with (first | ((with_reducible refine gate_callee (f := 28) rfl ?_); refine goesL_ (some 7) rfl rfl Try.func28 (by kernel_rfl) rfl #[.string a0] rfl (by (try simp only [List.map_toArray, List.map_cons, List.map_nil]); first | done | rfl | (simp only [List.length_drop, List.length_take]; rfl)) ?_; (with_reducible refine (remitterref05_Chars.calls k a0 t185 _ A2.out).mono ?_); rintro e w3 ⟨v186, rfl, ho0, hb⟩; refine ⟨_, rfl, ?_⟩; have n0_ := Aside0.mk (Kd.R_lower ho0 (below_size (by repeat (first | (with_reducible first | exact HB.out | apply below_alloc | apply pw_below_drewN | apply below_drew1) | exact HB.out)))); have n1_ := Aside0.mk (below_step (by repeat (first | (with_reducible first | exact HB.out | apply below_alloc | apply pw_below_drewN | apply below_drew1) | exact HB.out)) hb); clear HB; have HO187 := n0_; have HB := n1_; clear n0_ n1_; (try clear hb); (try clear hb2); (try clear hk); (try clear hi); (try clear ho0)))
  go_loopg [3, 5] k (fun kq v3 v5 w' => ∃ (x3_1 : ByteArray) (x5_1 : Int), v3 = .string x3_1 ∧ v5 = .int .i64 x5_1 ∧ Aside0 (remitterref05_Substitute.l0 kq x3_1 t185 x5_1 = some r) ∧ Aside0 (kq ≤ k) ∧ Aside0 (Kd.R Kd.string 9 w' w.heap.size (fun _ => True) v186 t185) ∧ Aside0 (Below w.heap.size w w'))
  case atStart => exact ⟨((⟨#[]⟩ : ByteArray)), (0), (by first | rfl | (simp; done) | (simp [*]; done) | exact congrArg Value.bool (Go.Proofs.Ytjemnphmjbodfaa.GLib.not_isEmpty _) | exact congrArg Value.bool (Go.Proofs.Ytjemnphmjbodfaa.GLib.not_isEmpty _).symm), (by first | rfl | (simp; done) | (simp [*]; done) | exact congrArg Value.bool (Go.Proofs.Ytjemnphmjbodfaa.GLib.not_isEmpty _) | exact congrArg Value.bool (Go.Proofs.Ytjemnphmjbodfaa.GLib.not_isEmpty _).symm), H', ⟨Nat.le_refl _⟩, ⟨by (with_reducible repeat (first | apply Kd.R_alloc | apply Kd.R_drewN | apply Kd.R_drew)); exact HO187.out⟩, ⟨by repeat (first | (with_reducible first | exact HB.out | apply below_alloc | apply pw_below_drewN | apply below_drew1) | exact HB.out)⟩⟩
  case round =>
    clear H'
    try clear c2
    try clear p2
    obtain ⟨x3_1, x5_1, rfl, rfl, HA, HK1, HO_4, HB⟩ := hrel
    cases gk with
    | zero => exact absurd HA.out (by simp [remitterref05_Substitute.l0])
    | succ k1 =>
      have H := HA.out
      clear HA
      simp only [remitterref05_Substitute.l0] at H
      by_cases c4 : x5_1 < (t185.length : Int)
      · rw [if_pos c4] at H
        have c4b0 : decide (x5_1 < (t185.length : Int)) = true := decide_eq_true c4
        clear c4
        by_cases c5 : 0 ≤ x5_1
        · rw [if_pos c5] at H
          have c5b0 : decide (0 ≤ x5_1) = true := decide_eq_true c5
          clear c5
          by_cases c6 : ((rdOf ByteArray.empty t185 x5_1).size : Int) = 1
          · rw [if_pos c6] at H
            have c6b0 : (((rdOf ByteArray.empty t185 x5_1).size : Int) == 1) = true := beq_iff_eq.mpr c6
            have c6b1 : (((rdOf ByteArray.empty t185 x5_1).size : Int) != 1) = false := bne_eq_false_iff_eq.mpr c6
            clear c6
            by_cases c7 : 0 < ((rdOf ByteArray.empty t185 x5_1).size : Int)
            · rw [if_pos c7] at H
              have c7b0 : decide (0 < ((rdOf ByteArray.empty t185 x5_1).size : Int)) = true := decide_eq_true c7
              have c7b1 : decide (0 < (rdOf ByteArray.empty t185 x5_1).size) = true := decide_eq_true (by omega)
              clear c7
              replace H := Option.bind_eq_some_iff.mp H
              obtain ⟨t190, A90, H⟩ := H
              replace H : (if t190 = true then (if x3_1.size + (rdOf ByteArray.empty t185 x5_1).size ≤ 9223372036854775807 then (remitterref05_Substitute.l0 k1 (x3_1 ++ (rdOf ByteArray.empty t185 x5_1)) t185 (wrap64 (x5_1 + 1))) else (none)) else (if x3_1.size + 1 ≤ 9223372036854775807 then (remitterref05_Substitute.l0 k1 (x3_1 ++ (⟨#[46]⟩ : ByteArray)) t185 (wrap64 (x5_1 + 1))) else (none))) = some r := H
              have A9 := Aside0.mk A90
              clear A90
              by_cases c10 : t190 = true
              · subst c10
                have H1 : (if x3_1.size + (rdOf ByteArray.empty t185 x5_1).size ≤ 9223372036854775807 then (remitterref05_Substitute.l0 k1 (x3_1 ++ (rdOf ByteArray.empty t185 x5_1)) t185 (wrap64 (x5_1 + 1))) else (none)) = some r := by rw [if_pos rfl] at H; exact H
                clear H
                have H := H1
                clear H1
                by_cases c11 : x3_1.size + (rdOf ByteArray.empty t185 x5_1).size ≤ 9223372036854775807
                · rw [if_pos c11] at H
                  have c11b0 := eq_true c11
                  have c11b1 : decide (x3_1.size + (rdOf ByteArray.empty t185 x5_1).size ≤ 9223372036854775807) = true := decide_eq_true c11
                  try have c11b2 : (9223372036854775807 < x3_1.size + (rdOf ByteArray.empty t185 x5_1).size) = False := eq_false (Nat.not_lt.2 c11)
                  have H' := Aside0.mk H
                  clear H
                  obtain ⟨Ao12, co12, eo12⟩ := Kd.R_slice HO_4.out
                  subst eo12
                  have p188 : 0 ≤ (x5_1 : Int) := of_decide_eq_true (by first | (with_reducible assumption) | assumption)
                  have q188 : x5_1 < (t185.length : Int) := of_decide_eq_true (by first | (with_reducible assumption) | assumption)
                  obtain ⟨ad188, e188, hx188_0⟩ := Kd.at_string (Kd.R_reads' HO_4.out).2.2 x5_1 p188 q188
                  cases e188
                  replace p188 := eq_true p188
                  replace q188 := eq_true q188
                  have p189 : 0 ≤ (x5_1 : Int) := of_decide_eq_true (by first | (with_reducible assumption) | assumption)
                  have q189 : x5_1 < (t185.length : Int) := of_decide_eq_true (by first | (with_reducible assumption) | assumption)
                  obtain ⟨ad189, e189, hx189_0⟩ := Kd.at_string (Kd.R_reads' HO_4.out).2.2 x5_1 p189 q189
                  obtain rfl : ad188 = ad189 := (by injection e189)
                  replace p189 := eq_true p189
                  replace q189 := eq_true q189
                  have p8 : 0 ≤ (0 : Int) := (by omega)
                  have q8 : 0 < (rdOf ByteArray.empty t185 x5_1).size := (by have : (0 : Int) < ((rdOf ByteArray.empty t185 x5_1).size : Int) := of_decide_eq_true (by first | (with_reducible assumption) | assumption); omega)
                  have hx8 : ∀ h : 0 < (rdOf ByteArray.empty t185 x5_1).size, (((rdOf ByteArray.empty t185 x5_1)[0]'h).toNat : Int) = bt (rdOf ByteArray.empty t185 x5_1) 0 := bt_at (rdOf ByteArray.empty t185 x5_1) 0
                  clear p8
                  have qi8 : (0 < ((rdOf ByteArray.empty t185 x5_1).size : Int)) = True := eq_true (of_decide_eq_true (by first | (with_reducible assumption) | assumption))
                  replace q8 := eq_true q8
                  go_wp2_with (first | (go_at_call 25; (with_reducible refine (remitterref05_In.calls k1 88 (bt (rdOf ByteArray.empty t185 x5_1) 0) true _ A9.out).mono ?_); rintro e w' ⟨rfl, ⟨nd, rfl⟩⟩; have p191 : 0 ≤ (x5_1 : Int) := of_decide_eq_true (by first | (with_reducible assumption) | assumption); have q191 : x5_1 < (t185.length : Int) := of_decide_eq_true (by first | (with_reducible assumption) | assumption); obtain ⟨ad191, e191, hx191_0⟩ := Kd.at_string (Kd.R_reads' HO_4.out).2.2 x5_1 p191 q191; obtain rfl : ad188 = ad191 := (by injection e191); replace p191 := eq_true p191; replace q191 := eq_true q191))
                  go_roundg k1
                  case measure => have := HK1.out; omega
                  case rel => exact ⟨(x3_1 ++ (rdOf ByteArray.empty t185 x5_1)), (wrap64 (x5_1 + 1)), (by first | rfl | (simp; done) | (simp [*]; done) | exact congrArg Value.bool (Go.Proofs.Ytjemnphmjbodfaa.GLib.not_isEmpty _) | exact congrArg Value.bool (Go.Proofs.Ytjemnphmjbodfaa.GLib.not_isEmpty _).symm), (by first | rfl | (simp; done) | (simp [*]; done) | exact congrArg Value.bool (Go.Proofs.Ytjemnphmjbodfaa.GLib.not_isEmpty _) | exact congrArg Value.bool (Go.Proofs.Ytjemnphmjbodfaa.GLib.not_isEmpty _).symm), H', ⟨by have := HK1.out; omega⟩, ⟨by (with_reducible repeat (first | apply Kd.R_alloc | apply Kd.R_drewN | apply Kd.R_drew)); exact HO_4.out⟩, ⟨by repeat (first | (with_reducible first | exact HB.out | apply below_alloc | apply pw_below_drewN | apply below_drew1) | exact HB.out)⟩⟩
                · rw [if_neg c11] at H
                  exact absurd H (by simp)
              · replace c10 := Bool.eq_false_iff.mpr c10
                subst c10
                have H1 : (if x3_1.size + 1 ≤ 9223372036854775807 then (remitterref05_Substitute.l0 k1 (x3_1 ++ (⟨#[46]⟩ : ByteArray)) t185 (wrap64 (x5_1 + 1))) else (none)) = some r := by rw [if_neg (show ¬ (false = true) by decide)] at H; exact H
                clear H
                have H := H1
                clear H1
                by_cases c13 : x3_1.size + 1 ≤ 9223372036854775807
                · rw [if_pos c13] at H
                  have c13b0 := eq_true c13
                  have c13b1 : decide (x3_1.size + 1 ≤ 9223372036854775807) = true := decide_eq_true c13
                  try have c13b2 : (9223372036854775807 < x3_1.size + 1) = False := eq_false (Nat.not_lt.2 c13)
                  have H' := Aside0.mk H
                  clear H
                  obtain ⟨Ao14, co14, eo14⟩ := Kd.R_slice HO_4.out
                  subst eo14
                  have p188 : 0 ≤ (x5_1 : Int) := of_decide_eq_true (by first | (with_reducible assumption) | assumption)
                  have q188 : x5_1 < (t185.length : Int) := of_decide_eq_true (by first | (with_reducible assumption) | assumption)
                  obtain ⟨ad188, e188, hx188_0⟩ := Kd.at_string (Kd.R_reads' HO_4.out).2.2 x5_1 p188 q188
                  cases e188
                  replace p188 := eq_true p188
                  replace q188 := eq_true q188
                  have p189 : 0 ≤ (x5_1 : Int) := of_decide_eq_true (by first | (with_reducible assumption) | assumption)
                  have q189 : x5_1 < (t185.length : Int) := of_decide_eq_true (by first | (with_reducible assumption) | assumption)
                  obtain ⟨ad189, e189, hx189_0⟩ := Kd.at_string (Kd.R_reads' HO_4.out).2.2 x5_1 p189 q189
                  obtain rfl : ad188 = ad189 := (by injection e189)
                  replace p189 := eq_true p189
                  replace q189 := eq_true q189
                  have p8 : 0 ≤ (0 : Int) := (by omega)
                  have q8 : 0 < (rdOf ByteArray.empty t185 x5_1).size := (by have : (0 : Int) < ((rdOf ByteArray.empty t185 x5_1).size : Int) := of_decide_eq_true (by first | (with_reducible assumption) | assumption); omega)
                  have hx8 : ∀ h : 0 < (rdOf ByteArray.empty t185 x5_1).size, (((rdOf ByteArray.empty t185 x5_1)[0]'h).toNat : Int) = bt (rdOf ByteArray.empty t185 x5_1) 0 := bt_at (rdOf ByteArray.empty t185 x5_1) 0
                  clear p8
                  have qi8 : (0 < ((rdOf ByteArray.empty t185 x5_1).size : Int)) = True := eq_true (of_decide_eq_true (by first | (with_reducible assumption) | assumption))
                  replace q8 := eq_true q8
                  go_wp2_with (first | (go_at_call 25; (with_reducible refine (remitterref05_In.calls k1 88 (bt (rdOf ByteArray.empty t185 x5_1) 0) false _ A9.out).mono ?_); rintro e w' ⟨rfl, ⟨nd, rfl⟩⟩))
                  go_roundg k1
                  case measure => have := HK1.out; omega
                  case rel => exact ⟨(x3_1 ++ (⟨#[46]⟩ : ByteArray)), (wrap64 (x5_1 + 1)), (by first | rfl | (simp; done) | (simp [*]; done) | exact congrArg Value.bool (Go.Proofs.Ytjemnphmjbodfaa.GLib.not_isEmpty _) | exact congrArg Value.bool (Go.Proofs.Ytjemnphmjbodfaa.GLib.not_isEmpty _).symm), (by first | rfl | (simp; done) | (simp [*]; done) | exact congrArg Value.bool (Go.Proofs.Ytjemnphmjbodfaa.GLib.not_isEmpty _) | exact congrArg Value.bool (Go.Proofs.Ytjemnphmjbodfaa.GLib.not_isEmpty _).symm), H', ⟨by have := HK1.out; omega⟩, ⟨by (with_reducible repeat (first | apply Kd.R_alloc | apply Kd.R_drewN | apply Kd.R_drew)); exact HO_4.out⟩, ⟨by repeat (first | (with_reducible first | exact HB.out | apply below_alloc | apply pw_below_drewN | apply below_drew1) | exact HB.out)⟩⟩
                · rw [if_neg c13] at H
                  exact absurd H (by simp)
            · rw [if_neg c7] at H
              exact absurd H (by simp)
          · rw [if_neg c6] at H
            have c6b0 : (((rdOf ByteArray.empty t185 x5_1).size : Int) == 1) = false := beq_eq_false_iff_ne.mpr c6
            have c6b1 : (((rdOf ByteArray.empty t185 x5_1).size : Int) != 1) = true := bne_iff_ne.mpr c6
            by_cases c15 : x3_1.size + 1 ≤ 9223372036854775807
            · rw [if_pos c15] at H
              have c15b0 := eq_true c15
              have c15b1 : decide (x3_1.size + 1 ≤ 9223372036854775807) = true := decide_eq_true c15
              try have c15b2 : (9223372036854775807 < x3_1.size + 1) = False := eq_false (Nat.not_lt.2 c15)
              have H' := Aside0.mk H
              clear H
              obtain ⟨Ao16, co16, eo16⟩ := Kd.R_slice HO_4.out
              subst eo16
              have p188 : 0 ≤ (x5_1 : Int) := of_decide_eq_true (by first | (with_reducible assumption) | assumption)
              have q188 : x5_1 < (t185.length : Int) := of_decide_eq_true (by first | (with_reducible assumption) | assumption)
              obtain ⟨ad188, e188, hx188_0⟩ := Kd.at_string (Kd.R_reads' HO_4.out).2.2 x5_1 p188 q188
              cases e188
              replace p188 := eq_true p188
              replace q188 := eq_true q188
              go_wp2
              go_roundg k1
              case measure => have := HK1.out; omega
              case rel => exact ⟨(x3_1 ++ (⟨#[46]⟩ : ByteArray)), (wrap64 (x5_1 + 1)), (by first | rfl | (simp; done) | (simp [*]; done) | exact congrArg Value.bool (Go.Proofs.Ytjemnphmjbodfaa.GLib.not_isEmpty _) | exact congrArg Value.bool (Go.Proofs.Ytjemnphmjbodfaa.GLib.not_isEmpty _).symm), (by first | rfl | (simp; done) | (simp [*]; done) | exact congrArg Value.bool (Go.Proofs.Ytjemnphmjbodfaa.GLib.not_isEmpty _) | exact congrArg Value.bool (Go.Proofs.Ytjemnphmjbodfaa.GLib.not_isEmpty _).symm), H', ⟨by have := HK1.out; omega⟩, ⟨by (with_reducible repeat (first | apply Kd.R_alloc | apply Kd.R_drewN | apply Kd.R_drew)); exact HO_4.out⟩, ⟨by repeat (first | (with_reducible first | exact HB.out | apply below_alloc | apply pw_below_drewN | apply below_drew1) | exact HB.out)⟩⟩
            · rw [if_neg c15] at H
              exact absurd H (by simp)
        · rw [if_neg c5] at H
          exact absurd H (by simp)
      · rw [if_neg c4] at H
        have c4b0 : decide (x5_1 < (t185.length : Int)) = false := decide_eq_false c4
        clear c4
        obtain rfl := Option.some.inj H
        obtain ⟨Ao17, co17, eo17⟩ := Kd.R_slice HO_4.out
        subst eo17
        go_wp2
        go_ret
        exact ⟨by first | rfl | (simp [errW_none, errW_some] <;> rfl) | (simp [*, errW_none, errW_some] <;> rfl), by repeat (first | (with_reducible first | exact HB.out | apply below_alloc | apply pw_below_drewN | apply below_drew1) | exact HB.out)⟩
        all_goals (first | (exfalso; simp_all; done) | (exfalso; omega) | (go_ret; exact ⟨by first | rfl | (simp [errW_none, errW_some] <;> rfl) | (simp [*, errW_none, errW_some] <;> rfl), by repeat (first | (with_reducible first | exact HB.out | apply below_alloc | apply pw_below_drewN | apply below_drew1) | exact HB.out)⟩))

end Go.Proofs.Ytjemnphmjbodfaa.PAll

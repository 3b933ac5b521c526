-- Made by this session's wip/tools/gprint.py, which runs the kit's print program; some functions' contracts are proved by hand.
import Derived.Test.YtjblihfgpbnhbaaDoorPAllx0
import Derived.Test.YtjblihfgpbnhbaaDoorPAllx1
import Derived.Test.YtjblihfgpbnhbaaDoorPAllx2
import Derived.Test.YtjblihfgpbnhbaaDoorGLen
import Derived.Test.YtjblihfgpbnhbaaDoorGRest
import Derived.Test.YtjblihfgpbnhbaaDoorGItoa
namespace Go.Proofs.YtjblihfgpbnhbaaDoor.PAll
open Go.RowKit Go.Proofs.YtjblihfgpbnhbaaDoorW.PrintWords Go.Proofs.YtjblihfgpbnhbaaDoorW.PrintLast Go.Proofs.YtjblihfgpbnhbaaDoorW.PrintMore
attribute [local go_sem] max2_int min2_int max_two min_two max_three min_three max_four min_four   -- for this text's walks alone
set_option linter.unusedVariables false
set_option linter.unusedSimpArgs false

/-! ### remitterref03_Check: function 12 -/
def remitterref03_Check.j0 : Nat → ByteArray → Bool → Option (Int)
  | 0, _, _ => none
  | k + 1, x0, x29 => if x29 = true then (some 13) else (if 0 ≤ 2 then (if 2 ≤ (x0.size : Int) then ((remitterref03_Length.f k (x0.extract 0 2)).bind fun bt122 => ((remitterref03_Rest.f k x0).bind fun bt124 => (if bt122.2 = true then (if bt124.2 = true then (if bt122.1 = (x0.size : Int) then (if bt124.1 = 1 then (some 0) else (some 13)) else (some 13)) else (some 13)) else (some 13)))) else (none)) else (none))
def remitterref03_Check.f (k : Nat) (a0 : ByteArray) : Option (Int) := if (a0.size : Int) < 4 then (remitterref03_Check.j0 k a0 true) else (if 2 < (a0.size : Int) then (if (bt a0 2) < 48 then (remitterref03_Check.j0 k a0 true) else (if (bt a0 2) > 57 then (remitterref03_Check.j0 k a0 true) else (if 3 < (a0.size : Int) then (if (bt a0 3) < 48 then (remitterref03_Check.j0 k a0 true) else (remitterref03_Check.j0 k a0 (decide ((bt a0 3) > 57)))) else (none)))) else (none))
theorem remitterref03_Check.mono_l : ∀ k, (∀ y0 y1, LeO (remitterref03_Check.j0 k y0 y1) (remitterref03_Check.j0 (k + 1) y0 y1))
  | 0 => fun _ _ r h => by simp [remitterref03_Check.j0] at h
  | k + 1 => by
    have ih0 := remitterref03_Check.mono_l k
    · intro y0 y1
      unfold remitterref03_Check.j0
      repeat' first
      | (with_reducible exact ih0 _ _)
      | (with_reducible exact remitterref03_Length.mono _ _)
      | (with_reducible exact remitterref03_Rest.mono _ _)
      | (with_reducible exact LeO.refl _)
      | (with_reducible exact LeO.none _)
      | (with_reducible refine LeO.ite ?_ ?_)
      | (with_reducible refine LeO.bind ?_ (fun _ => ?_))
      | exact ih0 _ _
      | exact remitterref03_Length.mono _ _
      | exact remitterref03_Rest.mono _ _
      | exact LeO.none _
      | refine LeO.ite ?_ ?_
      | refine LeO.bind ?_ (fun _ => ?_)
theorem remitterref03_Check.mono : ∀ a0 k, LeO (remitterref03_Check.f k a0) (remitterref03_Check.f (k + 1) a0) := by
  intro a0 k
  have ih0 := remitterref03_Check.mono_l k
  unfold remitterref03_Check.f
  repeat' first
      | (with_reducible exact ih0 _ _)
      | (with_reducible exact remitterref03_Length.mono _ _)
      | (with_reducible exact remitterref03_Rest.mono _ _)
      | (with_reducible exact LeO.refl _)
      | (with_reducible exact LeO.none _)
      | (with_reducible refine LeO.ite ?_ ?_)
      | (with_reducible refine LeO.bind ?_ (fun _ => ?_))
      | exact ih0 _ _
      | exact remitterref03_Length.mono _ _
      | exact remitterref03_Rest.mono _ _
      | exact LeO.none _
      | refine LeO.ite ?_ ?_
      | refine LeO.bind ?_ (fun _ => ?_)
set_option maxHeartbeats 8000000 in
set_option maxRecDepth 100000 in
theorem remitterref03_Check.calls (k : Nat) (a0 : ByteArray) (r : Int) (w : World) (h : remitterref03_Check.f k a0 = some r) :
    Calls Tryd.prog 12 #[.string a0] w fun e w' => e = .returned (.int .i64 r) ∧ Below w.heap.size w w' := by
  have HB := Aside0.mk (Below.refl w.heap.size w)
  have H : (if (a0.size : Int) < 4 then (remitterref03_Check.j0 k a0 true) else (if 2 < (a0.size : Int) then (if (bt a0 2) < 48 then (remitterref03_Check.j0 k a0 true) else (if (bt a0 2) > 57 then (remitterref03_Check.j0 k a0 true) else (if 3 < (a0.size : Int) then (if (bt a0 3) < 48 then (remitterref03_Check.j0 k a0 true) else (remitterref03_Check.j0 k a0 (decide ((bt a0 3) > 57)))) else (none)))) else (none))) = some r := h
  clear h
  have HC2 := Aside0.mk H
  clear H
  go_enter Tryd.func12, Tryd.ntmps12
  go_upto_region 1 with (fail)
  go_cut [29] (fun v29 wc => ∃ (kq : Nat) (x29_1 : Bool), v29 = .bool x29_1 ∧ Aside0 (remitterref03_Check.j0 kq a0 x29_1 = some r) ∧ Aside0 (kq ≤ k) ∧ Aside0 (Below w.heap.size w wc))
  case first =>
    have H := HC2.out
    clear HC2
    by_cases c3 : (a0.size : Int) < 4
    · rw [if_pos c3] at H
      have c3b0 : decide ((a0.size : Int) < 4) = true := decide_eq_true c3
      have c3b1 : decide (a0.size < 4) = true := decide_eq_true (by omega)
      clear c3
      (first | rw [c3b0] | (simp only [i64_w, i32_w]; rw [c3b0]) | skip)
      have H' := Aside0.mk H
      clear H
      go_wp2
      go_meet
      case rel => exact ⟨_, (true), (by first | rfl | (simp; done) | (simp [*]; done) | exact congrArg Value.bool (Go.Proofs.YtjblihfgpbnhbaaDoor.GLib.not_isEmpty _) | exact congrArg Value.bool (Go.Proofs.YtjblihfgpbnhbaaDoor.GLib.not_isEmpty _).symm), H', ⟨by first | omega | exact Nat.le_refl _⟩, ⟨by repeat (first | (with_reducible first | exact HB.out | apply below_alloc | apply pw_below_drewN | apply below_drew1) | exact HB.out)⟩⟩
    · rw [if_neg c3] at H
      have c3b0 : decide ((a0.size : Int) < 4) = false := decide_eq_false c3
      have c3b1 : decide (a0.size < 4) = false := decide_eq_false (by omega)
      clear c3
      (first | rw [c3b0] | (simp only [i64_w, i32_w]; rw [c3b0]) | skip)
      by_cases c4 : 2 < (a0.size : Int)
      · rw [if_pos c4] at H
        have c4b0 : decide (2 < (a0.size : Int)) = true := decide_eq_true c4
        have c4b1 : decide (2 < a0.size) = true := decide_eq_true (by omega)
        clear c4
        by_cases c6 : (bt a0 2) < 48
        · rw [if_pos c6] at H
          have c6b0 : decide ((bt a0 2) < 48) = true := decide_eq_true c6
          clear c6
          have H' := Aside0.mk H
          clear H
          have p5 : 0 ≤ (2 : Int) := (by omega)
          have q5 : 2 < a0.size := (by have : (2 : Int) < (a0.size : Int) := of_decide_eq_true (by first | (with_reducible assumption) | assumption); omega)
          have hx5 : ∀ h : 2 < a0.size, ((a0[2]'h).toNat : Int) = bt a0 2 := bt_at a0 2
          clear p5
          have qi5 : (2 < (a0.size : Int)) = True := eq_true (of_decide_eq_true (by first | (with_reducible assumption) | assumption))
          replace q5 := eq_true q5
          go_wp2
          go_meet
          case rel => exact ⟨_, (true), (by first | rfl | (simp; done) | (simp [*]; done) | exact congrArg Value.bool (Go.Proofs.YtjblihfgpbnhbaaDoor.GLib.not_isEmpty _) | exact congrArg Value.bool (Go.Proofs.YtjblihfgpbnhbaaDoor.GLib.not_isEmpty _).symm), H', ⟨by first | omega | exact Nat.le_refl _⟩, ⟨by repeat (first | (with_reducible first | exact HB.out | apply below_alloc | apply pw_below_drewN | apply below_drew1) | exact HB.out)⟩⟩
        · rw [if_neg c6] at H
          have c6b0 : decide ((bt a0 2) < 48) = false := decide_eq_false c6
          clear c6
          by_cases c8 : (bt a0 2) > 57
          · rw [if_pos c8] at H
            have c8b0 : decide (57 < (bt a0 2)) = true := decide_eq_true c8
            clear c8
            have H' := Aside0.mk H
            clear H
            have p5 : 0 ≤ (2 : Int) := (by omega)
            have q5 : 2 < a0.size := (by have : (2 : Int) < (a0.size : Int) := of_decide_eq_true (by first | (with_reducible assumption) | assumption); omega)
            have hx5 : ∀ h : 2 < a0.size, ((a0[2]'h).toNat : Int) = bt a0 2 := bt_at a0 2
            clear p5
            have qi5 : (2 < (a0.size : Int)) = True := eq_true (of_decide_eq_true (by first | (with_reducible assumption) | assumption))
            replace q5 := eq_true q5
            have p7 : 0 ≤ (2 : Int) := (by omega)
            have q7 : 2 < a0.size := (by have : (2 : Int) < (a0.size : Int) := of_decide_eq_true (by first | (with_reducible assumption) | assumption); omega)
            have hx7 : ∀ h : 2 < a0.size, ((a0[2]'h).toNat : Int) = bt a0 2 := bt_at a0 2
            clear p7
            have qi7 : (2 < (a0.size : Int)) = True := eq_true (of_decide_eq_true (by first | (with_reducible assumption) | assumption))
            replace q7 := eq_true q7
            go_wp2
            go_meet
            case rel => exact ⟨_, (true), (by first | rfl | (simp; done) | (simp [*]; done) | exact congrArg Value.bool (Go.Proofs.YtjblihfgpbnhbaaDoor.GLib.not_isEmpty _) | exact congrArg Value.bool (Go.Proofs.YtjblihfgpbnhbaaDoor.GLib.not_isEmpty _).symm), H', ⟨by first | omega | exact Nat.le_refl _⟩, ⟨by repeat (first | (with_reducible first | exact HB.out | apply below_alloc | apply pw_below_drewN | apply below_drew1) | exact HB.out)⟩⟩
          · rw [if_neg c8] at H
            have c8b0 : decide (57 < (bt a0 2)) = false := decide_eq_false c8
            clear c8
            by_cases c9 : 3 < (a0.size : Int)
            · rw [if_pos c9] at H
              have c9b0 : decide (3 < (a0.size : Int)) = true := decide_eq_true c9
              have c9b1 : decide (3 < a0.size) = true := decide_eq_true (by omega)
              clear c9
              by_cases c11 : (bt a0 3) < 48
              · rw [if_pos c11] at H
                have c11b0 : decide ((bt a0 3) < 48) = true := decide_eq_true c11
                clear c11
                have H' := Aside0.mk H
                clear H
                have p5 : 0 ≤ (2 : Int) := (by omega)
                have q5 : 2 < a0.size := (by have : (2 : Int) < (a0.size : Int) := of_decide_eq_true (by first | (with_reducible assumption) | assumption); omega)
                have hx5 : ∀ h : 2 < a0.size, ((a0[2]'h).toNat : Int) = bt a0 2 := bt_at a0 2
                clear p5
                have qi5 : (2 < (a0.size : Int)) = True := eq_true (of_decide_eq_true (by first | (with_reducible assumption) | assumption))
                replace q5 := eq_true q5
                have p7 : 0 ≤ (2 : Int) := (by omega)
                have q7 : 2 < a0.size := (by have : (2 : Int) < (a0.size : Int) := of_decide_eq_true (by first | (with_reducible assumption) | assumption); omega)
                have hx7 : ∀ h : 2 < a0.size, ((a0[2]'h).toNat : Int) = bt a0 2 := bt_at a0 2
                clear p7
                have qi7 : (2 < (a0.size : Int)) = True := eq_true (of_decide_eq_true (by first | (with_reducible assumption) | assumption))
                replace q7 := eq_true q7
                have p10 : 0 ≤ (3 : Int) := (by omega)
                have q10 : 3 < a0.size := (by have : (3 : Int) < (a0.size : Int) := of_decide_eq_true (by first | (with_reducible assumption) | assumption); omega)
                have hx10 : ∀ h : 3 < a0.size, ((a0[3]'h).toNat : Int) = bt a0 3 := bt_at a0 3
                clear p10
                have qi10 : (3 < (a0.size : Int)) = True := eq_true (of_decide_eq_true (by first | (with_reducible assumption) | assumption))
                replace q10 := eq_true q10
                go_wp2
                go_meet
                case rel => exact ⟨_, (true), (by first | rfl | (simp; done) | (simp [*]; done) | exact congrArg Value.bool (Go.Proofs.YtjblihfgpbnhbaaDoor.GLib.not_isEmpty _) | exact congrArg Value.bool (Go.Proofs.YtjblihfgpbnhbaaDoor.GLib.not_isEmpty _).symm), H', ⟨by first | omega | exact Nat.le_refl _⟩, ⟨by repeat (first | (with_reducible first | exact HB.out | apply below_alloc | apply pw_below_drewN | apply below_drew1) | exact HB.out)⟩⟩
              · rw [if_neg c11] at H
                have c11b0 : decide ((bt a0 3) < 48) = false := decide_eq_false c11
                clear c11
                have H' := Aside0.mk H
                clear H
                have p5 : 0 ≤ (2 : Int) := (by omega)
                have q5 : 2 < a0.size := (by have : (2 : Int) < (a0.size : Int) := of_decide_eq_true (by first | (with_reducible assumption) | assumption); omega)
                have hx5 : ∀ h : 2 < a0.size, ((a0[2]'h).toNat : Int) = bt a0 2 := bt_at a0 2
                clear p5
                have qi5 : (2 < (a0.size : Int)) = True := eq_true (of_decide_eq_true (by first | (with_reducible assumption) | assumption))
                replace q5 := eq_true q5
                have p7 : 0 ≤ (2 : Int) := (by omega)
                have q7 : 2 < a0.size := (by have : (2 : Int) < (a0.size : Int) := of_decide_eq_true (by first | (with_reducible assumption) | assumption); omega)
                have hx7 : ∀ h : 2 < a0.size, ((a0[2]'h).toNat : Int) = bt a0 2 := bt_at a0 2
                clear p7
                have qi7 : (2 < (a0.size : Int)) = True := eq_true (of_decide_eq_true (by first | (with_reducible assumption) | assumption))
                replace q7 := eq_true q7
                have p10 : 0 ≤ (3 : Int) := (by omega)
                have q10 : 3 < a0.size := (by have : (3 : Int) < (a0.size : Int) := of_decide_eq_true (by first | (with_reducible assumption) | assumption); omega)
                have hx10 : ∀ h : 3 < a0.size, ((a0[3]'h).toNat : Int) = bt a0 3 := bt_at a0 3
                clear p10
                have qi10 : (3 < (a0.size : Int)) = True := eq_true (of_decide_eq_true (by first | (with_reducible assumption) | assumption))
                replace q10 := eq_true q10
                have p12 : 0 ≤ (3 : Int) := (by omega)
                have q12 : 3 < a0.size := (by have : (3 : Int) < (a0.size : Int) := of_decide_eq_true (by first | (with_reducible assumption) | assumption); omega)
                have hx12 : ∀ h : 3 < a0.size, ((a0[3]'h).toNat : Int) = bt a0 3 := bt_at a0 3
                clear p12
                have qi12 : (3 < (a0.size : Int)) = True := eq_true (of_decide_eq_true (by first | (with_reducible assumption) | assumption))
                replace q12 := eq_true q12
                go_wp2
                go_meet
                case rel => exact ⟨_, (decide ((bt a0 3) > 57)), (by first | rfl | (simp; done) | (simp [*]; done) | exact congrArg Value.bool (Go.Proofs.YtjblihfgpbnhbaaDoor.GLib.not_isEmpty _) | exact congrArg Value.bool (Go.Proofs.YtjblihfgpbnhbaaDoor.GLib.not_isEmpty _).symm), H', ⟨by first | omega | exact Nat.le_refl _⟩, ⟨by repeat (first | (with_reducible first | exact HB.out | apply below_alloc | apply pw_below_drewN | apply below_drew1) | exact HB.out)⟩⟩
            · rw [if_neg c9] at H
              exact absurd H (by simp)
      · rw [if_neg c4] at H
        exact absurd H (by simp)
  case rest =>
    clear HC2
    try clear c1
    try clear p1
    try clear q1
    try clear hx1
    try clear qi1
    try clear p2
    try clear c3
    try clear c3b0
    try clear c3b1
    try clear c4
    try clear c4b0
    try clear c4b1
    try clear p5
    try clear q5
    try clear hx5
    try clear qi5
    try clear c6
    try clear c6b0
    try clear p7
    try clear q7
    try clear hx7
    try clear qi7
    try clear c8
    try clear c8b0
    try clear c9
    try clear c9b0
    try clear c9b1
    try clear p10
    try clear q10
    try clear hx10
    try clear qi10
    try clear c11
    try clear c11b0
    try clear c12
    try clear p12
    try clear q12
    try clear hx12
    try clear qi12
    try clear p10
    try clear p12
    try clear p5
    try clear p7
    try clear q10
    try clear q12
    try clear q5
    try clear q7
    obtain ⟨kq, x29_1, rfl, HA, HJ1, HB⟩ := hcut
    cases kq with
    | zero => exact absurd HA.out (by simp [remitterref03_Check.j0])
    | succ kj1 =>
      have H := HA.out
      clear HA
      simp only [remitterref03_Check.j0] at H
      by_cases c13 : x29_1 = true
      · subst c13
        have H1 : (some 13) = some r := by rw [if_pos rfl] at H; exact H
        clear H
        have H := H1
        clear H1
        obtain rfl := Option.some.inj H
        go_wp2
        all_goals (first | (exfalso; simp_all; done) | (exfalso; omega) | (go_ret; exact ⟨by first | rfl | (simp [errW_none, errW_some] <;> rfl) | (simp [*, errW_none, errW_some] <;> rfl), by repeat (first | (with_reducible first | exact HB.out | apply below_alloc | apply pw_below_drewN | apply below_drew1) | exact HB.out)⟩))
      · replace c13 := Bool.eq_false_iff.mpr c13
        subst c13
        have H1 : (if 0 ≤ 2 then (if 2 ≤ (a0.size : Int) then ((remitterref03_Length.f kj1 (a0.extract 0 2)).bind fun bt122 => ((remitterref03_Rest.f kj1 a0).bind fun bt124 => (if bt122.2 = true then (if bt124.2 = true then (if bt122.1 = (a0.size : Int) then (if bt124.1 = 1 then (some 0) else (some 13)) else (some 13)) else (some 13)) else (some 13)))) else (none)) else (none)) = some r := by rw [if_neg (show ¬ (false = true) by decide)] at H; exact H
        clear H
        have H := H1
        clear H1
        by_cases c14 : 0 ≤ 2
        · rw [if_pos c14] at H
          have c14b0 := eq_true c14
          have c14b1 : decide (0 ≤ 2) = true := decide_eq_true c14
          clear c14
          by_cases c15 : 2 ≤ (a0.size : Int)
          · rw [if_pos c15] at H
            have c15b0 := eq_true c15
            have c15b1 : decide (2 ≤ (a0.size : Int)) = true := decide_eq_true c15
            clear c15
            replace H := Option.bind_eq_some_iff.mp H
            obtain ⟨⟨t122, t123⟩, A160, H⟩ := H
            replace H : ((remitterref03_Rest.f kj1 a0).bind fun bt124 => (if t123 = true then (if bt124.2 = true then (if t122 = (a0.size : Int) then (if bt124.1 = 1 then (some 0) else (some 13)) else (some 13)) else (some 13)) else (some 13))) = some r := H
            have A16 := Aside0.mk A160
            clear A160
            replace H := Option.bind_eq_some_iff.mp H
            obtain ⟨⟨t124, t125⟩, A170, H⟩ := H
            replace H : (if t123 = true then (if t125 = true then (if t122 = (a0.size : Int) then (if t124 = 1 then (some 0) else (some 13)) else (some 13)) else (some 13)) else (some 13)) = some r := H
            have A17 := Aside0.mk A170
            clear A170
            by_cases c18 : t123 = true
            · subst c18
              have H1 : (if t125 = true then (if t122 = (a0.size : Int) then (if t124 = 1 then (some 0) else (some 13)) else (some 13)) else (some 13)) = some r := by rw [if_pos rfl] at H; exact H
              clear H
              have H := H1
              clear H1
              by_cases c19 : t125 = true
              · subst c19
                have H1 : (if t122 = (a0.size : Int) then (if t124 = 1 then (some 0) else (some 13)) else (some 13)) = some r := by rw [if_pos rfl] at H; exact H
                clear H
                have H := H1
                clear H1
                by_cases c20 : t122 = (a0.size : Int)
                · rw [if_pos c20] at H
                  have c20b0 : (t122 == (a0.size : Int)) = true := beq_iff_eq.mpr c20
                  have c20b1 : (t122 != (a0.size : Int)) = false := bne_eq_false_iff_eq.mpr c20
                  clear c20
                  by_cases c21 : t124 = 1
                  · rw [if_pos c21] at H
                    have c21b0 : (t124 == 1) = true := beq_iff_eq.mpr c21
                    have c21b1 : (t124 != 1) = false := bne_eq_false_iff_eq.mpr c21
                    clear c21
                    obtain rfl := Option.some.inj H
                    go_wp2_with (first | ((with_reducible refine gate_callee (f := 10) rfl ?_); refine goesL_ (some 33) rfl rfl Tryd.func10 (by kernel_rfl) rfl #[.string (a0.extract 0 2)] rfl (by (try simp only [List.map_toArray, List.map_cons, List.map_nil]); first | done | rfl | (simp only [List.length_drop, List.length_take]; rfl)) ?_; (with_reducible refine (remitterref03_Length.calls kj1 (a0.extract 0 2) t122 true _ A16.out).mono ?_); rintro e w' ⟨rfl, ⟨nd, rfl⟩⟩; refine ⟨_, rfl, ?_⟩) | ((with_reducible refine gate_callee (f := 8) rfl ?_); refine goesL_ (some 38) rfl rfl Tryd.func8 (by kernel_rfl) rfl #[.string a0] rfl (by (try simp only [List.map_toArray, List.map_cons, List.map_nil]); first | done | rfl | (simp only [List.length_drop, List.length_take]; rfl)) ?_; (with_reducible refine (remitterref03_Rest.calls kj1 a0 t124 true _ A17.out).mono ?_); rintro e w22 ⟨rfl, hb⟩; refine ⟨_, rfl, ?_⟩; have n0_ := Aside0.mk (below_step (by repeat (first | (with_reducible first | exact HB.out | apply below_alloc | apply pw_below_drewN | apply below_drew1) | exact HB.out)) hb); clear HB; have HB := n0_; clear n0_; (try clear hb); (try clear hb2); (try clear hk); (try clear hi)))
                    all_goals (first | (exfalso; simp_all; done) | (exfalso; omega) | (go_ret; exact ⟨by first | rfl | (simp [errW_none, errW_some] <;> rfl) | (simp [*, errW_none, errW_some] <;> rfl), by repeat (first | (with_reducible first | exact HB.out | apply below_alloc | apply pw_below_drewN | apply below_drew1) | exact HB.out)⟩))
                  · rw [if_neg c21] at H
                    have c21b0 : (t124 == 1) = false := beq_eq_false_iff_ne.mpr c21
                    have c21b1 : (t124 != 1) = true := bne_iff_ne.mpr c21
                    obtain rfl := Option.some.inj H
                    go_wp2_with (first | ((with_reducible refine gate_callee (f := 10) rfl ?_); refine goesL_ (some 33) rfl rfl Tryd.func10 (by kernel_rfl) rfl #[.string (a0.extract 0 2)] rfl (by (try simp only [List.map_toArray, List.map_cons, List.map_nil]); first | done | rfl | (simp only [List.length_drop, List.length_take]; rfl)) ?_; (with_reducible refine (remitterref03_Length.calls kj1 (a0.extract 0 2) t122 true _ A16.out).mono ?_); rintro e w' ⟨rfl, ⟨nd, rfl⟩⟩; refine ⟨_, rfl, ?_⟩) | ((with_reducible refine gate_callee (f := 8) rfl ?_); refine goesL_ (some 38) rfl rfl Tryd.func8 (by kernel_rfl) rfl #[.string a0] rfl (by (try simp only [List.map_toArray, List.map_cons, List.map_nil]); first | done | rfl | (simp only [List.length_drop, List.length_take]; rfl)) ?_; (with_reducible refine (remitterref03_Rest.calls kj1 a0 t124 true _ A17.out).mono ?_); rintro e w23 ⟨rfl, hb⟩; refine ⟨_, rfl, ?_⟩; have n0_ := Aside0.mk (below_step (by repeat (first | (with_reducible first | exact HB.out | apply below_alloc | apply pw_below_drewN | apply below_drew1) | exact HB.out)) hb); clear HB; have HB := n0_; clear n0_; (try clear hb); (try clear hb2); (try clear hk); (try clear hi)))
                    all_goals (first | (exfalso; simp_all; done) | (exfalso; omega) | (go_ret; exact ⟨by first | rfl | (simp [errW_none, errW_some] <;> rfl) | (simp [*, errW_none, errW_some] <;> rfl), by repeat (first | (with_reducible first | exact HB.out | apply below_alloc | apply pw_below_drewN | apply below_drew1) | exact HB.out)⟩))
                · rw [if_neg c20] at H
                  have c20b0 : (t122 == (a0.size : Int)) = false := beq_eq_false_iff_ne.mpr c20
                  have c20b1 : (t122 != (a0.size : Int)) = true := bne_iff_ne.mpr c20
                  obtain rfl := Option.some.inj H
                  go_wp2_with (first | ((with_reducible refine gate_callee (f := 10) rfl ?_); refine goesL_ (some 33) rfl rfl Tryd.func10 (by kernel_rfl) rfl #[.string (a0.extract 0 2)] rfl (by (try simp only [List.map_toArray, List.map_cons, List.map_nil]); first | done | rfl | (simp only [List.length_drop, List.length_take]; rfl)) ?_; (with_reducible refine (remitterref03_Length.calls kj1 (a0.extract 0 2) t122 true _ A16.out).mono ?_); rintro e w' ⟨rfl, ⟨nd, rfl⟩⟩; refine ⟨_, rfl, ?_⟩) | ((with_reducible refine gate_callee (f := 8) rfl ?_); refine goesL_ (some 38) rfl rfl Tryd.func8 (by kernel_rfl) rfl #[.string a0] rfl (by (try simp only [List.map_toArray, List.map_cons, List.map_nil]); first | done | rfl | (simp only [List.length_drop, List.length_take]; rfl)) ?_; (with_reducible refine (remitterref03_Rest.calls kj1 a0 t124 true _ A17.out).mono ?_); rintro e w24 ⟨rfl, hb⟩; refine ⟨_, rfl, ?_⟩; have n0_ := Aside0.mk (below_step (by repeat (first | (with_reducible first | exact HB.out | apply below_alloc | apply pw_below_drewN | apply below_drew1) | exact HB.out)) hb); clear HB; have HB := n0_; clear n0_; (try clear hb); (try clear hb2); (try clear hk); (try clear hi)))
                  all_goals (first | (exfalso; simp_all; done) | (exfalso; omega) | (go_ret; exact ⟨by first | rfl | (simp [errW_none, errW_some] <;> rfl) | (simp [*, errW_none, errW_some] <;> rfl), by repeat (first | (with_reducible first | exact HB.out | apply below_alloc | apply pw_below_drewN | apply below_drew1) | exact HB.out)⟩))
              · replace c19 := Bool.eq_false_iff.mpr c19
                subst c19
                have H1 : (some 13) = some r := by rw [if_neg (show ¬ (false = true) by decide)] at H; exact H
                clear H
                have H := H1
                clear H1
                obtain rfl := Option.some.inj H
                go_wp2_with (first | ((with_reducible refine gate_callee (f := 10) rfl ?_); refine goesL_ (some 33) rfl rfl Tryd.func10 (by kernel_rfl) rfl #[.string (a0.extract 0 2)] rfl (by (try simp only [List.map_toArray, List.map_cons, List.map_nil]); first | done | rfl | (simp only [List.length_drop, List.length_take]; rfl)) ?_; (with_reducible refine (remitterref03_Length.calls kj1 (a0.extract 0 2) t122 true _ A16.out).mono ?_); rintro e w' ⟨rfl, ⟨nd, rfl⟩⟩; refine ⟨_, rfl, ?_⟩) | ((with_reducible refine gate_callee (f := 8) rfl ?_); refine goesL_ (some 38) rfl rfl Tryd.func8 (by kernel_rfl) rfl #[.string a0] rfl (by (try simp only [List.map_toArray, List.map_cons, List.map_nil]); first | done | rfl | (simp only [List.length_drop, List.length_take]; rfl)) ?_; (with_reducible refine (remitterref03_Rest.calls kj1 a0 t124 false _ A17.out).mono ?_); rintro e w25 ⟨rfl, hb⟩; refine ⟨_, rfl, ?_⟩; have n0_ := Aside0.mk (below_step (by repeat (first | (with_reducible first | exact HB.out | apply below_alloc | apply pw_below_drewN | apply below_drew1) | exact HB.out)) hb); clear HB; have HB := n0_; clear n0_; (try clear hb); (try clear hb2); (try clear hk); (try clear hi)))
                all_goals (first | (exfalso; simp_all; done) | (exfalso; omega) | (go_ret; exact ⟨by first | rfl | (simp [errW_none, errW_some] <;> rfl) | (simp [*, errW_none, errW_some] <;> rfl), by repeat (first | (with_reducible first | exact HB.out | apply below_alloc | apply pw_below_drewN | apply below_drew1) | exact HB.out)⟩))
            · replace c18 := Bool.eq_false_iff.mpr c18
              subst c18
              have H1 : (some 13) = some r := by rw [if_neg (show ¬ (false = true) by decide)] at H; exact H
              clear H
              have H := H1
              clear H1
              obtain rfl := Option.some.inj H
              go_wp2_with (first | ((with_reducible refine gate_callee (f := 10) rfl ?_); refine goesL_ (some 33) rfl rfl Tryd.func10 (by kernel_rfl) rfl #[.string (a0.extract 0 2)] rfl (by (try simp only [List.map_toArray, List.map_cons, List.map_nil]); first | done | rfl | (simp only [List.length_drop, List.length_take]; rfl)) ?_; (with_reducible refine (remitterref03_Length.calls kj1 (a0.extract 0 2) t122 false _ A16.out).mono ?_); rintro e w' ⟨rfl, ⟨nd, rfl⟩⟩; refine ⟨_, rfl, ?_⟩) | ((with_reducible refine gate_callee (f := 8) rfl ?_); refine goesL_ (some 38) rfl rfl Tryd.func8 (by kernel_rfl) rfl #[.string a0] rfl (by (try simp only [List.map_toArray, List.map_cons, List.map_nil]); first | done | rfl | (simp only [List.length_drop, List.length_take]; rfl)) ?_; (with_reducible refine (remitterref03_Rest.calls kj1 a0 t124 t125 _ A17.out).mono ?_); rintro e w26 ⟨rfl, hb⟩; refine ⟨_, rfl, ?_⟩; have n0_ := Aside0.mk (below_step (by repeat (first | (with_reducible first | exact HB.out | apply below_alloc | apply pw_below_drewN | apply below_drew1) | exact HB.out)) hb); clear HB; have HB := n0_; clear n0_; (try clear hb); (try clear hb2); (try clear hk); (try clear hi)))
              all_goals (first | (exfalso; simp_all; done) | (exfalso; omega) | (go_ret; exact ⟨by first | rfl | (simp [errW_none, errW_some] <;> rfl) | (simp [*, errW_none, errW_some] <;> rfl), by repeat (first | (with_reducible first | exact HB.out | apply below_alloc | apply pw_below_drewN | apply below_drew1) | exact HB.out)⟩))
          · rw [if_neg c15] at H
            exact absurd H (by simp)
        · rw [if_neg c14] at H
          exact absurd H (by simp)

/-! ### remitterlaw03_IbanTells: function 3 -/
def remitterlaw03_IbanTells.j0 : Nat → ByteArray → Int → Bool → Int → Bool → Int → Bool → Int → Bool → Bool → Option (Bool)
  | 0, _, _, _, _, _, _, _, _, _, _ => none
  | k + 1, x0, x3, x4, x5, x6, x7, x8, x9, x10, x64 => if x64 = true then (some false) else ((iban_Check.f k x0).bind fun t139 => ((remitterref03_Check.f k x0).bind fun t140 => (if t139 = t140 then (if x3 = x5 then (if (x4 == x6) = true then (if x7 = x9 then (if (x8 == x10) = true then ((remitterlaw03_wakes.f k).bind fun t141 => (some t141)) else (some false)) else (some false)) else (some false)) else (some false)) else (some false))))
def remitterlaw03_IbanTells.f (k : Nat) (a0 : ByteArray) : Option (Bool) := if (a0.size : Int) > 100 then ((remitterlaw03_wakes.f k).bind fun t126 => (some t126)) else ((iban_Rest.f a0).bind fun bt127 => ((remitterref03_Rest.f k a0).bind fun bt129 => (if 0 ≤ (mn (a0.size : Int) 2) then (if (mn (a0.size : Int) 2) ≤ (a0.size : Int) then ((iban_Length.f (a0.extract 0 ((mn (a0.size : Int) 2) : Int).toNat)).bind fun bt131 => ((remitterref03_Length.f k (a0.extract 0 ((mn (a0.size : Int) 2) : Int).toNat)).bind fun bt133 => ((iban_Length.f a0).bind fun bt135 => ((remitterref03_Length.f k a0).bind fun bt137 => (if bt135.1 = bt137.1 then (remitterlaw03_IbanTells.j0 k a0 bt127.1 bt127.2 bt129.1 bt129.2 bt131.1 bt131.2 bt133.1 bt133.2 (bt135.2 != bt137.2)) else (remitterlaw03_IbanTells.j0 k a0 bt127.1 bt127.2 bt129.1 bt129.2 bt131.1 bt131.2 bt133.1 bt133.2 true)))))) else (none)) else (none))))
theorem remitterlaw03_IbanTells.mono_l : ∀ k, (∀ y0 y1 y2 y3 y4 y5 y6 y7 y8 y9, LeO (remitterlaw03_IbanTells.j0 k y0 y1 y2 y3 y4 y5 y6 y7 y8 y9) (remitterlaw03_IbanTells.j0 (k + 1) y0 y1 y2 y3 y4 y5 y6 y7 y8 y9))
  | 0 => fun _ _ _ _ _ _ _ _ _ _ r h => by simp [remitterlaw03_IbanTells.j0] at h
  | k + 1 => by
    have ih0 := remitterlaw03_IbanTells.mono_l k
    · intro y0 y1 y2 y3 y4 y5 y6 y7 y8 y9
      unfold remitterlaw03_IbanTells.j0
      repeat' first
      | (with_reducible exact ih0 _ _ _ _ _ _ _ _ _ _)
      | (with_reducible exact iban_Check.mono _ _)
      | (with_reducible exact remitterlaw03_wakes.mono _)
      | (with_reducible exact remitterref03_Check.mono _ _)
      | (with_reducible exact remitterref03_Length.mono _ _)
      | (with_reducible exact remitterref03_Rest.mono _ _)
      | (with_reducible exact LeO.refl _)
      | (with_reducible exact LeO.none _)
      | (with_reducible refine LeO.ite ?_ ?_)
      | (with_reducible refine LeO.bind ?_ (fun _ => ?_))
      | exact ih0 _ _ _ _ _ _ _ _ _ _
      | exact iban_Check.mono _ _
      | exact remitterlaw03_wakes.mono _
      | exact remitterref03_Check.mono _ _
      | exact remitterref03_Length.mono _ _
      | exact remitterref03_Rest.mono _ _
      | exact LeO.none _
      | refine LeO.ite ?_ ?_
      | refine LeO.bind ?_ (fun _ => ?_)
theorem remitterlaw03_IbanTells.mono : ∀ a0 k, LeO (remitterlaw03_IbanTells.f k a0) (remitterlaw03_IbanTells.f (k + 1) a0) := by
  intro a0 k
  have ih0 := remitterlaw03_IbanTells.mono_l k
  unfold remitterlaw03_IbanTells.f
  repeat' first
      | (with_reducible exact ih0 _ _ _ _ _ _ _ _ _ _)
      | (with_reducible exact iban_Check.mono _ _)
      | (with_reducible exact remitterlaw03_wakes.mono _)
      | (with_reducible exact remitterref03_Check.mono _ _)
      | (with_reducible exact remitterref03_Length.mono _ _)
      | (with_reducible exact remitterref03_Rest.mono _ _)
      | (with_reducible exact LeO.refl _)
      | (with_reducible exact LeO.none _)
      | (with_reducible refine LeO.ite ?_ ?_)
      | (with_reducible refine LeO.bind ?_ (fun _ => ?_))
      | exact ih0 _ _ _ _ _ _ _ _ _ _
      | exact iban_Check.mono _ _
      | exact remitterlaw03_wakes.mono _
      | exact remitterref03_Check.mono _ _
      | exact remitterref03_Length.mono _ _
      | exact remitterref03_Rest.mono _ _
      | exact LeO.none _
      | refine LeO.ite ?_ ?_
      | refine LeO.bind ?_ (fun _ => ?_)
set_option maxHeartbeats 8000000 in
set_option maxRecDepth 100000 in
theorem remitterlaw03_IbanTells.calls (k : Nat) (a0 : ByteArray) (r : Bool) (w : World) (h : remitterlaw03_IbanTells.f k a0 = some r) (hGS : GWS w) :
    Calls Tryd.prog 3 #[.string a0] w fun e w' => e = .returned (.bool r) ∧ Below w.heap.size w w' := by
  have HGS := Aside0.mk hGS
  clear hGS
  have HB := Aside0.mk (Below.refl w.heap.size w)
  have H : (if (a0.size : Int) > 100 then ((remitterlaw03_wakes.f k).bind fun t126 => (some t126)) else ((iban_Rest.f a0).bind fun bt127 => ((remitterref03_Rest.f k a0).bind fun bt129 => (if 0 ≤ (mn (a0.size : Int) 2) then (if (mn (a0.size : Int) 2) ≤ (a0.size : Int) then ((iban_Length.f (a0.extract 0 ((mn (a0.size : Int) 2) : Int).toNat)).bind fun bt131 => ((remitterref03_Length.f k (a0.extract 0 ((mn (a0.size : Int) 2) : Int).toNat)).bind fun bt133 => ((iban_Length.f a0).bind fun bt135 => ((remitterref03_Length.f k a0).bind fun bt137 => (if bt135.1 = bt137.1 then (remitterlaw03_IbanTells.j0 k a0 bt127.1 bt127.2 bt129.1 bt129.2 bt131.1 bt131.2 bt133.1 bt133.2 (bt135.2 != bt137.2)) else (remitterlaw03_IbanTells.j0 k a0 bt127.1 bt127.2 bt129.1 bt129.2 bt131.1 bt131.2 bt133.1 bt133.2 true)))))) else (none)) else (none))))) = some r := h
  clear h
  by_cases c2 : (a0.size : Int) > 100
  · rw [if_pos c2] at H
    have c2b0 : decide (100 < (a0.size : Int)) = true := decide_eq_true c2
    have c2b1 : decide (100 < a0.size) = true := decide_eq_true (by omega)
    clear c2
    replace H := Option.bind_eq_some_iff.mp H
    obtain ⟨t126, A30, H⟩ := H
    replace H : (some t126) = some r := H
    have A3 := Aside0.mk A30
    clear A30
    obtain rfl := Option.some.inj H
    go_enter Tryd.func3, Tryd.ntmps3
    go_wp2_with (first | ((with_reducible refine gate_callee (f := 6) rfl ?_); refine goesL_ (some 18) rfl rfl Tryd.func6 (by kernel_rfl) rfl #[] rfl (by (try simp only [List.map_toArray, List.map_cons, List.map_nil]); first | done | rfl | (simp only [List.length_drop, List.length_take]; rfl)) ?_; (with_reducible refine (remitterlaw03_wakes.calls k  t126 _ A3.out (GWS_below HGS.out (by repeat (first | (with_reducible first | exact HB.out | apply below_alloc | apply pw_below_drewN | apply below_drew1) | exact HB.out)))).mono ?_); rintro e w4 ⟨rfl, hb⟩; refine ⟨_, rfl, ?_⟩; have n0_ := Aside0.mk (below_step (by repeat (first | (with_reducible first | exact HB.out | apply below_alloc | apply pw_below_drewN | apply below_drew1) | exact HB.out)) hb); clear HB; have HB := n0_; clear n0_; (try clear hb); (try clear hb2); (try clear hk); (try clear hi)))
    all_goals (first | (exfalso; simp_all; done) | (exfalso; omega) | (go_ret; exact ⟨by first | rfl | (simp [errW_none, errW_some] <;> rfl) | (simp [*, errW_none, errW_some] <;> rfl), by repeat (first | (with_reducible first | exact HB.out | apply below_alloc | apply pw_below_drewN | apply below_drew1) | exact HB.out)⟩))
  · rw [if_neg c2] at H
    have c2b0 : decide (100 < (a0.size : Int)) = false := decide_eq_false c2
    have c2b1 : decide (100 < a0.size) = false := decide_eq_false (by omega)
    clear c2
    replace H := Option.bind_eq_some_iff.mp H
    obtain ⟨⟨t127, t128⟩, A50, H⟩ := H
    replace H : ((remitterref03_Rest.f k a0).bind fun bt129 => (if 0 ≤ (mn (a0.size : Int) 2) then (if (mn (a0.size : Int) 2) ≤ (a0.size : Int) then ((iban_Length.f (a0.extract 0 ((mn (a0.size : Int) 2) : Int).toNat)).bind fun bt131 => ((remitterref03_Length.f k (a0.extract 0 ((mn (a0.size : Int) 2) : Int).toNat)).bind fun bt133 => ((iban_Length.f a0).bind fun bt135 => ((remitterref03_Length.f k a0).bind fun bt137 => (if bt135.1 = bt137.1 then (remitterlaw03_IbanTells.j0 k a0 t127 t128 bt129.1 bt129.2 bt131.1 bt131.2 bt133.1 bt133.2 (bt135.2 != bt137.2)) else (remitterlaw03_IbanTells.j0 k a0 t127 t128 bt129.1 bt129.2 bt131.1 bt131.2 bt133.1 bt133.2 true)))))) else (none)) else (none))) = some r := H
    have A5 := Aside0.mk A50
    clear A50
    replace H := Option.bind_eq_some_iff.mp H
    obtain ⟨⟨t129, t130⟩, A60, H⟩ := H
    replace H : (if 0 ≤ (mn (a0.size : Int) 2) then (if (mn (a0.size : Int) 2) ≤ (a0.size : Int) then ((iban_Length.f (a0.extract 0 ((mn (a0.size : Int) 2) : Int).toNat)).bind fun bt131 => ((remitterref03_Length.f k (a0.extract 0 ((mn (a0.size : Int) 2) : Int).toNat)).bind fun bt133 => ((iban_Length.f a0).bind fun bt135 => ((remitterref03_Length.f k a0).bind fun bt137 => (if bt135.1 = bt137.1 then (remitterlaw03_IbanTells.j0 k a0 t127 t128 t129 t130 bt131.1 bt131.2 bt133.1 bt133.2 (bt135.2 != bt137.2)) else (remitterlaw03_IbanTells.j0 k a0 t127 t128 t129 t130 bt131.1 bt131.2 bt133.1 bt133.2 true)))))) else (none)) else (none)) = some r := H
    have A6 := Aside0.mk A60
    clear A60
    obtain ⟨ji7, hji7⟩ : ∃ j_ : Int, (mn (a0.size : Int) 2) = j_ := ⟨_, rfl⟩
    replace H : (if 0 ≤ (ji7) then (if (ji7) ≤ (a0.size : Int) then ((iban_Length.f (a0.extract 0 ((ji7) : Int).toNat)).bind fun bt131 => ((remitterref03_Length.f k (a0.extract 0 ((ji7) : Int).toNat)).bind fun bt133 => ((iban_Length.f a0).bind fun bt135 => ((remitterref03_Length.f k a0).bind fun bt137 => (if bt135.1 = bt137.1 then (remitterlaw03_IbanTells.j0 k a0 t127 t128 t129 t130 bt131.1 bt131.2 bt133.1 bt133.2 (bt135.2 != bt137.2)) else (remitterlaw03_IbanTells.j0 k a0 t127 t128 t129 t130 bt131.1 bt131.2 bt133.1 bt133.2 true)))))) else (none)) else (none)) = some r := by first | (rw [hji7] at H; exact H) | (simp only [hji7] at H ⊢; exact H)
    (try rw [hji7] at A5)
    (try rw [hji7] at A6)
    (try (have hji7h : ji7 ≤ 2 := by (rw [← hji7]; unfold mn; (repeat' split) <;> omega)))
    (try (have hji7g : ji7 ≤ 64 := by omega))
    (try (have hji7l : 0 ≤ ji7 := by (rw [← hji7]; unfold mn; (repeat' split) <;> omega)))
    (try (have hji7m : 0 ≤ ji7 := by omega))
    have hji7_ : (if 2 < (a0.size : Int) then 2 else (a0.size : Int)) = ji7 := hji7
    by_cases c8 : 0 ≤ (ji7)
    · rw [if_pos c8] at H
      have c8b0 := eq_true c8
      have c8b1 : decide (0 ≤ (ji7)) = true := decide_eq_true c8
      clear c8
      by_cases c9 : (ji7) ≤ (a0.size : Int)
      · rw [if_pos c9] at H
        have c9b0 := eq_true c9
        have c9b1 : decide ((ji7) ≤ (a0.size : Int)) = true := decide_eq_true c9
        clear c9
        replace H := Option.bind_eq_some_iff.mp H
        obtain ⟨⟨t131, t132⟩, A100, H⟩ := H
        replace H : ((remitterref03_Length.f k (a0.extract 0 ((ji7) : Int).toNat)).bind fun bt133 => ((iban_Length.f a0).bind fun bt135 => ((remitterref03_Length.f k a0).bind fun bt137 => (if bt135.1 = bt137.1 then (remitterlaw03_IbanTells.j0 k a0 t127 t128 t129 t130 t131 t132 bt133.1 bt133.2 (bt135.2 != bt137.2)) else (remitterlaw03_IbanTells.j0 k a0 t127 t128 t129 t130 t131 t132 bt133.1 bt133.2 true))))) = some r := H
        have A10 := Aside0.mk A100
        clear A100
        have c12b0 := eq_true (of_decide_eq_true (by first | (with_reducible assumption) | assumption) : 0 ≤ (ji7))
        have c13b0 := eq_true (of_decide_eq_true (by first | (with_reducible assumption) | assumption) : (ji7) ≤ (a0.size : Int))
        replace H := Option.bind_eq_some_iff.mp H
        obtain ⟨⟨t133, t134⟩, A140, H⟩ := H
        replace H : ((iban_Length.f a0).bind fun bt135 => ((remitterref03_Length.f k a0).bind fun bt137 => (if bt135.1 = bt137.1 then (remitterlaw03_IbanTells.j0 k a0 t127 t128 t129 t130 t131 t132 t133 t134 (bt135.2 != bt137.2)) else (remitterlaw03_IbanTells.j0 k a0 t127 t128 t129 t130 t131 t132 t133 t134 true)))) = some r := H
        have A14 := Aside0.mk A140
        clear A140
        replace H := Option.bind_eq_some_iff.mp H
        obtain ⟨⟨t135, t136⟩, A150, H⟩ := H
        replace H : ((remitterref03_Length.f k a0).bind fun bt137 => (if t135 = bt137.1 then (remitterlaw03_IbanTells.j0 k a0 t127 t128 t129 t130 t131 t132 t133 t134 (t136 != bt137.2)) else (remitterlaw03_IbanTells.j0 k a0 t127 t128 t129 t130 t131 t132 t133 t134 true))) = some r := H
        have A15 := Aside0.mk A150
        clear A150
        replace H := Option.bind_eq_some_iff.mp H
        obtain ⟨⟨t137, t138⟩, A160, H⟩ := H
        replace H : (if t135 = t137 then (remitterlaw03_IbanTells.j0 k a0 t127 t128 t129 t130 t131 t132 t133 t134 (t136 != t138)) else (remitterlaw03_IbanTells.j0 k a0 t127 t128 t129 t130 t131 t132 t133 t134 true)) = some r := H
        have A16 := Aside0.mk A160
        clear A160
        have HC17 := Aside0.mk H
        clear H
        go_enter Tryd.func3, Tryd.ntmps3
        go_upto_region 9 with (first | ((with_reducible refine gate_callee (f := 7) rfl ?_); refine goesL_ (some 21) rfl rfl Tryd.func7 (by kernel_rfl) rfl #[.string a0] rfl (by (try simp only [List.map_toArray, List.map_cons, List.map_nil]); first | done | rfl | (simp only [List.length_drop, List.length_take]; rfl)) ?_; (with_reducible refine (iban_Rest.calls a0 t127 t128 _ A5.out).mono ?_); rintro e w18 ⟨rfl, hb⟩; refine ⟨_, rfl, ?_⟩; have n0_ := Aside0.mk (below_step (by repeat (first | (with_reducible first | exact HB.out | apply below_alloc | apply pw_below_drewN | apply below_drew1) | exact HB.out)) hb); clear HB; have HB := n0_; clear n0_; (try clear hb); (try clear hb2); (try clear hk); (try clear hi)) | ((with_reducible refine gate_callee (f := 8) rfl ?_); refine goesL_ (some 26) rfl rfl Tryd.func8 (by kernel_rfl) rfl #[.string a0] rfl (by (try simp only [List.map_toArray, List.map_cons, List.map_nil]); first | done | rfl | (simp only [List.length_drop, List.length_take]; rfl)) ?_; (with_reducible refine (remitterref03_Rest.calls k a0 t129 t130 _ A6.out).mono ?_); rintro e w19 ⟨rfl, hb⟩; refine ⟨_, rfl, ?_⟩; have n0_ := Aside0.mk (below_step (by repeat (first | (with_reducible first | exact HB.out | apply below_alloc | apply pw_below_drewN | apply below_drew1) | exact HB.out)) hb); clear HB; have HB := n0_; clear n0_; (try clear hb); (try clear hb2); (try clear hk); (try clear hi)) | ((with_reducible refine gate_callee (f := 9) rfl ?_); refine goesL_ (some 35) rfl rfl Tryd.func9 (by kernel_rfl) rfl #[.string (a0.extract 0 ((ji7) : Int).toNat)] rfl (by (try simp only [List.map_toArray, List.map_cons, List.map_nil]); first | done | (simp only [hji7]; rfl) | rfl | (simp only [List.length_drop, List.length_take]; rfl)) ?_; (with_reducible refine (iban_Length.calls (a0.extract 0 ((ji7) : Int).toNat) t131 t132 _ A10.out (GWS_below HGS.out (by repeat (first | (with_reducible first | exact HB.out | apply below_alloc | apply pw_below_drewN | apply below_drew1) | exact HB.out)))).mono ?_); rintro e w20 ⟨rfl, hb⟩; refine ⟨_, rfl, ?_⟩; have n0_ := Aside0.mk (below_step (by repeat (first | (with_reducible first | exact HB.out | apply below_alloc | apply pw_below_drewN | apply below_drew1) | exact HB.out)) hb); clear HB; have HB := n0_; clear n0_; (try clear hb); (try clear hb2); (try clear hk); (try clear hi)) | ((with_reducible refine gate_callee (f := 10) rfl ?_); refine goesL_ (some 44) rfl rfl Tryd.func10 (by kernel_rfl) rfl #[.string (a0.extract 0 ((ji7) : Int).toNat)] rfl (by (try simp only [List.map_toArray, List.map_cons, List.map_nil]); first | done | (simp only [hji7]; rfl) | rfl | (simp only [List.length_drop, List.length_take]; rfl)) ?_; (with_reducible refine (remitterref03_Length.calls k (a0.extract 0 ((ji7) : Int).toNat) t133 t134 _ A14.out).mono ?_); rintro e w' ⟨rfl, ⟨nd, rfl⟩⟩; refine ⟨_, rfl, ?_⟩) | ((with_reducible refine gate_callee (f := 9) rfl ?_); refine goesL_ (some 49) rfl rfl Tryd.func9 (by kernel_rfl) rfl #[.string a0] rfl (by (try simp only [List.map_toArray, List.map_cons, List.map_nil]); first | done | rfl | (simp only [List.length_drop, List.length_take]; rfl)) ?_; (with_reducible refine (iban_Length.calls a0 t135 t136 _ A15.out (GWS_below HGS.out (by repeat (first | (with_reducible first | exact HB.out | apply below_alloc | apply pw_below_drewN | apply below_drew1) | exact HB.out)))).mono ?_); rintro e w21 ⟨rfl, hb⟩; refine ⟨_, rfl, ?_⟩; have n0_ := Aside0.mk (below_step (by repeat (first | (with_reducible first | exact HB.out | apply below_alloc | apply pw_below_drewN | apply below_drew1) | exact HB.out)) hb); clear HB; have HB := n0_; clear n0_; (try clear hb); (try clear hb2); (try clear hk); (try clear hi)) | ((with_reducible refine gate_callee (f := 10) rfl ?_); refine goesL_ (some 54) rfl rfl Tryd.func10 (by kernel_rfl) rfl #[.string a0] rfl (by (try simp only [List.map_toArray, List.map_cons, List.map_nil]); first | done | rfl | (simp only [List.length_drop, List.length_take]; rfl)) ?_; (with_reducible refine (remitterref03_Length.calls k a0 t137 t138 _ A16.out).mono ?_); rintro e w' ⟨rfl, ⟨nd, rfl⟩⟩; refine ⟨_, rfl, ?_⟩))
        (try simp only [Act.put, List.setIfInBounds_toArray, List.set_cons_zero, List.set_cons_succ])
        go_cut [64] (fun v64 wc => ∃ (kq : Nat) (x64_16 : Bool), v64 = .bool x64_16 ∧ Aside0 (remitterlaw03_IbanTells.j0 kq a0 t127 t128 t129 t130 t131 t132 t133 t134 x64_16 = some r) ∧ Aside0 (kq ≤ k) ∧ Aside0 (Below w.heap.size w wc))
        case first =>
          have H := HC17.out
          clear HC17
          by_cases c22 : t135 = t137
          · rw [if_pos c22] at H
            have c22b0 : (t135 == t137) = true := beq_iff_eq.mpr c22
            have c22b1 : (t135 != t137) = false := bne_eq_false_iff_eq.mpr c22
            clear c22
            (first | rw [c22b0] | (simp only [i64_w, i32_w]; rw [c22b0]) | skip)
            have H' := Aside0.mk H
            clear H
            go_wp2
            go_meet
            case rel => exact ⟨_, ((t136 != t138)), (by first | rfl | (simp; done) | (simp [*]; done) | exact congrArg Value.bool (Go.Proofs.YtjblihfgpbnhbaaDoor.GLib.not_isEmpty _) | exact congrArg Value.bool (Go.Proofs.YtjblihfgpbnhbaaDoor.GLib.not_isEmpty _).symm), H', ⟨by first | omega | exact Nat.le_refl _⟩, ⟨by repeat (first | (with_reducible first | exact HB.out | apply below_alloc | apply pw_below_drewN | apply below_drew1) | exact HB.out)⟩⟩
          · rw [if_neg c22] at H
            have c22b0 : (t135 == t137) = false := beq_eq_false_iff_ne.mpr c22
            have c22b1 : (t135 != t137) = true := bne_iff_ne.mpr c22
            (first | rw [c22b0] | (simp only [i64_w, i32_w]; rw [c22b0]) | skip)
            have H' := Aside0.mk H
            clear H
            go_wp2
            go_meet
            case rel => exact ⟨_, (true), (by first | rfl | (simp; done) | (simp [*]; done) | exact congrArg Value.bool (Go.Proofs.YtjblihfgpbnhbaaDoor.GLib.not_isEmpty _) | exact congrArg Value.bool (Go.Proofs.YtjblihfgpbnhbaaDoor.GLib.not_isEmpty _).symm), H', ⟨by first | omega | exact Nat.le_refl _⟩, ⟨by repeat (first | (with_reducible first | exact HB.out | apply below_alloc | apply pw_below_drewN | apply below_drew1) | exact HB.out)⟩⟩
        case rest =>
          clear HC17
          try clear c1
          try clear c2
          try clear c2b0
          try clear c2b1
          try clear p2
          try clear c3
          try clear c6
          try clear c7
          try clear c8
          try clear c8b0
          try clear c8b1
          try clear c9
          try clear c9b0
          try clear c9b1
          try clear c10
          try clear c11
          try clear c11b0
          try clear c12
          try clear c12b0
          try clear c13
          try clear c13b0
          try clear c22
          try clear c22b0
          try clear c22b1
          obtain ⟨kq, x64_16, rfl, HA, HJ16, HB⟩ := hcut
          cases kq with
          | zero => exact absurd HA.out (by simp [remitterlaw03_IbanTells.j0])
          | succ kj16 =>
            have H := HA.out
            clear HA
            simp only [remitterlaw03_IbanTells.j0] at H
            by_cases c23 : x64_16 = true
            · subst c23
              have H1 : (some false) = some r := by rw [if_pos rfl] at H; exact H
              clear H
              have H := H1
              clear H1
              obtain rfl := Option.some.inj H
              go_wp2
              all_goals (first | (exfalso; simp_all; done) | (exfalso; omega) | (go_ret; exact ⟨by first | rfl | (simp [errW_none, errW_some] <;> rfl) | (simp only [← hji7]; first | rfl | (simp [errW_none, errW_some] <;> rfl)) | (simp [*, errW_none, errW_some] <;> rfl), by repeat (first | (with_reducible first | exact HB.out | apply below_alloc | apply pw_below_drewN | apply below_drew1) | exact HB.out)⟩))
            · replace c23 := Bool.eq_false_iff.mpr c23
              subst c23
              have H1 : ((iban_Check.f kj16 a0).bind fun t139 => ((remitterref03_Check.f kj16 a0).bind fun t140 => (if t139 = t140 then (if t127 = t129 then (if (t128 == t130) = true then (if t131 = t133 then (if (t132 == t134) = true then ((remitterlaw03_wakes.f kj16).bind fun t141 => (some t141)) else (some false)) else (some false)) else (some false)) else (some false)) else (some false)))) = some r := by rw [if_neg (show ¬ (false = true) by decide)] at H; exact H
              clear H
              have H := H1
              clear H1
              replace H := Option.bind_eq_some_iff.mp H
              obtain ⟨t139, A240, H⟩ := H
              replace H : ((remitterref03_Check.f kj16 a0).bind fun t140 => (if t139 = t140 then (if t127 = t129 then (if (t128 == t130) = true then (if t131 = t133 then (if (t132 == t134) = true then ((remitterlaw03_wakes.f kj16).bind fun t141 => (some t141)) else (some false)) else (some false)) else (some false)) else (some false)) else (some false))) = some r := H
              have A24 := Aside0.mk A240
              clear A240
              replace H := Option.bind_eq_some_iff.mp H
              obtain ⟨t140, A250, H⟩ := H
              replace H : (if t139 = t140 then (if t127 = t129 then (if (t128 == t130) = true then (if t131 = t133 then (if (t132 == t134) = true then ((remitterlaw03_wakes.f kj16).bind fun t141 => (some t141)) else (some false)) else (some false)) else (some false)) else (some false)) else (some false)) = some r := H
              have A25 := Aside0.mk A250
              clear A250
              by_cases c26 : t139 = t140
              · rw [if_pos c26] at H
                have c26b0 : (t139 == t140) = true := beq_iff_eq.mpr c26
                have c26b1 : (t139 != t140) = false := bne_eq_false_iff_eq.mpr c26
                clear c26
                by_cases c27 : t127 = t129
                · rw [if_pos c27] at H
                  have c27b0 : (t127 == t129) = true := beq_iff_eq.mpr c27
                  have c27b1 : (t127 != t129) = false := bne_eq_false_iff_eq.mpr c27
                  clear c27
                  by_cases c28 : (t128 == t130) = true
                  · rw [if_pos c28] at H
                    have c28b0 : (t128 == t130) = true := c28
                    (try (have c28b1 : decide (t128 = t130) = true := by simpa using c28))
                    (try (have c28b2 : (t128 == t130) = true := by simpa using c28))
                    clear c28
                    by_cases c29 : t131 = t133
                    · rw [if_pos c29] at H
                      have c29b0 : (t131 == t133) = true := beq_iff_eq.mpr c29
                      have c29b1 : (t131 != t133) = false := bne_eq_false_iff_eq.mpr c29
                      clear c29
                      by_cases c30 : (t132 == t134) = true
                      · rw [if_pos c30] at H
                        have c30b0 : (t132 == t134) = true := c30
                        (try (have c30b1 : decide (t132 = t134) = true := by simpa using c30))
                        (try (have c30b2 : (t132 == t134) = true := by simpa using c30))
                        clear c30
                        replace H := Option.bind_eq_some_iff.mp H
                        obtain ⟨t141, A310, H⟩ := H
                        replace H : (some t141) = some r := H
                        have A31 := Aside0.mk A310
                        clear A310
                        obtain rfl := Option.some.inj H
                        go_wp2_with (first | ((with_reducible refine gate_callee (f := 11) rfl ?_); refine goesL_ (some 66) rfl rfl Tryd.func11 (by kernel_rfl) rfl #[.string a0] rfl (by (try simp only [List.map_toArray, List.map_cons, List.map_nil]); first | done | rfl | (simp only [List.length_drop, List.length_take]; rfl)) ?_; (with_reducible refine (iban_Check.calls kj16 a0 t139 _ A24.out (GWS_below HGS.out (by repeat (first | (with_reducible first | exact HB.out | apply below_alloc | apply pw_below_drewN | apply below_drew1) | exact HB.out)))).mono ?_); rintro e w32 ⟨rfl, hb⟩; refine ⟨_, rfl, ?_⟩; have n0_ := Aside0.mk (below_step (by repeat (first | (with_reducible first | exact HB.out | apply below_alloc | apply pw_below_drewN | apply below_drew1) | exact HB.out)) hb); clear HB; have HB := n0_; clear n0_; (try clear hb); (try clear hb2); (try clear hk); (try clear hi)) | ((with_reducible refine gate_callee (f := 12) rfl ?_); refine goesL_ (some 68) rfl rfl Tryd.func12 (by kernel_rfl) rfl #[.string a0] rfl (by (try simp only [List.map_toArray, List.map_cons, List.map_nil]); first | done | rfl | (simp only [List.length_drop, List.length_take]; rfl)) ?_; (with_reducible refine (remitterref03_Check.calls kj16 a0 t140 _ A25.out).mono ?_); rintro e w33 ⟨rfl, hb⟩; refine ⟨_, rfl, ?_⟩; have n0_ := Aside0.mk (below_step (by repeat (first | (with_reducible first | exact HB.out | apply below_alloc | apply pw_below_drewN | apply below_drew1) | exact HB.out)) hb); clear HB; have HB := n0_; clear n0_; (try clear hb); (try clear hb2); (try clear hk); (try clear hi)) | (go_at_call 6; (with_reducible refine (remitterlaw03_wakes.calls kj16  t141 _ A31.out (GWS_below HGS.out (by repeat (first | (with_reducible first | exact HB.out | apply below_alloc | apply pw_below_drewN | apply below_drew1) | exact HB.out)))).mono ?_); rintro e w34 ⟨rfl, hb⟩; have n0_ := Aside0.mk (below_step (by repeat (first | (with_reducible first | exact HB.out | apply below_alloc | apply pw_below_drewN | apply below_drew1) | exact HB.out)) hb); clear HB; have HB := n0_; clear n0_; (try clear hb); (try clear hb2); (try clear hk); (try clear hi)))
                        all_goals (first | (exfalso; simp_all; done) | (exfalso; omega) | (go_ret; exact ⟨by first | rfl | (simp [errW_none, errW_some] <;> rfl) | (simp only [← hji7]; first | rfl | (simp [errW_none, errW_some] <;> rfl)) | (simp [*, errW_none, errW_some] <;> rfl), by repeat (first | (with_reducible first | exact HB.out | apply below_alloc | apply pw_below_drewN | apply below_drew1) | exact HB.out)⟩))
                      · rw [if_neg c30] at H
                        have c30b0 : (t132 == t134) = false := by simpa using c30
                        (try (have c30b1 : decide (t132 = t134) = false := by simpa using c30))
                        (try (have c30b2 : (t132 == t134) = false := by simpa using c30))
                        (try (have c30b3 : ¬ (t132 = t134) := by simpa using c30))
                        clear c30
                        obtain rfl := Option.some.inj H
                        go_wp2_with (first | ((with_reducible refine gate_callee (f := 11) rfl ?_); refine goesL_ (some 66) rfl rfl Tryd.func11 (by kernel_rfl) rfl #[.string a0] rfl (by (try simp only [List.map_toArray, List.map_cons, List.map_nil]); first | done | rfl | (simp only [List.length_drop, List.length_take]; rfl)) ?_; (with_reducible refine (iban_Check.calls kj16 a0 t139 _ A24.out (GWS_below HGS.out (by repeat (first | (with_reducible first | exact HB.out | apply below_alloc | apply pw_below_drewN | apply below_drew1) | exact HB.out)))).mono ?_); rintro e w35 ⟨rfl, hb⟩; refine ⟨_, rfl, ?_⟩; have n0_ := Aside0.mk (below_step (by repeat (first | (with_reducible first | exact HB.out | apply below_alloc | apply pw_below_drewN | apply below_drew1) | exact HB.out)) hb); clear HB; have HB := n0_; clear n0_; (try clear hb); (try clear hb2); (try clear hk); (try clear hi)) | ((with_reducible refine gate_callee (f := 12) rfl ?_); refine goesL_ (some 68) rfl rfl Tryd.func12 (by kernel_rfl) rfl #[.string a0] rfl (by (try simp only [List.map_toArray, List.map_cons, List.map_nil]); first | done | rfl | (simp only [List.length_drop, List.length_take]; rfl)) ?_; (with_reducible refine (remitterref03_Check.calls kj16 a0 t140 _ A25.out).mono ?_); rintro e w36 ⟨rfl, hb⟩; refine ⟨_, rfl, ?_⟩; have n0_ := Aside0.mk (below_step (by repeat (first | (with_reducible first | exact HB.out | apply below_alloc | apply pw_below_drewN | apply below_drew1) | exact HB.out)) hb); clear HB; have HB := n0_; clear n0_; (try clear hb); (try clear hb2); (try clear hk); (try clear hi)))
                        all_goals (first | (exfalso; simp_all; done) | (exfalso; omega) | (go_ret; exact ⟨by first | rfl | (simp [errW_none, errW_some] <;> rfl) | (simp only [← hji7]; first | rfl | (simp [errW_none, errW_some] <;> rfl)) | (simp [*, errW_none, errW_some] <;> rfl), by repeat (first | (with_reducible first | exact HB.out | apply below_alloc | apply pw_below_drewN | apply below_drew1) | exact HB.out)⟩))
                    · rw [if_neg c29] at H
                      have c29b0 : (t131 == t133) = false := beq_eq_false_iff_ne.mpr c29
                      have c29b1 : (t131 != t133) = true := bne_iff_ne.mpr c29
                      obtain rfl := Option.some.inj H
                      go_wp2_with (first | ((with_reducible refine gate_callee (f := 11) rfl ?_); refine goesL_ (some 66) rfl rfl Tryd.func11 (by kernel_rfl) rfl #[.string a0] rfl (by (try simp only [List.map_toArray, List.map_cons, List.map_nil]); first | done | rfl | (simp only [List.length_drop, List.length_take]; rfl)) ?_; (with_reducible refine (iban_Check.calls kj16 a0 t139 _ A24.out (GWS_below HGS.out (by repeat (first | (with_reducible first | exact HB.out | apply below_alloc | apply pw_below_drewN | apply below_drew1) | exact HB.out)))).mono ?_); rintro e w37 ⟨rfl, hb⟩; refine ⟨_, rfl, ?_⟩; have n0_ := Aside0.mk (below_step (by repeat (first | (with_reducible first | exact HB.out | apply below_alloc | apply pw_below_drewN | apply below_drew1) | exact HB.out)) hb); clear HB; have HB := n0_; clear n0_; (try clear hb); (try clear hb2); (try clear hk); (try clear hi)) | ((with_reducible refine gate_callee (f := 12) rfl ?_); refine goesL_ (some 68) rfl rfl Tryd.func12 (by kernel_rfl) rfl #[.string a0] rfl (by (try simp only [List.map_toArray, List.map_cons, List.map_nil]); first | done | rfl | (simp only [List.length_drop, List.length_take]; rfl)) ?_; (with_reducible refine (remitterref03_Check.calls kj16 a0 t140 _ A25.out).mono ?_); rintro e w38 ⟨rfl, hb⟩; refine ⟨_, rfl, ?_⟩; have n0_ := Aside0.mk (below_step (by repeat (first | (with_reducible first | exact HB.out | apply below_alloc | apply pw_below_drewN | apply below_drew1) | exact HB.out)) hb); clear HB; have HB := n0_; clear n0_; (try clear hb); (try clear hb2); (try clear hk); (try clear hi)))
                      all_goals (first | (exfalso; simp_all; done) | (exfalso; omega) | (go_ret; exact ⟨by first | rfl | (simp [errW_none, errW_some] <;> rfl) | (simp only [← hji7]; first | rfl | (simp [errW_none, errW_some] <;> rfl)) | (simp [*, errW_none, errW_some] <;> rfl), by repeat (first | (with_reducible first | exact HB.out | apply below_alloc | apply pw_below_drewN | apply below_drew1) | exact HB.out)⟩))
                  · rw [if_neg c28] at H
                    have c28b0 : (t128 == t130) = false := by simpa using c28
                    (try (have c28b1 : decide (t128 = t130) = false := by simpa using c28))
                    (try (have c28b2 : (t128 == t130) = false := by simpa using c28))
                    (try (have c28b3 : ¬ (t128 = t130) := by simpa using c28))
                    clear c28
                    obtain rfl := Option.some.inj H
                    go_wp2_with (first | ((with_reducible refine gate_callee (f := 11) rfl ?_); refine goesL_ (some 66) rfl rfl Tryd.func11 (by kernel_rfl) rfl #[.string a0] rfl (by (try simp only [List.map_toArray, List.map_cons, List.map_nil]); first | done | rfl | (simp only [List.length_drop, List.length_take]; rfl)) ?_; (with_reducible refine (iban_Check.calls kj16 a0 t139 _ A24.out (GWS_below HGS.out (by repeat (first | (with_reducible first | exact HB.out | apply below_alloc | apply pw_below_drewN | apply below_drew1) | exact HB.out)))).mono ?_); rintro e w39 ⟨rfl, hb⟩; refine ⟨_, rfl, ?_⟩; have n0_ := Aside0.mk (below_step (by repeat (first | (with_reducible first | exact HB.out | apply below_alloc | apply pw_below_drewN | apply below_drew1) | exact HB.out)) hb); clear HB; have HB := n0_; clear n0_; (try clear hb); (try clear hb2); (try clear hk); (try clear hi)) | ((with_reducible refine gate_callee (f := 12) rfl ?_); refine goesL_ (some 68) rfl rfl Tryd.func12 (by kernel_rfl) rfl #[.string a0] rfl (by (try simp only [List.map_toArray, List.map_cons, List.map_nil]); first | done | rfl | (simp only [List.length_drop, List.length_take]; rfl)) ?_; (with_reducible refine (remitterref03_Check.calls kj16 a0 t140 _ A25.out).mono ?_); rintro e w40 ⟨rfl, hb⟩; refine ⟨_, rfl, ?_⟩; have n0_ := Aside0.mk (below_step (by repeat (first | (with_reducible first | exact HB.out | apply below_alloc | apply pw_below_drewN | apply below_drew1) | exact HB.out)) hb); clear HB; have HB := n0_; clear n0_; (try clear hb); (try clear hb2); (try clear hk); (try clear hi)))
                    all_goals (first | (exfalso; simp_all; done) | (exfalso; omega) | (go_ret; exact ⟨by first | rfl | (simp [errW_none, errW_some] <;> rfl) | (simp only [← hji7]; first | rfl | (simp [errW_none, errW_some] <;> rfl)) | (simp [*, errW_none, errW_some] <;> rfl), by repeat (first | (with_reducible first | exact HB.out | apply below_alloc | apply pw_below_drewN | apply below_drew1) | exact HB.out)⟩))
                · rw [if_neg c27] at H
                  have c27b0 : (t127 == t129) = false := beq_eq_false_iff_ne.mpr c27
                  have c27b1 : (t127 != t129) = true := bne_iff_ne.mpr c27
                  obtain rfl := Option.some.inj H
                  go_wp2_with (first | ((with_reducible refine gate_callee (f := 11) rfl ?_); refine goesL_ (some 66) rfl rfl Tryd.func11 (by kernel_rfl) rfl #[.string a0] rfl (by (try simp only [List.map_toArray, List.map_cons, List.map_nil]); first | done | rfl | (simp only [List.length_drop, List.length_take]; rfl)) ?_; (with_reducible refine (iban_Check.calls kj16 a0 t139 _ A24.out (GWS_below HGS.out (by repeat (first | (with_reducible first | exact HB.out | apply below_alloc | apply pw_below_drewN | apply below_drew1) | exact HB.out)))).mono ?_); rintro e w41 ⟨rfl, hb⟩; refine ⟨_, rfl, ?_⟩; have n0_ := Aside0.mk (below_step (by repeat (first | (with_reducible first | exact HB.out | apply below_alloc | apply pw_below_drewN | apply below_drew1) | exact HB.out)) hb); clear HB; have HB := n0_; clear n0_; (try clear hb); (try clear hb2); (try clear hk); (try clear hi)) | ((with_reducible refine gate_callee (f := 12) rfl ?_); refine goesL_ (some 68) rfl rfl Tryd.func12 (by kernel_rfl) rfl #[.string a0] rfl (by (try simp only [List.map_toArray, List.map_cons, List.map_nil]); first | done | rfl | (simp only [List.length_drop, List.length_take]; rfl)) ?_; (with_reducible refine (remitterref03_Check.calls kj16 a0 t140 _ A25.out).mono ?_); rintro e w42 ⟨rfl, hb⟩; refine ⟨_, rfl, ?_⟩; have n0_ := Aside0.mk (below_step (by repeat (first | (with_reducible first | exact HB.out | apply below_alloc | apply pw_below_drewN | apply below_drew1) | exact HB.out)) hb); clear HB; have HB := n0_; clear n0_; (try clear hb); (try clear hb2); (try clear hk); (try clear hi)))
                  all_goals (first | (exfalso; simp_all; done) | (exfalso; omega) | (go_ret; exact ⟨by first | rfl | (simp [errW_none, errW_some] <;> rfl) | (simp only [← hji7]; first | rfl | (simp [errW_none, errW_some] <;> rfl)) | (simp [*, errW_none, errW_some] <;> rfl), by repeat (first | (with_reducible first | exact HB.out | apply below_alloc | apply pw_below_drewN | apply below_drew1) | exact HB.out)⟩))
              · rw [if_neg c26] at H
                have c26b0 : (t139 == t140) = false := beq_eq_false_iff_ne.mpr c26
                have c26b1 : (t139 != t140) = true := bne_iff_ne.mpr c26
                obtain rfl := Option.some.inj H
                go_wp2_with (first | ((with_reducible refine gate_callee (f := 11) rfl ?_); refine goesL_ (some 66) rfl rfl Tryd.func11 (by kernel_rfl) rfl #[.string a0] rfl (by (try simp only [List.map_toArray, List.map_cons, List.map_nil]); first | done | rfl | (simp only [List.length_drop, List.length_take]; rfl)) ?_; (with_reducible refine (iban_Check.calls kj16 a0 t139 _ A24.out (GWS_below HGS.out (by repeat (first | (with_reducible first | exact HB.out | apply below_alloc | apply pw_below_drewN | apply below_drew1) | exact HB.out)))).mono ?_); rintro e w43 ⟨rfl, hb⟩; refine ⟨_, rfl, ?_⟩; have n0_ := Aside0.mk (below_step (by repeat (first | (with_reducible first | exact HB.out | apply below_alloc | apply pw_below_drewN | apply below_drew1) | exact HB.out)) hb); clear HB; have HB := n0_; clear n0_; (try clear hb); (try clear hb2); (try clear hk); (try clear hi)) | ((with_reducible refine gate_callee (f := 12) rfl ?_); refine goesL_ (some 68) rfl rfl Tryd.func12 (by kernel_rfl) rfl #[.string a0] rfl (by (try simp only [List.map_toArray, List.map_cons, List.map_nil]); first | done | rfl | (simp only [List.length_drop, List.length_take]; rfl)) ?_; (with_reducible refine (remitterref03_Check.calls kj16 a0 t140 _ A25.out).mono ?_); rintro e w44 ⟨rfl, hb⟩; refine ⟨_, rfl, ?_⟩; have n0_ := Aside0.mk (below_step (by repeat (first | (with_reducible first | exact HB.out | apply below_alloc | apply pw_below_drewN | apply below_drew1) | exact HB.out)) hb); clear HB; have HB := n0_; clear n0_; (try clear hb); (try clear hb2); (try clear hk); (try clear hi)))
                all_goals (first | (exfalso; simp_all; done) | (exfalso; omega) | (go_ret; exact ⟨by first | rfl | (simp [errW_none, errW_some] <;> rfl) | (simp only [← hji7]; first | rfl | (simp [errW_none, errW_some] <;> rfl)) | (simp [*, errW_none, errW_some] <;> rfl), by repeat (first | (with_reducible first | exact HB.out | apply below_alloc | apply pw_below_drewN | apply below_drew1) | exact HB.out)⟩))
      · rw [if_neg c9] at H
        exact absurd H (by simp)
    · rw [if_neg c8] at H
      exact absurd H (by simp)

/-- THE ONE PURE STATEMENT of remitterlaw03_IbanTells: yours. -/
def remitterlaw03_IbanTells.Pure : Prop := ∀ (a0 : ByteArray), a0.size ≤ 140737488351232 → ∃ k, remitterlaw03_IbanTells.f k a0 = some true
theorem remitterlaw03_IbanTells.walk (P : remitterlaw03_IbanTells.Pure) (a0 : ByteArray) (w : World) (w0 : a0.size ≤ 140737488351232) (hGS : GWS w) :
    Calls Tryd.prog 3 #[.string a0] w fun e w' => e = .returned (.bool true) ∧ Below w.heap.size w w' := by
  obtain ⟨k, h⟩ := P a0 w0
  refine (remitterlaw03_IbanTells.calls k a0 true w h hGS).mono ?_
  rintro e w' ⟨rfl, hd⟩
  exact ⟨rfl, hd⟩

-- GIVEN: function 18 (strconv_Itoa): YtjblihfgpbnhbaaDoorGItoa

/-! ### iban_Make: function 13 -/
def iban_Make.f (a0 : ByteArray) (a1 : ByteArray) : Option (ByteArray × Int) := (iban_Length.f a0).bind fun bt142 => (if a0.size + 2 ≤ 9223372036854775807 then (if (a0 ++ (⟨#[48, 48]⟩ : ByteArray)).size + a1.size ≤ 9223372036854775807 then ((iban_Rest.f ((a0 ++ (⟨#[48, 48]⟩ : ByteArray)) ++ a1)).bind fun bt144 => (if bt142.2 = true then (if bt144.2 = true then (if (a1.size : Int) = (wrap64 (bt142.1 - 4)) then ((strconv_Itoa.f (wrap64 (198 - bt144.1))).bind fun t146 => (if 1 ≤ (t146.size : Int) then (if a0.size + (t146.extract 1 t146.size).size ≤ 9223372036854775807 then (if (a0 ++ (t146.extract 1 t146.size)).size + a1.size ≤ 9223372036854775807 then (some ((a0 ++ (t146.extract 1 t146.size)) ++ a1, 0)) else (none)) else (none)) else (none))) else (some ((⟨#[]⟩ : ByteArray), 13))) else (some ((⟨#[]⟩ : ByteArray), 13))) else (some ((⟨#[]⟩ : ByteArray), 13)))) else (none)) else (none))
set_option maxHeartbeats 8000000 in
set_option maxRecDepth 100000 in
theorem iban_Make.calls (a0 : ByteArray) (a1 : ByteArray) (r1 : ByteArray) (r2 : Int) (w : World) (h : iban_Make.f a0 a1 = some (r1, r2)) (hGP : GWP w) (hGS : GWS w) :
    Calls Tryd.prog 13 #[.string a0, .string a1] w fun e w' => e = .returned (.tuple #[.string r1, .int .i64 r2]) ∧ Below w.heap.size w w' := by
  have HGP := Aside0.mk hGP
  clear hGP
  have HGS := Aside0.mk hGS
  clear hGS
  have HB := Aside0.mk (Below.refl w.heap.size w)
  have H : ((iban_Length.f a0).bind fun bt142 => (if a0.size + 2 ≤ 9223372036854775807 then (if (a0 ++ (⟨#[48, 48]⟩ : ByteArray)).size + a1.size ≤ 9223372036854775807 then ((iban_Rest.f ((a0 ++ (⟨#[48, 48]⟩ : ByteArray)) ++ a1)).bind fun bt144 => (if bt142.2 = true then (if bt144.2 = true then (if (a1.size : Int) = (wrap64 (bt142.1 - 4)) then ((strconv_Itoa.f (wrap64 (198 - bt144.1))).bind fun t146 => (if 1 ≤ (t146.size : Int) then (if a0.size + (t146.extract 1 t146.size).size ≤ 9223372036854775807 then (if (a0 ++ (t146.extract 1 t146.size)).size + a1.size ≤ 9223372036854775807 then (some ((a0 ++ (t146.extract 1 t146.size)) ++ a1, 0)) else (none)) else (none)) else (none))) else (some ((⟨#[]⟩ : ByteArray), 13))) else (some ((⟨#[]⟩ : ByteArray), 13))) else (some ((⟨#[]⟩ : ByteArray), 13)))) else (none)) else (none))) = some (r1, r2) := h
  clear h
  replace H := Option.bind_eq_some_iff.mp H
  obtain ⟨⟨t142, t143⟩, A30, H⟩ := H
  replace H : (if a0.size + 2 ≤ 9223372036854775807 then (if (a0 ++ (⟨#[48, 48]⟩ : ByteArray)).size + a1.size ≤ 9223372036854775807 then ((iban_Rest.f ((a0 ++ (⟨#[48, 48]⟩ : ByteArray)) ++ a1)).bind fun bt144 => (if t143 = true then (if bt144.2 = true then (if (a1.size : Int) = (wrap64 (t142 - 4)) then ((strconv_Itoa.f (wrap64 (198 - bt144.1))).bind fun t146 => (if 1 ≤ (t146.size : Int) then (if a0.size + (t146.extract 1 t146.size).size ≤ 9223372036854775807 then (if (a0 ++ (t146.extract 1 t146.size)).size + a1.size ≤ 9223372036854775807 then (some ((a0 ++ (t146.extract 1 t146.size)) ++ a1, 0)) else (none)) else (none)) else (none))) else (some ((⟨#[]⟩ : ByteArray), 13))) else (some ((⟨#[]⟩ : ByteArray), 13))) else (some ((⟨#[]⟩ : ByteArray), 13)))) else (none)) else (none)) = some (r1, r2) := H
  have A3 := Aside0.mk A30
  clear A30
  by_cases c4 : a0.size + 2 ≤ 9223372036854775807
  · rw [if_pos c4] at H
    have c4b0 := eq_true c4
    have c4b1 : decide (a0.size + 2 ≤ 9223372036854775807) = true := decide_eq_true c4
    try have c4b2 : (9223372036854775807 < a0.size + 2) = False := eq_false (Nat.not_lt.2 c4)
    by_cases c5 : (a0 ++ (⟨#[48, 48]⟩ : ByteArray)).size + a1.size ≤ 9223372036854775807
    · rw [if_pos c5] at H
      have c5b0 := eq_true c5
      have c5b1 : decide ((a0 ++ (⟨#[48, 48]⟩ : ByteArray)).size + a1.size ≤ 9223372036854775807) = true := decide_eq_true c5
      try have c5b2 : (9223372036854775807 < (a0 ++ (⟨#[48, 48]⟩ : ByteArray)).size + a1.size) = False := eq_false (Nat.not_lt.2 c5)
      try (have c5b7 := c5b2; simp only [ByteArray.size_append, Go.Proofs.YtjblihfgpbnhbaaDoor.GLib.size_mk, List.size_toArray, List.length_cons, List.length_nil, Nat.zero_add, Nat.reduceAdd] at c5b7)
      replace H := Option.bind_eq_some_iff.mp H
      obtain ⟨⟨t144, t145⟩, A60, H⟩ := H
      replace H : (if t143 = true then (if t145 = true then (if (a1.size : Int) = (wrap64 (t142 - 4)) then ((strconv_Itoa.f (wrap64 (198 - t144))).bind fun t146 => (if 1 ≤ (t146.size : Int) then (if a0.size + (t146.extract 1 t146.size).size ≤ 9223372036854775807 then (if (a0 ++ (t146.extract 1 t146.size)).size + a1.size ≤ 9223372036854775807 then (some ((a0 ++ (t146.extract 1 t146.size)) ++ a1, 0)) else (none)) else (none)) else (none))) else (some ((⟨#[]⟩ : ByteArray), 13))) else (some ((⟨#[]⟩ : ByteArray), 13))) else (some ((⟨#[]⟩ : ByteArray), 13))) = some (r1, r2) := H
      have A6 := Aside0.mk A60
      clear A60
      by_cases c7 : t143 = true
      · subst c7
        have H1 : (if t145 = true then (if (a1.size : Int) = (wrap64 (t142 - 4)) then ((strconv_Itoa.f (wrap64 (198 - t144))).bind fun t146 => (if 1 ≤ (t146.size : Int) then (if a0.size + (t146.extract 1 t146.size).size ≤ 9223372036854775807 then (if (a0 ++ (t146.extract 1 t146.size)).size + a1.size ≤ 9223372036854775807 then (some ((a0 ++ (t146.extract 1 t146.size)) ++ a1, 0)) else (none)) else (none)) else (none))) else (some ((⟨#[]⟩ : ByteArray), 13))) else (some ((⟨#[]⟩ : ByteArray), 13))) = some (r1, r2) := by rw [if_pos rfl] at H; exact H
        clear H
        have H := H1
        clear H1
        by_cases c8 : t145 = true
        · subst c8
          have H1 : (if (a1.size : Int) = (wrap64 (t142 - 4)) then ((strconv_Itoa.f (wrap64 (198 - t144))).bind fun t146 => (if 1 ≤ (t146.size : Int) then (if a0.size + (t146.extract 1 t146.size).size ≤ 9223372036854775807 then (if (a0 ++ (t146.extract 1 t146.size)).size + a1.size ≤ 9223372036854775807 then (some ((a0 ++ (t146.extract 1 t146.size)) ++ a1, 0)) else (none)) else (none)) else (none))) else (some ((⟨#[]⟩ : ByteArray), 13))) = some (r1, r2) := by rw [if_pos rfl] at H; exact H
          clear H
          have H := H1
          clear H1
          by_cases c9 : (a1.size : Int) = (wrap64 (t142 - 4))
          · rw [if_pos c9] at H
            have c9b0 : ((a1.size : Int) == (wrap64 (t142 - 4))) = true := beq_iff_eq.mpr c9
            have c9b1 : ((a1.size : Int) != (wrap64 (t142 - 4))) = false := bne_eq_false_iff_eq.mpr c9
            clear c9
            replace H := Option.bind_eq_some_iff.mp H
            obtain ⟨t146, A100, H⟩ := H
            replace H : (if 1 ≤ (t146.size : Int) then (if a0.size + (t146.extract 1 t146.size).size ≤ 9223372036854775807 then (if (a0 ++ (t146.extract 1 t146.size)).size + a1.size ≤ 9223372036854775807 then (some ((a0 ++ (t146.extract 1 t146.size)) ++ a1, 0)) else (none)) else (none)) else (none)) = some (r1, r2) := H
            have A10 := Aside0.mk A100
            clear A100
            by_cases c11 : 1 ≤ (t146.size : Int)
            · rw [if_pos c11] at H
              have c11b0 := eq_true c11
              have c11b1 : decide (1 ≤ (t146.size : Int)) = true := decide_eq_true c11
              clear c11
              by_cases c12 : a0.size + (t146.extract 1 t146.size).size ≤ 9223372036854775807
              · rw [if_pos c12] at H
                have c12b0 := eq_true c12
                have c12b1 : decide (a0.size + (t146.extract 1 t146.size).size ≤ 9223372036854775807) = true := decide_eq_true c12
                try have c12b2 : (9223372036854775807 < a0.size + (t146.extract 1 t146.size).size) = False := eq_false (Nat.not_lt.2 c12)
                by_cases c13 : (a0 ++ (t146.extract 1 t146.size)).size + a1.size ≤ 9223372036854775807
                · rw [if_pos c13] at H
                  have c13b0 := eq_true c13
                  have c13b1 : decide ((a0 ++ (t146.extract 1 t146.size)).size + a1.size ≤ 9223372036854775807) = true := decide_eq_true c13
                  try have c13b2 : (9223372036854775807 < (a0 ++ (t146.extract 1 t146.size)).size + a1.size) = False := eq_false (Nat.not_lt.2 c13)
                  try (have c13b7 := c13b2; simp only [ByteArray.size_append, Go.Proofs.YtjblihfgpbnhbaaDoor.GLib.size_mk, List.size_toArray, List.length_cons, List.length_nil, Nat.zero_add, Nat.reduceAdd] at c13b7)
                  simp only [Option.some.injEq, Prod.mk.injEq] at H
                  obtain ⟨rfl, rfl⟩ := H
                  go_enter Tryd.func13, Tryd.ntmps13
                  go_wp2_with (first | ((with_reducible refine gate_callee (f := 9) rfl ?_); refine goesL_ (some 13) rfl rfl Tryd.func9 (by kernel_rfl) rfl #[.string a0] rfl (by (try simp only [List.map_toArray, List.map_cons, List.map_nil]); first | done | rfl | (simp only [List.length_drop, List.length_take]; rfl)) ?_; (with_reducible refine (iban_Length.calls a0 t142 true _ A3.out (GWS_below HGS.out (by repeat (first | (with_reducible first | exact HB.out | apply below_alloc | apply pw_below_drewN | apply below_drew1) | exact HB.out)))).mono ?_); rintro e w14 ⟨rfl, hb⟩; refine ⟨_, rfl, ?_⟩; have n0_ := Aside0.mk (below_step (by repeat (first | (with_reducible first | exact HB.out | apply below_alloc | apply pw_below_drewN | apply below_drew1) | exact HB.out)) hb); clear HB; have HB := n0_; clear n0_; (try clear hb); (try clear hb2); (try clear hk); (try clear hi)) | ((with_reducible refine gate_callee (f := 7) rfl ?_); refine goesL_ (some 21) rfl rfl Tryd.func7 (by kernel_rfl) rfl #[.string ((a0 ++ (⟨#[48, 48]⟩ : ByteArray)) ++ a1)] rfl (by (try simp only [List.map_toArray, List.map_cons, List.map_nil]); first | done | rfl | (simp only [List.length_drop, List.length_take]; rfl)) ?_; (with_reducible refine (iban_Rest.calls ((a0 ++ (⟨#[48, 48]⟩ : ByteArray)) ++ a1) t144 true _ A6.out).mono ?_); rintro e w15 ⟨rfl, hb⟩; refine ⟨_, rfl, ?_⟩; have n0_ := Aside0.mk (below_step (by repeat (first | (with_reducible first | exact HB.out | apply below_alloc | apply pw_below_drewN | apply below_drew1) | exact HB.out)) hb); clear HB; have HB := n0_; clear n0_; (try clear hb); (try clear hb2); (try clear hk); (try clear hi)) | ((with_reducible refine gate_callee (f := 18) rfl ?_); refine goesL_ (some 39) rfl rfl Tryd.func18 (by kernel_rfl) rfl #[.int .i64 (wrap64 (198 - t144))] rfl (by (try simp only [List.map_toArray, List.map_cons, List.map_nil]); first | done | rfl | (simp only [List.length_drop, List.length_take]; rfl)) ?_; (with_reducible refine (strconv_Itoa.calls (wrap64 (198 - t144)) t146 _ A10.out (GWP_below HGP.out (by repeat (first | (with_reducible first | exact HB.out | apply below_alloc | apply pw_below_drewN | apply below_drew1) | exact HB.out)))).mono ?_); rintro e w16 ⟨rfl, hb⟩; refine ⟨_, rfl, ?_⟩; have n0_ := Aside0.mk (below_step (by repeat (first | (with_reducible first | exact HB.out | apply below_alloc | apply pw_below_drewN | apply below_drew1) | exact HB.out)) hb); clear HB; have HB := n0_; clear n0_; (try clear hb); (try clear hb2); (try clear hk); (try clear hi)))
                  all_goals (first | (exfalso; simp_all; done) | (exfalso; omega) | (go_ret2; exact ⟨by first | rfl | (simp [errW_none, errW_some] <;> rfl) | (simp [*, errW_none, errW_some] <;> rfl), by repeat (first | (with_reducible first | exact HB.out | apply below_alloc | apply pw_below_drewN | apply below_drew1) | exact HB.out)⟩))
                · rw [if_neg c13] at H
                  exact absurd H (by simp)
              · rw [if_neg c12] at H
                exact absurd H (by simp)
            · rw [if_neg c11] at H
              exact absurd H (by simp)
          · rw [if_neg c9] at H
            have c9b0 : ((a1.size : Int) == (wrap64 (t142 - 4))) = false := beq_eq_false_iff_ne.mpr c9
            have c9b1 : ((a1.size : Int) != (wrap64 (t142 - 4))) = true := bne_iff_ne.mpr c9
            simp only [Option.some.injEq, Prod.mk.injEq] at H
            obtain ⟨rfl, rfl⟩ := H
            go_enter Tryd.func13, Tryd.ntmps13
            go_wp2_with (first | ((with_reducible refine gate_callee (f := 9) rfl ?_); refine goesL_ (some 13) rfl rfl Tryd.func9 (by kernel_rfl) rfl #[.string a0] rfl (by (try simp only [List.map_toArray, List.map_cons, List.map_nil]); first | done | rfl | (simp only [List.length_drop, List.length_take]; rfl)) ?_; (with_reducible refine (iban_Length.calls a0 t142 true _ A3.out (GWS_below HGS.out (by repeat (first | (with_reducible first | exact HB.out | apply below_alloc | apply pw_below_drewN | apply below_drew1) | exact HB.out)))).mono ?_); rintro e w17 ⟨rfl, hb⟩; refine ⟨_, rfl, ?_⟩; have n0_ := Aside0.mk (below_step (by repeat (first | (with_reducible first | exact HB.out | apply below_alloc | apply pw_below_drewN | apply below_drew1) | exact HB.out)) hb); clear HB; have HB := n0_; clear n0_; (try clear hb); (try clear hb2); (try clear hk); (try clear hi)) | ((with_reducible refine gate_callee (f := 7) rfl ?_); refine goesL_ (some 21) rfl rfl Tryd.func7 (by kernel_rfl) rfl #[.string ((a0 ++ (⟨#[48, 48]⟩ : ByteArray)) ++ a1)] rfl (by (try simp only [List.map_toArray, List.map_cons, List.map_nil]); first | done | rfl | (simp only [List.length_drop, List.length_take]; rfl)) ?_; (with_reducible refine (iban_Rest.calls ((a0 ++ (⟨#[48, 48]⟩ : ByteArray)) ++ a1) t144 true _ A6.out).mono ?_); rintro e w18 ⟨rfl, hb⟩; refine ⟨_, rfl, ?_⟩; have n0_ := Aside0.mk (below_step (by repeat (first | (with_reducible first | exact HB.out | apply below_alloc | apply pw_below_drewN | apply below_drew1) | exact HB.out)) hb); clear HB; have HB := n0_; clear n0_; (try clear hb); (try clear hb2); (try clear hk); (try clear hi)))
            all_goals (first | (exfalso; simp_all; done) | (exfalso; omega) | (go_ret2; exact ⟨by first | rfl | (simp [errW_none, errW_some] <;> rfl) | (simp [*, errW_none, errW_some] <;> rfl), by repeat (first | (with_reducible first | exact HB.out | apply below_alloc | apply pw_below_drewN | apply below_drew1) | exact HB.out)⟩))
        · replace c8 := Bool.eq_false_iff.mpr c8
          subst c8
          have H1 : (some ((⟨#[]⟩ : ByteArray), 13)) = some (r1, r2) := by rw [if_neg (show ¬ (false = true) by decide)] at H; exact H
          clear H
          have H := H1
          clear H1
          simp only [Option.some.injEq, Prod.mk.injEq] at H
          obtain ⟨rfl, rfl⟩ := H
          go_enter Tryd.func13, Tryd.ntmps13
          go_wp2_with (first | ((with_reducible refine gate_callee (f := 9) rfl ?_); refine goesL_ (some 13) rfl rfl Tryd.func9 (by kernel_rfl) rfl #[.string a0] rfl (by (try simp only [List.map_toArray, List.map_cons, List.map_nil]); first | done | rfl | (simp only [List.length_drop, List.length_take]; rfl)) ?_; (with_reducible refine (iban_Length.calls a0 t142 true _ A3.out (GWS_below HGS.out (by repeat (first | (with_reducible first | exact HB.out | apply below_alloc | apply pw_below_drewN | apply below_drew1) | exact HB.out)))).mono ?_); rintro e w19 ⟨rfl, hb⟩; refine ⟨_, rfl, ?_⟩; have n0_ := Aside0.mk (below_step (by repeat (first | (with_reducible first | exact HB.out | apply below_alloc | apply pw_below_drewN | apply below_drew1) | exact HB.out)) hb); clear HB; have HB := n0_; clear n0_; (try clear hb); (try clear hb2); (try clear hk); (try clear hi)) | ((with_reducible refine gate_callee (f := 7) rfl ?_); refine goesL_ (some 21) rfl rfl Tryd.func7 (by kernel_rfl) rfl #[.string ((a0 ++ (⟨#[48, 48]⟩ : ByteArray)) ++ a1)] rfl (by (try simp only [List.map_toArray, List.map_cons, List.map_nil]); first | done | rfl | (simp only [List.length_drop, List.length_take]; rfl)) ?_; (with_reducible refine (iban_Rest.calls ((a0 ++ (⟨#[48, 48]⟩ : ByteArray)) ++ a1) t144 false _ A6.out).mono ?_); rintro e w20 ⟨rfl, hb⟩; refine ⟨_, rfl, ?_⟩; have n0_ := Aside0.mk (below_step (by repeat (first | (with_reducible first | exact HB.out | apply below_alloc | apply pw_below_drewN | apply below_drew1) | exact HB.out)) hb); clear HB; have HB := n0_; clear n0_; (try clear hb); (try clear hb2); (try clear hk); (try clear hi)))
          all_goals (first | (exfalso; simp_all; done) | (exfalso; omega) | (go_ret2; exact ⟨by first | rfl | (simp [errW_none, errW_some] <;> rfl) | (simp [*, errW_none, errW_some] <;> rfl), by repeat (first | (with_reducible first | exact HB.out | apply below_alloc | apply pw_below_drewN | apply below_drew1) | exact HB.out)⟩))
      · replace c7 := Bool.eq_false_iff.mpr c7
        subst c7
        have H1 : (some ((⟨#[]⟩ : ByteArray), 13)) = some (r1, r2) := by rw [if_neg (show ¬ (false = true) by decide)] at H; exact H
        clear H
        have H := H1
        clear H1
        simp only [Option.some.injEq, Prod.mk.injEq] at H
        obtain ⟨rfl, rfl⟩ := H
        go_enter Tryd.func13, Tryd.ntmps13
        go_wp2_with (first | ((with_reducible refine gate_callee (f := 9) rfl ?_); refine goesL_ (some 13) rfl rfl Tryd.func9 (by kernel_rfl) rfl #[.string a0] rfl (by (try simp only [List.map_toArray, List.map_cons, List.map_nil]); first | done | rfl | (simp only [List.length_drop, List.length_take]; rfl)) ?_; (with_reducible refine (iban_Length.calls a0 t142 false _ A3.out (GWS_below HGS.out (by repeat (first | (with_reducible first | exact HB.out | apply below_alloc | apply pw_below_drewN | apply below_drew1) | exact HB.out)))).mono ?_); rintro e w21 ⟨rfl, hb⟩; refine ⟨_, rfl, ?_⟩; have n0_ := Aside0.mk (below_step (by repeat (first | (with_reducible first | exact HB.out | apply below_alloc | apply pw_below_drewN | apply below_drew1) | exact HB.out)) hb); clear HB; have HB := n0_; clear n0_; (try clear hb); (try clear hb2); (try clear hk); (try clear hi)) | ((with_reducible refine gate_callee (f := 7) rfl ?_); refine goesL_ (some 21) rfl rfl Tryd.func7 (by kernel_rfl) rfl #[.string ((a0 ++ (⟨#[48, 48]⟩ : ByteArray)) ++ a1)] rfl (by (try simp only [List.map_toArray, List.map_cons, List.map_nil]); first | done | rfl | (simp only [List.length_drop, List.length_take]; rfl)) ?_; (with_reducible refine (iban_Rest.calls ((a0 ++ (⟨#[48, 48]⟩ : ByteArray)) ++ a1) t144 t145 _ A6.out).mono ?_); rintro e w22 ⟨rfl, hb⟩; refine ⟨_, rfl, ?_⟩; have n0_ := Aside0.mk (below_step (by repeat (first | (with_reducible first | exact HB.out | apply below_alloc | apply pw_below_drewN | apply below_drew1) | exact HB.out)) hb); clear HB; have HB := n0_; clear n0_; (try clear hb); (try clear hb2); (try clear hk); (try clear hi)))
        all_goals (first | (exfalso; simp_all; done) | (exfalso; omega) | (go_ret2; exact ⟨by first | rfl | (simp [errW_none, errW_some] <;> rfl) | (simp [*, errW_none, errW_some] <;> rfl), by repeat (first | (with_reducible first | exact HB.out | apply below_alloc | apply pw_below_drewN | apply below_drew1) | exact HB.out)⟩))
    · rw [if_neg c5] at H
      exact absurd H (by simp)
  · rw [if_neg c4] at H
    exact absurd H (by simp)

end Go.Proofs.YtjblihfgpbnhbaaDoor.PAll

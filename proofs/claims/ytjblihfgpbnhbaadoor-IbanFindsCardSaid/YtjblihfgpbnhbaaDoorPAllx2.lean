-- Made by this session's wip/tools/gprint.py, which runs the kit's print program; some functions' contracts are proved by hand.
import Derived.Test.YtjblihfgpbnhbaaDoorPAllx0
namespace Go.Proofs.YtjblihfgpbnhbaaDoor.PAll
open Go.RowKit Go.Proofs.YtjblihfgpbnhbaaDoorW.PrintWords Go.Proofs.YtjblihfgpbnhbaaDoorW.PrintLast Go.Proofs.YtjblihfgpbnhbaaDoorW.PrintMore
attribute [local go_sem] max2_int min2_int max_two min_two max_three min_three max_four min_four   -- for this text's walks alone
set_option linter.unusedVariables false
set_option linter.unusedSimpArgs false

/-! ### remitterref03_Rest: function 8 -/
mutual
def remitterref03_Rest.l0 : Nat → ByteArray → List Int → Int → Option (Int × Bool)
  | 0, _, _, _ => none
  | k + 1, x4, x5, x6 => if x6 < (x4.size : Int) then (if 0 ≤ x6 then (if (bt x4 x6) ≥ 48 then (remitterref03_Rest.j1 k x4 x5 x6 (decide ((bt x4 x6) ≤ 57))) else (remitterref03_Rest.j1 k x4 x5 x6 false)) else (none)) else (remitterref03_Rest.l1 k x5 0 0)
def remitterref03_Rest.j1 : Nat → ByteArray → List Int → Int → Bool → Option (Int × Bool)
  | 0, _, _, _, _ => none
  | k + 1, x4, x5, x6, x24 => if x24 = true then (if 0 ≤ x6 then (if x6 < (x4.size : Int) then (if x5.length < 17592186044416 then (remitterref03_Rest.l0 k x4 (x5 ++ [((bt x4 x6) - 48) % 256]) (wrap64 (x6 + 1))) else (none)) else (none)) else (none)) else (if 0 ≤ x6 then (if x6 < (x4.size : Int) then (if (bt x4 x6) ≥ 65 then (if (bt x4 x6) ≤ 90 then ((some (([((((bt x4 x6) - 65) % 256) + 10) / 10, ((((bt x4 x6) - 65) % 256) + 10) % 10] : List Int) : List Int)).bind fun y115 => (if x5.length + y115.length < 17592186044416 then (remitterref03_Rest.l0 k x4 (x5 ++ y115) (wrap64 (x6 + 1))) else (none))) else (some (0, false))) else (some (0, false))) else (none)) else (none))
def remitterref03_Rest.l1 : Nat → List Int → Int → Int → Option (Int × Bool)
  | 0, _, _, _ => none
  | k + 1, x5, x8, x9 => if x9 < (x5.length : Int) then (if 0 ≤ x9 then (remitterref03_Rest.l2 k x5 (wrap64 ((wrap64 (10 * x8)) + (rd x5 x9))) x9) else (none)) else (some (x8, true))
def remitterref03_Rest.l2 : Nat → List Int → Int → Int → Option (Int × Bool)
  | 0, _, _, _ => none
  | k + 1, x5, x8, x9 => if x8 ≥ 97 then (remitterref03_Rest.l2 k x5 (wrap64 (x8 - 97)) x9) else (remitterref03_Rest.l1 k x5 x8 (wrap64 (x9 + 1)))
end
def remitterref03_Rest.f (k : Nat) (a0 : ByteArray) : Option (Int × Bool) := if (a0.size : Int) < 4 then (some (0, false)) else (if 4 ≤ (a0.size : Int) then (if 0 ≤ 4 then (if (a0.extract 4 a0.size).size + (a0.extract 0 4).size ≤ 9223372036854775807 then (remitterref03_Rest.l0 k ((a0.extract 4 a0.size) ++ (a0.extract 0 4)) ([] : List Int) 0) else (none)) else (none)) else (none))
theorem remitterref03_Rest.mono_l : ∀ k, (∀ y0 y1 y2, LeO (remitterref03_Rest.l0 k y0 y1 y2) (remitterref03_Rest.l0 (k + 1) y0 y1 y2)) ∧ (∀ y0 y1 y2 y3, LeO (remitterref03_Rest.j1 k y0 y1 y2 y3) (remitterref03_Rest.j1 (k + 1) y0 y1 y2 y3)) ∧ (∀ y0 y1 y2, LeO (remitterref03_Rest.l1 k y0 y1 y2) (remitterref03_Rest.l1 (k + 1) y0 y1 y2)) ∧ (∀ y0 y1 y2, LeO (remitterref03_Rest.l2 k y0 y1 y2) (remitterref03_Rest.l2 (k + 1) y0 y1 y2))
  | 0 => ⟨fun _ _ _ r h => by simp [remitterref03_Rest.l0] at h, fun _ _ _ _ r h => by simp [remitterref03_Rest.j1] at h, fun _ _ _ r h => by simp [remitterref03_Rest.l1] at h, fun _ _ _ r h => by simp [remitterref03_Rest.l2] at h⟩
  | k + 1 => by
    obtain ⟨ih0, ih1, ih2, ih3⟩ := remitterref03_Rest.mono_l k
    refine ⟨?_, ?_, ?_, ?_⟩
    · intro y0 y1 y2
      unfold remitterref03_Rest.l0
      repeat' first
      | (with_reducible exact ih0 _ _ _)
      | (with_reducible exact ih1 _ _ _ _)
      | (with_reducible exact ih2 _ _ _)
      | (with_reducible exact ih3 _ _ _)
      | (with_reducible exact LeO.refl _)
      | (with_reducible exact LeO.none _)
      | (with_reducible refine LeO.ite ?_ ?_)
      | (with_reducible refine LeO.bind ?_ (fun _ => ?_))
      | exact ih0 _ _ _
      | exact ih1 _ _ _ _
      | exact ih2 _ _ _
      | exact ih3 _ _ _
      | exact LeO.none _
      | refine LeO.ite ?_ ?_
      | refine LeO.bind ?_ (fun _ => ?_)
    · intro y0 y1 y2 y3
      unfold remitterref03_Rest.j1
      repeat' first
      | (with_reducible exact ih0 _ _ _)
      | (with_reducible exact ih1 _ _ _ _)
      | (with_reducible exact ih2 _ _ _)
      | (with_reducible exact ih3 _ _ _)
      | (with_reducible exact LeO.refl _)
      | (with_reducible exact LeO.none _)
      | (with_reducible refine LeO.ite ?_ ?_)
      | (with_reducible refine LeO.bind ?_ (fun _ => ?_))
      | exact ih0 _ _ _
      | exact ih1 _ _ _ _
      | exact ih2 _ _ _
      | exact ih3 _ _ _
      | exact LeO.none _
      | refine LeO.ite ?_ ?_
      | refine LeO.bind ?_ (fun _ => ?_)
    · intro y0 y1 y2
      unfold remitterref03_Rest.l1
      repeat' first
      | (with_reducible exact ih0 _ _ _)
      | (with_reducible exact ih1 _ _ _ _)
      | (with_reducible exact ih2 _ _ _)
      | (with_reducible exact ih3 _ _ _)
      | (with_reducible exact LeO.refl _)
      | (with_reducible exact LeO.none _)
      | (with_reducible refine LeO.ite ?_ ?_)
      | (with_reducible refine LeO.bind ?_ (fun _ => ?_))
      | exact ih0 _ _ _
      | exact ih1 _ _ _ _
      | exact ih2 _ _ _
      | exact ih3 _ _ _
      | exact LeO.none _
      | refine LeO.ite ?_ ?_
      | refine LeO.bind ?_ (fun _ => ?_)
    · intro y0 y1 y2
      unfold remitterref03_Rest.l2
      repeat' first
      | (with_reducible exact ih0 _ _ _)
      | (with_reducible exact ih1 _ _ _ _)
      | (with_reducible exact ih2 _ _ _)
      | (with_reducible exact ih3 _ _ _)
      | (with_reducible exact LeO.refl _)
      | (with_reducible exact LeO.none _)
      | (with_reducible refine LeO.ite ?_ ?_)
      | (with_reducible refine LeO.bind ?_ (fun _ => ?_))
      | exact ih0 _ _ _
      | exact ih1 _ _ _ _
      | exact ih2 _ _ _
      | exact ih3 _ _ _
      | exact LeO.none _
      | refine LeO.ite ?_ ?_
      | refine LeO.bind ?_ (fun _ => ?_)
theorem remitterref03_Rest.mono : ∀ a0 k, LeO (remitterref03_Rest.f k a0) (remitterref03_Rest.f (k + 1) a0) := by
  intro a0 k
  obtain ⟨ih0, ih1, ih2, ih3⟩ := remitterref03_Rest.mono_l k
  unfold remitterref03_Rest.f
  repeat' first
      | (with_reducible exact ih0 _ _ _)
      | (with_reducible exact ih1 _ _ _ _)
      | (with_reducible exact ih2 _ _ _)
      | (with_reducible exact ih3 _ _ _)
      | (with_reducible exact LeO.refl _)
      | (with_reducible exact LeO.none _)
      | (with_reducible refine LeO.ite ?_ ?_)
      | (with_reducible refine LeO.bind ?_ (fun _ => ?_))
      | exact ih0 _ _ _
      | exact ih1 _ _ _ _
      | exact ih2 _ _ _
      | exact ih3 _ _ _
      | exact LeO.none _
      | refine LeO.ite ?_ ?_
      | refine LeO.bind ?_ (fun _ => ?_)
set_option maxHeartbeats 8000000 in
set_option maxRecDepth 100000 in
theorem remitterref03_Rest.calls (k : Nat) (a0 : ByteArray) (r1 : Int) (r2 : Bool) (w : World) (h : remitterref03_Rest.f k a0 = some (r1, r2)) :
    Calls Tryd.prog 8 #[.string a0] w fun e w' => e = .returned (.tuple #[.int .i64 r1, .bool r2]) ∧ Below w.heap.size w w' := by
  have HB := Aside0.mk (Below.refl w.heap.size w)
  have H : (if (a0.size : Int) < 4 then (some (0, false)) else (if 4 ≤ (a0.size : Int) then (if 0 ≤ 4 then (if (a0.extract 4 a0.size).size + (a0.extract 0 4).size ≤ 9223372036854775807 then (remitterref03_Rest.l0 k ((a0.extract 4 a0.size) ++ (a0.extract 0 4)) ([] : List Int) 0) else (none)) else (none)) else (none))) = some (r1, r2) := h
  clear h
  by_cases c2 : (a0.size : Int) < 4
  · rw [if_pos c2] at H
    have c2b0 : decide ((a0.size : Int) < 4) = true := decide_eq_true c2
    have c2b1 : decide (a0.size < 4) = true := decide_eq_true (by omega)
    clear c2
    simp only [Option.some.injEq, Prod.mk.injEq] at H
    obtain ⟨rfl, rfl⟩ := H
    go_enter Tryd.func8, Tryd.ntmps8
    go_wp2
    repeat (go_quiet (fail); try go_wp2)
    all_goals (first | (exfalso; simp_all; done) | (exfalso; omega) | (go_ret2; exact ⟨by first | rfl | (simp [errW_none, errW_some] <;> rfl) | (simp [*, errW_none, errW_some] <;> rfl), by repeat (first | (with_reducible first | exact HB.out | apply below_alloc | apply pw_below_drewN | apply below_drew1) | exact HB.out)⟩))
  · rw [if_neg c2] at H
    have c2b0 : decide ((a0.size : Int) < 4) = false := decide_eq_false c2
    have c2b1 : decide (a0.size < 4) = false := decide_eq_false (by omega)
    clear c2
    by_cases c3 : 4 ≤ (a0.size : Int)
    · rw [if_pos c3] at H
      have c3b0 := eq_true c3
      have c3b1 : decide (4 ≤ (a0.size : Int)) = true := decide_eq_true c3
      clear c3
      by_cases c4 : 0 ≤ 4
      · rw [if_pos c4] at H
        have c4b0 := eq_true c4
        have c4b1 : decide (0 ≤ 4) = true := decide_eq_true c4
        clear c4
        have c5b0 := eq_true (of_decide_eq_true (by first | (with_reducible assumption) | assumption) : 4 ≤ (a0.size : Int))
        by_cases c6 : (a0.extract 4 a0.size).size + (a0.extract 0 4).size ≤ 9223372036854775807
        · rw [if_pos c6] at H
          have c6b0 := eq_true c6
          have c6b1 : decide ((a0.extract 4 a0.size).size + (a0.extract 0 4).size ≤ 9223372036854775807) = true := decide_eq_true c6
          try have c6b2 : (9223372036854775807 < (a0.extract 4 a0.size).size + (a0.extract 0 4).size) = False := eq_false (Nat.not_lt.2 c6)
          have H' := Aside0.mk H
          clear H
          go_enter Tryd.func8, Tryd.ntmps8
          go_wp2
          repeat (go_quiet (fail); try go_wp2)
          generalize ((a0.extract 4 a0.size) ++ (a0.extract 0 4)) = T0 at H' ⊢
          go_loopg [5, 6] k (fun kq v5 v6 w' => ∃ (x5_1 : List Int) (x6_1 : Int), v6 = .int .i64 x6_1 ∧ Aside0 (remitterref03_Rest.l0 kq T0 x5_1 x6_1 = some (r1, r2)) ∧ Aside0 (kq ≤ k) ∧ Aside0 (Kd.R (Kd.int .i64) 3 w' w.heap.size (fun _ => True) v5 x5_1) ∧ Aside0 (Below w.heap.size w w'))
          case atStart => exact ⟨(([] : List Int)), (0), (by first | rfl | (simp; done) | (simp [*]; done) | exact congrArg Value.bool (Go.Proofs.YtjblihfgpbnhbaaDoor.GLib.not_isEmpty _) | exact congrArg Value.bool (Go.Proofs.YtjblihfgpbnhbaaDoor.GLib.not_isEmpty _).symm), H', ⟨Nat.le_refl _⟩, ⟨by first | exact Kd.R_nil _ _ _ _ _ | exact Kd.N_nil _ _ _ _ _ | exact Kd.V_nil _ _ _ _ _ | exact Kd.Q_nil _ _ _ _ _ | exact Kd.S_nil _ _ _ _ _⟩, ⟨by repeat (first | (with_reducible first | exact HB.out | apply below_alloc | apply pw_below_drewN | apply below_drew1) | exact HB.out)⟩⟩
          case round =>
            clear H'
            try clear c2
            try clear c2b0
            try clear c2b1
            try clear p2
            try clear c3
            try clear c3b0
            try clear c3b1
            try clear c4
            try clear c4b0
            try clear c4b1
            try clear c5
            try clear c5b0
            try clear c6
            try clear c6b0
            try clear c6b1
            try clear c6b2
            obtain ⟨x5_1, x6_1, rfl, HA, HK1, HO_5, HB⟩ := hrel
            cases gk with
            | zero => exact absurd HA.out (by simp [remitterref03_Rest.l0])
            | succ k1 =>
              have H := HA.out
              clear HA
              simp only [remitterref03_Rest.l0] at H
              by_cases c7 : x6_1 < (T0.size : Int)
              · rw [if_pos c7] at H
                have c7b0 : decide (x6_1 < (T0.size : Int)) = true := decide_eq_true c7
                try (have c7b8 := c7b0; simp only [ByteArray.size_append, ByteArray.size_extract, Nat.sub_zero, Int.natCast_add, Go.Proofs.YtjblihfgpbnhbaaDoor.GLib.size_mk, List.size_toArray, List.length_cons, List.length_nil] at c7b8)
                clear c7
                have HC8 := Aside0.mk H
                clear H
                go_upto_region 9 with (fail)
                repeat (go_quiet (fail); go_upto_region 9 with (fail))
                go_cut [24] (fun v24 wc => ∃ (kq : Nat) (x24_7 : Bool), v24 = .bool x24_7 ∧ Aside0 (remitterref03_Rest.j1 kq T0 x5_1 x6_1 x24_7 = some (r1, r2)) ∧ Aside0 (kq ≤ k1) ∧ Aside0 (Kd.R (Kd.int .i64) 3 wc w.heap.size (fun _ => True) u5 x5_1) ∧ Aside0 (Below w.heap.size w wc))
                case first =>
                  have H := HC8.out
                  clear HC8
                  by_cases c9 : 0 ≤ x6_1
                  · rw [if_pos c9] at H
                    have c9b0 : decide (0 ≤ x6_1) = true := decide_eq_true c9
                    clear c9
                    (first | rw [c9b0] | (simp only [i64_w, i32_w]; rw [c9b0]) | skip)
                    by_cases c11 : (bt T0 x6_1) ≥ 48
                    · rw [if_pos c11] at H
                      have c11b0 : decide (48 ≤ (bt T0 x6_1)) = true := decide_eq_true c11
                      clear c11
                      have H' := Aside0.mk H
                      clear H
                      have p10 : 0 ≤ (x6_1 : Int) := of_decide_eq_true (by first | (with_reducible assumption) | assumption)
                      have q10 : x6_1 < (T0.size : Int) := of_decide_eq_true (by first | (with_reducible assumption) | assumption)
                      try (have q10n := q10; simp only [ByteArray.size_append, ByteArray.size_extract, Nat.sub_zero, Int.natCast_add, Go.Proofs.YtjblihfgpbnhbaaDoor.GLib.size_mk, List.size_toArray, List.length_cons, List.length_nil] at q10n; replace q10n := eq_true q10n)
                      have hx10 := bt_at T0 x6_1
                      replace p10 := eq_true p10
                      replace q10 := eq_true q10
                      have p12 : 0 ≤ (x6_1 : Int) := of_decide_eq_true (by first | (with_reducible assumption) | assumption)
                      have q12 : x6_1 < (T0.size : Int) := of_decide_eq_true (by first | (with_reducible assumption) | assumption)
                      try (have q12n := q12; simp only [ByteArray.size_append, ByteArray.size_extract, Nat.sub_zero, Int.natCast_add, Go.Proofs.YtjblihfgpbnhbaaDoor.GLib.size_mk, List.size_toArray, List.length_cons, List.length_nil] at q12n; replace q12n := eq_true q12n)
                      have hx12 := bt_at T0 x6_1
                      replace p12 := eq_true p12
                      replace q12 := eq_true q12
                      go_wp2
                      repeat (go_quiet (fail); try go_wp2)
                      go_meet
                      case rel => exact ⟨_, (decide ((bt T0 x6_1) ≤ 57)), (by first | rfl | (simp; done) | (simp [*]; done) | exact congrArg Value.bool (Go.Proofs.YtjblihfgpbnhbaaDoor.GLib.not_isEmpty _) | exact congrArg Value.bool (Go.Proofs.YtjblihfgpbnhbaaDoor.GLib.not_isEmpty _).symm), H', ⟨by have := HK1.out; first | omega | exact Nat.le_refl _⟩, ⟨by (with_reducible repeat (first | apply Kd.R_alloc | apply Kd.R_drewN | apply Kd.R_drew)); exact HO_5.out⟩, ⟨by repeat (first | (with_reducible first | exact HB.out | apply below_alloc | apply pw_below_drewN | apply below_drew1) | exact HB.out)⟩⟩
                    · rw [if_neg c11] at H
                      have c11b0 : decide (48 ≤ (bt T0 x6_1)) = false := decide_eq_false c11
                      clear c11
                      have H' := Aside0.mk H
                      clear H
                      have p10 : 0 ≤ (x6_1 : Int) := of_decide_eq_true (by first | (with_reducible assumption) | assumption)
                      have q10 : x6_1 < (T0.size : Int) := of_decide_eq_true (by first | (with_reducible assumption) | assumption)
                      try (have q10n := q10; simp only [ByteArray.size_append, ByteArray.size_extract, Nat.sub_zero, Int.natCast_add, Go.Proofs.YtjblihfgpbnhbaaDoor.GLib.size_mk, List.size_toArray, List.length_cons, List.length_nil] at q10n; replace q10n := eq_true q10n)
                      have hx10 := bt_at T0 x6_1
                      replace p10 := eq_true p10
                      replace q10 := eq_true q10
                      go_wp2
                      repeat (go_quiet (fail); try go_wp2)
                      go_meet
                      case rel => exact ⟨_, (false), (by first | rfl | (simp; done) | (simp [*]; done) | exact congrArg Value.bool (Go.Proofs.YtjblihfgpbnhbaaDoor.GLib.not_isEmpty _) | exact congrArg Value.bool (Go.Proofs.YtjblihfgpbnhbaaDoor.GLib.not_isEmpty _).symm), H', ⟨by have := HK1.out; first | omega | exact Nat.le_refl _⟩, ⟨by (with_reducible repeat (first | apply Kd.R_alloc | apply Kd.R_drewN | apply Kd.R_drew)); exact HO_5.out⟩, ⟨by repeat (first | (with_reducible first | exact HB.out | apply below_alloc | apply pw_below_drewN | apply below_drew1) | exact HB.out)⟩⟩
                  · rw [if_neg c9] at H
                    exact absurd H (by simp)
                case rest =>
                  clear HC8
                  try clear c1
                  try clear p1
                  try clear q1
                  try clear hx1
                  try clear c2
                  try clear c2b0
                  try clear c2b1
                  try clear p2
                  try clear c3
                  try clear c3b0
                  try clear c3b1
                  try clear c4
                  try clear c4b0
                  try clear c4b1
                  try clear c5
                  try clear c5b0
                  try clear c6
                  try clear c6b0
                  try clear c6b1
                  try clear c6b2
                  try clear c7
                  try clear c7b0
                  try clear c8
                  try clear c9
                  try clear c9b0
                  try clear p10
                  try clear q10
                  try clear hx10
                  try clear c11
                  try clear c11b0
                  try clear p12
                  try clear q12
                  try clear hx12
                  try clear p10
                  try clear p12
                  try clear p2
                  try clear q10
                  try clear q12
                  obtain ⟨kq, x24_7, rfl, HA, HJ7, HO_5, HB⟩ := hcut
                  cases kq with
                  | zero => exact absurd HA.out (by simp [remitterref03_Rest.j1])
                  | succ kj7 =>
                    have H := HA.out
                    clear HA
                    simp only [remitterref03_Rest.j1] at H
                    by_cases c13 : x24_7 = true
                    · subst c13
                      have H1 : (if 0 ≤ x6_1 then (if x6_1 < (T0.size : Int) then (if x5_1.length < 17592186044416 then (remitterref03_Rest.l0 kj7 T0 (x5_1 ++ [((bt T0 x6_1) - 48) % 256]) (wrap64 (x6_1 + 1))) else (none)) else (none)) else (none)) = some (r1, r2) := by rw [if_pos rfl] at H; exact H
                      clear H
                      have H := H1
                      clear H1
                      by_cases c14 : 0 ≤ x6_1
                      · rw [if_pos c14] at H
                        have c14b0 : decide (0 ≤ x6_1) = true := decide_eq_true c14
                        clear c14
                        by_cases c15 : x6_1 < (T0.size : Int)
                        · rw [if_pos c15] at H
                          have c15b0 : decide (x6_1 < (T0.size : Int)) = true := decide_eq_true c15
                          try (have c15b8 := c15b0; simp only [ByteArray.size_append, ByteArray.size_extract, Nat.sub_zero, Int.natCast_add, Go.Proofs.YtjblihfgpbnhbaaDoor.GLib.size_mk, List.size_toArray, List.length_cons, List.length_nil] at c15b8)
                          clear c15
                          by_cases c17 : x5_1.length < 17592186044416
                          · rw [if_pos c17] at H
                            have LMc17 := Aside0.mk c17
                            clear c17
                            obtain ⟨y112, hy112⟩ : ∃ y_ : List Int, y_ = (x5_1 ++ [((bt T0 x6_1) - 48) % 256]) := ⟨_, rfl⟩
                            replace H : (remitterref03_Rest.l0 kj7 T0 y112 (wrap64 (x6_1 + 1))) = some (r1, r2) := by first | (rw [hy112]; with_reducible exact H) | (have H2_ := (Option.bind_some _ _).symm.trans H; rw [hy112]; with_reducible exact H2_) | (have H2_ := (Option.bind_some _ _).symm.trans H; with_reducible exact H2_) | with_reducible exact H | (rw [hy112]; exact H) | exact H
                            have Ny112 := Aside0.mk hy112
                            clear hy112
                            have H' := Aside0.mk H
                            clear H
                            have p16 : 0 ≤ (x6_1 : Int) := of_decide_eq_true (by first | (with_reducible assumption) | assumption)
                            have q16 : x6_1 < (T0.size : Int) := of_decide_eq_true (by first | (with_reducible assumption) | assumption)
                            try (have q16n := q16; simp only [ByteArray.size_append, ByteArray.size_extract, Nat.sub_zero, Int.natCast_add, Go.Proofs.YtjblihfgpbnhbaaDoor.GLib.size_mk, List.size_toArray, List.length_cons, List.length_nil] at q16n; replace q16n := eq_true q16n)
                            have hx16 := bt_at T0 x6_1
                            replace p16 := eq_true p16
                            replace q16 := eq_true q16
                            go_wp2_with (first | ((with_reducible refine gate_builtin (b := .append) (xs := #[.tmp 35, .tmp 41]) rfl ?_); at_builtin; refine Kd.R_append (Kd.int .i64) (w0 := w) w.heap.size rfl (.tmp 35) (.tmp 41) 37 3 (.int .i64 0) 8 rfl Tryd.underlying37 info3 rfl (by decide) (by omega) u5 x5_1 (((bt T0 x6_1) - 48) % 256) [.int .i64 (((bt T0 x6_1) - 48) % 256)] (fun _ => True) (fun _ => False) rfl rfl ?aP (fun _ hk => hk.elim) ?aF ?aO ?aB ?aS ?aL ?_; (case aP => exact rfl); (case aB => exact (by repeat (first | (with_reducible first | exact HB.out | apply below_alloc | apply pw_below_drewN | apply below_drew1) | exact HB.out))); (case aF => exact (fun _ _ => trivial)); (case aO => exact (by (with_reducible repeat (first | apply Kd.R_alloc | apply Kd.R_drewN | apply Kd.R_drew)); exact HO_5.out)); (case aS => exact (below_size (by repeat (first | (with_reducible first | exact HB.out | apply below_alloc | apply pw_below_drewN | apply below_drew1) | exact HB.out)))); (case aL => have := LMc17.out; omega); intro v113 w18 ho hb hg hat; rw [← Ny112.out] at ho; have n0_ := Aside0.mk (hb); have n1_ := Aside0.mk (ho); clear HB; clear HO_5; have HB := n0_; have HO114 := n1_; clear n0_ n1_; clear ho hb hg hat))
                            repeat (go_quiet (first | ((with_reducible refine gate_builtin (b := .append) (xs := #[.tmp 35, .tmp 41]) rfl ?_); at_builtin; refine Kd.R_append (Kd.int .i64) (w0 := w) w.heap.size rfl (.tmp 35) (.tmp 41) 37 3 (.int .i64 0) 8 rfl Tryd.underlying37 info3 rfl (by decide) (by omega) u5 x5_1 (((bt T0 x6_1) - 48) % 256) [.int .i64 (((bt T0 x6_1) - 48) % 256)] (fun _ => True) (fun _ => False) rfl rfl ?aP (fun _ hk => hk.elim) ?aF ?aO ?aB ?aS ?aL ?_; (case aP => exact rfl); (case aB => exact (by repeat (first | (with_reducible first | exact HB.out | apply below_alloc | apply pw_below_drewN | apply below_drew1) | exact HB.out))); (case aF => exact (fun _ _ => trivial)); (case aO => exact (by (with_reducible repeat (first | apply Kd.R_alloc | apply Kd.R_drewN | apply Kd.R_drew)); exact HO_5.out)); (case aS => exact (below_size (by repeat (first | (with_reducible first | exact HB.out | apply below_alloc | apply pw_below_drewN | apply below_drew1) | exact HB.out)))); (case aL => have := LMc17.out; omega); intro v113 w18 ho hb hg hat; rw [← Ny112.out] at ho; have n0_ := Aside0.mk (hb); have n1_ := Aside0.mk (ho); clear HB; clear HO_5; have HB := n0_; have HO114 := n1_; clear n0_ n1_; clear ho hb hg hat)); try go_wp2_with (first | ((with_reducible refine gate_builtin (b := .append) (xs := #[.tmp 35, .tmp 41]) rfl ?_); at_builtin; refine Kd.R_append (Kd.int .i64) (w0 := w) w.heap.size rfl (.tmp 35) (.tmp 41) 37 3 (.int .i64 0) 8 rfl Tryd.underlying37 info3 rfl (by decide) (by omega) u5 x5_1 (((bt T0 x6_1) - 48) % 256) [.int .i64 (((bt T0 x6_1) - 48) % 256)] (fun _ => True) (fun _ => False) rfl rfl ?aP (fun _ hk => hk.elim) ?aF ?aO ?aB ?aS ?aL ?_; (case aP => exact rfl); (case aB => exact (by repeat (first | (with_reducible first | exact HB.out | apply below_alloc | apply pw_below_drewN | apply below_drew1) | exact HB.out))); (case aF => exact (fun _ _ => trivial)); (case aO => exact (by (with_reducible repeat (first | apply Kd.R_alloc | apply Kd.R_drewN | apply Kd.R_drew)); exact HO_5.out)); (case aS => exact (below_size (by repeat (first | (with_reducible first | exact HB.out | apply below_alloc | apply pw_below_drewN | apply below_drew1) | exact HB.out)))); (case aL => have := LMc17.out; omega); intro v113 w18 ho hb hg hat; rw [← Ny112.out] at ho; have n0_ := Aside0.mk (hb); have n1_ := Aside0.mk (ho); clear HB; clear HO_5; have HB := n0_; have HO114 := n1_; clear n0_ n1_; clear ho hb hg hat)))
                            go_roundg kj7
                            case measure => have := HK1.out; have := HJ7.out; omega
                            case rel => exact ⟨(y112), (wrap64 (x6_1 + 1)), (by first | rfl | (simp; done) | (simp [*]; done) | exact congrArg Value.bool (Go.Proofs.YtjblihfgpbnhbaaDoor.GLib.not_isEmpty _) | exact congrArg Value.bool (Go.Proofs.YtjblihfgpbnhbaaDoor.GLib.not_isEmpty _).symm), H', ⟨by have := HK1.out; have := HJ7.out; omega⟩, ⟨by (with_reducible repeat (first | apply Kd.R_alloc | apply Kd.R_drewN | apply Kd.R_drew)); exact HO114.out⟩, ⟨by repeat (first | (with_reducible first | exact HB.out | apply below_alloc | apply pw_below_drewN | apply below_drew1) | exact HB.out)⟩⟩
                          · rw [if_neg c17] at H
                            exact absurd H (by simp)
                        · rw [if_neg c15] at H
                          exact absurd H (by simp)
                      · rw [if_neg c14] at H
                        exact absurd H (by simp)
                    · replace c13 := Bool.eq_false_iff.mpr c13
                      subst c13
                      have H1 : (if 0 ≤ x6_1 then (if x6_1 < (T0.size : Int) then (if (bt T0 x6_1) ≥ 65 then (if (bt T0 x6_1) ≤ 90 then ((some (([((((bt T0 x6_1) - 65) % 256) + 10) / 10, ((((bt T0 x6_1) - 65) % 256) + 10) % 10] : List Int) : List Int)).bind fun y115 => (if x5_1.length + y115.length < 17592186044416 then (remitterref03_Rest.l0 kj7 T0 (x5_1 ++ y115) (wrap64 (x6_1 + 1))) else (none))) else (some (0, false))) else (some (0, false))) else (none)) else (none)) = some (r1, r2) := by rw [if_neg (show ¬ (false = true) by decide)] at H; exact H
                      clear H
                      have H := H1
                      clear H1
                      by_cases c19 : 0 ≤ x6_1
                      · rw [if_pos c19] at H
                        have c19b0 : decide (0 ≤ x6_1) = true := decide_eq_true c19
                        clear c19
                        by_cases c20 : x6_1 < (T0.size : Int)
                        · rw [if_pos c20] at H
                          have c20b0 : decide (x6_1 < (T0.size : Int)) = true := decide_eq_true c20
                          try (have c20b8 := c20b0; simp only [ByteArray.size_append, ByteArray.size_extract, Nat.sub_zero, Int.natCast_add, Go.Proofs.YtjblihfgpbnhbaaDoor.GLib.size_mk, List.size_toArray, List.length_cons, List.length_nil] at c20b8)
                          clear c20
                          by_cases c22 : (bt T0 x6_1) ≥ 65
                          · rw [if_pos c22] at H
                            have c22b0 : decide (65 ≤ (bt T0 x6_1)) = true := decide_eq_true c22
                            clear c22
                            by_cases c24 : (bt T0 x6_1) ≤ 90
                            · rw [if_pos c24] at H
                              have c24b0 : decide ((bt T0 x6_1) ≤ 90) = true := decide_eq_true c24
                              clear c24
                              obtain ⟨y115, hy115⟩ : ∃ y_ : List Int, y_ = (([((((bt T0 x6_1) - 65) % 256) + 10) / 10, ((((bt T0 x6_1) - 65) % 256) + 10) % 10] : List Int)) := ⟨_, rfl⟩
                              replace H : (if x5_1.length + y115.length < 17592186044416 then (remitterref03_Rest.l0 kj7 T0 (x5_1 ++ y115) (wrap64 (x6_1 + 1))) else (none)) = some (r1, r2) := by first | (rw [hy115]; with_reducible exact H) | (have H2_ := (Option.bind_some _ _).symm.trans H; rw [hy115]; with_reducible exact H2_) | (have H2_ := (Option.bind_some _ _).symm.trans H; with_reducible exact H2_) | with_reducible exact H | (rw [hy115]; exact H) | exact H
                              have Ny115 := Aside0.mk hy115
                              clear hy115
                              by_cases c26 : x5_1.length + y115.length < 17592186044416
                              · rw [if_pos c26] at H
                                have LMc26 := Aside0.mk c26
                                clear c26
                                obtain ⟨y118, hy118⟩ : ∃ y_ : List Int, y_ = (x5_1 ++ y115) := ⟨_, rfl⟩
                                replace H : (remitterref03_Rest.l0 kj7 T0 y118 (wrap64 (x6_1 + 1))) = some (r1, r2) := by first | (rw [hy118]; with_reducible exact H) | (have H2_ := (Option.bind_some _ _).symm.trans H; rw [hy118]; with_reducible exact H2_) | (have H2_ := (Option.bind_some _ _).symm.trans H; with_reducible exact H2_) | with_reducible exact H | (rw [hy118]; exact H) | exact H
                                have Ny118 := Aside0.mk hy118
                                clear hy118
                                have H' := Aside0.mk H
                                clear H
                                have p21 : 0 ≤ (x6_1 : Int) := of_decide_eq_true (by first | (with_reducible assumption) | assumption)
                                have q21 : x6_1 < (T0.size : Int) := of_decide_eq_true (by first | (with_reducible assumption) | assumption)
                                try (have q21n := q21; simp only [ByteArray.size_append, ByteArray.size_extract, Nat.sub_zero, Int.natCast_add, Go.Proofs.YtjblihfgpbnhbaaDoor.GLib.size_mk, List.size_toArray, List.length_cons, List.length_nil] at q21n; replace q21n := eq_true q21n)
                                have hx21 := bt_at T0 x6_1
                                replace p21 := eq_true p21
                                replace q21 := eq_true q21
                                have p23 : 0 ≤ (x6_1 : Int) := of_decide_eq_true (by first | (with_reducible assumption) | assumption)
                                have q23 : x6_1 < (T0.size : Int) := of_decide_eq_true (by first | (with_reducible assumption) | assumption)
                                try (have q23n := q23; simp only [ByteArray.size_append, ByteArray.size_extract, Nat.sub_zero, Int.natCast_add, Go.Proofs.YtjblihfgpbnhbaaDoor.GLib.size_mk, List.size_toArray, List.length_cons, List.length_nil] at q23n; replace q23n := eq_true q23n)
                                have hx23 := bt_at T0 x6_1
                                replace p23 := eq_true p23
                                replace q23 := eq_true q23
                                have p25 : 0 ≤ (x6_1 : Int) := of_decide_eq_true (by first | (with_reducible assumption) | assumption)
                                have q25 : x6_1 < (T0.size : Int) := of_decide_eq_true (by first | (with_reducible assumption) | assumption)
                                try (have q25n := q25; simp only [ByteArray.size_append, ByteArray.size_extract, Nat.sub_zero, Int.natCast_add, Go.Proofs.YtjblihfgpbnhbaaDoor.GLib.size_mk, List.size_toArray, List.length_cons, List.length_nil] at q25n; replace q25n := eq_true q25n)
                                have hx25 := bt_at T0 x6_1
                                replace p25 := eq_true p25
                                replace q25 := eq_true q25
                                go_wp2_with (first | ((with_reducible refine gate_dst (N := 65) rfl ?_); refine Kd.R_lit (Kd.int .i64) _ 3 ?hg (N := 65) ?hd (xs := ([((((bt T0 x6_1) - 65) % 256) + 10) / 10, ((((bt T0 x6_1) - 65) % 256) + 10) % 10] : List Int)) (inner := [.int .i64 (((((bt T0 x6_1) - 65) % 256) + 10) / 10), .int .i64 (((((bt T0 x6_1) - 65) % 256) + 10) % 10)]) (ok := fun _ => True) (okp := fun _ => True) ?hr ?hp (fun _ hk => hk) trivial (Below.refl _ _) (Nat.le_refl _) (by simp) ?_; (case hd => rfl); (case hg => rfl); (case hr => first | (go_simp; done) | (go_simp; rfl)); (case hp => exact (Reps.one (show Kd.M (Kd.int .i64) _ _ _ (((((bt T0 x6_1) - 65) % 256) + 10) / 10) [.int .i64 (((((bt T0 x6_1) - 65) % 256) + 10) / 10)] from rfl) (Reps.one (show Kd.M (Kd.int .i64) _ _ _ (((((bt T0 x6_1) - 65) % 256) + 10) % 10) [.int .i64 (((((bt T0 x6_1) - 65) % 256) + 10) % 10)] from rfl) (Reps.none _ _)))); intro v116 w27 ho28 hb hg_ hnew_; clear hg_ hnew_; (first | rw [← Ny115.out] at ho28 | (simp only [Int.reduceToNat] at ho28; rw [← Ny115.out] at ho28)); have n0_ := Aside0.mk (Kd.R_elder' (by (with_reducible repeat (first | apply Kd.R_alloc | apply Kd.R_drewN | apply Kd.R_drew)); exact HO_5.out) (Kd.R_base ho28) hb); have n1_ := Aside0.mk (Kd.R_lower (Kd.R_new' ho28 (Kd.R_lt (by (with_reducible repeat (first | apply Kd.R_alloc | apply Kd.R_drewN | apply Kd.R_drew)); exact HO_5.out))) (below_size (by repeat (first | (with_reducible first | exact HB.out | apply below_alloc | apply pw_below_drewN | apply below_drew1) | exact HB.out)))); have n2_ := Aside0.mk (below_step (by repeat (first | (with_reducible first | exact HB.out | apply below_alloc | apply pw_below_drewN | apply below_drew1) | exact HB.out)) hb); clear HO_5; clear HB; have HO_5 := n0_; have HO117 := n1_; have HB := n2_; clear n0_ n1_ n2_; clear hb ho28; obtain ⟨Ao30, co30, eo30⟩ := Kd.R_slice HO117.out; subst eo30) | ((with_reducible refine gate_builtin (b := .append) (xs := #[.tmp 60, .tmp 65]) rfl ?_); at_builtin; refine Kd.R_append_rows (Kd.int .i64) (w0 := w) w.heap.size rfl (.tmp 60) (.tmp 65) 37 3 (.int .i64 0) 8 rfl Tryd.underlying37 info3 rfl (by decide) (by omega) u5 x5_1 y115 _ _ _ (fun k_ => some k_ ≠ (.slice Ao30 y115.length co30 : Value).ownBlock) (fun _ => False) rfl rfl ?aO ?aR (fun _ _ h => h) (fun _ h => h.elim) ?aF ?aB ?aS ?aL ?_; (case aR => repeat (first | exact (Kd.R_reads' HO117.out).2.2 | (with_reducible refine Kd.C_alloc ?_ _) | (with_reducible refine Kd.C_drewN ?_ _) | (with_reducible refine Kd.C_drew ?_))); (case aB => exact (by repeat (first | (with_reducible first | exact HB.out | apply below_alloc | apply pw_below_drewN | apply below_drew1) | exact HB.out))); (case aF => exact (fun k_ hk => Kd.fresh' (Kd.R_lt (by (with_reducible repeat (first | apply Kd.R_alloc | apply Kd.R_drewN | apply Kd.R_drew)); exact HO117.out)) k_ hk)); (case aO => exact (by (with_reducible repeat (first | apply Kd.R_alloc | apply Kd.R_drewN | apply Kd.R_drew)); exact Kd.R_mono HO_5.out (fun _ hk => hk.2))); (case aS => exact (below_size (by repeat (first | (with_reducible first | exact HB.out | apply below_alloc | apply pw_below_drewN | apply below_drew1) | exact HB.out)))); (case aL => have := LMc26.out; omega); intro v119 w29 ho hb hg hat; rw [← Ny118.out] at ho; have n0_ := Aside0.mk (Kd.R_after (ok := (fun _ => True)) (by (with_reducible repeat (first | apply Kd.R_alloc | apply Kd.R_drewN | apply Kd.R_drew)); exact HO117.out) hg hat); have n1_ := Aside0.mk (hb); have n2_ := Aside0.mk (ho); clear HO117; clear HB; clear HO_5; have HO117 := n0_; have HB := n1_; have HO120 := n2_; clear n0_ n1_ n2_; clear ho hb hg hat))
                                repeat (go_quiet (first | ((with_reducible refine gate_dst (N := 65) rfl ?_); refine Kd.R_lit (Kd.int .i64) _ 3 ?hg (N := 65) ?hd (xs := ([((((bt T0 x6_1) - 65) % 256) + 10) / 10, ((((bt T0 x6_1) - 65) % 256) + 10) % 10] : List Int)) (inner := [.int .i64 (((((bt T0 x6_1) - 65) % 256) + 10) / 10), .int .i64 (((((bt T0 x6_1) - 65) % 256) + 10) % 10)]) (ok := fun _ => True) (okp := fun _ => True) ?hr ?hp (fun _ hk => hk) trivial (Below.refl _ _) (Nat.le_refl _) (by simp) ?_; (case hd => rfl); (case hg => rfl); (case hr => first | (go_simp; done) | (go_simp; rfl)); (case hp => exact (Reps.one (show Kd.M (Kd.int .i64) _ _ _ (((((bt T0 x6_1) - 65) % 256) + 10) / 10) [.int .i64 (((((bt T0 x6_1) - 65) % 256) + 10) / 10)] from rfl) (Reps.one (show Kd.M (Kd.int .i64) _ _ _ (((((bt T0 x6_1) - 65) % 256) + 10) % 10) [.int .i64 (((((bt T0 x6_1) - 65) % 256) + 10) % 10)] from rfl) (Reps.none _ _)))); intro v116 w27 ho28 hb hg_ hnew_; clear hg_ hnew_; (first | rw [← Ny115.out] at ho28 | (simp only [Int.reduceToNat] at ho28; rw [← Ny115.out] at ho28)); have n0_ := Aside0.mk (Kd.R_elder' (by (with_reducible repeat (first | apply Kd.R_alloc | apply Kd.R_drewN | apply Kd.R_drew)); exact HO_5.out) (Kd.R_base ho28) hb); have n1_ := Aside0.mk (Kd.R_lower (Kd.R_new' ho28 (Kd.R_lt (by (with_reducible repeat (first | apply Kd.R_alloc | apply Kd.R_drewN | apply Kd.R_drew)); exact HO_5.out))) (below_size (by repeat (first | (with_reducible first | exact HB.out | apply below_alloc | apply pw_below_drewN | apply below_drew1) | exact HB.out)))); have n2_ := Aside0.mk (below_step (by repeat (first | (with_reducible first | exact HB.out | apply below_alloc | apply pw_below_drewN | apply below_drew1) | exact HB.out)) hb); clear HO_5; clear HB; have HO_5 := n0_; have HO117 := n1_; have HB := n2_; clear n0_ n1_ n2_; clear hb ho28; obtain ⟨Ao30, co30, eo30⟩ := Kd.R_slice HO117.out; subst eo30) | ((with_reducible refine gate_builtin (b := .append) (xs := #[.tmp 60, .tmp 65]) rfl ?_); at_builtin; refine Kd.R_append_rows (Kd.int .i64) (w0 := w) w.heap.size rfl (.tmp 60) (.tmp 65) 37 3 (.int .i64 0) 8 rfl Tryd.underlying37 info3 rfl (by decide) (by omega) u5 x5_1 y115 _ _ _ (fun k_ => some k_ ≠ (.slice Ao30 y115.length co30 : Value).ownBlock) (fun _ => False) rfl rfl ?aO ?aR (fun _ _ h => h) (fun _ h => h.elim) ?aF ?aB ?aS ?aL ?_; (case aR => repeat (first | exact (Kd.R_reads' HO117.out).2.2 | (with_reducible refine Kd.C_alloc ?_ _) | (with_reducible refine Kd.C_drewN ?_ _) | (with_reducible refine Kd.C_drew ?_))); (case aB => exact (by repeat (first | (with_reducible first | exact HB.out | apply below_alloc | apply pw_below_drewN | apply below_drew1) | exact HB.out))); (case aF => exact (fun k_ hk => Kd.fresh' (Kd.R_lt (by (with_reducible repeat (first | apply Kd.R_alloc | apply Kd.R_drewN | apply Kd.R_drew)); exact HO117.out)) k_ hk)); (case aO => exact (by (with_reducible repeat (first | apply Kd.R_alloc | apply Kd.R_drewN | apply Kd.R_drew)); exact Kd.R_mono HO_5.out (fun _ hk => hk.2))); (case aS => exact (below_size (by repeat (first | (with_reducible first | exact HB.out | apply below_alloc | apply pw_below_drewN | apply below_drew1) | exact HB.out)))); (case aL => have := LMc26.out; omega); intro v119 w29 ho hb hg hat; rw [← Ny118.out] at ho; have n0_ := Aside0.mk (Kd.R_after (ok := (fun _ => True)) (by (with_reducible repeat (first | apply Kd.R_alloc | apply Kd.R_drewN | apply Kd.R_drew)); exact HO117.out) hg hat); have n1_ := Aside0.mk (hb); have n2_ := Aside0.mk (ho); clear HO117; clear HB; clear HO_5; have HO117 := n0_; have HB := n1_; have HO120 := n2_; clear n0_ n1_ n2_; clear ho hb hg hat)); try go_wp2_with (first | ((with_reducible refine gate_dst (N := 65) rfl ?_); refine Kd.R_lit (Kd.int .i64) _ 3 ?hg (N := 65) ?hd (xs := ([((((bt T0 x6_1) - 65) % 256) + 10) / 10, ((((bt T0 x6_1) - 65) % 256) + 10) % 10] : List Int)) (inner := [.int .i64 (((((bt T0 x6_1) - 65) % 256) + 10) / 10), .int .i64 (((((bt T0 x6_1) - 65) % 256) + 10) % 10)]) (ok := fun _ => True) (okp := fun _ => True) ?hr ?hp (fun _ hk => hk) trivial (Below.refl _ _) (Nat.le_refl _) (by simp) ?_; (case hd => rfl); (case hg => rfl); (case hr => first | (go_simp; done) | (go_simp; rfl)); (case hp => exact (Reps.one (show Kd.M (Kd.int .i64) _ _ _ (((((bt T0 x6_1) - 65) % 256) + 10) / 10) [.int .i64 (((((bt T0 x6_1) - 65) % 256) + 10) / 10)] from rfl) (Reps.one (show Kd.M (Kd.int .i64) _ _ _ (((((bt T0 x6_1) - 65) % 256) + 10) % 10) [.int .i64 (((((bt T0 x6_1) - 65) % 256) + 10) % 10)] from rfl) (Reps.none _ _)))); intro v116 w27 ho28 hb hg_ hnew_; clear hg_ hnew_; (first | rw [← Ny115.out] at ho28 | (simp only [Int.reduceToNat] at ho28; rw [← Ny115.out] at ho28)); have n0_ := Aside0.mk (Kd.R_elder' (by (with_reducible repeat (first | apply Kd.R_alloc | apply Kd.R_drewN | apply Kd.R_drew)); exact HO_5.out) (Kd.R_base ho28) hb); have n1_ := Aside0.mk (Kd.R_lower (Kd.R_new' ho28 (Kd.R_lt (by (with_reducible repeat (first | apply Kd.R_alloc | apply Kd.R_drewN | apply Kd.R_drew)); exact HO_5.out))) (below_size (by repeat (first | (with_reducible first | exact HB.out | apply below_alloc | apply pw_below_drewN | apply below_drew1) | exact HB.out)))); have n2_ := Aside0.mk (below_step (by repeat (first | (with_reducible first | exact HB.out | apply below_alloc | apply pw_below_drewN | apply below_drew1) | exact HB.out)) hb); clear HO_5; clear HB; have HO_5 := n0_; have HO117 := n1_; have HB := n2_; clear n0_ n1_ n2_; clear hb ho28; obtain ⟨Ao30, co30, eo30⟩ := Kd.R_slice HO117.out; subst eo30) | ((with_reducible refine gate_builtin (b := .append) (xs := #[.tmp 60, .tmp 65]) rfl ?_); at_builtin; refine Kd.R_append_rows (Kd.int .i64) (w0 := w) w.heap.size rfl (.tmp 60) (.tmp 65) 37 3 (.int .i64 0) 8 rfl Tryd.underlying37 info3 rfl (by decide) (by omega) u5 x5_1 y115 _ _ _ (fun k_ => some k_ ≠ (.slice Ao30 y115.length co30 : Value).ownBlock) (fun _ => False) rfl rfl ?aO ?aR (fun _ _ h => h) (fun _ h => h.elim) ?aF ?aB ?aS ?aL ?_; (case aR => repeat (first | exact (Kd.R_reads' HO117.out).2.2 | (with_reducible refine Kd.C_alloc ?_ _) | (with_reducible refine Kd.C_drewN ?_ _) | (with_reducible refine Kd.C_drew ?_))); (case aB => exact (by repeat (first | (with_reducible first | exact HB.out | apply below_alloc | apply pw_below_drewN | apply below_drew1) | exact HB.out))); (case aF => exact (fun k_ hk => Kd.fresh' (Kd.R_lt (by (with_reducible repeat (first | apply Kd.R_alloc | apply Kd.R_drewN | apply Kd.R_drew)); exact HO117.out)) k_ hk)); (case aO => exact (by (with_reducible repeat (first | apply Kd.R_alloc | apply Kd.R_drewN | apply Kd.R_drew)); exact Kd.R_mono HO_5.out (fun _ hk => hk.2))); (case aS => exact (below_size (by repeat (first | (with_reducible first | exact HB.out | apply below_alloc | apply pw_below_drewN | apply below_drew1) | exact HB.out)))); (case aL => have := LMc26.out; omega); intro v119 w29 ho hb hg hat; rw [← Ny118.out] at ho; have n0_ := Aside0.mk (Kd.R_after (ok := (fun _ => True)) (by (with_reducible repeat (first | apply Kd.R_alloc | apply Kd.R_drewN | apply Kd.R_drew)); exact HO117.out) hg hat); have n1_ := Aside0.mk (hb); have n2_ := Aside0.mk (ho); clear HO117; clear HB; clear HO_5; have HO117 := n0_; have HB := n1_; have HO120 := n2_; clear n0_ n1_ n2_; clear ho hb hg hat)))
                                go_roundg kj7
                                case measure => have := HK1.out; have := HJ7.out; omega
                                case rel => exact ⟨(y118), (wrap64 (x6_1 + 1)), (by first | rfl | (simp; done) | (simp [*]; done) | exact congrArg Value.bool (Go.Proofs.YtjblihfgpbnhbaaDoor.GLib.not_isEmpty _) | exact congrArg Value.bool (Go.Proofs.YtjblihfgpbnhbaaDoor.GLib.not_isEmpty _).symm), H', ⟨by have := HK1.out; have := HJ7.out; omega⟩, ⟨by (with_reducible repeat (first | apply Kd.R_alloc | apply Kd.R_drewN | apply Kd.R_drew)); exact Kd.R_mono HO120.out (fun _ hk => trivial)⟩, ⟨by repeat (first | (with_reducible first | exact HB.out | apply below_alloc | apply pw_below_drewN | apply below_drew1) | exact HB.out)⟩⟩
                              · rw [if_neg c26] at H
                                exact absurd H (by simp)
                            · rw [if_neg c24] at H
                              have c24b0 : decide ((bt T0 x6_1) ≤ 90) = false := decide_eq_false c24
                              clear c24
                              simp only [Option.some.injEq, Prod.mk.injEq] at H
                              obtain ⟨rfl, rfl⟩ := H
                              have p21 : 0 ≤ (x6_1 : Int) := of_decide_eq_true (by first | (with_reducible assumption) | assumption)
                              have q21 : x6_1 < (T0.size : Int) := of_decide_eq_true (by first | (with_reducible assumption) | assumption)
                              try (have q21n := q21; simp only [ByteArray.size_append, ByteArray.size_extract, Nat.sub_zero, Int.natCast_add, Go.Proofs.YtjblihfgpbnhbaaDoor.GLib.size_mk, List.size_toArray, List.length_cons, List.length_nil] at q21n; replace q21n := eq_true q21n)
                              have hx21 := bt_at T0 x6_1
                              replace p21 := eq_true p21
                              replace q21 := eq_true q21
                              have p23 : 0 ≤ (x6_1 : Int) := of_decide_eq_true (by first | (with_reducible assumption) | assumption)
                              have q23 : x6_1 < (T0.size : Int) := of_decide_eq_true (by first | (with_reducible assumption) | assumption)
                              try (have q23n := q23; simp only [ByteArray.size_append, ByteArray.size_extract, Nat.sub_zero, Int.natCast_add, Go.Proofs.YtjblihfgpbnhbaaDoor.GLib.size_mk, List.size_toArray, List.length_cons, List.length_nil] at q23n; replace q23n := eq_true q23n)
                              have hx23 := bt_at T0 x6_1
                              replace p23 := eq_true p23
                              replace q23 := eq_true q23
                              go_wp2
                              repeat (go_quiet (fail); try go_wp2)
                              all_goals (first | (exfalso; simp_all; done) | (exfalso; omega) | (go_ret2; exact ⟨by first | rfl | (simp [errW_none, errW_some] <;> rfl) | (simp [*, errW_none, errW_some] <;> rfl), by repeat (first | (with_reducible first | exact HB.out | apply below_alloc | apply pw_below_drewN | apply below_drew1) | exact HB.out)⟩))
                          · rw [if_neg c22] at H
                            have c22b0 : decide (65 ≤ (bt T0 x6_1)) = false := decide_eq_false c22
                            clear c22
                            simp only [Option.some.injEq, Prod.mk.injEq] at H
                            obtain ⟨rfl, rfl⟩ := H
                            have p21 : 0 ≤ (x6_1 : Int) := of_decide_eq_true (by first | (with_reducible assumption) | assumption)
                            have q21 : x6_1 < (T0.size : Int) := of_decide_eq_true (by first | (with_reducible assumption) | assumption)
                            try (have q21n := q21; simp only [ByteArray.size_append, ByteArray.size_extract, Nat.sub_zero, Int.natCast_add, Go.Proofs.YtjblihfgpbnhbaaDoor.GLib.size_mk, List.size_toArray, List.length_cons, List.length_nil] at q21n; replace q21n := eq_true q21n)
                            have hx21 := bt_at T0 x6_1
                            replace p21 := eq_true p21
                            replace q21 := eq_true q21
                            go_wp2
                            repeat (go_quiet (fail); try go_wp2)
                            all_goals (first | (exfalso; simp_all; done) | (exfalso; omega) | (go_ret2; exact ⟨by first | rfl | (simp [errW_none, errW_some] <;> rfl) | (simp [*, errW_none, errW_some] <;> rfl), by repeat (first | (with_reducible first | exact HB.out | apply below_alloc | apply pw_below_drewN | apply below_drew1) | exact HB.out)⟩))
                        · rw [if_neg c20] at H
                          exact absurd H (by simp)
                      · rw [if_neg c19] at H
                        exact absurd H (by simp)
              · rw [if_neg c7] at H
                have c7b0 : decide (x6_1 < (T0.size : Int)) = false := decide_eq_false c7
                try (have c7b8 := c7b0; simp only [ByteArray.size_append, ByteArray.size_extract, Nat.sub_zero, Int.natCast_add, Go.Proofs.YtjblihfgpbnhbaaDoor.GLib.size_mk, List.size_toArray, List.length_cons, List.length_nil] at c7b8)
                clear c7
                have H' := Aside0.mk H
                clear H
                go_wp2
                repeat (go_quiet (fail); try go_wp2)
                go_loopg [8, 9] k1 (fun kq v8 v9 w' => ∃ (x8_2 : Int) (x9_2 : Int), v8 = .int .i64 x8_2 ∧ v9 = .int .i64 x9_2 ∧ Aside0 (remitterref03_Rest.l1 kq x5_1 x8_2 x9_2 = some (r1, r2)) ∧ Aside0 (kq ≤ k1) ∧ Aside0 (Kd.R (Kd.int .i64) 3 w' w.heap.size (fun _ => True) u5 x5_1) ∧ Aside0 (Below w.heap.size w w'))
                case atStart => exact ⟨(0), (0), (by first | rfl | (simp; done) | (simp [*]; done) | exact congrArg Value.bool (Go.Proofs.YtjblihfgpbnhbaaDoor.GLib.not_isEmpty _) | exact congrArg Value.bool (Go.Proofs.YtjblihfgpbnhbaaDoor.GLib.not_isEmpty _).symm), (by first | rfl | (simp; done) | (simp [*]; done) | exact congrArg Value.bool (Go.Proofs.YtjblihfgpbnhbaaDoor.GLib.not_isEmpty _) | exact congrArg Value.bool (Go.Proofs.YtjblihfgpbnhbaaDoor.GLib.not_isEmpty _).symm), H', ⟨Nat.le_refl _⟩, ⟨by (with_reducible repeat (first | apply Kd.R_alloc | apply Kd.R_drewN | apply Kd.R_drew)); exact HO_5.out⟩, ⟨by repeat (first | (with_reducible first | exact HB.out | apply below_alloc | apply pw_below_drewN | apply below_drew1) | exact HB.out)⟩⟩
                case round =>
                  clear H'
                  try clear c1
                  try clear p1
                  try clear q1
                  try clear hx1
                  try clear c2
                  try clear c2b0
                  try clear c2b1
                  try clear p2
                  try clear q2
                  try clear hx2
                  try clear c3
                  try clear c3b0
                  try clear c3b1
                  try clear c4
                  try clear c4b0
                  try clear c4b1
                  try clear c5
                  try clear c5b0
                  try clear c6
                  try clear c6b0
                  try clear c6b1
                  try clear c6b2
                  try clear p6
                  try clear c7
                  try clear c7b0
                  try clear c8
                  try clear c9
                  try clear c9b0
                  try clear p10
                  try clear q10
                  try clear hx10
                  try clear c11
                  try clear c11b0
                  try clear p12
                  try clear q12
                  try clear hx12
                  try clear c13
                  try clear c14
                  try clear c14b0
                  try clear c15
                  try clear c15b0
                  try clear p16
                  try clear q16
                  try clear hx16
                  try clear c17
                  try clear c19
                  try clear c19b0
                  try clear c20
                  try clear c20b0
                  try clear p21
                  try clear q21
                  try clear hx21
                  try clear c22
                  try clear c22b0
                  try clear p23
                  try clear q23
                  try clear hx23
                  try clear c24
                  try clear c24b0
                  try clear p25
                  try clear q25
                  try clear hx25
                  try clear c26
                  try clear p1
                  try clear p10
                  try clear p12
                  try clear p16
                  try clear p2
                  try clear p21
                  try clear p23
                  try clear p25
                  try clear q1
                  try clear q10
                  try clear q12
                  try clear q16
                  try clear q21
                  try clear q23
                  try clear q25
                  obtain ⟨x8_2, x9_2, rfl, rfl, HA, HK2, HO_5, HB⟩ := hrel
                  cases gk with
                  | zero => exact absurd HA.out (by simp [remitterref03_Rest.l1])
                  | succ k2 =>
                    have H := HA.out
                    clear HA
                    simp only [remitterref03_Rest.l1] at H
                    by_cases c31 : x9_2 < (x5_1.length : Int)
                    · rw [if_pos c31] at H
                      have c31b0 : decide (x9_2 < (x5_1.length : Int)) = true := decide_eq_true c31
                      clear c31
                      by_cases c32 : 0 ≤ x9_2
                      · rw [if_pos c32] at H
                        have c32b0 : decide (0 ≤ x9_2) = true := decide_eq_true c32
                        clear c32
                        have H' := Aside0.mk H
                        clear H
                        obtain ⟨Ao33, co33, eo33⟩ := Kd.R_slice HO_5.out
                        subst eo33
                        have p121 : 0 ≤ (x9_2 : Int) := of_decide_eq_true (by first | (with_reducible assumption) | assumption)
                        have q121 : x9_2 < (x5_1.length : Int) := of_decide_eq_true (by first | (with_reducible assumption) | assumption)
                        obtain ⟨ad121, e121, hx121_0⟩ := Kd.at_int (Kd.R_reads' HO_5.out).2.2 x9_2 p121 q121
                        cases e121
                        replace p121 := eq_true p121
                        replace q121 := eq_true q121
                        go_wp2
                        repeat (go_quiet (fail); try go_wp2)
                        go_loopg [8] k2 (fun kq v8 w' => ∃ (x8_3 : Int), v8 = .int .i64 x8_3 ∧ Aside0 (remitterref03_Rest.l2 kq x5_1 x8_3 x9_2 = some (r1, r2)) ∧ Aside0 (kq ≤ k2) ∧ Aside0 (Kd.R (Kd.int .i64) 3 w' w.heap.size (fun _ => True) (.slice (some ad121) x5_1.length co33) x5_1) ∧ Aside0 (Below w.heap.size w w'))
                        case atStart => exact ⟨(wrap64 ((wrap64 (10 * x8_2)) + (rd x5_1 x9_2))), (by first | rfl | (simp; done) | (simp [*]; done) | exact congrArg Value.bool (Go.Proofs.YtjblihfgpbnhbaaDoor.GLib.not_isEmpty _) | exact congrArg Value.bool (Go.Proofs.YtjblihfgpbnhbaaDoor.GLib.not_isEmpty _).symm), H', ⟨Nat.le_refl _⟩, ⟨by (with_reducible repeat (first | apply Kd.R_alloc | apply Kd.R_drewN | apply Kd.R_drew)); exact HO_5.out⟩, ⟨by repeat (first | (with_reducible first | exact HB.out | apply below_alloc | apply pw_below_drewN | apply below_drew1) | exact HB.out)⟩⟩
                        case round =>
                          clear H'
                          try clear c1
                          try clear p1
                          try clear q1
                          try clear hx1
                          try clear c2
                          try clear c2b0
                          try clear c2b1
                          try clear p2
                          try clear q2
                          try clear hx2
                          try clear c3
                          try clear c3b0
                          try clear c3b1
                          try clear c4
                          try clear c4b0
                          try clear c4b1
                          try clear c5
                          try clear c5b0
                          try clear c6
                          try clear c6b0
                          try clear c6b1
                          try clear c6b2
                          try clear p6
                          try clear c7
                          try clear c7b0
                          try clear c8
                          try clear c9
                          try clear c9b0
                          try clear p10
                          try clear q10
                          try clear hx10
                          try clear c11
                          try clear c11b0
                          try clear p12
                          try clear q12
                          try clear hx12
                          try clear c13
                          try clear c14
                          try clear c14b0
                          try clear c15
                          try clear c15b0
                          try clear p16
                          try clear q16
                          try clear hx16
                          try clear c17
                          try clear c19
                          try clear c19b0
                          try clear c20
                          try clear c20b0
                          try clear p21
                          try clear q21
                          try clear hx21
                          try clear c22
                          try clear c22b0
                          try clear p23
                          try clear q23
                          try clear hx23
                          try clear c24
                          try clear c24b0
                          try clear p25
                          try clear q25
                          try clear hx25
                          try clear c26
                          try clear c31
                          try clear c31b0
                          try clear c32
                          try clear c32b0
                          try clear hx121_0
                          try clear p1
                          try clear p10
                          try clear p12
                          try clear p121
                          try clear p16
                          try clear p2
                          try clear p21
                          try clear p23
                          try clear p25
                          try clear p6
                          try clear q1
                          try clear q10
                          try clear q12
                          try clear q121
                          try clear q16
                          try clear q2
                          try clear q21
                          try clear q23
                          try clear q25
                          obtain ⟨x8_3, rfl, HA, HK3, HO_5, HB⟩ := hrel
                          cases gk with
                          | zero => exact absurd HA.out (by simp [remitterref03_Rest.l2])
                          | succ k3 =>
                            have H := HA.out
                            clear HA
                            simp only [remitterref03_Rest.l2] at H
                            by_cases c34 : x8_3 ≥ 97
                            · rw [if_pos c34] at H
                              have c34b0 : decide (97 ≤ x8_3) = true := decide_eq_true c34
                              clear c34
                              have H' := Aside0.mk H
                              clear H
                              go_wp2
                              repeat (go_quiet (fail); try go_wp2)
                              go_roundg k3
                              case measure => have := HK1.out; have := HK2.out; have := HK3.out; omega
                              case rel => exact ⟨(wrap64 (x8_3 - 97)), (by first | rfl | (simp; done) | (simp [*]; done) | exact congrArg Value.bool (Go.Proofs.YtjblihfgpbnhbaaDoor.GLib.not_isEmpty _) | exact congrArg Value.bool (Go.Proofs.YtjblihfgpbnhbaaDoor.GLib.not_isEmpty _).symm), H', ⟨by have := HK1.out; have := HK2.out; have := HK3.out; omega⟩, ⟨by (with_reducible repeat (first | apply Kd.R_alloc | apply Kd.R_drewN | apply Kd.R_drew)); exact HO_5.out⟩, ⟨by repeat (first | (with_reducible first | exact HB.out | apply below_alloc | apply pw_below_drewN | apply below_drew1) | exact HB.out)⟩⟩
                            · rw [if_neg c34] at H
                              have c34b0 : decide (97 ≤ x8_3) = false := decide_eq_false c34
                              clear c34
                              have H' := Aside0.mk H
                              clear H
                              go_wp2
                              repeat (go_quiet (fail); try go_wp2)
                              go_roundg k3
                              case measure => have := HK1.out; have := HK2.out; have := HK3.out; omega
                              case rel => exact ⟨(x8_3), (wrap64 (x9_2 + 1)), (by first | rfl | (simp; done) | (simp [*]; done) | exact congrArg Value.bool (Go.Proofs.YtjblihfgpbnhbaaDoor.GLib.not_isEmpty _) | exact congrArg Value.bool (Go.Proofs.YtjblihfgpbnhbaaDoor.GLib.not_isEmpty _).symm), (by first | rfl | (simp; done) | (simp [*]; done) | exact congrArg Value.bool (Go.Proofs.YtjblihfgpbnhbaaDoor.GLib.not_isEmpty _) | exact congrArg Value.bool (Go.Proofs.YtjblihfgpbnhbaaDoor.GLib.not_isEmpty _).symm), H', ⟨by have := HK1.out; have := HK2.out; have := HK3.out; omega⟩, ⟨by (with_reducible repeat (first | apply Kd.R_alloc | apply Kd.R_drewN | apply Kd.R_drew)); exact HO_5.out⟩, ⟨by repeat (first | (with_reducible first | exact HB.out | apply below_alloc | apply pw_below_drewN | apply below_drew1) | exact HB.out)⟩⟩
                      · rw [if_neg c32] at H
                        exact absurd H (by simp)
                    · rw [if_neg c31] at H
                      have c31b0 : decide (x9_2 < (x5_1.length : Int)) = false := decide_eq_false c31
                      clear c31
                      simp only [Option.some.injEq, Prod.mk.injEq] at H
                      obtain ⟨rfl, rfl⟩ := H
                      obtain ⟨Ao35, co35, eo35⟩ := Kd.R_slice HO_5.out
                      subst eo35
                      go_wp2
                      repeat (go_quiet (fail); try go_wp2)
                      all_goals (first | (exfalso; simp_all; done) | (exfalso; omega) | (go_ret2; exact ⟨by first | rfl | (simp [errW_none, errW_some] <;> rfl) | (simp [*, errW_none, errW_some] <;> rfl), by repeat (first | (with_reducible first | exact HB.out | apply below_alloc | apply pw_below_drewN | apply below_drew1) | exact HB.out)⟩))
        · rw [if_neg c6] at H
          exact absurd H (by simp)
      · rw [if_neg c4] at H
        exact absurd H (by simp)
    · rw [if_neg c3] at H
      exact absurd H (by simp)

/-! ### remitterref03_Length: function 10 -/
/-- The constant text. -/
def remitterref03_Length.lit : ByteArray := ⟨#[78, 79, 49, 53, 66, 69, 49, 54, 68, 75, 49, 56, 70, 73, 49, 56, 78, 76, 49, 56, 77, 75, 49, 57, 83, 73, 49, 57, 65, 84, 50, 48, 66, 65, 50, 48, 69, 69, 50, 48, 76, 84, 50, 48, 76, 85, 50, 48, 67, 72, 50, 49, 72, 82, 50, 49, 76, 73, 50, 49, 76, 86, 50, 49, 66, 71, 50, 50, 68, 69, 50, 50, 71, 66, 50, 50, 71, 69, 50, 50, 73, 69, 50, 50, 77, 69, 50, 50, 82, 83, 50, 50, 65, 69, 50, 51, 71, 73, 50, 51, 73, 76, 50, 51, 65, 68, 50, 52, 67, 90, 50, 52, 69, 83, 50, 52, 77, 68, 50, 52, 80, 75, 50, 52, 82, 79, 50, 52, 83, 65, 50, 52, 83, 69, 50, 52, 83, 75, 50, 52, 84, 78, 50, 52, 80, 84, 50, 53, 73, 83, 50, 54, 84, 82, 50, 54, 70, 82, 50, 55, 71, 82, 50, 55, 73, 84, 50, 55, 77, 67, 50, 55, 83, 77, 50, 55, 65, 76, 50, 56, 65, 90, 50, 56, 67, 89, 50, 56, 68, 79, 50, 56, 72, 85, 50, 56, 76, 66, 50, 56, 80, 76, 50, 56, 66, 82, 50, 57]⟩
def remitterref03_Length.l0 : Nat → ByteArray → ByteArray → Int → Option (Int × Bool)
  | 0, _, _, _ => none
  | k + 1, x0, x4, x5 => if (wrap64 (x5 + 4)) ≤ (x4.size : Int) then (if 0 ≤ x5 then (if x5 ≤ (wrap64 (x5 + 2)) then (if (wrap64 (x5 + 2)) ≤ (x4.size : Int) then (if (x4.extract (x5 : Int).toNat ((wrap64 (x5 + 2)) : Int).toNat).toList = x0.toList then (if 0 ≤ (wrap64 (x5 + 2)) then (if (wrap64 (x5 + 2)) < (x4.size : Int) then (if 0 ≤ (wrap64 (x5 + 3)) then (if (wrap64 (x5 + 3)) < (x4.size : Int) then (some ((10 * (((bt x4 (wrap64 (x5 + 2))) - 48) % 256)) + (((bt x4 (wrap64 (x5 + 3))) - 48) % 256), true)) else (none)) else (none)) else (none)) else (none)) else (remitterref03_Length.l0 k x0 x4 (wrap64 (x5 + 4)))) else (none)) else (none)) else (none)) else (some (0, false))
def remitterref03_Length.f (k : Nat) (a0 : ByteArray) : Option (Int × Bool) := remitterref03_Length.l0 k a0 remitterref03_Length.lit 0
theorem remitterref03_Length.mono_l : ∀ k, (∀ y0 y1 y2, LeO (remitterref03_Length.l0 k y0 y1 y2) (remitterref03_Length.l0 (k + 1) y0 y1 y2))
  | 0 => fun _ _ _ r h => by simp [remitterref03_Length.l0] at h
  | k + 1 => by
    have ih0 := remitterref03_Length.mono_l k
    · intro y0 y1 y2
      unfold remitterref03_Length.l0
      repeat' first
      | (with_reducible exact ih0 _ _ _)
      | (with_reducible exact LeO.refl _)
      | (with_reducible exact LeO.none _)
      | (with_reducible refine LeO.ite ?_ ?_)
      | (with_reducible refine LeO.bind ?_ (fun _ => ?_))
      | exact ih0 _ _ _
      | exact LeO.none _
      | refine LeO.ite ?_ ?_
      | refine LeO.bind ?_ (fun _ => ?_)
theorem remitterref03_Length.mono : ∀ a0 k, LeO (remitterref03_Length.f k a0) (remitterref03_Length.f (k + 1) a0) := by
  intro a0 k
  have ih0 := remitterref03_Length.mono_l k
  unfold remitterref03_Length.f
  repeat' first
      | (with_reducible exact ih0 _ _ _)
      | (with_reducible exact LeO.refl _)
      | (with_reducible exact LeO.none _)
      | (with_reducible refine LeO.ite ?_ ?_)
      | (with_reducible refine LeO.bind ?_ (fun _ => ?_))
      | exact ih0 _ _ _
      | exact LeO.none _
      | refine LeO.ite ?_ ?_
      | refine LeO.bind ?_ (fun _ => ?_)
set_option maxHeartbeats 8000000 in
set_option maxRecDepth 100000 in
theorem remitterref03_Length.calls (k : Nat) (a0 : ByteArray) (r1 : Int) (r2 : Bool) (w : World) (h : remitterref03_Length.f k a0 = some (r1, r2)) :
    Calls Tryd.prog 10 #[.string a0] w fun e w' => e = .returned (.tuple #[.int .i64 r1, .bool r2]) ∧ Drawn0 w w' := by
  have H : (remitterref03_Length.l0 k a0 remitterref03_Length.lit 0) = some (r1, r2) := h
  clear h
  have H' := Aside0.mk H
  clear H
  go_enter Tryd.func10, Tryd.ntmps10
  go_wp2
  repeat (go_quiet (fail); try go_wp2)
  rw [show (⟨(([78, 79, 49, 53, 66, 69, 49, 54, 68, 75, 49, 56, 70, 73, 49, 56, 78, 76, 49, 56, 77, 75, 49, 57, 83, 73, 49, 57, 65, 84, 50, 48, 66, 65, 50, 48, 69, 69, 50, 48, 76, 84, 50, 48, 76, 85, 50, 48, 67, 72, 50, 49].append [72, 82, 50, 49, 76, 73, 50, 49, 76, 86, 50, 49, 66, 71, 50, 50, 68, 69, 50, 50, 71, 66, 50, 50, 71, 69, 50, 50, 73, 69, 50, 50, 77, 69, 50, 50, 82, 83, 50, 50, 65, 69, 50, 51, 71, 73, 50, 51, 73, 76, 50, 51]).append ([65, 68, 50, 52, 67, 90, 50, 52, 69, 83, 50, 52, 77, 68, 50, 52, 80, 75, 50, 52, 82, 79, 50, 52, 83, 65, 50, 52, 83, 69, 50, 52, 83, 75, 50, 52, 84, 78, 50, 52, 80, 84, 50, 53, 73, 83, 50, 54, 84, 82, 50, 54].append [70, 82, 50, 55, 71, 82, 50, 55, 73, 84, 50, 55, 77, 67, 50, 55, 83, 77, 50, 55, 65, 76, 50, 56, 65, 90, 50, 56, 67, 89, 50, 56, 68, 79, 50, 56, 72, 85, 50, 56, 76, 66, 50, 56, 80, 76, 50, 56, 66, 82, 50, 57])).toArray⟩ : ByteArray) = remitterref03_Length.lit from by kernel_rfl]
  go_loopg [5] k (fun kq v5 w' => ∃ (x5_1 : Int), v5 = .int .i64 x5_1 ∧ Aside0 (remitterref03_Length.l0 kq a0 remitterref03_Length.lit x5_1 = some (r1, r2)) ∧ Aside0 (kq ≤ k) ∧ Drawn0 w w')
  case atStart => exact ⟨(0), (by first | rfl | (simp; done) | (simp [*]; done) | exact congrArg Value.bool (Go.Proofs.YtjblihfgpbnhbaaDoor.GLib.not_isEmpty _) | exact congrArg Value.bool (Go.Proofs.YtjblihfgpbnhbaaDoor.GLib.not_isEmpty _).symm), H', ⟨Nat.le_refl _⟩, by repeat (first | exact Drawn0.refl _ | apply Drawn0.step)⟩
  case round =>
    clear H'
    try clear c1
    obtain ⟨x5_1, rfl, HA, HK1, ⟨m1, rfl⟩⟩ := hrel
    cases gk with
    | zero => exact absurd HA.out (by simp [remitterref03_Length.l0])
    | succ k1 =>
      have H := HA.out
      clear HA
      simp only [remitterref03_Length.l0] at H
      by_cases c2 : (wrap64 (x5_1 + 4)) ≤ (remitterref03_Length.lit.size : Int)
      · rw [if_pos c2] at H
        have c2b0 : decide ((wrap64 (x5_1 + 4)) ≤ (remitterref03_Length.lit.size : Int)) = true := decide_eq_true c2
        clear c2
        by_cases c3 : 0 ≤ x5_1
        · rw [if_pos c3] at H
          have c3b0 := eq_true c3
          have c3b1 : decide (0 ≤ x5_1) = true := decide_eq_true c3
          clear c3
          by_cases c4 : x5_1 ≤ (wrap64 (x5_1 + 2))
          · rw [if_pos c4] at H
            have c4b0 := eq_true c4
            have c4b1 : decide (x5_1 ≤ (wrap64 (x5_1 + 2))) = true := decide_eq_true c4
            by_cases c5 : (wrap64 (x5_1 + 2)) ≤ (remitterref03_Length.lit.size : Int)
            · rw [if_pos c5] at H
              have c5b0 := eq_true c5
              have c5b1 : decide ((wrap64 (x5_1 + 2)) ≤ (remitterref03_Length.lit.size : Int)) = true := decide_eq_true c5
              by_cases c6 : (remitterref03_Length.lit.extract (x5_1 : Int).toNat ((wrap64 (x5_1 + 2)) : Int).toNat).toList = a0.toList
              · rw [if_pos c6] at H
                have c6b0 : ((remitterref03_Length.lit.extract (x5_1 : Int).toNat ((wrap64 (x5_1 + 2)) : Int).toNat).toList == a0.toList) = true := beq_iff_eq.mpr c6
                have c6b1 : ((remitterref03_Length.lit.extract (x5_1 : Int).toNat ((wrap64 (x5_1 + 2)) : Int).toNat).toList != a0.toList) = false := bne_eq_false_iff_eq.mpr c6
                clear c6
                obtain ⟨ji7, hji7⟩ : ∃ j_ : Int, (wrap64 (x5_1 + 2)) = j_ := ⟨_, rfl⟩
                replace H : (if 0 ≤ (ji7) then (if (ji7) < (remitterref03_Length.lit.size : Int) then (if 0 ≤ (wrap64 (x5_1 + 3)) then (if (wrap64 (x5_1 + 3)) < (remitterref03_Length.lit.size : Int) then (some ((10 * (((bt remitterref03_Length.lit (ji7)) - 48) % 256)) + (((bt remitterref03_Length.lit (wrap64 (x5_1 + 3))) - 48) % 256), true)) else (none)) else (none)) else (none)) else (none)) = some (r1, r2) := by first | (rw [hji7] at H; exact H) | (simp only [hji7] at H ⊢; exact H)
                (try rw [hji7] at c4b0)
                (try rw [hji7] at c4b1)
                (try rw [hji7] at c4)
                (try rw [hji7] at c5b0)
                (try rw [hji7] at c5b1)
                (try rw [hji7] at c5)
                (try rw [hji7] at c6b0)
                (try rw [hji7] at c6b1)
                have hji7w : (IntKind.i64.wrap (x5_1 + 2)) = ji7 := (i64_w _).trans hji7
                by_cases c8 : 0 ≤ (ji7)
                · rw [if_pos c8] at H
                  have c8b0 : decide (0 ≤ (ji7)) = true := decide_eq_true c8
                  clear c8
                  by_cases c9 : (ji7) < (remitterref03_Length.lit.size : Int)
                  · rw [if_pos c9] at H
                    have c9b0 : decide ((ji7) < (remitterref03_Length.lit.size : Int)) = true := decide_eq_true c9
                    clear c9
                    obtain ⟨ji11, hji11⟩ : ∃ j_ : Int, (wrap64 (x5_1 + 3)) = j_ := ⟨_, rfl⟩
                    replace H : (if 0 ≤ (ji11) then (if (ji11) < (remitterref03_Length.lit.size : Int) then (some ((10 * (((bt remitterref03_Length.lit (ji7)) - 48) % 256)) + (((bt remitterref03_Length.lit (ji11)) - 48) % 256), true)) else (none)) else (none)) = some (r1, r2) := by first | (rw [hji11] at H; exact H) | (simp only [hji11] at H ⊢; exact H)
                    have hji11w : (IntKind.i64.wrap (x5_1 + 3)) = ji11 := (i64_w _).trans hji11
                    by_cases c12 : 0 ≤ (ji11)
                    · rw [if_pos c12] at H
                      have c12b0 : decide (0 ≤ (ji11)) = true := decide_eq_true c12
                      clear c12
                      by_cases c13 : (ji11) < (remitterref03_Length.lit.size : Int)
                      · rw [if_pos c13] at H
                        have c13b0 : decide ((ji11) < (remitterref03_Length.lit.size : Int)) = true := decide_eq_true c13
                        clear c13
                        simp only [Option.some.injEq, Prod.mk.injEq] at H
                        obtain ⟨rfl, rfl⟩ := H
                        have p10 : 0 ≤ ((ji7) : Int) := of_decide_eq_true (by first | (with_reducible assumption) | assumption)
                        have q10 : (ji7) < (remitterref03_Length.lit.size : Int) := of_decide_eq_true (by first | (with_reducible assumption) | assumption)
                        have hx10 := bt_at remitterref03_Length.lit (ji7)
                        replace p10 := eq_true p10
                        replace q10 := eq_true q10
                        have p14 : 0 ≤ ((ji11) : Int) := of_decide_eq_true (by first | (with_reducible assumption) | assumption)
                        have q14 : (ji11) < (remitterref03_Length.lit.size : Int) := of_decide_eq_true (by first | (with_reducible assumption) | assumption)
                        have hx14 := bt_at remitterref03_Length.lit (ji11)
                        replace p14 := eq_true p14
                        replace q14 := eq_true q14
                        go_wp2
                        repeat (go_quiet (fail); try go_wp2)
                        all_goals (first | (exfalso; simp_all; done) | (exfalso; omega) | (go_ret2; exact ⟨by first | rfl | (simp; done) | (simp only [← hji7, ← hji11] <;> (first | rfl | simp)) | (simp [*]; done), by repeat (first | exact Drawn0.refl _ | apply Drawn0.step)⟩))
                      · rw [if_neg c13] at H
                        exact absurd H (by simp)
                    · rw [if_neg c12] at H
                      exact absurd H (by simp)
                  · rw [if_neg c9] at H
                    exact absurd H (by simp)
                · rw [if_neg c8] at H
                  exact absurd H (by simp)
              · rw [if_neg c6] at H
                have c6b0 : ((remitterref03_Length.lit.extract (x5_1 : Int).toNat ((wrap64 (x5_1 + 2)) : Int).toNat).toList == a0.toList) = false := beq_eq_false_iff_ne.mpr c6
                have c6b1 : ((remitterref03_Length.lit.extract (x5_1 : Int).toNat ((wrap64 (x5_1 + 2)) : Int).toNat).toList != a0.toList) = true := bne_iff_ne.mpr c6
                have H' := Aside0.mk H
                clear H
                go_wp2
                repeat (go_quiet (fail); try go_wp2)
                go_roundg k1
                case measure => have := HK1.out; omega
                case rel => exact ⟨(wrap64 (x5_1 + 4)), (by first | rfl | (simp; done) | (simp [*]; done) | exact congrArg Value.bool (Go.Proofs.YtjblihfgpbnhbaaDoor.GLib.not_isEmpty _) | exact congrArg Value.bool (Go.Proofs.YtjblihfgpbnhbaaDoor.GLib.not_isEmpty _).symm), H', ⟨by have := HK1.out; omega⟩, by repeat (first | exact Drawn0.refl _ | apply Drawn0.step)⟩
            · rw [if_neg c5] at H
              exact absurd H (by simp)
          · rw [if_neg c4] at H
            exact absurd H (by simp)
        · rw [if_neg c3] at H
          exact absurd H (by simp)
      · rw [if_neg c2] at H
        have c2b0 : decide ((wrap64 (x5_1 + 4)) ≤ (remitterref03_Length.lit.size : Int)) = false := decide_eq_false c2
        clear c2
        simp only [Option.some.injEq, Prod.mk.injEq] at H
        obtain ⟨rfl, rfl⟩ := H
        go_wp2
        repeat (go_quiet (fail); try go_wp2)
        all_goals (first | (exfalso; simp_all; done) | (exfalso; omega) | (go_ret2; exact ⟨by first | rfl | (simp; done) | (simp [*]; done), by repeat (first | exact Drawn0.refl _ | apply Drawn0.step)⟩))

end Go.Proofs.YtjblihfgpbnhbaaDoor.PAll

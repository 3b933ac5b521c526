-- Made by this session's wip/tools/gprint.py, which runs the kit's print program; some functions' contracts are proved by hand.
import Derived.Test.YtkklccccjmipkaaDoorLPLin0
import Derived.Test.YtkklccccjmipkaaDoorLPLRfx1
import Derived.Test.YtkklccccjmipkaaDoorLPLRfx2
namespace Go.Proofs.YtkklccccjmipkaaDoor.PAll
open Go.RowKit Go.Proofs.YtkklccccjmipkaaDoorW.PrintWords Go.Proofs.YtkklccccjmipkaaDoorW.PrintLast Go.Proofs.YtkklccccjmipkaaDoorW.PrintMore
attribute [local go_sem] max2_int min2_int max_two min_two max_three min_three max_four min_four   -- for this text's walks alone
set_option linter.unusedVariables false
set_option linter.unusedSimpArgs false

mutual
def remitterref15_Read.l0 : Nat → ByteArray → List ByteArray → List (S69) → Int → Int → Int → Option ((List (S69)) × Int × Int)
  | 0, _, _, _, _, _, _ => none
  | k + 1, x0, x5, x6, x7, x8, x9 => if x9 < (x5.length : Int) then (if 0 ≤ x9 then ((remitterref15_tag.f k (rdOf ByteArray.empty x5 x9)).bind fun t120 => (if t120 > 0 then (remitterref15_Read.j1 k x0 x5 x6 x7 x8 x9 (rdOf ByteArray.empty x5 x9) t120 (decide (x8 ≥ 0))) else (remitterref15_Read.j1 k x0 x5 x6 x7 x8 x9 (rdOf ByteArray.empty x5 x9) t120 false))) else (none)) else (if x8 ≥ 0 then (some (([] : List (S69)), x8, 31)) else (some (x6, (x0.size : Int), 0)))
def remitterref15_Read.j1 : Nat → ByteArray → List ByteArray → List (S69) → Int → Int → Int → ByteArray → Int → Bool → Option ((List (S69)) × Int × Int)
  | 0, _, _, _, _, _, _, _, _, _ => none
  | k + 1, x0, x5, x6, x7, x8, x9, x10, x11, x31 => if x31 = true then (some (([] : List (S69)), x8, 31)) else (if x9 ≥ 2000 then (some (([] : List (S69)), x7, 3)) else ((remitterref12_X.f k x10 78).bind fun t121 => (if t121 = true then (if x11 > 0 then (if 1 ≤ (wrap64 (1 + x11)) then (if (wrap64 (1 + x11)) ≤ (x10.size : Int) then (if 0 ≤ (wrap64 (2 + x11)) then (if (wrap64 (2 + x11)) ≤ (x10.size : Int) then (if x6.length < 3518437208883 then ((some (x6 ++ [(⟨x10.extract 1 ((wrap64 (1 + x11)) : Int).toNat, x10.extract ((wrap64 (2 + x11)) : Int).toNat x10.size, x7⟩ : S69)] : List (S69))).bind fun y122 => (if (x10.size : Int) = (wrap64 (2 + x11)) then (remitterref15_Read.l0 k x0 x5 y122 (wrap64 ((wrap64 (x7 + (x10.size : Int))) + 2)) x7 (wrap64 (x9 + 1))) else (remitterref15_Read.l0 k x0 x5 y122 (wrap64 ((wrap64 (x7 + (x10.size : Int))) + 2)) x8 (wrap64 (x9 + 1))))) else (none)) else (none)) else (none)) else (none)) else (none)) else (if (x6.length : Int) = 0 then (some (([] : List (S69)), x7, 31)) else (if 0 < (x10.size : Int) then (if (bt x10 0) = 58 then (some (([] : List (S69)), x7, 31)) else (if (bt x10 0) = 45 then (some (([] : List (S69)), x7, 31)) else (if 0 ≤ (wrap64 ((x6.length : Int) - 1)) then (if (wrap64 ((x6.length : Int) - 1)) < (x6.length : Int) then (if ((rd_T69 x6 (wrap64 ((x6.length : Int) - 1))).f1).size + 2 ≤ 9223372036854775807 then (if (((rd_T69 x6 (wrap64 ((x6.length : Int) - 1))).f1) ++ (⟨#[13, 10]⟩ : ByteArray)).size + x10.size ≤ 9223372036854775807 then (remitterref15_Read.l0 k x0 x5 (x6.set ((wrap64 ((x6.length : Int) - 1)) : Int).toNat (⟨(rd_T69 x6 (wrap64 ((x6.length : Int) - 1))).f0, (((rd_T69 x6 (wrap64 ((x6.length : Int) - 1))).f1) ++ (⟨#[13, 10]⟩ : ByteArray)) ++ x10, (rd_T69 x6 (wrap64 ((x6.length : Int) - 1))).f2⟩ : S69)) (wrap64 ((wrap64 (x7 + (x10.size : Int))) + 2)) (-1) (wrap64 (x9 + 1))) else (none)) else (none)) else (none)) else (none)))) else (none)))) else (some (([] : List (S69)), x7, 31)))))
end
def remitterref15_Read.f (k : Nat) (a0 : ByteArray) : Option ((List (S69)) × Int × Int) := (remitterref15_Cut.f k a0).bind fun t116 => (remitterref15_Read.l0 k a0 t116 ([] : List (S69)) 0 (-1) 0)
theorem remitterref15_Read.mono_l : ∀ k, (∀ y0 y1 y2 y3 y4 y5, LeO (remitterref15_Read.l0 k y0 y1 y2 y3 y4 y5) (remitterref15_Read.l0 (k + 1) y0 y1 y2 y3 y4 y5)) ∧ (∀ y0 y1 y2 y3 y4 y5 y6 y7 y8, LeO (remitterref15_Read.j1 k y0 y1 y2 y3 y4 y5 y6 y7 y8) (remitterref15_Read.j1 (k + 1) y0 y1 y2 y3 y4 y5 y6 y7 y8))
  | 0 => ⟨fun _ _ _ _ _ _ r h => by simp [remitterref15_Read.l0] at h, fun _ _ _ _ _ _ _ _ _ r h => by simp [remitterref15_Read.j1] at h⟩
  | k + 1 => by
    obtain ⟨ih0, ih1⟩ := remitterref15_Read.mono_l k
    refine ⟨?_, ?_⟩
    · intro y0 y1 y2 y3 y4 y5
      unfold remitterref15_Read.l0
      repeat' first
      | (with_reducible exact ih0 _ _ _ _ _ _)
      | (with_reducible exact ih1 _ _ _ _ _ _ _ _ _)
      | (with_reducible exact remitterref12_X.mono _ _ _)
      | (with_reducible exact remitterref15_Cut.mono _ _)
      | (with_reducible exact remitterref15_tag.mono _ _)
      | (with_reducible exact LeO.refl _)
      | (with_reducible exact LeO.none _)
      | (with_reducible refine LeO.ite ?_ ?_)
      | (with_reducible refine LeO.bind ?_ (fun _ => ?_))
      | exact ih0 _ _ _ _ _ _
      | exact ih1 _ _ _ _ _ _ _ _ _
      | exact remitterref12_X.mono _ _ _
      | exact remitterref15_Cut.mono _ _
      | exact remitterref15_tag.mono _ _
      | exact LeO.none _
      | refine LeO.ite ?_ ?_
      | refine LeO.bind ?_ (fun _ => ?_)
    · intro y0 y1 y2 y3 y4 y5 y6 y7 y8
      unfold remitterref15_Read.j1
      repeat' first
      | (with_reducible exact ih0 _ _ _ _ _ _)
      | (with_reducible exact ih1 _ _ _ _ _ _ _ _ _)
      | (with_reducible exact remitterref12_X.mono _ _ _)
      | (with_reducible exact remitterref15_Cut.mono _ _)
      | (with_reducible exact remitterref15_tag.mono _ _)
      | (with_reducible exact LeO.refl _)
      | (with_reducible exact LeO.none _)
      | (with_reducible refine LeO.ite ?_ ?_)
      | (with_reducible refine LeO.bind ?_ (fun _ => ?_))
      | exact ih0 _ _ _ _ _ _
      | exact ih1 _ _ _ _ _ _ _ _ _
      | exact remitterref12_X.mono _ _ _
      | exact remitterref15_Cut.mono _ _
      | exact remitterref15_tag.mono _ _
      | exact LeO.none _
      | refine LeO.ite ?_ ?_
      | refine LeO.bind ?_ (fun _ => ?_)
theorem remitterref15_Read.mono : ∀ a0 k, LeO (remitterref15_Read.f k a0) (remitterref15_Read.f (k + 1) a0) := by
  intro a0 k
  obtain ⟨ih0, ih1⟩ := remitterref15_Read.mono_l k
  unfold remitterref15_Read.f
  repeat' first
      | (with_reducible exact ih0 _ _ _ _ _ _)
      | (with_reducible exact ih1 _ _ _ _ _ _ _ _ _)
      | (with_reducible exact remitterref12_X.mono _ _ _)
      | (with_reducible exact remitterref15_Cut.mono _ _)
      | (with_reducible exact remitterref15_tag.mono _ _)
      | (with_reducible exact LeO.refl _)
      | (with_reducible exact LeO.none _)
      | (with_reducible refine LeO.ite ?_ ?_)
      | (with_reducible refine LeO.bind ?_ (fun _ => ?_))
      | exact ih0 _ _ _ _ _ _
      | exact ih1 _ _ _ _ _ _ _ _ _
      | exact remitterref12_X.mono _ _ _
      | exact remitterref15_Cut.mono _ _
      | exact remitterref15_tag.mono _ _
      | exact LeO.none _
      | refine LeO.ite ?_ ?_
      | refine LeO.bind ?_ (fun _ => ?_)
def remitterref15_Read.T16 : Bool × List (List Nat × List Nat) := (true, [([], []), ([], []), ([], []), ([2], [2]), ([1, 3], [1, 3]), ([], []), ([], []), ([6], [6]), ([5, 7], [5, 7]), ([], []), ([4, 8, 9], [4, 8, 9]), ([10], [10]), ([0, 11], [0, 11]), ([12, 12, 0, 1, 2, 3, 4, 5, 6, 7, 8, 9, 10, 11, 12], [0, 12])])
def remitterref15_Read.B16 : List Nat := [0, 0, 0, 4, 14, 0, 0, 64, 224, 0, 1022, 2046, 4095, 8191]
theorem remitterref15_Read.tab16 : rtab .any (opsOf Tryd.f32 16) = remitterref15_Read.T16 := by kernel_rfl
theorem remitterref15_Read.bits16 : waitsOk remitterref15_Read.T16.2 remitterref15_Read.B16 = true := by kernel_rfl
set_option maxHeartbeats 8000000 in
set_option maxRecDepth 100000 in
theorem remitterref15_Read.calls (k : Nat) (a0 : ByteArray) (r1 : List (S69)) (r2 : Int) (r3 : Int) (w : World) (h : remitterref15_Read.f k a0 = some (r1, r2, r3)) :
    Calls Tryd.prog 32 #[.string a0] w fun e w' => ∃ v0_ : Value, e = .returned (.tuple #[v0_, .int .i64 r2, .int .i64 r3]) ∧ Kd.R k69 69 w' w.heap.size (fun _ => True) v0_ r1 ∧ Below w.heap.size w w' := by
  have hu69 := Tryd.underlying69
  have HB := Aside0.mk (Below.refl w.heap.size w)
  have H : ((remitterref15_Cut.f k a0).bind fun t116 => (remitterref15_Read.l0 k a0 t116 ([] : List (S69)) 0 (-1) 0)) = some (r1, r2, r3) := h
  clear h
  replace H := Option.bind_eq_some_iff.mp H
  obtain ⟨t116, A20, H⟩ := H
  replace H : (remitterref15_Read.l0 k a0 t116 ([] : List (S69)) 0 (-1) 0) = some (r1, r2, r3) := H
  have A2 := Aside0.mk A20
  clear A20
  have H' := Aside0.mk H
  clear H
  go_enter Tryd.func32, Tryd.ntmps32
  go_wp2_with (first | ((with_reducible refine gate_callee (f := 34) rfl ?_); refine goesL_ (some 13) rfl rfl Tryd.func34 (by kernel_rfl) rfl #[.string a0] rfl (by (try simp only [List.map_toArray, List.map_cons, List.map_nil]); first | done | rfl | (simp only [List.length_drop, List.length_take]; rfl)) ?_; (with_reducible refine (remitterref15_Cut.calls k a0 t116 _ A2.out).mono ?_); rintro e w3 ⟨v117, rfl, ho0, hb⟩; refine ⟨_, rfl, ?_⟩; have n0_ := Aside0.mk (Kd.R_lower ho0 (below_size (by repeat (first | (with_reducible first | exact HB.out | apply below_alloc | apply pw_below_drewN | apply below_drew1) | exact HB.out)))); have n1_ := Aside0.mk (below_step (by repeat (first | (with_reducible first | exact HB.out | apply below_alloc | apply pw_below_drewN | apply below_drew1) | exact HB.out)) hb); clear HB; have HO118 := n0_; have HB := n1_; clear n0_ n1_; (try clear hb); (try clear hb2); (try clear hk); (try clear hi); (try clear ho0)))
  go_loopg [6, 7, 8, 9] k (fun kq v6 v7 v8 v9 w' => ∃ (x6_1 : List (S69)) (x7_1 : Int) (x8_1 : Int) (x9_1 : Int), v7 = .int .i64 x7_1 ∧ v8 = .int .i64 x8_1 ∧ v9 = .int .i64 x9_1 ∧ Aside0 (remitterref15_Read.l0 kq a0 t116 x6_1 x7_1 x8_1 x9_1 = some (r1, r2, r3)) ∧ Aside0 (kq ≤ k) ∧ Aside0 (Kd.R Kd.string 9 w' w.heap.size (fun _ => True) v117 t116) ∧ Aside0 (Kd.R k69 69 w' w.heap.size (fun _ => True) v6 x6_1) ∧ Aside0 (Below w.heap.size w w'))
  case atStart => exact ⟨(([] : List (S69))), (0), ((-1)), (0), (by first | rfl | (simp; done) | (simp [*]; done) | exact congrArg Value.bool (Go.Proofs.YtkklccccjmipkaaDoor.GLib.not_isEmpty _) | exact congrArg Value.bool (Go.Proofs.YtkklccccjmipkaaDoor.GLib.not_isEmpty _).symm), (by first | rfl | (simp; done) | (simp [*]; done) | exact congrArg Value.bool (Go.Proofs.YtkklccccjmipkaaDoor.GLib.not_isEmpty _) | exact congrArg Value.bool (Go.Proofs.YtkklccccjmipkaaDoor.GLib.not_isEmpty _).symm), (by first | rfl | (simp; done) | (simp [*]; done) | exact congrArg Value.bool (Go.Proofs.YtkklccccjmipkaaDoor.GLib.not_isEmpty _) | exact congrArg Value.bool (Go.Proofs.YtkklccccjmipkaaDoor.GLib.not_isEmpty _).symm), H', ⟨Nat.le_refl _⟩, ⟨by (with_reducible repeat (first | apply Kd.R_alloc | apply Kd.R_drewN | apply Kd.R_drew)); exact HO118.out⟩, ⟨by first | exact Kd.R_nil _ _ _ _ _ | exact Kd.N_nil _ _ _ _ _ | exact Kd.V_nil _ _ _ _ _ | exact Kd.Q_nil _ _ _ _ _ | exact Kd.S_nil _ _ _ _ _⟩, ⟨by repeat (first | (with_reducible first | exact HB.out | apply below_alloc | apply pw_below_drewN | apply below_drew1) | exact HB.out)⟩⟩
  case round =>
    clear H'
    try clear p2
    try clear c3
    obtain ⟨x6_1, x7_1, x8_1, x9_1, rfl, rfl, rfl, HA, HK1, HO_5, HO_6, HB⟩ := hrel
    cases gk with
    | zero => exact absurd HA.out (by simp [remitterref15_Read.l0])
    | succ k1 =>
      have H := HA.out
      clear HA
      simp only [remitterref15_Read.l0] at H
      by_cases c4 : x9_1 < (t116.length : Int)
      · rw [if_pos c4] at H
        have c4b0 : decide (x9_1 < (t116.length : Int)) = true := decide_eq_true c4
        clear c4
        by_cases c5 : 0 ≤ x9_1
        · rw [if_pos c5] at H
          have c5b0 : decide (0 ≤ x9_1) = true := decide_eq_true c5
          clear c5
          replace H := Option.bind_eq_some_iff.mp H
          obtain ⟨t120, A60, H⟩ := H
          replace H : (if t120 > 0 then (remitterref15_Read.j1 k1 a0 t116 x6_1 x7_1 x8_1 x9_1 (rdOf ByteArray.empty t116 x9_1) t120 (decide (x8_1 ≥ 0))) else (remitterref15_Read.j1 k1 a0 t116 x6_1 x7_1 x8_1 x9_1 (rdOf ByteArray.empty t116 x9_1) t120 false)) = some (r1, r2, r3) := H
          have A6 := Aside0.mk A60
          clear A60
          have HC7 := Aside0.mk H
          clear H
          obtain ⟨Ao8, co8, eo8⟩ := Kd.R_slice HO_5.out
          subst eo8
          have p119 : 0 ≤ (x9_1 : Int) := of_decide_eq_true (by first | (with_reducible assumption) | assumption)
          have q119 : x9_1 < (t116.length : Int) := of_decide_eq_true (by first | (with_reducible assumption) | assumption)
          obtain ⟨ad119, e119, hx119_0⟩ := Kd.at_string (Kd.R_reads' HO_5.out).2.2 x9_1 p119 q119
          cases e119
          replace p119 := eq_true p119
          replace q119 := eq_true q119
          go_upto_region 9 with (first | ((with_reducible refine gate_callee (f := 70) rfl ?_); refine goesL_ (some 25) rfl rfl Tryd.func70 (by kernel_rfl) rfl #[.string (rdOf ByteArray.empty t116 x9_1)] rfl (by (try simp only [List.map_toArray, List.map_cons, List.map_nil]); first | done | rfl | (simp only [List.length_drop, List.length_take]; rfl)) ?_; (with_reducible refine (remitterref15_tag.calls k1 (rdOf ByteArray.empty t116 x9_1) t120 _ A6.out).mono ?_); rintro e w' ⟨rfl, ⟨nd, rfl⟩⟩; refine ⟨_, rfl, ?_⟩))
          (try simp only [Act.put, List.setIfInBounds_toArray, List.set_cons_zero, List.set_cons_succ])
          go_cut [31] (fun v31 wc => ∃ (kq : Nat) (x31_6 : Bool), v31 = .bool x31_6 ∧ Aside0 (remitterref15_Read.j1 kq a0 t116 x6_1 x7_1 x8_1 x9_1 (rdOf ByteArray.empty t116 x9_1) t120 x31_6 = some (r1, r2, r3)) ∧ Aside0 (kq ≤ k1) ∧ Aside0 (Kd.R Kd.string 9 wc w.heap.size (fun _ => True) (.slice (some ad119) t116.length co8) t116) ∧ Aside0 (Kd.R k69 69 wc w.heap.size (fun _ => True) u6 x6_1) ∧ Aside0 (Below w.heap.size w wc))
          case first =>
            have H := HC7.out
            clear HC7
            by_cases c9 : t120 > 0
            · rw [if_pos c9] at H
              have c9b0 : decide (0 < t120) = true := decide_eq_true c9
              clear c9
              (first | rw [c9b0] | (simp only [i64_w, i32_w]; rw [c9b0]) | skip)
              have H' := Aside0.mk H
              clear H
              go_wp2
              go_meet
              case rel => exact ⟨_, (decide (x8_1 ≥ 0)), (by first | rfl | (simp; done) | (simp [*]; done) | exact congrArg Value.bool (Go.Proofs.YtkklccccjmipkaaDoor.GLib.not_isEmpty _) | exact congrArg Value.bool (Go.Proofs.YtkklccccjmipkaaDoor.GLib.not_isEmpty _).symm), H', ⟨by have := HK1.out; first | omega | exact Nat.le_refl _⟩, ⟨by (with_reducible repeat (first | apply Kd.R_alloc | apply Kd.R_drewN | apply Kd.R_drew)); exact HO_5.out⟩, ⟨by (with_reducible repeat (first | apply Kd.R_alloc | apply Kd.R_drewN | apply Kd.R_drew)); exact HO_6.out⟩, ⟨by repeat (first | (with_reducible first | exact HB.out | apply below_alloc | apply pw_below_drewN | apply below_drew1) | exact HB.out)⟩⟩
            · rw [if_neg c9] at H
              have c9b0 : decide (0 < t120) = false := decide_eq_false c9
              clear c9
              (first | rw [c9b0] | (simp only [i64_w, i32_w]; rw [c9b0]) | skip)
              have H' := Aside0.mk H
              clear H
              go_wp2
              go_meet
              case rel => exact ⟨_, (false), (by first | rfl | (simp; done) | (simp [*]; done) | exact congrArg Value.bool (Go.Proofs.YtkklccccjmipkaaDoor.GLib.not_isEmpty _) | exact congrArg Value.bool (Go.Proofs.YtkklccccjmipkaaDoor.GLib.not_isEmpty _).symm), H', ⟨by have := HK1.out; first | omega | exact Nat.le_refl _⟩, ⟨by (with_reducible repeat (first | apply Kd.R_alloc | apply Kd.R_drewN | apply Kd.R_drew)); exact HO_5.out⟩, ⟨by (with_reducible repeat (first | apply Kd.R_alloc | apply Kd.R_drewN | apply Kd.R_drew)); exact HO_6.out⟩, ⟨by repeat (first | (with_reducible first | exact HB.out | apply below_alloc | apply pw_below_drewN | apply below_drew1) | exact HB.out)⟩⟩
          case rest =>
            clear HC7
            try clear p1
            try clear q1
            try clear hx1
            try clear p2
            try clear c3
            try clear c4
            try clear c4b0
            try clear c5
            try clear c5b0
            try clear c7
            try clear c9
            try clear c9b0
            try clear hx119_0
            try clear p119
            try clear p2
            try clear q119
            obtain ⟨kq, x31_6, rfl, HA, HJ6, HO_5, HO_6, HB⟩ := hcut
            cases kq with
            | zero => exact absurd HA.out (by simp [remitterref15_Read.j1])
            | succ kj6 =>
              have H := HA.out
              clear HA
              simp only [remitterref15_Read.j1] at H
              by_cases c10 : x31_6 = true
              · subst c10
                have H1 : (some (([] : List (S69)), x8_1, 31)) = some (r1, r2, r3) := by rw [if_pos rfl] at H; exact H
                clear H
                have H := H1
                clear H1
                simp only [Option.some.injEq, Prod.mk.injEq] at H
                obtain ⟨rfl, rfl, rfl⟩ := H
                go_wp2
                go_ret3
                exact ⟨_, by first | rfl | (simp [errW_none, errW_some] <;> rfl) | (simp [*, errW_none, errW_some] <;> rfl), by first | exact Kd.R_nil _ _ _ _ _ | exact Kd.N_nil _ _ _ _ _ | exact Kd.V_nil _ _ _ _ _ | exact Kd.Q_nil _ _ _ _ _ | exact Kd.S_nil _ _ _ _ _, by repeat (first | (with_reducible first | exact HB.out | apply below_alloc | apply pw_below_drewN | apply below_drew1) | exact HB.out)⟩
              · replace c10 := Bool.eq_false_iff.mpr c10
                subst c10
                have H1 : (if x9_1 ≥ 2000 then (some (([] : List (S69)), x7_1, 3)) else ((remitterref12_X.f kj6 (rdOf ByteArray.empty t116 x9_1) 78).bind fun t121 => (if t121 = true then (if t120 > 0 then (if 1 ≤ (wrap64 (1 + t120)) then (if (wrap64 (1 + t120)) ≤ ((rdOf ByteArray.empty t116 x9_1).size : Int) then (if 0 ≤ (wrap64 (2 + t120)) then (if (wrap64 (2 + t120)) ≤ ((rdOf ByteArray.empty t116 x9_1).size : Int) then (if x6_1.length < 3518437208883 then ((some (x6_1 ++ [(⟨(rdOf ByteArray.empty t116 x9_1).extract 1 ((wrap64 (1 + t120)) : Int).toNat, (rdOf ByteArray.empty t116 x9_1).extract ((wrap64 (2 + t120)) : Int).toNat (rdOf ByteArray.empty t116 x9_1).size, x7_1⟩ : S69)] : List (S69))).bind fun y122 => (if ((rdOf ByteArray.empty t116 x9_1).size : Int) = (wrap64 (2 + t120)) then (remitterref15_Read.l0 kj6 a0 t116 y122 (wrap64 ((wrap64 (x7_1 + ((rdOf ByteArray.empty t116 x9_1).size : Int))) + 2)) x7_1 (wrap64 (x9_1 + 1))) else (remitterref15_Read.l0 kj6 a0 t116 y122 (wrap64 ((wrap64 (x7_1 + ((rdOf ByteArray.empty t116 x9_1).size : Int))) + 2)) x8_1 (wrap64 (x9_1 + 1))))) else (none)) else (none)) else (none)) else (none)) else (none)) else (if (x6_1.length : Int) = 0 then (some (([] : List (S69)), x7_1, 31)) else (if 0 < ((rdOf ByteArray.empty t116 x9_1).size : Int) then (if (bt (rdOf ByteArray.empty t116 x9_1) 0) = 58 then (some (([] : List (S69)), x7_1, 31)) else (if (bt (rdOf ByteArray.empty t116 x9_1) 0) = 45 then (some (([] : List (S69)), x7_1, 31)) else (if 0 ≤ (wrap64 ((x6_1.length : Int) - 1)) then (if (wrap64 ((x6_1.length : Int) - 1)) < (x6_1.length : Int) then (if ((rd_T69 x6_1 (wrap64 ((x6_1.length : Int) - 1))).f1).size + 2 ≤ 9223372036854775807 then (if (((rd_T69 x6_1 (wrap64 ((x6_1.length : Int) - 1))).f1) ++ (⟨#[13, 10]⟩ : ByteArray)).size + (rdOf ByteArray.empty t116 x9_1).size ≤ 9223372036854775807 then (remitterref15_Read.l0 kj6 a0 t116 (x6_1.set ((wrap64 ((x6_1.length : Int) - 1)) : Int).toNat (⟨(rd_T69 x6_1 (wrap64 ((x6_1.length : Int) - 1))).f0, (((rd_T69 x6_1 (wrap64 ((x6_1.length : Int) - 1))).f1) ++ (⟨#[13, 10]⟩ : ByteArray)) ++ (rdOf ByteArray.empty t116 x9_1), (rd_T69 x6_1 (wrap64 ((x6_1.length : Int) - 1))).f2⟩ : S69)) (wrap64 ((wrap64 (x7_1 + ((rdOf ByteArray.empty t116 x9_1).size : Int))) + 2)) (-1) (wrap64 (x9_1 + 1))) else (none)) else (none)) else (none)) else (none)))) else (none)))) else (some (([] : List (S69)), x7_1, 31))))) = some (r1, r2, r3) := by rw [if_neg (show ¬ (false = true) by decide)] at H; exact H
                clear H
                have H := H1
                clear H1
                by_cases c11 : x9_1 ≥ 2000
                · rw [if_pos c11] at H
                  have c11b0 : decide (2000 ≤ x9_1) = true := decide_eq_true c11
                  clear c11
                  simp only [Option.some.injEq, Prod.mk.injEq] at H
                  obtain ⟨rfl, rfl, rfl⟩ := H
                  go_wp2
                  go_ret3
                  exact ⟨_, by first | rfl | (simp [errW_none, errW_some] <;> rfl) | (simp [*, errW_none, errW_some] <;> rfl), by first | exact Kd.R_nil _ _ _ _ _ | exact Kd.N_nil _ _ _ _ _ | exact Kd.V_nil _ _ _ _ _ | exact Kd.Q_nil _ _ _ _ _ | exact Kd.S_nil _ _ _ _ _, by repeat (first | (with_reducible first | exact HB.out | apply below_alloc | apply pw_below_drewN | apply below_drew1) | exact HB.out)⟩
                · rw [if_neg c11] at H
                  have c11b0 : decide (2000 ≤ x9_1) = false := decide_eq_false c11
                  clear c11
                  replace H := Option.bind_eq_some_iff.mp H
                  obtain ⟨t121, A120, H⟩ := H
                  replace H : (if t121 = true then (if t120 > 0 then (if 1 ≤ (wrap64 (1 + t120)) then (if (wrap64 (1 + t120)) ≤ ((rdOf ByteArray.empty t116 x9_1).size : Int) then (if 0 ≤ (wrap64 (2 + t120)) then (if (wrap64 (2 + t120)) ≤ ((rdOf ByteArray.empty t116 x9_1).size : Int) then (if x6_1.length < 3518437208883 then ((some (x6_1 ++ [(⟨(rdOf ByteArray.empty t116 x9_1).extract 1 ((wrap64 (1 + t120)) : Int).toNat, (rdOf ByteArray.empty t116 x9_1).extract ((wrap64 (2 + t120)) : Int).toNat (rdOf ByteArray.empty t116 x9_1).size, x7_1⟩ : S69)] : List (S69))).bind fun y122 => (if ((rdOf ByteArray.empty t116 x9_1).size : Int) = (wrap64 (2 + t120)) then (remitterref15_Read.l0 kj6 a0 t116 y122 (wrap64 ((wrap64 (x7_1 + ((rdOf ByteArray.empty t116 x9_1).size : Int))) + 2)) x7_1 (wrap64 (x9_1 + 1))) else (remitterref15_Read.l0 kj6 a0 t116 y122 (wrap64 ((wrap64 (x7_1 + ((rdOf ByteArray.empty t116 x9_1).size : Int))) + 2)) x8_1 (wrap64 (x9_1 + 1))))) else (none)) else (none)) else (none)) else (none)) else (none)) else (if (x6_1.length : Int) = 0 then (some (([] : List (S69)), x7_1, 31)) else (if 0 < ((rdOf ByteArray.empty t116 x9_1).size : Int) then (if (bt (rdOf ByteArray.empty t116 x9_1) 0) = 58 then (some (([] : List (S69)), x7_1, 31)) else (if (bt (rdOf ByteArray.empty t116 x9_1) 0) = 45 then (some (([] : List (S69)), x7_1, 31)) else (if 0 ≤ (wrap64 ((x6_1.length : Int) - 1)) then (if (wrap64 ((x6_1.length : Int) - 1)) < (x6_1.length : Int) then (if ((rd_T69 x6_1 (wrap64 ((x6_1.length : Int) - 1))).f1).size + 2 ≤ 9223372036854775807 then (if (((rd_T69 x6_1 (wrap64 ((x6_1.length : Int) - 1))).f1) ++ (⟨#[13, 10]⟩ : ByteArray)).size + (rdOf ByteArray.empty t116 x9_1).size ≤ 9223372036854775807 then (remitterref15_Read.l0 kj6 a0 t116 (x6_1.set ((wrap64 ((x6_1.length : Int) - 1)) : Int).toNat (⟨(rd_T69 x6_1 (wrap64 ((x6_1.length : Int) - 1))).f0, (((rd_T69 x6_1 (wrap64 ((x6_1.length : Int) - 1))).f1) ++ (⟨#[13, 10]⟩ : ByteArray)) ++ (rdOf ByteArray.empty t116 x9_1), (rd_T69 x6_1 (wrap64 ((x6_1.length : Int) - 1))).f2⟩ : S69)) (wrap64 ((wrap64 (x7_1 + ((rdOf ByteArray.empty t116 x9_1).size : Int))) + 2)) (-1) (wrap64 (x9_1 + 1))) else (none)) else (none)) else (none)) else (none)))) else (none)))) else (some (([] : List (S69)), x7_1, 31))) = some (r1, r2, r3) := H
                  have A12 := Aside0.mk A120
                  clear A120
                  by_cases c13 : t121 = true
                  · subst c13
                    have H1 : (if t120 > 0 then (if 1 ≤ (wrap64 (1 + t120)) then (if (wrap64 (1 + t120)) ≤ ((rdOf ByteArray.empty t116 x9_1).size : Int) then (if 0 ≤ (wrap64 (2 + t120)) then (if (wrap64 (2 + t120)) ≤ ((rdOf ByteArray.empty t116 x9_1).size : Int) then (if x6_1.length < 3518437208883 then ((some (x6_1 ++ [(⟨(rdOf ByteArray.empty t116 x9_1).extract 1 ((wrap64 (1 + t120)) : Int).toNat, (rdOf ByteArray.empty t116 x9_1).extract ((wrap64 (2 + t120)) : Int).toNat (rdOf ByteArray.empty t116 x9_1).size, x7_1⟩ : S69)] : List (S69))).bind fun y122 => (if ((rdOf ByteArray.empty t116 x9_1).size : Int) = (wrap64 (2 + t120)) then (remitterref15_Read.l0 kj6 a0 t116 y122 (wrap64 ((wrap64 (x7_1 + ((rdOf ByteArray.empty t116 x9_1).size : Int))) + 2)) x7_1 (wrap64 (x9_1 + 1))) else (remitterref15_Read.l0 kj6 a0 t116 y122 (wrap64 ((wrap64 (x7_1 + ((rdOf ByteArray.empty t116 x9_1).size : Int))) + 2)) x8_1 (wrap64 (x9_1 + 1))))) else (none)) else (none)) else (none)) else (none)) else (none)) else (if (x6_1.length : Int) = 0 then (some (([] : List (S69)), x7_1, 31)) else (if 0 < ((rdOf ByteArray.empty t116 x9_1).size : Int) then (if (bt (rdOf ByteArray.empty t116 x9_1) 0) = 58 then (some (([] : List (S69)), x7_1, 31)) else (if (bt (rdOf ByteArray.empty t116 x9_1) 0) = 45 then (some (([] : List (S69)), x7_1, 31)) else (if 0 ≤ (wrap64 ((x6_1.length : Int) - 1)) then (if (wrap64 ((x6_1.length : Int) - 1)) < (x6_1.length : Int) then (if ((rd_T69 x6_1 (wrap64 ((x6_1.length : Int) - 1))).f1).size + 2 ≤ 9223372036854775807 then (if (((rd_T69 x6_1 (wrap64 ((x6_1.length : Int) - 1))).f1) ++ (⟨#[13, 10]⟩ : ByteArray)).size + (rdOf ByteArray.empty t116 x9_1).size ≤ 9223372036854775807 then (remitterref15_Read.l0 kj6 a0 t116 (x6_1.set ((wrap64 ((x6_1.length : Int) - 1)) : Int).toNat (⟨(rd_T69 x6_1 (wrap64 ((x6_1.length : Int) - 1))).f0, (((rd_T69 x6_1 (wrap64 ((x6_1.length : Int) - 1))).f1) ++ (⟨#[13, 10]⟩ : ByteArray)) ++ (rdOf ByteArray.empty t116 x9_1), (rd_T69 x6_1 (wrap64 ((x6_1.length : Int) - 1))).f2⟩ : S69)) (wrap64 ((wrap64 (x7_1 + ((rdOf ByteArray.empty t116 x9_1).size : Int))) + 2)) (-1) (wrap64 (x9_1 + 1))) else (none)) else (none)) else (none)) else (none)))) else (none)))) = some (r1, r2, r3) := by rw [if_pos rfl] at H; exact H
                    clear H
                    have H := H1
                    clear H1
                    by_cases c14 : t120 > 0
                    · rw [if_pos c14] at H
                      have c14b0 : decide (0 < t120) = true := decide_eq_true c14
                      clear c14
                      by_cases c15 : 1 ≤ (wrap64 (1 + t120))
                      · rw [if_pos c15] at H
                        have c15b0 := eq_true c15
                        have c15b1 : decide (1 ≤ (wrap64 (1 + t120))) = true := decide_eq_true c15
                        by_cases c16 : (wrap64 (1 + t120)) ≤ ((rdOf ByteArray.empty t116 x9_1).size : Int)
                        · rw [if_pos c16] at H
                          have c16b0 := eq_true c16
                          have c16b1 : decide ((wrap64 (1 + t120)) ≤ ((rdOf ByteArray.empty t116 x9_1).size : Int)) = true := decide_eq_true c16
                          obtain ⟨ji17, hji17⟩ : ∃ j_ : Int, (wrap64 (2 + t120)) = j_ := ⟨_, rfl⟩
                          replace H : (if 0 ≤ (ji17) then (if (ji17) ≤ ((rdOf ByteArray.empty t116 x9_1).size : Int) then (if x6_1.length < 3518437208883 then ((some (x6_1 ++ [(⟨(rdOf ByteArray.empty t116 x9_1).extract 1 ((wrap64 (1 + t120)) : Int).toNat, (rdOf ByteArray.empty t116 x9_1).extract ((ji17) : Int).toNat (rdOf ByteArray.empty t116 x9_1).size, x7_1⟩ : S69)] : List (S69))).bind fun y122 => (if ((rdOf ByteArray.empty t116 x9_1).size : Int) = (ji17) then (remitterref15_Read.l0 kj6 a0 t116 y122 (wrap64 ((wrap64 (x7_1 + ((rdOf ByteArray.empty t116 x9_1).size : Int))) + 2)) x7_1 (wrap64 (x9_1 + 1))) else (remitterref15_Read.l0 kj6 a0 t116 y122 (wrap64 ((wrap64 (x7_1 + ((rdOf ByteArray.empty t116 x9_1).size : Int))) + 2)) x8_1 (wrap64 (x9_1 + 1))))) else (none)) else (none)) else (none)) = some (r1, r2, r3) := by first | (rw [hji17] at H; exact H) | (simp only [hji17] at H ⊢; exact H)
                          (try rw [hji17] at A12)
                          have hji17w : (IntKind.i64.wrap (2 + t120)) = ji17 := (i64_w _).trans hji17
                          by_cases c18 : 0 ≤ (ji17)
                          · rw [if_pos c18] at H
                            have c18b0 := eq_true c18
                            have c18b1 : decide (0 ≤ (ji17)) = true := decide_eq_true c18
                            clear c18
                            by_cases c19 : (ji17) ≤ ((rdOf ByteArray.empty t116 x9_1).size : Int)
                            · rw [if_pos c19] at H
                              have c19b0 := eq_true c19
                              have c19b1 : decide ((ji17) ≤ ((rdOf ByteArray.empty t116 x9_1).size : Int)) = true := decide_eq_true c19
                              clear c19
                              by_cases c20 : x6_1.length < 3518437208883
                              · rw [if_pos c20] at H
                                have LMc20 := Aside0.mk c20
                                clear c20
                                obtain ⟨y122, hy122⟩ : ∃ y_ : List (S69), y_ = (x6_1 ++ [(⟨(rdOf ByteArray.empty t116 x9_1).extract 1 ((wrap64 (1 + t120)) : Int).toNat, (rdOf ByteArray.empty t116 x9_1).extract ((ji17) : Int).toNat (rdOf ByteArray.empty t116 x9_1).size, x7_1⟩ : S69)]) := ⟨_, rfl⟩
                                replace H : (if ((rdOf ByteArray.empty t116 x9_1).size : Int) = (ji17) then (remitterref15_Read.l0 kj6 a0 t116 y122 (wrap64 ((wrap64 (x7_1 + ((rdOf ByteArray.empty t116 x9_1).size : Int))) + 2)) x7_1 (wrap64 (x9_1 + 1))) else (remitterref15_Read.l0 kj6 a0 t116 y122 (wrap64 ((wrap64 (x7_1 + ((rdOf ByteArray.empty t116 x9_1).size : Int))) + 2)) x8_1 (wrap64 (x9_1 + 1)))) = some (r1, r2, r3) := by first | (rw [hy122]; with_reducible exact H) | (have H2_ := (Option.bind_some _ _).symm.trans H; rw [hy122]; with_reducible exact H2_) | (have H2_ := (Option.bind_some _ _).symm.trans H; with_reducible exact H2_) | with_reducible exact H | (rw [hy122]; exact H) | exact H
                                have Ny122 := Aside0.mk hy122
                                clear hy122
                                by_cases c21 : ((rdOf ByteArray.empty t116 x9_1).size : Int) = (ji17)
                                · rw [if_pos c21] at H
                                  have c21b0 : (((rdOf ByteArray.empty t116 x9_1).size : Int) == (ji17)) = true := beq_iff_eq.mpr c21
                                  have c21b1 : (((rdOf ByteArray.empty t116 x9_1).size : Int) != (ji17)) = false := bne_eq_false_iff_eq.mpr c21
                                  clear c21
                                  have H' := Aside0.mk H
                                  clear H
                                  try go_wp2_with (first | ((with_reducible refine gate_callee (f := 71) rfl ?_); refine goesL_ (some 37) rfl rfl Tryd.func71 (by kernel_rfl) rfl #[.string (rdOf ByteArray.empty t116 x9_1), .int .i64 78] rfl (by (try simp only [List.map_toArray, List.map_cons, List.map_nil]); first | done | rfl | (simp only [List.length_drop, List.length_take]; rfl)) ?_; (with_reducible refine (remitterref12_X.calls kj6 (rdOf ByteArray.empty t116 x9_1) 78 true _ A12.out).mono ?_); rintro e w' ⟨rfl, ⟨nd, rfl⟩⟩; refine ⟨_, rfl, ?_⟩))
                                  (try (rw [drewN_self wc]; generalize hq_ : World.drewN wc _ = wc; have n0_ : Aside0 (Kd.R Kd.string 9 wc w.heap.size (fun _ => True) (.slice (some ad119) t116.length co8) t116) := ⟨by rw [← hq_]; exact (by (with_reducible repeat (first | apply Kd.R_alloc | apply Kd.R_drewN | apply Kd.R_drew)); exact HO_5.out)⟩; have n1_ : Aside0 (Kd.R k69 69 wc w.heap.size (fun _ => True) u6 x6_1) := ⟨by rw [← hq_]; exact (by (with_reducible repeat (first | apply Kd.R_alloc | apply Kd.R_drewN | apply Kd.R_drew)); exact HO_6.out)⟩; have n2_ : Aside0 (Below w.heap.size w wc) := ⟨by rw [← hq_]; exact (by repeat (first | (with_reducible first | exact HB.out | apply below_alloc | apply pw_below_drewN | apply below_drew1) | exact HB.out))⟩; clear HO_5 HO_6 HB hq_; have HO_5 := n0_; have HO_6 := n1_; have HB := n2_; clear n0_ n1_ n2_))
                                  have n0_ := Aside0.mk (Kd.R_drew HO_5.out)
                                  have n1_ := Aside0.mk (Kd.R_drew HO_6.out)
                                  have n2_ := Aside0.mk (below_drew1 HB.out)
                                  clear HO_5
                                  clear HO_6
                                  clear HB
                                  have HO_5 := n0_
                                  have HO_6 := n1_
                                  have HB := n2_
                                  clear n0_ n1_ n2_
                                  refine start_ (n := 14) (S := fun w' => True) (ds := []) #[false, false, false, false, false, false, false, false, false, false, false, false, false, false] (by kernel_rfl) rfl rfl trivial (fun hHeld => ?_); refine with_tabW remitterref15_Read.tab16 remitterref15_Read.bits16 (fun HT_ HW_ => ?_)
                                  generalize wc.drew = w22 at HO_5 HO_6 HB hHeld ⊢
                                  refine pure_ (i := 0) (N := some 42) (v := ?_) (a' := ?_) #[true, false, false, false, false, false, false, false, false, false, false, false, false, false] rfl rfl (any_of HT_.out (by kernel_rfl)) (fun _ _ _ h => h) (Or.inl ⟨by rfl, ?_⟩) ?_ ?_
                                  rotate_left
                                  · intro w'
                                    go_simp
                                    first | with_reducible rfl | (refine (if_neg ?_).trans ?_; ((try simp only [ByteArray.size_extract, ByteArray.size_append, Go.Proofs.YtkklccccjmipkaaDoor.GLib.size_mk, List.size_toArray, List.length_cons, List.length_nil] at *); omega); with_reducible rfl)
                                  rotate_left
                                  · simp only [Act.put, List.setIfInBounds_toArray, List.set_cons_zero, List.set_cons_succ, i64_w, i32_w]
                                    rfl
                                  refine pure_ (i := 1) (N := some 43) (v := ?_) (a' := ?_) #[true, true, false, false, false, false, false, false, false, false, false, false, false, false] rfl rfl (any_of HT_.out (by kernel_rfl)) (fun _ _ _ h => h) (Or.inl ⟨by rfl, ?_⟩) ?_ ?_
                                  rotate_left
                                  · intro w'
                                    go_simp
                                    first | with_reducible rfl | (refine (if_neg ?_).trans ?_; ((try simp only [ByteArray.size_extract, ByteArray.size_append, Go.Proofs.YtkklccccjmipkaaDoor.GLib.size_mk, List.size_toArray, List.length_cons, List.length_nil] at *); omega); with_reducible rfl)
                                  rotate_left
                                  · simp only [Act.put, List.setIfInBounds_toArray, List.set_cons_zero, List.set_cons_succ, i64_w, i32_w]
                                    rfl
                                  refine pure_ (i := 2) (N := some 44) (v := ?_) (a' := ?_) #[true, true, true, false, false, false, false, false, false, false, false, false, false, false] rfl rfl (any_of HT_.out (by kernel_rfl)) (fun _ _ _ h => h) (Or.inl ⟨by rfl, ?_⟩) ?_ ?_
                                  rotate_left
                                  · intro w'
                                    go_simp
                                    first | with_reducible rfl | (refine (if_neg ?_).trans ?_; ((try simp only [ByteArray.size_extract, ByteArray.size_append, Go.Proofs.YtkklccccjmipkaaDoor.GLib.size_mk, List.size_toArray, List.length_cons, List.length_nil] at *); omega); with_reducible rfl)
                                  rotate_left
                                  · simp only [Act.put, List.setIfInBounds_toArray, List.set_cons_zero, List.set_cons_succ, i64_w, i32_w]
                                    rfl
                                  refine pure_ (i := 3) (N := some 45) (v := ?_) (a' := ?_) #[true, true, true, true, false, false, false, false, false, false, false, false, false, false] rfl rfl (any_of HT_.out (by kernel_rfl)) (fun _ _ _ h => h) (Or.inl ⟨by rfl, ?_⟩) ?_ ?_
                                  rotate_left
                                  · intro w'
                                    go_simp
                                    first | with_reducible rfl | (refine (if_neg ?_).trans ?_; ((try simp only [ByteArray.size_extract, ByteArray.size_append, Go.Proofs.YtkklccccjmipkaaDoor.GLib.size_mk, List.size_toArray, List.length_cons, List.length_nil] at *); omega); with_reducible rfl)
                                  rotate_left
                                  · simp only [Act.put, List.setIfInBounds_toArray, List.set_cons_zero, List.set_cons_succ, i64_w, i32_w]
                                    rfl
                                  refine pure_ (i := 4) (N := some 46) (v := ?_) (a' := ?_) #[true, true, true, true, true, false, false, false, false, false, false, false, false, false] rfl rfl (any_of HT_.out (by kernel_rfl)) (fun _ _ _ h => h) (Or.inl ⟨by rfl, ?_⟩) ?_ ?_
                                  rotate_left
                                  · intro w'
                                    go_simp
                                    first | with_reducible rfl | (refine (if_neg ?_).trans ?_; ((try simp only [ByteArray.size_extract, ByteArray.size_append, Go.Proofs.YtkklccccjmipkaaDoor.GLib.size_mk, List.size_toArray, List.length_cons, List.length_nil] at *); omega); with_reducible rfl)
                                  rotate_left
                                  · simp only [Act.put, List.setIfInBounds_toArray, List.set_cons_zero, List.set_cons_succ, i64_w, i32_w]
                                    rfl
                                  refine pure_ (i := 5) (N := some 47) (v := ?_) (a' := ?_) #[true, true, true, true, true, true, false, false, false, false, false, false, false, false] rfl rfl (any_of HT_.out (by kernel_rfl)) (fun _ _ _ h => h) (Or.inl ⟨by rfl, ?_⟩) ?_ ?_
                                  rotate_left
                                  · intro w'
                                    go_simp
                                    first | with_reducible rfl | (refine (if_neg ?_).trans ?_; ((try simp only [ByteArray.size_extract, ByteArray.size_append, Go.Proofs.YtkklccccjmipkaaDoor.GLib.size_mk, List.size_toArray, List.length_cons, List.length_nil] at *); omega); with_reducible rfl)
                                  rotate_left
                                  · simp only [Act.put, List.setIfInBounds_toArray, List.set_cons_zero, List.set_cons_succ, i64_w, i32_w]
                                    rfl
                                  refine pure_ (i := 6) (N := some 48) (v := ?_) (a' := ?_) #[true, true, true, true, true, true, true, false, false, false, false, false, false, false] rfl rfl (any_of HT_.out (by kernel_rfl)) (fun _ _ _ h => h) (Or.inl ⟨by rfl, ?_⟩) ?_ ?_
                                  rotate_left
                                  · intro w'
                                    go_simp
                                    first | with_reducible rfl | (refine (if_neg ?_).trans ?_; ((try simp only [ByteArray.size_extract, ByteArray.size_append, Go.Proofs.YtkklccccjmipkaaDoor.GLib.size_mk, List.size_toArray, List.length_cons, List.length_nil] at *); omega); with_reducible rfl)
                                  rotate_left
                                  · simp only [Act.put, List.setIfInBounds_toArray, List.set_cons_zero, List.set_cons_succ, i64_w, i32_w]
                                    rfl
                                  refine pure_ (i := 7) (N := some 49) (v := ?_) (a' := ?_) #[true, true, true, true, true, true, true, true, false, false, false, false, false, false] rfl rfl (any_of HT_.out (by kernel_rfl)) (fun _ _ _ h => h) (Or.inl ⟨by rfl, ?_⟩) ?_ ?_
                                  rotate_left
                                  · intro w'
                                    go_simp
                                    first | with_reducible rfl | (refine (if_neg ?_).trans ?_; ((try simp only [ByteArray.size_extract, ByteArray.size_append, Go.Proofs.YtkklccccjmipkaaDoor.GLib.size_mk, List.size_toArray, List.length_cons, List.length_nil] at *); omega); with_reducible rfl)
                                  rotate_left
                                  · simp only [Act.put, List.setIfInBounds_toArray, List.set_cons_zero, List.set_cons_succ, i64_w, i32_w]
                                    rfl
                                  refine pure_ (i := 8) (N := some 50) (v := ?_) (a' := ?_) #[true, true, true, true, true, true, true, true, true, false, false, false, false, false] rfl rfl (any_of HT_.out (by kernel_rfl)) (fun _ _ _ h => h) (Or.inl ⟨by rfl, ?_⟩) ?_ ?_
                                  rotate_left
                                  · intro w'
                                    go_simp
                                    first | with_reducible rfl | (refine (if_neg ?_).trans ?_; ((try simp only [ByteArray.size_extract, ByteArray.size_append, Go.Proofs.YtkklccccjmipkaaDoor.GLib.size_mk, List.size_toArray, List.length_cons, List.length_nil] at *); omega); with_reducible rfl)
                                  rotate_left
                                  · simp only [Act.put, List.setIfInBounds_toArray, List.set_cons_zero, List.set_cons_succ, i64_w, i32_w]
                                    rfl
                                  refine pure_ (i := 9) (N := some 51) (v := ?_) (a' := ?_) #[true, true, true, true, true, true, true, true, true, true, false, false, false, false] rfl rfl (any_of HT_.out (by kernel_rfl)) (fun _ _ _ h => h) (Or.inl ⟨by rfl, ?_⟩) ?_ ?_
                                  rotate_left
                                  · intro w'
                                    go_simp
                                    first | with_reducible rfl | (refine (if_neg ?_).trans ?_; ((try simp only [ByteArray.size_extract, ByteArray.size_append, Go.Proofs.YtkklccccjmipkaaDoor.GLib.size_mk, List.size_toArray, List.length_cons, List.length_nil] at *); omega); with_reducible rfl)
                                  rotate_left
                                  · simp only [Act.put, List.setIfInBounds_toArray, List.set_cons_zero, List.set_cons_succ, i64_w, i32_w]
                                    rfl
                                  refine pure_ (i := 10) (N := some 52) (v := ?_) (a' := ?_) #[true, true, true, true, true, true, true, true, true, true, true, false, false, false] rfl rfl (any_of HT_.out (by kernel_rfl)) (fun _ _ _ h => h) (Or.inl ⟨by rfl, ?_⟩) ?_ ?_
                                  rotate_left
                                  · intro w'
                                    go_simp
                                    first | with_reducible rfl | (refine (if_neg ?_).trans ?_; ((try simp only [ByteArray.size_extract, ByteArray.size_append, Go.Proofs.YtkklccccjmipkaaDoor.GLib.size_mk, List.size_toArray, List.length_cons, List.length_nil] at *); omega); with_reducible rfl)
                                  rotate_left
                                  · simp only [Act.put, List.setIfInBounds_toArray, List.set_cons_zero, List.set_cons_succ, i64_w, i32_w]
                                    rfl
                                  refine one_ (i := 11) (N := some 53) #[true, true, true, true, true, true, true, true, true, true, true, true, false, false] rfl rfl (one_of HT_.out (by kernel_rfl)) (by decide) (fun K hK => ?_)
                                  refine value_ (w1 := ?_) (v := ?_) (by rfl) rfl ?_ ?_
                                  rotate_left 2
                                  · go_simp
                                    constructor
                                    · rfl
                                    · rfl
                                  refine hK.out _ _ trivial (fun hHeld => ?_)
                                  clear hK K
                                  refine norm_ (a' := ?_) ?_ ?_
                                  rotate_left
                                  · show Act.put _ (some 53) _ = _
                                    simp only [Act.put, List.setIfInBounds_toArray, List.set_cons_zero, List.set_cons_succ, i64_w, i32_w]
                                    rfl
                                  refine one_ (i := 12) (N := some 54) #[true, true, true, true, true, true, true, true, true, true, true, true, true, false] rfl rfl (one_of HT_.out (by kernel_rfl)) (by decide) (fun K hK => ?_)
                                  refine Kd.R_append_step k69 (w0 := w) w.heap.size (by rfl) (.tmp 42) (.tmp 53) 61 69 (.agg #[(.string ⟨#[]⟩), (.string ⟨#[]⟩), (.int .i64 0)]) 40 rfl Tryd.underlying61 info69 rfl (by decide) (by omega) u6 x6_1 (⟨(rdOf ByteArray.empty t116 x9_1).extract 1 ((wrap64 (1 + t120)) : Int).toNat, (rdOf ByteArray.empty t116 x9_1).extract ((ji17) : Int).toNat (rdOf ByteArray.empty t116 x9_1).size, x7_1⟩ : S69) [.string ((rdOf ByteArray.empty t116 x9_1).extract 1 ((wrap64 (1 + t120)) : Int).toNat), .string ((rdOf ByteArray.empty t116 x9_1).extract ((ji17) : Int).toNat (rdOf ByteArray.empty t116 x9_1).size), .int .i64 x7_1] (fun _ => True) (fun _ => False) rfl rfl ?aP (fun _ hk => hk.elim) ?aF ?aO ?aB ?aS ?aL ?_
                                  (case aP => exact k69_mkM _ _ _ (⟨(rdOf ByteArray.empty t116 x9_1).extract 1 ((wrap64 (1 + t120)) : Int).toNat, (rdOf ByteArray.empty t116 x9_1).extract ((ji17) : Int).toNat (rdOf ByteArray.empty t116 x9_1).size, x7_1⟩ : S69))
                                  (case aB => exact (by repeat (first | (with_reducible first | exact HB.out | apply below_alloc | apply pw_below_drewN | apply below_drew1) | exact HB.out)))
                                  (case aF => exact (fun _ _ => trivial))
                                  (case aO => exact (by (with_reducible repeat (first | apply Kd.R_alloc | apply Kd.R_drewN | apply Kd.R_drew)); exact HO_6.out))
                                  (case aS => exact (below_size (by repeat (first | (with_reducible first | exact HB.out | apply below_alloc | apply pw_below_drewN | apply below_drew1) | exact HB.out))))
                                  (case aL => have := LMc20.out; omega)
                                  intro v123 w23 ho hb hg hat
                                  rw [← Ny122.out] at ho
                                  have n0_ := Aside0.mk (Kd.R_over' (by (with_reducible repeat (first | apply Kd.R_alloc | apply Kd.R_drewN | apply Kd.R_drew)); exact HO_5.out) (Kd.R_typed (by (with_reducible repeat (first | apply Kd.R_alloc | apply Kd.R_drewN | apply Kd.R_drew)); exact HO_6.out)) (by decide) hg)
                                  have n1_ := Aside0.mk (hb)
                                  have n2_ := Aside0.mk (ho)
                                  clear HO_5
                                  clear HB
                                  clear HO_6
                                  have HO_5 := n0_
                                  have HB := n1_
                                  have HO124 := n2_
                                  clear n0_ n1_ n2_
                                  clear ho hb hg hat
                                  refine hK.out _ _ trivial (fun hHeld => ?_)
                                  clear hK K
                                  refine norm_ (a' := ?_) ?_ ?_
                                  rotate_left
                                  · show Act.put _ (some 54) _ = _
                                    simp only [Act.put, List.setIfInBounds_toArray, List.set_cons_zero, List.set_cons_succ, i64_w, i32_w]
                                    rfl
                                  refine pure_ (i := 13) (N := some 6) (v := ?_) (a' := ?_) #[true, true, true, true, true, true, true, true, true, true, true, true, true, true] rfl rfl (any_of HT_.out (by kernel_rfl)) (fun _ _ _ h => h) (Or.inl ⟨by rfl, ?_⟩) ?_ ?_
                                  rotate_left
                                  · intro w'
                                    go_simp
                                    first | with_reducible rfl | (refine (if_neg ?_).trans ?_; ((try simp only [ByteArray.size_extract, ByteArray.size_append, Go.Proofs.YtkklccccjmipkaaDoor.GLib.size_mk, List.size_toArray, List.length_cons, List.length_nil] at *); omega); with_reducible rfl)
                                  rotate_left
                                  · simp only [Act.put, List.setIfInBounds_toArray, List.set_cons_zero, List.set_cons_succ, i64_w, i32_w]
                                    rfl
                                  refine done_ (done_of HT_.out (by kernel_rfl)) ?_
                                  try go_wp2
                                  go_roundg kj6
                                  case measure => have := HK1.out; have := HJ6.out; omega
                                  case rel => exact ⟨(y122), (wrap64 ((wrap64 (x7_1 + ((rdOf ByteArray.empty t116 x9_1).size : Int))) + 2)), (x7_1), (wrap64 (x9_1 + 1)), (by first | rfl | (simp; done) | (simp [*]; done) | exact congrArg Value.bool (Go.Proofs.YtkklccccjmipkaaDoor.GLib.not_isEmpty _) | exact congrArg Value.bool (Go.Proofs.YtkklccccjmipkaaDoor.GLib.not_isEmpty _).symm), (by first | rfl | (simp; done) | (simp [*]; done) | exact congrArg Value.bool (Go.Proofs.YtkklccccjmipkaaDoor.GLib.not_isEmpty _) | exact congrArg Value.bool (Go.Proofs.YtkklccccjmipkaaDoor.GLib.not_isEmpty _).symm), (by first | rfl | (simp; done) | (simp [*]; done) | exact congrArg Value.bool (Go.Proofs.YtkklccccjmipkaaDoor.GLib.not_isEmpty _) | exact congrArg Value.bool (Go.Proofs.YtkklccccjmipkaaDoor.GLib.not_isEmpty _).symm), H', ⟨by have := HK1.out; have := HJ6.out; omega⟩, ⟨by (with_reducible repeat (first | apply Kd.R_alloc | apply Kd.R_drewN | apply Kd.R_drew)); exact HO_5.out⟩, ⟨by (with_reducible repeat (first | apply Kd.R_alloc | apply Kd.R_drewN | apply Kd.R_drew)); exact HO124.out⟩, ⟨by repeat (first | (with_reducible first | exact HB.out | apply below_alloc | apply pw_below_drewN | apply below_drew1) | exact HB.out)⟩⟩
                                · rw [if_neg c21] at H
                                  have c21b0 : (((rdOf ByteArray.empty t116 x9_1).size : Int) == (ji17)) = false := beq_eq_false_iff_ne.mpr c21
                                  have c21b1 : (((rdOf ByteArray.empty t116 x9_1).size : Int) != (ji17)) = true := bne_iff_ne.mpr c21
                                  have H' := Aside0.mk H
                                  clear H
                                  try go_wp2_with (first | ((with_reducible refine gate_callee (f := 71) rfl ?_); refine goesL_ (some 37) rfl rfl Tryd.func71 (by kernel_rfl) rfl #[.string (rdOf ByteArray.empty t116 x9_1), .int .i64 78] rfl (by (try simp only [List.map_toArray, List.map_cons, List.map_nil]); first | done | rfl | (simp only [List.length_drop, List.length_take]; rfl)) ?_; (with_reducible refine (remitterref12_X.calls kj6 (rdOf ByteArray.empty t116 x9_1) 78 true _ A12.out).mono ?_); rintro e w' ⟨rfl, ⟨nd, rfl⟩⟩; refine ⟨_, rfl, ?_⟩))
                                  (try (rw [drewN_self wc]; generalize hq_ : World.drewN wc _ = wc; have n0_ : Aside0 (Kd.R Kd.string 9 wc w.heap.size (fun _ => True) (.slice (some ad119) t116.length co8) t116) := ⟨by rw [← hq_]; exact (by (with_reducible repeat (first | apply Kd.R_alloc | apply Kd.R_drewN | apply Kd.R_drew)); exact HO_5.out)⟩; have n1_ : Aside0 (Kd.R k69 69 wc w.heap.size (fun _ => True) u6 x6_1) := ⟨by rw [← hq_]; exact (by (with_reducible repeat (first | apply Kd.R_alloc | apply Kd.R_drewN | apply Kd.R_drew)); exact HO_6.out)⟩; have n2_ : Aside0 (Below w.heap.size w wc) := ⟨by rw [← hq_]; exact (by repeat (first | (with_reducible first | exact HB.out | apply below_alloc | apply pw_below_drewN | apply below_drew1) | exact HB.out))⟩; clear HO_5 HO_6 HB hq_; have HO_5 := n0_; have HO_6 := n1_; have HB := n2_; clear n0_ n1_ n2_))
                                  have n0_ := Aside0.mk (Kd.R_drew HO_5.out)
                                  have n1_ := Aside0.mk (Kd.R_drew HO_6.out)
                                  have n2_ := Aside0.mk (below_drew1 HB.out)
                                  clear HO_5
                                  clear HO_6
                                  clear HB
                                  have HO_5 := n0_
                                  have HO_6 := n1_
                                  have HB := n2_
                                  clear n0_ n1_ n2_
                                  refine start_ (n := 14) (S := fun w' => True) (ds := []) #[false, false, false, false, false, false, false, false, false, false, false, false, false, false] (by kernel_rfl) rfl rfl trivial (fun hHeld => ?_); refine with_tabW remitterref15_Read.tab16 remitterref15_Read.bits16 (fun HT_ HW_ => ?_)
                                  generalize wc.drew = w24 at HO_5 HO_6 HB hHeld ⊢
                                  refine pure_ (i := 0) (N := some 42) (v := ?_) (a' := ?_) #[true, false, false, false, false, false, false, false, false, false, false, false, false, false] rfl rfl (any_of HT_.out (by kernel_rfl)) (fun _ _ _ h => h) (Or.inl ⟨by rfl, ?_⟩) ?_ ?_
                                  rotate_left
                                  · intro w'
                                    go_simp
                                    first | with_reducible rfl | (refine (if_neg ?_).trans ?_; ((try simp only [ByteArray.size_extract, ByteArray.size_append, Go.Proofs.YtkklccccjmipkaaDoor.GLib.size_mk, List.size_toArray, List.length_cons, List.length_nil] at *); omega); with_reducible rfl)
                                  rotate_left
                                  · simp only [Act.put, List.setIfInBounds_toArray, List.set_cons_zero, List.set_cons_succ, i64_w, i32_w]
                                    rfl
                                  refine pure_ (i := 1) (N := some 43) (v := ?_) (a' := ?_) #[true, true, false, false, false, false, false, false, false, false, false, false, false, false] rfl rfl (any_of HT_.out (by kernel_rfl)) (fun _ _ _ h => h) (Or.inl ⟨by rfl, ?_⟩) ?_ ?_
                                  rotate_left
                                  · intro w'
                                    go_simp
                                    first | with_reducible rfl | (refine (if_neg ?_).trans ?_; ((try simp only [ByteArray.size_extract, ByteArray.size_append, Go.Proofs.YtkklccccjmipkaaDoor.GLib.size_mk, List.size_toArray, List.length_cons, List.length_nil] at *); omega); with_reducible rfl)
                                  rotate_left
                                  · simp only [Act.put, List.setIfInBounds_toArray, List.set_cons_zero, List.set_cons_succ, i64_w, i32_w]
                                    rfl
                                  refine pure_ (i := 2) (N := some 44) (v := ?_) (a' := ?_) #[true, true, true, false, false, false, false, false, false, false, false, false, false, false] rfl rfl (any_of HT_.out (by kernel_rfl)) (fun _ _ _ h => h) (Or.inl ⟨by rfl, ?_⟩) ?_ ?_
                                  rotate_left
                                  · intro w'
                                    go_simp
                                    first | with_reducible rfl | (refine (if_neg ?_).trans ?_; ((try simp only [ByteArray.size_extract, ByteArray.size_append, Go.Proofs.YtkklccccjmipkaaDoor.GLib.size_mk, List.size_toArray, List.length_cons, List.length_nil] at *); omega); with_reducible rfl)
                                  rotate_left
                                  · simp only [Act.put, List.setIfInBounds_toArray, List.set_cons_zero, List.set_cons_succ, i64_w, i32_w]
                                    rfl
                                  refine pure_ (i := 3) (N := some 45) (v := ?_) (a' := ?_) #[true, true, true, true, false, false, false, false, false, false, false, false, false, false] rfl rfl (any_of HT_.out (by kernel_rfl)) (fun _ _ _ h => h) (Or.inl ⟨by rfl, ?_⟩) ?_ ?_
                                  rotate_left
                                  · intro w'
                                    go_simp
                                    first | with_reducible rfl | (refine (if_neg ?_).trans ?_; ((try simp only [ByteArray.size_extract, ByteArray.size_append, Go.Proofs.YtkklccccjmipkaaDoor.GLib.size_mk, List.size_toArray, List.length_cons, List.length_nil] at *); omega); with_reducible rfl)
                                  rotate_left
                                  · simp only [Act.put, List.setIfInBounds_toArray, List.set_cons_zero, List.set_cons_succ, i64_w, i32_w]
                                    rfl
                                  refine pure_ (i := 4) (N := some 46) (v := ?_) (a' := ?_) #[true, true, true, true, true, false, false, false, false, false, false, false, false, false] rfl rfl (any_of HT_.out (by kernel_rfl)) (fun _ _ _ h => h) (Or.inl ⟨by rfl, ?_⟩) ?_ ?_
                                  rotate_left
                                  · intro w'
                                    go_simp
                                    first | with_reducible rfl | (refine (if_neg ?_).trans ?_; ((try simp only [ByteArray.size_extract, ByteArray.size_append, Go.Proofs.YtkklccccjmipkaaDoor.GLib.size_mk, List.size_toArray, List.length_cons, List.length_nil] at *); omega); with_reducible rfl)
                                  rotate_left
                                  · simp only [Act.put, List.setIfInBounds_toArray, List.set_cons_zero, List.set_cons_succ, i64_w, i32_w]
                                    rfl
                                  refine pure_ (i := 5) (N := some 47) (v := ?_) (a' := ?_) #[true, true, true, true, true, true, false, false, false, false, false, false, false, false] rfl rfl (any_of HT_.out (by kernel_rfl)) (fun _ _ _ h => h) (Or.inl ⟨by rfl, ?_⟩) ?_ ?_
                                  rotate_left
                                  · intro w'
                                    go_simp
                                    first | with_reducible rfl | (refine (if_neg ?_).trans ?_; ((try simp only [ByteArray.size_extract, ByteArray.size_append, Go.Proofs.YtkklccccjmipkaaDoor.GLib.size_mk, List.size_toArray, List.length_cons, List.length_nil] at *); omega); with_reducible rfl)
                                  rotate_left
                                  · simp only [Act.put, List.setIfInBounds_toArray, List.set_cons_zero, List.set_cons_succ, i64_w, i32_w]
                                    rfl
                                  refine pure_ (i := 6) (N := some 48) (v := ?_) (a' := ?_) #[true, true, true, true, true, true, true, false, false, false, false, false, false, false] rfl rfl (any_of HT_.out (by kernel_rfl)) (fun _ _ _ h => h) (Or.inl ⟨by rfl, ?_⟩) ?_ ?_
                                  rotate_left
                                  · intro w'
                                    go_simp
                                    first | with_reducible rfl | (refine (if_neg ?_).trans ?_; ((try simp only [ByteArray.size_extract, ByteArray.size_append, Go.Proofs.YtkklccccjmipkaaDoor.GLib.size_mk, List.size_toArray, List.length_cons, List.length_nil] at *); omega); with_reducible rfl)
                                  rotate_left
                                  · simp only [Act.put, List.setIfInBounds_toArray, List.set_cons_zero, List.set_cons_succ, i64_w, i32_w]
                                    rfl
                                  refine pure_ (i := 7) (N := some 49) (v := ?_) (a' := ?_) #[true, true, true, true, true, true, true, true, false, false, false, false, false, false] rfl rfl (any_of HT_.out (by kernel_rfl)) (fun _ _ _ h => h) (Or.inl ⟨by rfl, ?_⟩) ?_ ?_
                                  rotate_left
                                  · intro w'
                                    go_simp
                                    first | with_reducible rfl | (refine (if_neg ?_).trans ?_; ((try simp only [ByteArray.size_extract, ByteArray.size_append, Go.Proofs.YtkklccccjmipkaaDoor.GLib.size_mk, List.size_toArray, List.length_cons, List.length_nil] at *); omega); with_reducible rfl)
                                  rotate_left
                                  · simp only [Act.put, List.setIfInBounds_toArray, List.set_cons_zero, List.set_cons_succ, i64_w, i32_w]
                                    rfl
                                  refine pure_ (i := 8) (N := some 50) (v := ?_) (a' := ?_) #[true, true, true, true, true, true, true, true, true, false, false, false, false, false] rfl rfl (any_of HT_.out (by kernel_rfl)) (fun _ _ _ h => h) (Or.inl ⟨by rfl, ?_⟩) ?_ ?_
                                  rotate_left
                                  · intro w'
                                    go_simp
                                    first | with_reducible rfl | (refine (if_neg ?_).trans ?_; ((try simp only [ByteArray.size_extract, ByteArray.size_append, Go.Proofs.YtkklccccjmipkaaDoor.GLib.size_mk, List.size_toArray, List.length_cons, List.length_nil] at *); omega); with_reducible rfl)
                                  rotate_left
                                  · simp only [Act.put, List.setIfInBounds_toArray, List.set_cons_zero, List.set_cons_succ, i64_w, i32_w]
                                    rfl
                                  refine pure_ (i := 9) (N := some 51) (v := ?_) (a' := ?_) #[true, true, true, true, true, true, true, true, true, true, false, false, false, false] rfl rfl (any_of HT_.out (by kernel_rfl)) (fun _ _ _ h => h) (Or.inl ⟨by rfl, ?_⟩) ?_ ?_
                                  rotate_left
                                  · intro w'
                                    go_simp
                                    first | with_reducible rfl | (refine (if_neg ?_).trans ?_; ((try simp only [ByteArray.size_extract, ByteArray.size_append, Go.Proofs.YtkklccccjmipkaaDoor.GLib.size_mk, List.size_toArray, List.length_cons, List.length_nil] at *); omega); with_reducible rfl)
                                  rotate_left
                                  · simp only [Act.put, List.setIfInBounds_toArray, List.set_cons_zero, List.set_cons_succ, i64_w, i32_w]
                                    rfl
                                  refine pure_ (i := 10) (N := some 52) (v := ?_) (a' := ?_) #[true, true, true, true, true, true, true, true, true, true, true, false, false, false] rfl rfl (any_of HT_.out (by kernel_rfl)) (fun _ _ _ h => h) (Or.inl ⟨by rfl, ?_⟩) ?_ ?_
                                  rotate_left
                                  · intro w'
                                    go_simp
                                    first | with_reducible rfl | (refine (if_neg ?_).trans ?_; ((try simp only [ByteArray.size_extract, ByteArray.size_append, Go.Proofs.YtkklccccjmipkaaDoor.GLib.size_mk, List.size_toArray, List.length_cons, List.length_nil] at *); omega); with_reducible rfl)
                                  rotate_left
                                  · simp only [Act.put, List.setIfInBounds_toArray, List.set_cons_zero, List.set_cons_succ, i64_w, i32_w]
                                    rfl
                                  refine one_ (i := 11) (N := some 53) #[true, true, true, true, true, true, true, true, true, true, true, true, false, false] rfl rfl (one_of HT_.out (by kernel_rfl)) (by decide) (fun K hK => ?_)
                                  refine value_ (w1 := ?_) (v := ?_) (by rfl) rfl ?_ ?_
                                  rotate_left 2
                                  · go_simp
                                    constructor
                                    · rfl
                                    · rfl
                                  refine hK.out _ _ trivial (fun hHeld => ?_)
                                  clear hK K
                                  refine norm_ (a' := ?_) ?_ ?_
                                  rotate_left
                                  · show Act.put _ (some 53) _ = _
                                    simp only [Act.put, List.setIfInBounds_toArray, List.set_cons_zero, List.set_cons_succ, i64_w, i32_w]
                                    rfl
                                  refine one_ (i := 12) (N := some 54) #[true, true, true, true, true, true, true, true, true, true, true, true, true, false] rfl rfl (one_of HT_.out (by kernel_rfl)) (by decide) (fun K hK => ?_)
                                  refine Kd.R_append_step k69 (w0 := w) w.heap.size (by rfl) (.tmp 42) (.tmp 53) 61 69 (.agg #[(.string ⟨#[]⟩), (.string ⟨#[]⟩), (.int .i64 0)]) 40 rfl Tryd.underlying61 info69 rfl (by decide) (by omega) u6 x6_1 (⟨(rdOf ByteArray.empty t116 x9_1).extract 1 ((wrap64 (1 + t120)) : Int).toNat, (rdOf ByteArray.empty t116 x9_1).extract ((ji17) : Int).toNat (rdOf ByteArray.empty t116 x9_1).size, x7_1⟩ : S69) [.string ((rdOf ByteArray.empty t116 x9_1).extract 1 ((wrap64 (1 + t120)) : Int).toNat), .string ((rdOf ByteArray.empty t116 x9_1).extract ((ji17) : Int).toNat (rdOf ByteArray.empty t116 x9_1).size), .int .i64 x7_1] (fun _ => True) (fun _ => False) rfl rfl ?aP (fun _ hk => hk.elim) ?aF ?aO ?aB ?aS ?aL ?_
                                  (case aP => exact k69_mkM _ _ _ (⟨(rdOf ByteArray.empty t116 x9_1).extract 1 ((wrap64 (1 + t120)) : Int).toNat, (rdOf ByteArray.empty t116 x9_1).extract ((ji17) : Int).toNat (rdOf ByteArray.empty t116 x9_1).size, x7_1⟩ : S69))
                                  (case aB => exact (by repeat (first | (with_reducible first | exact HB.out | apply below_alloc | apply pw_below_drewN | apply below_drew1) | exact HB.out)))
                                  (case aF => exact (fun _ _ => trivial))
                                  (case aO => exact (by (with_reducible repeat (first | apply Kd.R_alloc | apply Kd.R_drewN | apply Kd.R_drew)); exact HO_6.out))
                                  (case aS => exact (below_size (by repeat (first | (with_reducible first | exact HB.out | apply below_alloc | apply pw_below_drewN | apply below_drew1) | exact HB.out))))
                                  (case aL => have := LMc20.out; omega)
                                  intro v123 w25 ho hb hg hat
                                  rw [← Ny122.out] at ho
                                  have n0_ := Aside0.mk (Kd.R_over' (by (with_reducible repeat (first | apply Kd.R_alloc | apply Kd.R_drewN | apply Kd.R_drew)); exact HO_5.out) (Kd.R_typed (by (with_reducible repeat (first | apply Kd.R_alloc | apply Kd.R_drewN | apply Kd.R_drew)); exact HO_6.out)) (by decide) hg)
                                  have n1_ := Aside0.mk (hb)
                                  have n2_ := Aside0.mk (ho)
                                  clear HO_5
                                  clear HB
                                  clear HO_6
                                  have HO_5 := n0_
                                  have HB := n1_
                                  have HO124 := n2_
                                  clear n0_ n1_ n2_
                                  clear ho hb hg hat
                                  refine hK.out _ _ trivial (fun hHeld => ?_)
                                  clear hK K
                                  refine norm_ (a' := ?_) ?_ ?_
                                  rotate_left
                                  · show Act.put _ (some 54) _ = _
                                    simp only [Act.put, List.setIfInBounds_toArray, List.set_cons_zero, List.set_cons_succ, i64_w, i32_w]
                                    rfl
                                  refine pure_ (i := 13) (N := some 6) (v := ?_) (a' := ?_) #[true, true, true, true, true, true, true, true, true, true, true, true, true, true] rfl rfl (any_of HT_.out (by kernel_rfl)) (fun _ _ _ h => h) (Or.inl ⟨by rfl, ?_⟩) ?_ ?_
                                  rotate_left
                                  · intro w'
                                    go_simp
                                    first | with_reducible rfl | (refine (if_neg ?_).trans ?_; ((try simp only [ByteArray.size_extract, ByteArray.size_append, Go.Proofs.YtkklccccjmipkaaDoor.GLib.size_mk, List.size_toArray, List.length_cons, List.length_nil] at *); omega); with_reducible rfl)
                                  rotate_left
                                  · simp only [Act.put, List.setIfInBounds_toArray, List.set_cons_zero, List.set_cons_succ, i64_w, i32_w]
                                    rfl
                                  refine done_ (done_of HT_.out (by kernel_rfl)) ?_
                                  try go_wp2
                                  go_roundg kj6
                                  case measure => have := HK1.out; have := HJ6.out; omega
                                  case rel => exact ⟨(y122), (wrap64 ((wrap64 (x7_1 + ((rdOf ByteArray.empty t116 x9_1).size : Int))) + 2)), (x8_1), (wrap64 (x9_1 + 1)), (by first | rfl | (simp; done) | (simp [*]; done) | exact congrArg Value.bool (Go.Proofs.YtkklccccjmipkaaDoor.GLib.not_isEmpty _) | exact congrArg Value.bool (Go.Proofs.YtkklccccjmipkaaDoor.GLib.not_isEmpty _).symm), (by first | rfl | (simp; done) | (simp [*]; done) | exact congrArg Value.bool (Go.Proofs.YtkklccccjmipkaaDoor.GLib.not_isEmpty _) | exact congrArg Value.bool (Go.Proofs.YtkklccccjmipkaaDoor.GLib.not_isEmpty _).symm), (by first | rfl | (simp; done) | (simp [*]; done) | exact congrArg Value.bool (Go.Proofs.YtkklccccjmipkaaDoor.GLib.not_isEmpty _) | exact congrArg Value.bool (Go.Proofs.YtkklccccjmipkaaDoor.GLib.not_isEmpty _).symm), H', ⟨by have := HK1.out; have := HJ6.out; omega⟩, ⟨by (with_reducible repeat (first | apply Kd.R_alloc | apply Kd.R_drewN | apply Kd.R_drew)); exact HO_5.out⟩, ⟨by (with_reducible repeat (first | apply Kd.R_alloc | apply Kd.R_drewN | apply Kd.R_drew)); exact HO124.out⟩, ⟨by repeat (first | (with_reducible first | exact HB.out | apply below_alloc | apply pw_below_drewN | apply below_drew1) | exact HB.out)⟩⟩
                              · rw [if_neg c20] at H
                                exact absurd H (by simp)
                            · rw [if_neg c19] at H
                              exact absurd H (by simp)
                          · rw [if_neg c18] at H
                            exact absurd H (by simp)
                        · rw [if_neg c16] at H
                          exact absurd H (by simp)
                      · rw [if_neg c15] at H
                        exact absurd H (by simp)
                    · rw [if_neg c14] at H
                      have c14b0 : decide (0 < t120) = false := decide_eq_false c14
                      clear c14
                      by_cases c26 : (x6_1.length : Int) = 0
                      · rw [if_pos c26] at H
                        have c26b0 : ((x6_1.length : Int) == 0) = true := beq_iff_eq.mpr c26
                        have c26b1 : ((x6_1.length : Int) != 0) = false := bne_eq_false_iff_eq.mpr c26
                        clear c26
                        simp only [Option.some.injEq, Prod.mk.injEq] at H
                        obtain ⟨rfl, rfl, rfl⟩ := H
                        go_wp2_with (first | ((with_reducible refine gate_callee (f := 71) rfl ?_); refine goesL_ (some 37) rfl rfl Tryd.func71 (by kernel_rfl) rfl #[.string (rdOf ByteArray.empty t116 x9_1), .int .i64 78] rfl (by (try simp only [List.map_toArray, List.map_cons, List.map_nil]); first | done | rfl | (simp only [List.length_drop, List.length_take]; rfl)) ?_; (with_reducible refine (remitterref12_X.calls kj6 (rdOf ByteArray.empty t116 x9_1) 78 true _ A12.out).mono ?_); rintro e w' ⟨rfl, ⟨nd, rfl⟩⟩; refine ⟨_, rfl, ?_⟩; obtain ⟨Ao27, co27, eo27⟩ := Kd.R_slice HO_6.out; subst eo27))
                        go_ret3
                        exact ⟨_, by first | rfl | (simp [errW_none, errW_some] <;> rfl) | (simp [*, errW_none, errW_some] <;> rfl), by first | exact Kd.R_nil _ _ _ _ _ | exact Kd.N_nil _ _ _ _ _ | exact Kd.V_nil _ _ _ _ _ | exact Kd.Q_nil _ _ _ _ _ | exact Kd.S_nil _ _ _ _ _, by repeat (first | (with_reducible first | exact HB.out | apply below_alloc | apply pw_below_drewN | apply below_drew1) | exact HB.out)⟩
                      · rw [if_neg c26] at H
                        have c26b0 : ((x6_1.length : Int) == 0) = false := beq_eq_false_iff_ne.mpr c26
                        have c26b1 : ((x6_1.length : Int) != 0) = true := bne_iff_ne.mpr c26
                        have c26b2 : ¬ (x6_1 = []) := fun h_ => c26 (by rw [h_]; rfl)
                        by_cases c28 : 0 < ((rdOf ByteArray.empty t116 x9_1).size : Int)
                        · rw [if_pos c28] at H
                          have c28b0 : decide (0 < ((rdOf ByteArray.empty t116 x9_1).size : Int)) = true := decide_eq_true c28
                          have c28b1 : decide (0 < (rdOf ByteArray.empty t116 x9_1).size) = true := decide_eq_true (by omega)
                          clear c28
                          by_cases c30 : (bt (rdOf ByteArray.empty t116 x9_1) 0) = 58
                          · rw [if_pos c30] at H
                            have c30b0 : ((bt (rdOf ByteArray.empty t116 x9_1) 0) == 58) = true := beq_iff_eq.mpr c30
                            have c30b1 : ((bt (rdOf ByteArray.empty t116 x9_1) 0) != 58) = false := bne_eq_false_iff_eq.mpr c30
                            clear c30
                            simp only [Option.some.injEq, Prod.mk.injEq] at H
                            obtain ⟨rfl, rfl, rfl⟩ := H
                            go_wp2_with (first | ((with_reducible refine gate_callee (f := 71) rfl ?_); refine goesL_ (some 37) rfl rfl Tryd.func71 (by kernel_rfl) rfl #[.string (rdOf ByteArray.empty t116 x9_1), .int .i64 78] rfl (by (try simp only [List.map_toArray, List.map_cons, List.map_nil]); first | done | rfl | (simp only [List.length_drop, List.length_take]; rfl)) ?_; (with_reducible refine (remitterref12_X.calls kj6 (rdOf ByteArray.empty t116 x9_1) 78 true _ A12.out).mono ?_); rintro e w' ⟨rfl, ⟨nd, rfl⟩⟩; refine ⟨_, rfl, ?_⟩; obtain ⟨Ao31, co31, eo31⟩ := Kd.R_slice HO_6.out; subst eo31; have p29 : 0 ≤ (0 : Int) := (by omega); have q29 : 0 < (rdOf ByteArray.empty t116 x9_1).size := (by have : (0 : Int) < ((rdOf ByteArray.empty t116 x9_1).size : Int) := of_decide_eq_true (by first | (with_reducible assumption) | assumption); omega); have hx29 : ∀ h : 0 < (rdOf ByteArray.empty t116 x9_1).size, (((rdOf ByteArray.empty t116 x9_1)[0]'h).toNat : Int) = bt (rdOf ByteArray.empty t116 x9_1) 0 := bt_at (rdOf ByteArray.empty t116 x9_1) 0; clear p29; have qi29 : (0 < ((rdOf ByteArray.empty t116 x9_1).size : Int)) = True := eq_true (of_decide_eq_true (by first | (with_reducible assumption) | assumption)); replace q29 := eq_true q29))
                            go_ret3
                            exact ⟨_, by first | rfl | (simp [errW_none, errW_some] <;> rfl) | (simp [*, errW_none, errW_some] <;> rfl), by first | exact Kd.R_nil _ _ _ _ _ | exact Kd.N_nil _ _ _ _ _ | exact Kd.V_nil _ _ _ _ _ | exact Kd.Q_nil _ _ _ _ _ | exact Kd.S_nil _ _ _ _ _, by repeat (first | (with_reducible first | exact HB.out | apply below_alloc | apply pw_below_drewN | apply below_drew1) | exact HB.out)⟩
                          · rw [if_neg c30] at H
                            have c30b0 : ((bt (rdOf ByteArray.empty t116 x9_1) 0) == 58) = false := beq_eq_false_iff_ne.mpr c30
                            have c30b1 : ((bt (rdOf ByteArray.empty t116 x9_1) 0) != 58) = true := bne_iff_ne.mpr c30
                            by_cases c33 : (bt (rdOf ByteArray.empty t116 x9_1) 0) = 45
                            · rw [if_pos c33] at H
                              have c33b0 : ((bt (rdOf ByteArray.empty t116 x9_1) 0) == 45) = true := beq_iff_eq.mpr c33
                              have c33b1 : ((bt (rdOf ByteArray.empty t116 x9_1) 0) != 45) = false := bne_eq_false_iff_eq.mpr c33
                              clear c33
                              simp only [Option.some.injEq, Prod.mk.injEq] at H
                              obtain ⟨rfl, rfl, rfl⟩ := H
                              go_wp2_with (first | ((with_reducible refine gate_callee (f := 71) rfl ?_); refine goesL_ (some 37) rfl rfl Tryd.func71 (by kernel_rfl) rfl #[.string (rdOf ByteArray.empty t116 x9_1), .int .i64 78] rfl (by (try simp only [List.map_toArray, List.map_cons, List.map_nil]); first | done | rfl | (simp only [List.length_drop, List.length_take]; rfl)) ?_; (with_reducible refine (remitterref12_X.calls kj6 (rdOf ByteArray.empty t116 x9_1) 78 true _ A12.out).mono ?_); rintro e w' ⟨rfl, ⟨nd, rfl⟩⟩; refine ⟨_, rfl, ?_⟩; obtain ⟨Ao34, co34, eo34⟩ := Kd.R_slice HO_6.out; subst eo34; have p29 : 0 ≤ (0 : Int) := (by omega); have q29 : 0 < (rdOf ByteArray.empty t116 x9_1).size := (by have : (0 : Int) < ((rdOf ByteArray.empty t116 x9_1).size : Int) := of_decide_eq_true (by first | (with_reducible assumption) | assumption); omega); have hx29 : ∀ h : 0 < (rdOf ByteArray.empty t116 x9_1).size, (((rdOf ByteArray.empty t116 x9_1)[0]'h).toNat : Int) = bt (rdOf ByteArray.empty t116 x9_1) 0 := bt_at (rdOf ByteArray.empty t116 x9_1) 0; clear p29; have qi29 : (0 < ((rdOf ByteArray.empty t116 x9_1).size : Int)) = True := eq_true (of_decide_eq_true (by first | (with_reducible assumption) | assumption)); replace q29 := eq_true q29; have p32 : 0 ≤ (0 : Int) := (by omega); have q32 : 0 < (rdOf ByteArray.empty t116 x9_1).size := (by have : (0 : Int) < ((rdOf ByteArray.empty t116 x9_1).size : Int) := of_decide_eq_true (by first | (with_reducible assumption) | assumption); omega); have hx32 : ∀ h : 0 < (rdOf ByteArray.empty t116 x9_1).size, (((rdOf ByteArray.empty t116 x9_1)[0]'h).toNat : Int) = bt (rdOf ByteArray.empty t116 x9_1) 0 := bt_at (rdOf ByteArray.empty t116 x9_1) 0; clear p32; have qi32 : (0 < ((rdOf ByteArray.empty t116 x9_1).size : Int)) = True := eq_true (of_decide_eq_true (by first | (with_reducible assumption) | assumption)); replace q32 := eq_true q32))
                              go_ret3
                              exact ⟨_, by first | rfl | (simp [errW_none, errW_some] <;> rfl) | (simp [*, errW_none, errW_some] <;> rfl), by first | exact Kd.R_nil _ _ _ _ _ | exact Kd.N_nil _ _ _ _ _ | exact Kd.V_nil _ _ _ _ _ | exact Kd.Q_nil _ _ _ _ _ | exact Kd.S_nil _ _ _ _ _, by repeat (first | (with_reducible first | exact HB.out | apply below_alloc | apply pw_below_drewN | apply below_drew1) | exact HB.out)⟩
                            · rw [if_neg c33] at H
                              have c33b0 : ((bt (rdOf ByteArray.empty t116 x9_1) 0) == 45) = false := beq_eq_false_iff_ne.mpr c33
                              have c33b1 : ((bt (rdOf ByteArray.empty t116 x9_1) 0) != 45) = true := bne_iff_ne.mpr c33
                              obtain ⟨ji35, hji35⟩ : ∃ j_ : Int, (wrap64 ((x6_1.length : Int) - 1)) = j_ := ⟨_, rfl⟩
                              replace H : (if 0 ≤ (ji35) then (if (ji35) < (x6_1.length : Int) then (if ((rd_T69 x6_1 (ji35)).f1).size + 2 ≤ 9223372036854775807 then (if (((rd_T69 x6_1 (ji35)).f1) ++ (⟨#[13, 10]⟩ : ByteArray)).size + (rdOf ByteArray.empty t116 x9_1).size ≤ 9223372036854775807 then (remitterref15_Read.l0 kj6 a0 t116 (x6_1.set ((ji35) : Int).toNat (⟨(rd_T69 x6_1 (ji35)).f0, (((rd_T69 x6_1 (ji35)).f1) ++ (⟨#[13, 10]⟩ : ByteArray)) ++ (rdOf ByteArray.empty t116 x9_1), (rd_T69 x6_1 (ji35)).f2⟩ : S69)) (wrap64 ((wrap64 (x7_1 + ((rdOf ByteArray.empty t116 x9_1).size : Int))) + 2)) (-1) (wrap64 (x9_1 + 1))) else (none)) else (none)) else (none)) else (none)) = some (r1, r2, r3) := by first | (rw [hji35] at H; exact H) | (simp only [hji35] at H ⊢; exact H)
                              (try rw [hji35] at A12)
                              have hji35w : (IntKind.i64.wrap ((x6_1.length : Int) - 1)) = ji35 := (i64_w _).trans hji35
                              by_cases c36 : 0 ≤ (ji35)
                              · rw [if_pos c36] at H
                                have c36b0 : decide (0 ≤ (ji35)) = true := decide_eq_true c36
                                clear c36
                                by_cases c37 : (ji35) < (x6_1.length : Int)
                                · rw [if_pos c37] at H
                                  have c37b0 : decide ((ji35) < (x6_1.length : Int)) = true := decide_eq_true c37
                                  clear c37
                                  by_cases c38 : ((rd_T69 x6_1 (ji35)).f1).size + 2 ≤ 9223372036854775807
                                  · rw [if_pos c38] at H
                                    have c38b0 := eq_true c38
                                    have c38b1 : decide (((rd_T69 x6_1 (ji35)).f1).size + 2 ≤ 9223372036854775807) = true := decide_eq_true c38
                                    try have c38b2 : (9223372036854775807 < ((rd_T69 x6_1 (ji35)).f1).size + 2) = False := eq_false (Nat.not_lt.2 c38)
                                    by_cases c39 : (((rd_T69 x6_1 (ji35)).f1) ++ (⟨#[13, 10]⟩ : ByteArray)).size + (rdOf ByteArray.empty t116 x9_1).size ≤ 9223372036854775807
                                    · rw [if_pos c39] at H
                                      have c39b0 := eq_true c39
                                      have c39b1 : decide ((((rd_T69 x6_1 (ji35)).f1) ++ (⟨#[13, 10]⟩ : ByteArray)).size + (rdOf ByteArray.empty t116 x9_1).size ≤ 9223372036854775807) = true := decide_eq_true c39
                                      try have c39b2 : (9223372036854775807 < (((rd_T69 x6_1 (ji35)).f1) ++ (⟨#[13, 10]⟩ : ByteArray)).size + (rdOf ByteArray.empty t116 x9_1).size) = False := eq_false (Nat.not_lt.2 c39)
                                      try (have c39b7 := c39b2; simp only [ByteArray.size_append, Go.Proofs.YtkklccccjmipkaaDoor.GLib.size_mk, List.size_toArray, List.length_cons, List.length_nil, Nat.zero_add, Nat.reduceAdd] at c39b7)
                                      obtain ⟨y126, hy126⟩ : ∃ y_ : List (S69), y_ = (x6_1.set ((ji35) : Int).toNat (⟨(rd_T69 x6_1 (ji35)).f0, (((rd_T69 x6_1 (ji35)).f1) ++ (⟨#[13, 10]⟩ : ByteArray)) ++ (rdOf ByteArray.empty t116 x9_1), (rd_T69 x6_1 (ji35)).f2⟩ : S69)) := ⟨_, rfl⟩
                                      replace H : (remitterref15_Read.l0 kj6 a0 t116 y126 (wrap64 ((wrap64 (x7_1 + ((rdOf ByteArray.empty t116 x9_1).size : Int))) + 2)) (-1) (wrap64 (x9_1 + 1))) = some (r1, r2, r3) := by first | (rw [hy126]; with_reducible exact H) | (have H2_ := (Option.bind_some _ _).symm.trans H; rw [hy126]; with_reducible exact H2_) | (have H2_ := (Option.bind_some _ _).symm.trans H; with_reducible exact H2_) | with_reducible exact H | (rw [hy126]; exact H) | exact H
                                      have Ny126 := Aside0.mk hy126
                                      clear hy126
                                      have H' := Aside0.mk H
                                      clear H
                                      go_wp2_with (first | ((with_reducible refine gate_callee (f := 71) rfl ?_); refine goesL_ (some 37) rfl rfl Tryd.func71 (by kernel_rfl) rfl #[.string (rdOf ByteArray.empty t116 x9_1), .int .i64 78] rfl (by (try simp only [List.map_toArray, List.map_cons, List.map_nil]); first | done | rfl | (simp only [List.length_drop, List.length_take]; rfl)) ?_; (with_reducible refine (remitterref12_X.calls kj6 (rdOf ByteArray.empty t116 x9_1) 78 true _ A12.out).mono ?_); rintro e w' ⟨rfl, ⟨nd, rfl⟩⟩; refine ⟨_, rfl, ?_⟩; (try (rw [drewN_self wc]; generalize hq_ : World.drewN wc _ = wc; have n0_ : Aside0 (Kd.R Kd.string 9 wc w.heap.size (fun _ => True) (.slice (some ad119) t116.length co8) t116) := ⟨by rw [← hq_]; exact (by (with_reducible repeat (first | apply Kd.R_alloc | apply Kd.R_drewN | apply Kd.R_drew)); exact HO_5.out)⟩; have n1_ : Aside0 (Kd.R k69 69 wc w.heap.size (fun _ => True) u6 x6_1) := ⟨by rw [← hq_]; exact (by (with_reducible repeat (first | apply Kd.R_alloc | apply Kd.R_drewN | apply Kd.R_drew)); exact HO_6.out)⟩; have n2_ : Aside0 (Below w.heap.size w wc) := ⟨by rw [← hq_]; exact (by repeat (first | (with_reducible first | exact HB.out | apply below_alloc | apply pw_below_drewN | apply below_drew1) | exact HB.out))⟩; clear HO_5 HO_6 HB hq_; have HO_5 := n0_; have HO_6 := n1_; have HB := n2_; clear n0_ n1_ n2_)); obtain ⟨Ao41, co41, eo41⟩ := Kd.R_slice HO_6.out; subst eo41; have p29 : 0 ≤ (0 : Int) := (by omega); have q29 : 0 < (rdOf ByteArray.empty t116 x9_1).size := (by have : (0 : Int) < ((rdOf ByteArray.empty t116 x9_1).size : Int) := of_decide_eq_true (by first | (with_reducible assumption) | assumption); omega); have hx29 : ∀ h : 0 < (rdOf ByteArray.empty t116 x9_1).size, (((rdOf ByteArray.empty t116 x9_1)[0]'h).toNat : Int) = bt (rdOf ByteArray.empty t116 x9_1) 0 := bt_at (rdOf ByteArray.empty t116 x9_1) 0; clear p29; have qi29 : (0 < ((rdOf ByteArray.empty t116 x9_1).size : Int)) = True := eq_true (of_decide_eq_true (by first | (with_reducible assumption) | assumption)); replace q29 := eq_true q29; have p32 : 0 ≤ (0 : Int) := (by omega); have q32 : 0 < (rdOf ByteArray.empty t116 x9_1).size := (by have : (0 : Int) < ((rdOf ByteArray.empty t116 x9_1).size : Int) := of_decide_eq_true (by first | (with_reducible assumption) | assumption); omega); have hx32 : ∀ h : 0 < (rdOf ByteArray.empty t116 x9_1).size, (((rdOf ByteArray.empty t116 x9_1)[0]'h).toNat : Int) = bt (rdOf ByteArray.empty t116 x9_1) 0 := bt_at (rdOf ByteArray.empty t116 x9_1) 0; clear p32; have qi32 : (0 < ((rdOf ByteArray.empty t116 x9_1).size : Int)) = True := eq_true (of_decide_eq_true (by first | (with_reducible assumption) | assumption)); replace q32 := eq_true q32; have p125 : 0 ≤ ((ji35) : Int) := of_decide_eq_true (by first | (with_reducible assumption) | assumption); have q125 : (ji35) < (x6_1.length : Int) := of_decide_eq_true (by first | (with_reducible assumption) | assumption); obtain ⟨ad125, e125, hx125_0, hx125_1, hx125_2⟩ := at_T69 (Kd.R_reads' HO_6.out).2.2 (ji35) p125 q125; cases e125; replace p125 := eq_true p125; replace q125 := eq_true q125; have p40 : 0 ≤ ((ji35) : Int) := of_decide_eq_true (by first | (with_reducible assumption) | assumption); have q40 : ((ji35) : Int) < ((x6_1.length : Int) : Int) := of_decide_eq_true (by first | (with_reducible assumption) | assumption); obtain ⟨go40, co40, eo40, gb40, gl40, cl40, HG40⟩ := Kd.R_form HO_6.out (by omega); (first | cases eo40 | (injection eo40 with ea_ en_ ec_; (first | subst ea_ | (injection ea_ with ea_; subst ea_)); subst ec_; clear en_)); have GB40 := Aside0.mk gb40; have GG40 := Aside0.mk HG40; clear gb40 gl40 HG40; (first | simp only [add_plain] at hx125_0 | skip); (first | simp only [add_plain] at hx125_1 | skip); (first | simp only [add_plain] at hx125_2 | skip); obtain ⟨ce40, hcl40, hM40, hcc40, hfr40⟩ := Kd.R_elem HO_6.out z69 ((ji35) : Int) p40 q40; obtain rfl := k69_openM hM40; have hx40_0 : wc.cell? ⟨go40, ((ji35) : Int).toNat * 3, none⟩ = some (.string ((rd_T69 x6_1 (ji35)).f0)) := hcc40 0 _ rfl; have hx40_1 : wc.cell? ⟨go40, ((ji35) : Int).toNat * 3 + 1, none⟩ = some (.string ((rd_T69 x6_1 (ji35)).f1)) := hcc40 1 _ rfl; have hx40_2 : wc.cell? ⟨go40, ((ji35) : Int).toNat * 3 + 2, none⟩ = some (.int .i64 ((rd_T69 x6_1 (ji35)).f2)) := hcc40 2 _ rfl; have hf40_0 : wc.frozen? ⟨go40, ((ji35) : Int).toNat * 3, none⟩ = false := hfr40 0; have hf40_1 : wc.frozen? ⟨go40, ((ji35) : Int).toNat * 3 + 1, none⟩ = false := hfr40 1; have hf40_2 : wc.frozen? ⟨go40, ((ji35) : Int).toNat * 3 + 2, none⟩ = false := hfr40 2; clear hcl40 hcc40 hfr40 hM40; replace p40 := eq_true p40; replace q40 := eq_true q40; have HX42 := Aside0.mk (show Kd.R k69 69 wc w.heap.size (fun _ => True) (.slice (some ⟨go40, 0, none⟩) x6_1.length co41) x6_1 from (by (with_reducible repeat (first | apply Kd.R_alloc | apply Kd.R_drewN | apply Kd.R_drew)); exact HO_6.out)); obtain ⟨ce42, hcl42, hM42, hcc42, hfr42⟩ := Kd.R_elem HX42.out z69 ((ji35) : Int) (of_decide_eq_true (by first | (with_reducible assumption) | assumption)) (by have h_ : ((ji35) : Int) < ((x6_1.length : Int) : Int) := of_decide_eq_true (by first | (with_reducible assumption) | assumption); first | exact h_ | (have e_ := (Kd.R_reads' HO_6.out).1; omega) | simpa using h_); obtain rfl := k69_openM hM42; have HP42 := Kd.R_seg HX42.out ((ji35) : Int) (of_decide_eq_true (by first | (with_reducible assumption) | assumption)) (by have h_ : ((ji35) : Int) < ((x6_1.length : Int) : Int) := of_decide_eq_true (by first | (with_reducible assumption) | assumption); first | exact h_ | (have e_ := (Kd.R_reads' HO_6.out).1; omega) | simpa using h_) (seg := [.string ((((rd_T69 x6_1 (ji35)).f1) ++ (⟨#[13, 10]⟩ : ByteArray)) ++ (rdOf ByteArray.empty t116 x9_1))]) (j := 1) hcl42 hcc42 (show 2 ≤ 3 from by decide) (x' := (⟨(rd_T69 x6_1 (ji35)).f0, (((rd_T69 x6_1 (ji35)).f1) ++ (⟨#[13, 10]⟩ : ByteArray)) ++ (rdOf ByteArray.empty t116 x9_1), (rd_T69 x6_1 (ji35)).f2⟩ : S69)) (k69_mkM _ _ _ (⟨(rd_T69 x6_1 (ji35)).f0, (((rd_T69 x6_1 (ji35)).f1) ++ (⟨#[13, 10]⟩ : ByteArray)) ++ (rdOf ByteArray.empty t116 x9_1), (rd_T69 x6_1 (ji35)).f2⟩ : S69) ) (fun _ hk => hk); have hx42_1 := hcc42 1 _ rfl; (try simp only [show (k69).sz = 3 from rfl, Nat.mul_one, Nat.add_zero] at hx42_1); have hf42_1 := hfr42 1; (try simp only [show (k69).sz = 3 from rfl, Nat.mul_one, Nat.add_zero] at hf42_1); clear hcl42 hcc42 hfr42 hM42) | ((with_reducible refine gate_store (t := 9) (p := 90) rfl ?_); refine store_event (t := 9) (p := 90) (v := ?vo_w43) (w1 := (wc.setCell ⟨go40, ((ji35) : Int).toNat * 3 + 1, none⟩ (.string ((((rd_T69 x6_1 (ji35)).f1) ++ (⟨#[13, 10]⟩ : ByteArray)) ++ (rdOf ByteArray.empty t116 x9_1))))) ?hg ?ho ?hn ?hr ?_; (case ho => rfl); (case hg => rfl); (case hn => rfl); (case hr => first | (go_simp; done) | (go_simp; rfl)); intro w43 hw; have hg : wc.grownBy w43 (some go40) := (by rw [hw]; exact HP42.2); have hp_ : Kd.R k69 69 w43 w.heap.size (fun _ => True) (.slice (some ⟨go40, 0, none⟩) x6_1.length co41) y126 := (by rw [hw, Ny126.out]; exact HP42.1); clear HP42; have n0_ := Aside0.mk (Kd.R_over' (v := (.slice (some ⟨go40, 0, none⟩) x6_1.length co41)) (by (with_reducible repeat (first | apply Kd.R_alloc | apply Kd.R_drewN | apply Kd.R_drew)); exact HO_5.out) (Kd.R_typed HO_6.out) (by decide) hg); have n1_ := Aside0.mk (hp_); have n2_ := Aside0.mk ((by rw [hw]; exact below_set (HB.out) GB40.out : Below w.heap.size w w43)); clear HO_5; clear HO_6; clear HB; have HO_5 := n0_; have HO_6 := n1_; have HB := n2_; clear n0_ n1_ n2_; clear hg hw hp_))
                                      go_roundg kj6
                                      case measure => have := HK1.out; have := HJ6.out; omega
                                      case rel => exact ⟨(y126), (wrap64 ((wrap64 (x7_1 + ((rdOf ByteArray.empty t116 x9_1).size : Int))) + 2)), ((-1)), (wrap64 (x9_1 + 1)), (by first | rfl | (simp; done) | (simp [*]; done) | exact congrArg Value.bool (Go.Proofs.YtkklccccjmipkaaDoor.GLib.not_isEmpty _) | exact congrArg Value.bool (Go.Proofs.YtkklccccjmipkaaDoor.GLib.not_isEmpty _).symm), (by first | rfl | (simp; done) | (simp [*]; done) | exact congrArg Value.bool (Go.Proofs.YtkklccccjmipkaaDoor.GLib.not_isEmpty _) | exact congrArg Value.bool (Go.Proofs.YtkklccccjmipkaaDoor.GLib.not_isEmpty _).symm), (by first | rfl | (simp; done) | (simp [*]; done) | exact congrArg Value.bool (Go.Proofs.YtkklccccjmipkaaDoor.GLib.not_isEmpty _) | exact congrArg Value.bool (Go.Proofs.YtkklccccjmipkaaDoor.GLib.not_isEmpty _).symm), H', ⟨by have := HK1.out; have := HJ6.out; omega⟩, ⟨by (with_reducible repeat (first | apply Kd.R_alloc | apply Kd.R_drewN | apply Kd.R_drew)); exact HO_5.out⟩, ⟨by (with_reducible repeat (first | apply Kd.R_alloc | apply Kd.R_drewN | apply Kd.R_drew)); exact HO_6.out⟩, ⟨by repeat (first | (with_reducible first | exact HB.out | apply below_alloc | apply pw_below_drewN | apply below_drew1) | exact HB.out)⟩⟩
                                    · rw [if_neg c39] at H
                                      exact absurd H (by simp)
                                  · rw [if_neg c38] at H
                                    exact absurd H (by simp)
                                · rw [if_neg c37] at H
                                  exact absurd H (by simp)
                              · rw [if_neg c36] at H
                                exact absurd H (by simp)
                        · rw [if_neg c28] at H
                          exact absurd H (by simp)
                  · replace c13 := Bool.eq_false_iff.mpr c13
                    subst c13
                    have H1 : (some (([] : List (S69)), x7_1, 31)) = some (r1, r2, r3) := by rw [if_neg (show ¬ (false = true) by decide)] at H; exact H
                    clear H
                    have H := H1
                    clear H1
                    simp only [Option.some.injEq, Prod.mk.injEq] at H
                    obtain ⟨rfl, rfl, rfl⟩ := H
                    go_wp2_with (first | ((with_reducible refine gate_callee (f := 71) rfl ?_); refine goesL_ (some 37) rfl rfl Tryd.func71 (by kernel_rfl) rfl #[.string (rdOf ByteArray.empty t116 x9_1), .int .i64 78] rfl (by (try simp only [List.map_toArray, List.map_cons, List.map_nil]); first | done | rfl | (simp only [List.length_drop, List.length_take]; rfl)) ?_; (with_reducible refine (remitterref12_X.calls kj6 (rdOf ByteArray.empty t116 x9_1) 78 false _ A12.out).mono ?_); rintro e w' ⟨rfl, ⟨nd, rfl⟩⟩; refine ⟨_, rfl, ?_⟩))
                    go_ret3
                    exact ⟨_, by first | rfl | (simp [errW_none, errW_some] <;> rfl) | (simp [*, errW_none, errW_some] <;> rfl), by first | exact Kd.R_nil _ _ _ _ _ | exact Kd.N_nil _ _ _ _ _ | exact Kd.V_nil _ _ _ _ _ | exact Kd.Q_nil _ _ _ _ _ | exact Kd.S_nil _ _ _ _ _, by repeat (first | (with_reducible first | exact HB.out | apply below_alloc | apply pw_below_drewN | apply below_drew1) | exact HB.out)⟩
        · rw [if_neg c5] at H
          exact absurd H (by simp)
      · rw [if_neg c4] at H
        have c4b0 : decide (x9_1 < (t116.length : Int)) = false := decide_eq_false c4
        clear c4
        by_cases c44 : x8_1 ≥ 0
        · rw [if_pos c44] at H
          have c44b0 : decide (0 ≤ x8_1) = true := decide_eq_true c44
          clear c44
          simp only [Option.some.injEq, Prod.mk.injEq] at H
          obtain ⟨rfl, rfl, rfl⟩ := H
          obtain ⟨Ao45, co45, eo45⟩ := Kd.R_slice HO_5.out
          subst eo45
          go_wp2
          go_ret3
          exact ⟨_, by first | rfl | (simp [errW_none, errW_some] <;> rfl) | (simp [*, errW_none, errW_some] <;> rfl), by first | exact Kd.R_nil _ _ _ _ _ | exact Kd.N_nil _ _ _ _ _ | exact Kd.V_nil _ _ _ _ _ | exact Kd.Q_nil _ _ _ _ _ | exact Kd.S_nil _ _ _ _ _, by repeat (first | (with_reducible first | exact HB.out | apply below_alloc | apply pw_below_drewN | apply below_drew1) | exact HB.out)⟩
        · rw [if_neg c44] at H
          have c44b0 : decide (0 ≤ x8_1) = false := decide_eq_false c44
          clear c44
          simp only [Option.some.injEq, Prod.mk.injEq] at H
          obtain ⟨rfl, rfl, rfl⟩ := H
          obtain ⟨Ao46, co46, eo46⟩ := Kd.R_slice HO_5.out
          subst eo46
          go_wp2
          go_ret3
          exact ⟨_, by first | rfl | (simp [errW_none, errW_some] <;> rfl) | (simp [*, errW_none, errW_some] <;> rfl), by (with_reducible repeat (first | apply Kd.R_alloc | apply Kd.R_drewN | apply Kd.R_drew)); exact HO_6.out, by repeat (first | (with_reducible first | exact HB.out | apply below_alloc | apply pw_below_drewN | apply below_drew1) | exact HB.out)⟩

end Go.Proofs.YtkklccccjmipkaaDoor.PAll

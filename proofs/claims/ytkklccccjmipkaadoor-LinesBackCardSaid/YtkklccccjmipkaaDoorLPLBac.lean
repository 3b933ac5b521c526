-- Made by this session's wip/tools/gprint.py, which runs the kit's print program; some functions' contracts are proved by hand.
import Derived.Test.YtkklccccjmipkaaDoorLPLin0
import Derived.Test.YtkklccccjmipkaaDoorLPLWk
namespace Go.Proofs.YtkklccccjmipkaaDoor.PAll
open Go.RowKit Go.Proofs.YtkklccccjmipkaaDoorW.PrintWords Go.Proofs.YtkklccccjmipkaaDoorW.PrintLast Go.Proofs.YtkklccccjmipkaaDoorW.PrintMore
attribute [local go_sem] max2_int min2_int max_two min_two max_three min_three max_four min_four   -- for this text's walks alone
set_option linter.unusedVariables false
set_option linter.unusedSimpArgs false


mutual
def remitterlaw15_LinesBack.l0 : Nat → ByteArray → List (S68) → Int → Option (Bool)
  | 0, _, _, _ => none
  | k + 1, x0, x1, x5 => if x5 < (x1.length : Int) then (if 0 ≤ x5 then (if (wrap64 ((((rd_T68 x1 x5).f0).size : Int) + (((rd_T68 x1 x5).f1).size : Int))) > 200 then ((remitterlaw15_wakes.f).bind fun t124 => (some t124)) else (if x5 ≥ 50 then ((remitterlaw15_wakes.f).bind fun t125 => (some t125)) else (remitterlaw15_LinesBack.l0 k x0 x1 (wrap64 (x5 + 1))))) else (none)) else (if (x0.size : Int) > 5000 then ((remitterlaw15_wakes.f).bind fun t126 => (some t126)) else ((lines_Write.f x1).bind fun bt127 => (if bt127.2 = 0 then ((lines_Read.f bt127.1).bind fun bt129 => (if bt129.2.2 = 0 then (remitterlaw15_LinesBack.j1 k x0 x1 bt129.1 ((bt129.1.length : Int) != (x1.length : Int))) else (remitterlaw15_LinesBack.j1 k x0 x1 bt129.1 true))) else (remitterlaw15_LinesBack.j3 k x0))))
def remitterlaw15_LinesBack.j3 : Nat → ByteArray → Option (Bool)
  | 0, _ => none
  | k + 1, x0 => (lines_Read.f x0).bind fun bt138 => (if bt138.2.2 = 0 then ((lines_Write.f bt138.1).bind fun bt144 => (remitterlaw15_LinesBack.l2 k x0 bt138.1 bt138.2.1 bt144.1 bt144.2 0)) else (if (bt138.1.length : Int) = 0 then (if bt138.2.1 ≥ 0 then (if bt138.2.1 ≤ (x0.size : Int) then ((remitterlaw15_wakes.f).bind fun t143 => (some t143)) else (some false)) else (some false)) else (some false)))
def remitterlaw15_LinesBack.l2 : Nat → ByteArray → List (S68) → Int → ByteArray → Int → Int → Option (Bool)
  | 0, _, _, _, _, _, _ => none
  | k + 1, x0, x12, x13, x15, x16, x17 => if x17 < (x12.length : Int) then (if 0 ≤ x17 then (if ((rd_T68 x12 x17).f2) < 0 then (some false) else (if (wrap64 ((wrap64 (((rd_T68 x12 x17).f2) + 1)) + (((rd_T68 x12 x17).f0).size : Int))) > (x0.size : Int) then (some false) else (if 0 ≤ ((rd_T68 x12 x17).f2) then (if ((rd_T68 x12 x17).f2) < (x0.size : Int) then (if (bt x0 ((rd_T68 x12 x17).f2)) = 58 then (if 0 ≤ (wrap64 (((rd_T68 x12 x17).f2) + 1)) then (if (wrap64 (((rd_T68 x12 x17).f2) + 1)) ≤ (wrap64 ((wrap64 (((rd_T68 x12 x17).f2) + 1)) + (((rd_T68 x12 x17).f0).size : Int))) then (if (wrap64 ((wrap64 (((rd_T68 x12 x17).f2) + 1)) + (((rd_T68 x12 x17).f0).size : Int))) ≤ (x0.size : Int) then (if (x0.extract ((wrap64 (((rd_T68 x12 x17).f2) + 1)) : Int).toNat ((wrap64 ((wrap64 (((rd_T68 x12 x17).f2) + 1)) + (((rd_T68 x12 x17).f0).size : Int))) : Int).toNat).toList = ((rd_T68 x12 x17).f0).toList then (if x17 > 0 then (if 0 ≤ (wrap64 (x17 - 1)) then (if (wrap64 (x17 - 1)) < (x12.length : Int) then (if ((rd_T68 x12 (wrap64 (x17 - 1))).f2) ≥ ((rd_T68 x12 x17).f2) then (some false) else (remitterlaw15_LinesBack.l2 k x0 x12 x13 x15 x16 (wrap64 (x17 + 1)))) else (none)) else (none)) else (remitterlaw15_LinesBack.l2 k x0 x12 x13 x15 x16 (wrap64 (x17 + 1)))) else (some false)) else (none)) else (none)) else (none)) else (some false)) else (none)) else (none)))) else (none)) else (if x16 = 0 then (if x15.toList = x0.toList then (if x13 = (x0.size : Int) then ((remitterlaw15_wakes.f).bind fun t151 => (some t151)) else (some false)) else (some false)) else (some false))
def remitterlaw15_LinesBack.j1 : Nat → ByteArray → List (S68) → List (S68) → Bool → Option (Bool)
  | 0, _, _, _, _ => none
  | k + 1, x0, x1, x8, x69 => if x69 = true then (some false) else (remitterlaw15_LinesBack.l1 k x0 x1 x8 0)
def remitterlaw15_LinesBack.l1 : Nat → ByteArray → List (S68) → List (S68) → Int → Option (Bool)
  | 0, _, _, _, _ => none
  | k + 1, x0, x1, x8, x11 => if x11 < (x1.length : Int) then (if 0 ≤ x11 then (if x11 < (x8.length : Int) then (if ((rd_T68 x8 x11).f0).toList = ((rd_T68 x1 x11).f0).toList then (if ((rd_T68 x8 x11).f1).toList = ((rd_T68 x1 x11).f1).toList then (remitterlaw15_LinesBack.l1 k x0 x1 x8 (wrap64 (x11 + 1))) else (some false)) else (some false)) else (none)) else (none)) else (remitterlaw15_LinesBack.j3 k x0)
end
def remitterlaw15_LinesBack.f (k : Nat) (a0 : ByteArray) (l1 : List (S68)) : Option (Bool) := remitterlaw15_LinesBack.l0 k a0 l1 0
theorem remitterlaw15_LinesBack.mono_l : ∀ k, (∀ y0 y1 y2, LeO (remitterlaw15_LinesBack.l0 k y0 y1 y2) (remitterlaw15_LinesBack.l0 (k + 1) y0 y1 y2)) ∧ (∀ y0, LeO (remitterlaw15_LinesBack.j3 k y0) (remitterlaw15_LinesBack.j3 (k + 1) y0)) ∧ (∀ y0 y1 y2 y3 y4 y5, LeO (remitterlaw15_LinesBack.l2 k y0 y1 y2 y3 y4 y5) (remitterlaw15_LinesBack.l2 (k + 1) y0 y1 y2 y3 y4 y5)) ∧ (∀ y0 y1 y2 y3, LeO (remitterlaw15_LinesBack.j1 k y0 y1 y2 y3) (remitterlaw15_LinesBack.j1 (k + 1) y0 y1 y2 y3)) ∧ (∀ y0 y1 y2 y3, LeO (remitterlaw15_LinesBack.l1 k y0 y1 y2 y3) (remitterlaw15_LinesBack.l1 (k + 1) y0 y1 y2 y3))
  | 0 => ⟨fun _ _ _ r h => by simp [remitterlaw15_LinesBack.l0] at h, fun _ r h => by simp [remitterlaw15_LinesBack.j3] at h, fun _ _ _ _ _ _ r h => by simp [remitterlaw15_LinesBack.l2] at h, fun _ _ _ _ r h => by simp [remitterlaw15_LinesBack.j1] at h, fun _ _ _ _ r h => by simp [remitterlaw15_LinesBack.l1] at h⟩
  | k + 1 => by
    obtain ⟨ih0, ih1, ih2, ih3, ih4⟩ := remitterlaw15_LinesBack.mono_l k
    refine ⟨?_, ?_, ?_, ?_, ?_⟩
    · intro y0 y1 y2
      unfold remitterlaw15_LinesBack.l0
      repeat' first
      | (with_reducible exact ih0 _ _ _)
      | (with_reducible exact ih1 _)
      | (with_reducible exact ih2 _ _ _ _ _ _)
      | (with_reducible exact ih3 _ _ _ _)
      | (with_reducible exact ih4 _ _ _ _)
      | (with_reducible exact LeO.refl _)
      | (with_reducible exact LeO.none _)
      | (with_reducible refine LeO.ite ?_ ?_)
      | (with_reducible refine LeO.bind ?_ (fun _ => ?_))
      | exact ih0 _ _ _
      | exact ih1 _
      | exact ih2 _ _ _ _ _ _
      | exact ih3 _ _ _ _
      | exact ih4 _ _ _ _
      | exact LeO.none _
      | refine LeO.ite ?_ ?_
      | refine LeO.bind ?_ (fun _ => ?_)
    · intro y0
      unfold remitterlaw15_LinesBack.j3
      repeat' first
      | (with_reducible exact ih0 _ _ _)
      | (with_reducible exact ih1 _)
      | (with_reducible exact ih2 _ _ _ _ _ _)
      | (with_reducible exact ih3 _ _ _ _)
      | (with_reducible exact ih4 _ _ _ _)
      | (with_reducible exact LeO.refl _)
      | (with_reducible exact LeO.none _)
      | (with_reducible refine LeO.ite ?_ ?_)
      | (with_reducible refine LeO.bind ?_ (fun _ => ?_))
      | exact ih0 _ _ _
      | exact ih1 _
      | exact ih2 _ _ _ _ _ _
      | exact ih3 _ _ _ _
      | exact ih4 _ _ _ _
      | exact LeO.none _
      | refine LeO.ite ?_ ?_
      | refine LeO.bind ?_ (fun _ => ?_)
    · intro y0 y1 y2 y3 y4 y5
      unfold remitterlaw15_LinesBack.l2
      repeat' first
      | (with_reducible exact ih0 _ _ _)
      | (with_reducible exact ih1 _)
      | (with_reducible exact ih2 _ _ _ _ _ _)
      | (with_reducible exact ih3 _ _ _ _)
      | (with_reducible exact ih4 _ _ _ _)
      | (with_reducible exact LeO.refl _)
      | (with_reducible exact LeO.none _)
      | (with_reducible refine LeO.ite ?_ ?_)
      | (with_reducible refine LeO.bind ?_ (fun _ => ?_))
      | exact ih0 _ _ _
      | exact ih1 _
      | exact ih2 _ _ _ _ _ _
      | exact ih3 _ _ _ _
      | exact ih4 _ _ _ _
      | exact LeO.none _
      | refine LeO.ite ?_ ?_
      | refine LeO.bind ?_ (fun _ => ?_)
    · intro y0 y1 y2 y3
      unfold remitterlaw15_LinesBack.j1
      repeat' first
      | (with_reducible exact ih0 _ _ _)
      | (with_reducible exact ih1 _)
      | (with_reducible exact ih2 _ _ _ _ _ _)
      | (with_reducible exact ih3 _ _ _ _)
      | (with_reducible exact ih4 _ _ _ _)
      | (with_reducible exact LeO.refl _)
      | (with_reducible exact LeO.none _)
      | (with_reducible refine LeO.ite ?_ ?_)
      | (with_reducible refine LeO.bind ?_ (fun _ => ?_))
      | exact ih0 _ _ _
      | exact ih1 _
      | exact ih2 _ _ _ _ _ _
      | exact ih3 _ _ _ _
      | exact ih4 _ _ _ _
      | exact LeO.none _
      | refine LeO.ite ?_ ?_
      | refine LeO.bind ?_ (fun _ => ?_)
    · intro y0 y1 y2 y3
      unfold remitterlaw15_LinesBack.l1
      repeat' first
      | (with_reducible exact ih0 _ _ _)
      | (with_reducible exact ih1 _)
      | (with_reducible exact ih2 _ _ _ _ _ _)
      | (with_reducible exact ih3 _ _ _ _)
      | (with_reducible exact ih4 _ _ _ _)
      | (with_reducible exact LeO.refl _)
      | (with_reducible exact LeO.none _)
      | (with_reducible refine LeO.ite ?_ ?_)
      | (with_reducible refine LeO.bind ?_ (fun _ => ?_))
      | exact ih0 _ _ _
      | exact ih1 _
      | exact ih2 _ _ _ _ _ _
      | exact ih3 _ _ _ _
      | exact ih4 _ _ _ _
      | exact LeO.none _
      | refine LeO.ite ?_ ?_
      | refine LeO.bind ?_ (fun _ => ?_)
theorem remitterlaw15_LinesBack.mono : ∀ a0 a1 k, LeO (remitterlaw15_LinesBack.f k a0 a1) (remitterlaw15_LinesBack.f (k + 1) a0 a1) := by
  intro a0 a1 k
  obtain ⟨ih0, ih1, ih2, ih3, ih4⟩ := remitterlaw15_LinesBack.mono_l k
  unfold remitterlaw15_LinesBack.f
  repeat' first
      | (with_reducible exact ih0 _ _ _)
      | (with_reducible exact ih1 _)
      | (with_reducible exact ih2 _ _ _ _ _ _)
      | (with_reducible exact ih3 _ _ _ _)
      | (with_reducible exact ih4 _ _ _ _)
      | (with_reducible exact LeO.refl _)
      | (with_reducible exact LeO.none _)
      | (with_reducible refine LeO.ite ?_ ?_)
      | (with_reducible refine LeO.bind ?_ (fun _ => ?_))
      | exact ih0 _ _ _
      | exact ih1 _
      | exact ih2 _ _ _ _ _ _
      | exact ih3 _ _ _ _
      | exact ih4 _ _ _ _
      | exact LeO.none _
      | refine LeO.ite ?_ ?_
      | refine LeO.bind ?_ (fun _ => ?_)
set_option maxHeartbeats 8000000 in
set_option maxRecDepth 100000 in
theorem remitterlaw15_LinesBack.calls (k : Nat) (a0 : ByteArray) (A1 : Option Addr) (c1 : Nat) (l1 : List (S68)) (w : World) (hr1 : Kd.C k68 w A1 l1.length l1) (hc1 : l1.length ≤ c1) (h : remitterlaw15_LinesBack.f k a0 l1 = some true) (hG : GW w) :
    Calls Tryd.prog 11 #[.string a0, .slice A1 l1.length c1] w fun e w' => e = .returned (.bool true) ∧ Below w.heap.size w w' := by
  have HR1 := Aside0.mk hr1
  have HC1 := Aside0.mk hc1
  clear hr1 hc1
  have HG := Aside0.mk hG
  clear hG
  have HB := Aside0.mk (Below.refl w.heap.size w)
  have H : (remitterlaw15_LinesBack.l0 k a0 l1 0) = some true := h
  clear h
  have H' := Aside0.mk H
  clear H
  go_enter Tryd.func11, Tryd.ntmps11
  go_wp2
  repeat (go_quiet (fail); try go_wp2)
  go_loopg [5] k (fun kq v5 w' => ∃ (x5_1 : Int), v5 = .int .i64 x5_1 ∧ Aside0 (remitterlaw15_LinesBack.l0 kq a0 l1 x5_1 = some true) ∧ Aside0 (kq ≤ k) ∧ Aside0 (Below w.heap.size w w'))
  case atStart => exact ⟨(0), (by first | rfl | (simp; done) | (simp [*]; done) | exact congrArg Value.bool (Go.Proofs.YtkklccccjmipkaaDoor.GLib.not_isEmpty _) | exact congrArg Value.bool (Go.Proofs.YtkklccccjmipkaaDoor.GLib.not_isEmpty _).symm), H', ⟨Nat.le_refl _⟩, ⟨by repeat (first | (with_reducible first | exact HB.out | apply below_alloc | apply pw_below_drewN | apply below_drew1) | exact HB.out)⟩⟩
  case round =>
    clear H'
    try clear c1
    try clear p2
    obtain ⟨x5_1, rfl, HA, HK1, HB⟩ := hrel
    cases gk with
    | zero => exact absurd HA.out (by simp [remitterlaw15_LinesBack.l0])
    | succ k1 =>
      have H := HA.out
      clear HA
      simp only [remitterlaw15_LinesBack.l0] at H
      by_cases c3 : x5_1 < (l1.length : Int)
      · rw [if_pos c3] at H
        have c3b0 : decide (x5_1 < (l1.length : Int)) = true := decide_eq_true c3
        clear c3
        by_cases c4 : 0 ≤ x5_1
        · rw [if_pos c4] at H
          have c4b0 : decide (0 ≤ x5_1) = true := decide_eq_true c4
          clear c4
          by_cases c5 : (wrap64 ((((rd_T68 l1 x5_1).f0).size : Int) + (((rd_T68 l1 x5_1).f1).size : Int))) > 200
          · rw [if_pos c5] at H
            have c5b0 : decide (200 < (wrap64 ((((rd_T68 l1 x5_1).f0).size : Int) + (((rd_T68 l1 x5_1).f1).size : Int)))) = true := decide_eq_true c5
            clear c5
            replace H := Option.bind_eq_some_iff.mp H
            obtain ⟨t124, A60, H⟩ := H
            replace H : (some t124) = some true := H
            have A6 := Aside0.mk A60
            clear A60
            have hr := Option.some.inj H
            subst hr
            have p122 : 0 ≤ (x5_1 : Int) := of_decide_eq_true (by first | (with_reducible assumption) | assumption)
            have q122 : x5_1 < (l1.length : Int) := of_decide_eq_true (by first | (with_reducible assumption) | assumption)
            obtain ⟨ad122, e122, hx122_0, hx122_1, hx122_2⟩ := at_T68 HR1.out x5_1 p122 q122
            cases e122
            replace hx122_0 := (HB.out.cell (World.block_lt_of_cell? w _ hx122_0)).trans hx122_0
            replace hx122_1 := (HB.out.cell (World.block_lt_of_cell? w _ hx122_1)).trans hx122_1
            replace hx122_2 := (HB.out.cell (World.block_lt_of_cell? w _ hx122_2)).trans hx122_2
            replace p122 := eq_true p122
            replace q122 := eq_true q122
            have p123 : 0 ≤ (x5_1 : Int) := of_decide_eq_true (by first | (with_reducible assumption) | assumption)
            have q123 : x5_1 < (l1.length : Int) := of_decide_eq_true (by first | (with_reducible assumption) | assumption)
            obtain ⟨ad123, e123, hx123_0, hx123_1, hx123_2⟩ := at_T68 HR1.out x5_1 p123 q123
            obtain rfl : ad122 = ad123 := (by injection e123)
            replace hx123_0 := (HB.out.cell (World.block_lt_of_cell? w _ hx123_0)).trans hx123_0
            replace hx123_1 := (HB.out.cell (World.block_lt_of_cell? w _ hx123_1)).trans hx123_1
            replace hx123_2 := (HB.out.cell (World.block_lt_of_cell? w _ hx123_2)).trans hx123_2
            replace p123 := eq_true p123
            replace q123 := eq_true q123
            go_wp2_with (first | (go_at_call 30; (with_reducible refine (remitterlaw15_wakes.calls  true _ A6.out (GW_below HG.out (by repeat (first | (with_reducible first | exact HB.out | apply below_alloc | apply pw_below_drewN | apply below_drew1 | apply below_set | exact Aside0.out (by assumption)) | exact HB.out | exact Aside0.out (by assumption))))).mono ?_); rintro e w7 ⟨rfl, hb⟩; have n0_ := Aside0.mk (below_step (by repeat (first | (with_reducible first | exact HB.out | apply below_alloc | apply pw_below_drewN | apply below_drew1) | exact HB.out)) hb); clear HB; have HB := n0_; clear n0_; (try clear hb); (try clear hb2); (try clear hk); (try clear hi)))
            repeat (go_quiet (first | (go_at_call 30; (with_reducible refine (remitterlaw15_wakes.calls  true _ A6.out (GW_below HG.out (by repeat (first | (with_reducible first | exact HB.out | apply below_alloc | apply pw_below_drewN | apply below_drew1 | apply below_set | exact Aside0.out (by assumption)) | exact HB.out | exact Aside0.out (by assumption))))).mono ?_); rintro e w7 ⟨rfl, hb⟩; have n0_ := Aside0.mk (below_step (by repeat (first | (with_reducible first | exact HB.out | apply below_alloc | apply pw_below_drewN | apply below_drew1) | exact HB.out)) hb); clear HB; have HB := n0_; clear n0_; (try clear hb); (try clear hb2); (try clear hk); (try clear hi))); try go_wp2_with (first | (go_at_call 30; (with_reducible refine (remitterlaw15_wakes.calls  true _ A6.out (GW_below HG.out (by repeat (first | (with_reducible first | exact HB.out | apply below_alloc | apply pw_below_drewN | apply below_drew1 | apply below_set | exact Aside0.out (by assumption)) | exact HB.out | exact Aside0.out (by assumption))))).mono ?_); rintro e w7 ⟨rfl, hb⟩; have n0_ := Aside0.mk (below_step (by repeat (first | (with_reducible first | exact HB.out | apply below_alloc | apply pw_below_drewN | apply below_drew1) | exact HB.out)) hb); clear HB; have HB := n0_; clear n0_; (try clear hb); (try clear hb2); (try clear hk); (try clear hi))))
            all_goals first | (go_ret; exact ⟨rfl, by repeat (first | (with_reducible first | exact HB.out | apply below_alloc | apply pw_below_drewN | apply below_drew1) | exact HB.out)⟩) | (exfalso; omega) | (exfalso; simp_all; done)
          · rw [if_neg c5] at H
            have c5b0 : decide (200 < (wrap64 ((((rd_T68 l1 x5_1).f0).size : Int) + (((rd_T68 l1 x5_1).f1).size : Int)))) = false := decide_eq_false c5
            clear c5
            by_cases c8 : x5_1 ≥ 50
            · rw [if_pos c8] at H
              have c8b0 : decide (50 ≤ x5_1) = true := decide_eq_true c8
              clear c8
              replace H := Option.bind_eq_some_iff.mp H
              obtain ⟨t125, A90, H⟩ := H
              replace H : (some t125) = some true := H
              have A9 := Aside0.mk A90
              clear A90
              have hr := Option.some.inj H
              subst hr
              have p122 : 0 ≤ (x5_1 : Int) := of_decide_eq_true (by first | (with_reducible assumption) | assumption)
              have q122 : x5_1 < (l1.length : Int) := of_decide_eq_true (by first | (with_reducible assumption) | assumption)
              obtain ⟨ad122, e122, hx122_0, hx122_1, hx122_2⟩ := at_T68 HR1.out x5_1 p122 q122
              cases e122
              replace hx122_0 := (HB.out.cell (World.block_lt_of_cell? w _ hx122_0)).trans hx122_0
              replace hx122_1 := (HB.out.cell (World.block_lt_of_cell? w _ hx122_1)).trans hx122_1
              replace hx122_2 := (HB.out.cell (World.block_lt_of_cell? w _ hx122_2)).trans hx122_2
              replace p122 := eq_true p122
              replace q122 := eq_true q122
              have p123 : 0 ≤ (x5_1 : Int) := of_decide_eq_true (by first | (with_reducible assumption) | assumption)
              have q123 : x5_1 < (l1.length : Int) := of_decide_eq_true (by first | (with_reducible assumption) | assumption)
              obtain ⟨ad123, e123, hx123_0, hx123_1, hx123_2⟩ := at_T68 HR1.out x5_1 p123 q123
              obtain rfl : ad122 = ad123 := (by injection e123)
              replace hx123_0 := (HB.out.cell (World.block_lt_of_cell? w _ hx123_0)).trans hx123_0
              replace hx123_1 := (HB.out.cell (World.block_lt_of_cell? w _ hx123_1)).trans hx123_1
              replace hx123_2 := (HB.out.cell (World.block_lt_of_cell? w _ hx123_2)).trans hx123_2
              replace p123 := eq_true p123
              replace q123 := eq_true q123
              go_wp2_with (first | (go_at_call 30; (with_reducible refine (remitterlaw15_wakes.calls  true _ A9.out (GW_below HG.out (by repeat (first | (with_reducible first | exact HB.out | apply below_alloc | apply pw_below_drewN | apply below_drew1 | apply below_set | exact Aside0.out (by assumption)) | exact HB.out | exact Aside0.out (by assumption))))).mono ?_); rintro e w10 ⟨rfl, hb⟩; have n0_ := Aside0.mk (below_step (by repeat (first | (with_reducible first | exact HB.out | apply below_alloc | apply pw_below_drewN | apply below_drew1) | exact HB.out)) hb); clear HB; have HB := n0_; clear n0_; (try clear hb); (try clear hb2); (try clear hk); (try clear hi)))
              repeat (go_quiet (first | (go_at_call 30; (with_reducible refine (remitterlaw15_wakes.calls  true _ A9.out (GW_below HG.out (by repeat (first | (with_reducible first | exact HB.out | apply below_alloc | apply pw_below_drewN | apply below_drew1 | apply below_set | exact Aside0.out (by assumption)) | exact HB.out | exact Aside0.out (by assumption))))).mono ?_); rintro e w10 ⟨rfl, hb⟩; have n0_ := Aside0.mk (below_step (by repeat (first | (with_reducible first | exact HB.out | apply below_alloc | apply pw_below_drewN | apply below_drew1) | exact HB.out)) hb); clear HB; have HB := n0_; clear n0_; (try clear hb); (try clear hb2); (try clear hk); (try clear hi))); try go_wp2_with (first | (go_at_call 30; (with_reducible refine (remitterlaw15_wakes.calls  true _ A9.out (GW_below HG.out (by repeat (first | (with_reducible first | exact HB.out | apply below_alloc | apply pw_below_drewN | apply below_drew1 | apply below_set | exact Aside0.out (by assumption)) | exact HB.out | exact Aside0.out (by assumption))))).mono ?_); rintro e w10 ⟨rfl, hb⟩; have n0_ := Aside0.mk (below_step (by repeat (first | (with_reducible first | exact HB.out | apply below_alloc | apply pw_below_drewN | apply below_drew1) | exact HB.out)) hb); clear HB; have HB := n0_; clear n0_; (try clear hb); (try clear hb2); (try clear hk); (try clear hi))))
              all_goals first | (go_ret; exact ⟨rfl, by repeat (first | (with_reducible first | exact HB.out | apply below_alloc | apply pw_below_drewN | apply below_drew1) | exact HB.out)⟩) | (exfalso; omega) | (exfalso; simp_all; done)
            · rw [if_neg c8] at H
              have c8b0 : decide (50 ≤ x5_1) = false := decide_eq_false c8
              clear c8
              have H' := Aside0.mk H
              clear H
              have p122 : 0 ≤ (x5_1 : Int) := of_decide_eq_true (by first | (with_reducible assumption) | assumption)
              have q122 : x5_1 < (l1.length : Int) := of_decide_eq_true (by first | (with_reducible assumption) | assumption)
              obtain ⟨ad122, e122, hx122_0, hx122_1, hx122_2⟩ := at_T68 HR1.out x5_1 p122 q122
              cases e122
              replace hx122_0 := (HB.out.cell (World.block_lt_of_cell? w _ hx122_0)).trans hx122_0
              replace hx122_1 := (HB.out.cell (World.block_lt_of_cell? w _ hx122_1)).trans hx122_1
              replace hx122_2 := (HB.out.cell (World.block_lt_of_cell? w _ hx122_2)).trans hx122_2
              replace p122 := eq_true p122
              replace q122 := eq_true q122
              have p123 : 0 ≤ (x5_1 : Int) := of_decide_eq_true (by first | (with_reducible assumption) | assumption)
              have q123 : x5_1 < (l1.length : Int) := of_decide_eq_true (by first | (with_reducible assumption) | assumption)
              obtain ⟨ad123, e123, hx123_0, hx123_1, hx123_2⟩ := at_T68 HR1.out x5_1 p123 q123
              obtain rfl : ad122 = ad123 := (by injection e123)
              replace hx123_0 := (HB.out.cell (World.block_lt_of_cell? w _ hx123_0)).trans hx123_0
              replace hx123_1 := (HB.out.cell (World.block_lt_of_cell? w _ hx123_1)).trans hx123_1
              replace hx123_2 := (HB.out.cell (World.block_lt_of_cell? w _ hx123_2)).trans hx123_2
              replace p123 := eq_true p123
              replace q123 := eq_true q123
              go_wp2
              repeat (go_quiet (fail); try go_wp2)
              go_roundg k1
              case measure => have := HK1.out; omega
              case rel => exact ⟨(wrap64 (x5_1 + 1)), (by first | rfl | (simp; done) | (simp [*]; done) | exact congrArg Value.bool (Go.Proofs.YtkklccccjmipkaaDoor.GLib.not_isEmpty _) | exact congrArg Value.bool (Go.Proofs.YtkklccccjmipkaaDoor.GLib.not_isEmpty _).symm), H', ⟨by have := HK1.out; omega⟩, ⟨by repeat (first | (with_reducible first | exact HB.out | apply below_alloc | apply pw_below_drewN | apply below_drew1) | exact HB.out)⟩⟩
        · rw [if_neg c4] at H
          exact absurd H (by simp)
      · rw [if_neg c3] at H
        have c3b0 : decide (x5_1 < (l1.length : Int)) = false := decide_eq_false c3
        clear c3
        by_cases c11 : (a0.size : Int) > 5000
        · rw [if_pos c11] at H
          have c11b0 : decide (5000 < (a0.size : Int)) = true := decide_eq_true c11
          have c11b1 : decide (5000 < a0.size) = true := decide_eq_true (by omega)
          clear c11
          replace H := Option.bind_eq_some_iff.mp H
          obtain ⟨t126, A120, H⟩ := H
          replace H : (some t126) = some true := H
          have A12 := Aside0.mk A120
          clear A120
          have hr := Option.some.inj H
          subst hr
          go_wp2_with (first | (go_at_call 30; (with_reducible refine (remitterlaw15_wakes.calls  true _ A12.out (GW_below HG.out (by repeat (first | (with_reducible first | exact HB.out | apply below_alloc | apply pw_below_drewN | apply below_drew1 | apply below_set | exact Aside0.out (by assumption)) | exact HB.out | exact Aside0.out (by assumption))))).mono ?_); rintro e w13 ⟨rfl, hb⟩; have n0_ := Aside0.mk (below_step (by repeat (first | (with_reducible first | exact HB.out | apply below_alloc | apply pw_below_drewN | apply below_drew1) | exact HB.out)) hb); clear HB; have HB := n0_; clear n0_; (try clear hb); (try clear hb2); (try clear hk); (try clear hi)))
          repeat (go_quiet (first | (go_at_call 30; (with_reducible refine (remitterlaw15_wakes.calls  true _ A12.out (GW_below HG.out (by repeat (first | (with_reducible first | exact HB.out | apply below_alloc | apply pw_below_drewN | apply below_drew1 | apply below_set | exact Aside0.out (by assumption)) | exact HB.out | exact Aside0.out (by assumption))))).mono ?_); rintro e w13 ⟨rfl, hb⟩; have n0_ := Aside0.mk (below_step (by repeat (first | (with_reducible first | exact HB.out | apply below_alloc | apply pw_below_drewN | apply below_drew1) | exact HB.out)) hb); clear HB; have HB := n0_; clear n0_; (try clear hb); (try clear hb2); (try clear hk); (try clear hi))); try go_wp2_with (first | (go_at_call 30; (with_reducible refine (remitterlaw15_wakes.calls  true _ A12.out (GW_below HG.out (by repeat (first | (with_reducible first | exact HB.out | apply below_alloc | apply pw_below_drewN | apply below_drew1 | apply below_set | exact Aside0.out (by assumption)) | exact HB.out | exact Aside0.out (by assumption))))).mono ?_); rintro e w13 ⟨rfl, hb⟩; have n0_ := Aside0.mk (below_step (by repeat (first | (with_reducible first | exact HB.out | apply below_alloc | apply pw_below_drewN | apply below_drew1) | exact HB.out)) hb); clear HB; have HB := n0_; clear n0_; (try clear hb); (try clear hb2); (try clear hk); (try clear hi))))
          all_goals first | (go_ret; exact ⟨rfl, by repeat (first | (with_reducible first | exact HB.out | apply below_alloc | apply pw_below_drewN | apply below_drew1) | exact HB.out)⟩) | (exfalso; omega) | (exfalso; simp_all; done)
        · rw [if_neg c11] at H
          have c11b0 : decide (5000 < (a0.size : Int)) = false := decide_eq_false c11
          have c11b1 : decide (5000 < a0.size) = false := decide_eq_false (by omega)
          clear c11
          replace H := Option.bind_eq_some_iff.mp H
          obtain ⟨⟨t127, t128⟩, A140, H⟩ := H
          replace H : (if t128 = 0 then ((lines_Read.f t127).bind fun bt129 => (if bt129.2.2 = 0 then (remitterlaw15_LinesBack.j1 k1 a0 l1 bt129.1 ((bt129.1.length : Int) != (l1.length : Int))) else (remitterlaw15_LinesBack.j1 k1 a0 l1 bt129.1 true))) else (remitterlaw15_LinesBack.j3 k1 a0)) = some true := H
          have A14 := Aside0.mk A140
          clear A140
          have HC15 := Aside0.mk H
          clear H
          go_upto_if 54 with (first | (go_at_call 36; (with_reducible refine (lines_Write.calls _ _ l1 t127 t128 _ ?side1 ?side2 A14.out (GW_below HG.out (by repeat (first | (with_reducible first | exact HB.out | apply below_alloc | apply pw_below_drewN | apply below_drew1 | apply below_set | exact Aside0.out (by assumption)) | exact HB.out | exact Aside0.out (by assumption))))).mono ?_); (case side1 => repeat (first | exact (Kd.C_below HR1.out HB.out) | (with_reducible refine Kd.C_alloc ?_ _) | (with_reducible refine Kd.C_drewN ?_ _) | (with_reducible refine Kd.C_drew ?_))); (case side2 => exact HC1.out); rintro e w16 ⟨rfl, hb⟩; have n0_ := Aside0.mk (below_step (by repeat (first | (with_reducible first | exact HB.out | apply below_alloc | apply pw_below_drewN | apply below_drew1) | exact HB.out)) hb); clear HB; have HB := n0_; clear n0_; (try clear hb); (try clear hb2); (try clear hk); (try clear hi)))
          repeat (go_quiet (first | (go_at_call 36; (with_reducible refine (lines_Write.calls _ _ l1 t127 t128 _ ?side1 ?side2 A14.out (GW_below HG.out (by repeat (first | (with_reducible first | exact HB.out | apply below_alloc | apply pw_below_drewN | apply below_drew1 | apply below_set | exact Aside0.out (by assumption)) | exact HB.out | exact Aside0.out (by assumption))))).mono ?_); (case side1 => repeat (first | exact (Kd.C_below HR1.out HB.out) | (with_reducible refine Kd.C_alloc ?_ _) | (with_reducible refine Kd.C_drewN ?_ _) | (with_reducible refine Kd.C_drew ?_))); (case side2 => exact HC1.out); rintro e w16 ⟨rfl, hb⟩; have n0_ := Aside0.mk (below_step (by repeat (first | (with_reducible first | exact HB.out | apply below_alloc | apply pw_below_drewN | apply below_drew1) | exact HB.out)) hb); clear HB; have HB := n0_; clear n0_; (try clear hb); (try clear hb2); (try clear hk); (try clear hi))); go_upto_if 54 with (first | (go_at_call 36; (with_reducible refine (lines_Write.calls _ _ l1 t127 t128 _ ?side1 ?side2 A14.out (GW_below HG.out (by repeat (first | (with_reducible first | exact HB.out | apply below_alloc | apply pw_below_drewN | apply below_drew1 | apply below_set | exact Aside0.out (by assumption)) | exact HB.out | exact Aside0.out (by assumption))))).mono ?_); (case side1 => repeat (first | exact (Kd.C_below HR1.out HB.out) | (with_reducible refine Kd.C_alloc ?_ _) | (with_reducible refine Kd.C_drewN ?_ _) | (with_reducible refine Kd.C_drew ?_))); (case side2 => exact HC1.out); rintro e w16 ⟨rfl, hb⟩; have n0_ := Aside0.mk (below_step (by repeat (first | (with_reducible first | exact HB.out | apply below_alloc | apply pw_below_drewN | apply below_drew1) | exact HB.out)) hb); clear HB; have HB := n0_; clear n0_; (try clear hb); (try clear hb2); (try clear hk); (try clear hi))))
          (try simp only [Act.put, List.setIfInBounds_toArray, List.set_cons_zero, List.set_cons_succ])
          go_cut [] (fun wc => ∃ (kq : Nat), Aside0 (remitterlaw15_LinesBack.j3 kq a0 = some true) ∧ Aside0 (kq ≤ k1) ∧ Aside0 (Below w.heap.size w wc))
          case first =>
            have H := HC15.out
            clear HC15
            by_cases c17 : t128 = 0
            · rw [if_pos c17] at H
              have c17b0 : (t128 == 0) = true := beq_iff_eq.mpr c17
              have c17b1 : (t128 != 0) = false := bne_eq_false_iff_eq.mpr c17
              clear c17
              (first | rw [c17b0] | (simp only [i64_w, i32_w]; rw [c17b0]) | skip)
              replace H := Option.bind_eq_some_iff.mp H
              obtain ⟨⟨t129, t130, t131⟩, A180, H⟩ := H
              replace H : (if t131 = 0 then (remitterlaw15_LinesBack.j1 k1 a0 l1 t129 ((t129.length : Int) != (l1.length : Int))) else (remitterlaw15_LinesBack.j1 k1 a0 l1 t129 true)) = some true := H
              have A18 := Aside0.mk A180
              clear A180
              have HC19 := Aside0.mk H
              clear H
              go_upto_region 11 with (first | (go_at_call 31; (with_reducible refine (lines_Read.calls t127 t129 t130 t131 _ A18.out (GW_below HG.out (by repeat (first | (with_reducible first | exact HB.out | apply below_alloc | apply pw_below_drewN | apply below_drew1 | apply below_set | exact Aside0.out (by assumption)) | exact HB.out | exact Aside0.out (by assumption))))).mono ?_); rintro e w20 ⟨v132, rfl, ho0, hb⟩; have n0_ := Aside0.mk (Kd.R_lower ho0 (below_size (by repeat (first | (with_reducible first | exact HB.out | apply below_alloc | apply pw_below_drewN | apply below_drew1) | exact HB.out)))); have n1_ := Aside0.mk (below_step (by repeat (first | (with_reducible first | exact HB.out | apply below_alloc | apply pw_below_drewN | apply below_drew1) | exact HB.out)) hb); clear HB; have HO133 := n0_; have HB := n1_; clear n0_ n1_; (try clear hb); (try clear hb2); (try clear hk); (try clear hi); (try clear ho0)))
              repeat (go_quiet (first | (go_at_call 31; (with_reducible refine (lines_Read.calls t127 t129 t130 t131 _ A18.out (GW_below HG.out (by repeat (first | (with_reducible first | exact HB.out | apply below_alloc | apply pw_below_drewN | apply below_drew1 | apply below_set | exact Aside0.out (by assumption)) | exact HB.out | exact Aside0.out (by assumption))))).mono ?_); rintro e w20 ⟨v132, rfl, ho0, hb⟩; have n0_ := Aside0.mk (Kd.R_lower ho0 (below_size (by repeat (first | (with_reducible first | exact HB.out | apply below_alloc | apply pw_below_drewN | apply below_drew1) | exact HB.out)))); have n1_ := Aside0.mk (below_step (by repeat (first | (with_reducible first | exact HB.out | apply below_alloc | apply pw_below_drewN | apply below_drew1) | exact HB.out)) hb); clear HB; have HO133 := n0_; have HB := n1_; clear n0_ n1_; (try clear hb); (try clear hb2); (try clear hk); (try clear hi); (try clear ho0))); go_upto_region 11 with (first | (go_at_call 31; (with_reducible refine (lines_Read.calls t127 t129 t130 t131 _ A18.out (GW_below HG.out (by repeat (first | (with_reducible first | exact HB.out | apply below_alloc | apply pw_below_drewN | apply below_drew1 | apply below_set | exact Aside0.out (by assumption)) | exact HB.out | exact Aside0.out (by assumption))))).mono ?_); rintro e w20 ⟨v132, rfl, ho0, hb⟩; have n0_ := Aside0.mk (Kd.R_lower ho0 (below_size (by repeat (first | (with_reducible first | exact HB.out | apply below_alloc | apply pw_below_drewN | apply below_drew1) | exact HB.out)))); have n1_ := Aside0.mk (below_step (by repeat (first | (with_reducible first | exact HB.out | apply below_alloc | apply pw_below_drewN | apply below_drew1) | exact HB.out)) hb); clear HB; have HO133 := n0_; have HB := n1_; clear n0_ n1_; (try clear hb); (try clear hb2); (try clear hk); (try clear hi); (try clear ho0))))
              (try simp only [Act.put, List.setIfInBounds_toArray, List.set_cons_zero, List.set_cons_succ])
              go_cut [69] (fun v69 wc => ∃ (kq : Nat) (x69_18 : Bool), v69 = .bool x69_18 ∧ Aside0 (remitterlaw15_LinesBack.j1 kq a0 l1 t129 x69_18 = some true) ∧ Aside0 (kq ≤ k1) ∧ Aside0 (Kd.R k68 68 wc w.heap.size (fun _ => True) v132 t129) ∧ Aside0 (Below w.heap.size w wc))
              case first =>
                have H := HC19.out
                clear HC19
                by_cases c21 : t131 = 0
                · rw [if_pos c21] at H
                  have c21b0 : (t131 == 0) = true := beq_iff_eq.mpr c21
                  have c21b1 : (t131 != 0) = false := bne_eq_false_iff_eq.mpr c21
                  clear c21
                  (first | rw [c21b0] | (simp only [i64_w, i32_w]; rw [c21b0]) | skip)
                  have H' := Aside0.mk H
                  clear H
                  obtain ⟨Ao22, co22, eo22⟩ := Kd.R_slice HO133.out
                  subst eo22
                  go_wp2
                  repeat (go_quiet (fail); try go_wp2)
                  go_meet
                  case rel => exact ⟨_, (((t129.length : Int) != (l1.length : Int))), (by first | rfl | (simp; done) | (simp [*]; done) | exact congrArg Value.bool (Go.Proofs.YtkklccccjmipkaaDoor.GLib.not_isEmpty _) | exact congrArg Value.bool (Go.Proofs.YtkklccccjmipkaaDoor.GLib.not_isEmpty _).symm), H', ⟨by have := HK1.out; first | omega | exact Nat.le_refl _⟩, ⟨by (with_reducible repeat (first | apply Kd.R_alloc | apply Kd.R_drewN | apply Kd.R_drew)); exact HO133.out⟩, ⟨by repeat (first | (with_reducible first | exact HB.out | apply below_alloc | apply pw_below_drewN | apply below_drew1) | exact HB.out)⟩⟩
                · rw [if_neg c21] at H
                  have c21b0 : (t131 == 0) = false := beq_eq_false_iff_ne.mpr c21
                  have c21b1 : (t131 != 0) = true := bne_iff_ne.mpr c21
                  (first | rw [c21b0] | (simp only [i64_w, i32_w]; rw [c21b0]) | skip)
                  have H' := Aside0.mk H
                  clear H
                  go_wp2
                  repeat (go_quiet (fail); try go_wp2)
                  go_meet
                  case rel => exact ⟨_, (true), (by first | rfl | (simp; done) | (simp [*]; done) | exact congrArg Value.bool (Go.Proofs.YtkklccccjmipkaaDoor.GLib.not_isEmpty _) | exact congrArg Value.bool (Go.Proofs.YtkklccccjmipkaaDoor.GLib.not_isEmpty _).symm), H', ⟨by have := HK1.out; first | omega | exact Nat.le_refl _⟩, ⟨by (with_reducible repeat (first | apply Kd.R_alloc | apply Kd.R_drewN | apply Kd.R_drew)); exact HO133.out⟩, ⟨by repeat (first | (with_reducible first | exact HB.out | apply below_alloc | apply pw_below_drewN | apply below_drew1) | exact HB.out)⟩⟩
              case rest =>
                clear HC19
                try clear c1
                try clear p1
                try clear q1
                try clear hx1
                try clear c2
                try clear p2
                try clear c3
                try clear c3b0
                try clear c4
                try clear c4b0
                try clear c5
                try clear c5b0
                try clear p6
                try clear c8
                try clear c8b0
                try clear c11
                try clear c11b0
                try clear c11b1
                try clear p12
                try clear q12
                try clear hx12
                try clear c17
                try clear c17b0
                try clear c17b1
                try clear c21
                try clear c21b0
                try clear c21b1
                try clear hx122_0
                try clear hx122_1
                try clear hx122_2
                try clear hx123_0
                try clear hx123_1
                try clear hx123_2
                try clear p122
                try clear p123
                try clear p2
                try clear q122
                try clear q123
                obtain ⟨kq, x69_18, rfl, HA, HJ18, HO_8, HB⟩ := hcut
                cases kq with
                | zero => exact absurd HA.out (by simp [remitterlaw15_LinesBack.j1])
                | succ kj18 =>
                  have H := HA.out
                  clear HA
                  simp only [remitterlaw15_LinesBack.j1] at H
                  by_cases c23 : x69_18 = true
                  · subst c23
                    have H1 : (some false) = some true := by rw [if_pos rfl] at H; exact H
                    clear H
                    have H := H1
                    clear H1
                    cases H
                  · replace c23 := Bool.eq_false_iff.mpr c23
                    subst c23
                    have H1 : (remitterlaw15_LinesBack.l1 kj18 a0 l1 t129 0) = some true := by rw [if_neg (show ¬ (false = true) by decide)] at H; exact H
                    clear H
                    have H := H1
                    clear H1
                    have H' := Aside0.mk H
                    clear H
                    go_wp2
                    repeat (go_quiet (fail); try go_wp2)
                    go_loopg [11] kj18 (fun kq v11 w' => ∃ (x11_3 : Int), v11 = .int .i64 x11_3 ∧ Aside0 (remitterlaw15_LinesBack.l1 kq a0 l1 t129 x11_3 = some true) ∧ Aside0 (kq ≤ kj18) ∧ Aside0 (Kd.R k68 68 w' w.heap.size (fun _ => True) v132 t129) ∧ Aside0 (Below w.heap.size w w'))
                    case atStart => exact ⟨(0), (by first | rfl | (simp; done) | (simp [*]; done) | exact congrArg Value.bool (Go.Proofs.YtkklccccjmipkaaDoor.GLib.not_isEmpty _) | exact congrArg Value.bool (Go.Proofs.YtkklccccjmipkaaDoor.GLib.not_isEmpty _).symm), H', ⟨Nat.le_refl _⟩, ⟨by (with_reducible repeat (first | apply Kd.R_alloc | apply Kd.R_drewN | apply Kd.R_drew)); exact HO_8.out⟩, ⟨by repeat (first | (with_reducible first | exact HB.out | apply below_alloc | apply pw_below_drewN | apply below_drew1) | exact HB.out)⟩⟩
                    case round =>
                      clear H'
                      try clear c1
                      try clear p1
                      try clear q1
                      try clear hx1
                      try clear c2
                      try clear p2
                      try clear c3
                      try clear c3b0
                      try clear c4
                      try clear c4b0
                      try clear c5
                      try clear c5b0
                      try clear p6
                      try clear c8
                      try clear c8b0
                      try clear c11
                      try clear c11b0
                      try clear c11b1
                      try clear p12
                      try clear q12
                      try clear hx12
                      try clear c17
                      try clear c17b0
                      try clear c17b1
                      try clear c21
                      try clear c21b0
                      try clear c21b1
                      try clear c23
                      try clear hx122_0
                      try clear hx122_1
                      try clear hx122_2
                      try clear hx123_0
                      try clear hx123_1
                      try clear hx123_2
                      try clear p1
                      try clear p12
                      try clear p122
                      try clear p123
                      try clear p2
                      try clear p6
                      try clear q1
                      try clear q12
                      try clear q122
                      try clear q123
                      obtain ⟨x11_3, rfl, HA, HK3, HO_8, HB⟩ := hrel
                      cases gk with
                      | zero => exact absurd HA.out (by simp [remitterlaw15_LinesBack.l1])
                      | succ k3 =>
                        have H := HA.out
                        clear HA
                        simp only [remitterlaw15_LinesBack.l1] at H
                        by_cases c24 : x11_3 < (l1.length : Int)
                        · rw [if_pos c24] at H
                          have c24b0 : decide (x11_3 < (l1.length : Int)) = true := decide_eq_true c24
                          clear c24
                          by_cases c25 : 0 ≤ x11_3
                          · rw [if_pos c25] at H
                            have c25b0 : decide (0 ≤ x11_3) = true := decide_eq_true c25
                            clear c25
                            by_cases c26 : x11_3 < (t129.length : Int)
                            · rw [if_pos c26] at H
                              have c26b0 : decide (x11_3 < (t129.length : Int)) = true := decide_eq_true c26
                              clear c26
                              by_cases c27 : ((rd_T68 t129 x11_3).f0).toList = ((rd_T68 l1 x11_3).f0).toList
                              · rw [if_pos c27] at H
                                have c27b0 : (((rd_T68 t129 x11_3).f0).toList == ((rd_T68 l1 x11_3).f0).toList) = true := beq_iff_eq.mpr c27
                                have c27b1 : (((rd_T68 t129 x11_3).f0).toList != ((rd_T68 l1 x11_3).f0).toList) = false := bne_eq_false_iff_eq.mpr c27
                                clear c27
                                by_cases c28 : ((rd_T68 t129 x11_3).f1).toList = ((rd_T68 l1 x11_3).f1).toList
                                · rw [if_pos c28] at H
                                  have c28b0 : (((rd_T68 t129 x11_3).f1).toList == ((rd_T68 l1 x11_3).f1).toList) = true := beq_iff_eq.mpr c28
                                  have c28b1 : (((rd_T68 t129 x11_3).f1).toList != ((rd_T68 l1 x11_3).f1).toList) = false := bne_eq_false_iff_eq.mpr c28
                                  clear c28
                                  have H' := Aside0.mk H
                                  clear H
                                  obtain ⟨Ao29, co29, eo29⟩ := Kd.R_slice HO_8.out
                                  subst eo29
                                  have p134 : 0 ≤ (x11_3 : Int) := of_decide_eq_true (by first | (with_reducible assumption) | assumption)
                                  have q134 : x11_3 < (t129.length : Int) := of_decide_eq_true (by first | (with_reducible assumption) | assumption)
                                  obtain ⟨ad134, e134, hx134_0, hx134_1, hx134_2⟩ := at_T68 (Kd.R_reads' HO_8.out).2.2 x11_3 p134 q134
                                  cases e134
                                  replace p134 := eq_true p134
                                  replace q134 := eq_true q134
                                  have p135 : 0 ≤ (x11_3 : Int) := of_decide_eq_true (by first | (with_reducible assumption) | assumption)
                                  have q135 : x11_3 < (l1.length : Int) := of_decide_eq_true (by first | (with_reducible assumption) | assumption)
                                  obtain ⟨ad135, e135, hx135_0, hx135_1, hx135_2⟩ := at_T68 HR1.out x11_3 p135 q135
                                  cases e135
                                  replace hx135_0 := (HB.out.cell (World.block_lt_of_cell? w _ hx135_0)).trans hx135_0
                                  replace hx135_1 := (HB.out.cell (World.block_lt_of_cell? w _ hx135_1)).trans hx135_1
                                  replace hx135_2 := (HB.out.cell (World.block_lt_of_cell? w _ hx135_2)).trans hx135_2
                                  replace p135 := eq_true p135
                                  replace q135 := eq_true q135
                                  have p136 : 0 ≤ (x11_3 : Int) := of_decide_eq_true (by first | (with_reducible assumption) | assumption)
                                  have q136 : x11_3 < (t129.length : Int) := of_decide_eq_true (by first | (with_reducible assumption) | assumption)
                                  obtain ⟨ad136, e136, hx136_0, hx136_1, hx136_2⟩ := at_T68 (Kd.R_reads' HO_8.out).2.2 x11_3 p136 q136
                                  obtain rfl : ad134 = ad136 := (by injection e136)
                                  replace p136 := eq_true p136
                                  replace q136 := eq_true q136
                                  have p137 : 0 ≤ (x11_3 : Int) := of_decide_eq_true (by first | (with_reducible assumption) | assumption)
                                  have q137 : x11_3 < (l1.length : Int) := of_decide_eq_true (by first | (with_reducible assumption) | assumption)
                                  obtain ⟨ad137, e137, hx137_0, hx137_1, hx137_2⟩ := at_T68 HR1.out x11_3 p137 q137
                                  obtain rfl : ad135 = ad137 := (by injection e137)
                                  replace hx137_0 := (HB.out.cell (World.block_lt_of_cell? w _ hx137_0)).trans hx137_0
                                  replace hx137_1 := (HB.out.cell (World.block_lt_of_cell? w _ hx137_1)).trans hx137_1
                                  replace hx137_2 := (HB.out.cell (World.block_lt_of_cell? w _ hx137_2)).trans hx137_2
                                  replace p137 := eq_true p137
                                  replace q137 := eq_true q137
                                  go_wp2
                                  repeat (go_quiet (fail); try go_wp2)
                                  go_roundg k3
                                  case measure => have := HK1.out; have := HJ18.out; have := HK3.out; omega
                                  case rel => exact ⟨(wrap64 (x11_3 + 1)), (by first | rfl | (simp; done) | (simp [*]; done) | exact congrArg Value.bool (Go.Proofs.YtkklccccjmipkaaDoor.GLib.not_isEmpty _) | exact congrArg Value.bool (Go.Proofs.YtkklccccjmipkaaDoor.GLib.not_isEmpty _).symm), H', ⟨by have := HK1.out; have := HJ18.out; have := HK3.out; omega⟩, ⟨by (with_reducible repeat (first | apply Kd.R_alloc | apply Kd.R_drewN | apply Kd.R_drew)); exact HO_8.out⟩, ⟨by repeat (first | (with_reducible first | exact HB.out | apply below_alloc | apply pw_below_drewN | apply below_drew1) | exact HB.out)⟩⟩
                                · rw [if_neg c28] at H
                                  have c28b0 : (((rd_T68 t129 x11_3).f1).toList == ((rd_T68 l1 x11_3).f1).toList) = false := beq_eq_false_iff_ne.mpr c28
                                  have c28b1 : (((rd_T68 t129 x11_3).f1).toList != ((rd_T68 l1 x11_3).f1).toList) = true := bne_iff_ne.mpr c28
                                  cases H
                              · rw [if_neg c27] at H
                                have c27b0 : (((rd_T68 t129 x11_3).f0).toList == ((rd_T68 l1 x11_3).f0).toList) = false := beq_eq_false_iff_ne.mpr c27
                                have c27b1 : (((rd_T68 t129 x11_3).f0).toList != ((rd_T68 l1 x11_3).f0).toList) = true := bne_iff_ne.mpr c27
                                cases H
                            · rw [if_neg c26] at H
                              exact absurd H (by simp)
                          · rw [if_neg c25] at H
                            exact absurd H (by simp)
                        · rw [if_neg c24] at H
                          have c24b0 : decide (x11_3 < (l1.length : Int)) = false := decide_eq_false c24
                          clear c24
                          have H' := Aside0.mk H
                          clear H
                          go_wp2
                          repeat (go_quiet (fail); try go_wp2)
                          go_meet
                          case rel => exact ⟨_, H', ⟨by have := HK1.out; have := HJ18.out; have := HK3.out; first | omega | exact Nat.le_refl _⟩, ⟨by repeat (first | (with_reducible first | exact HB.out | apply below_alloc | apply pw_below_drewN | apply below_drew1) | exact HB.out)⟩⟩
            · rw [if_neg c17] at H
              have c17b0 : (t128 == 0) = false := beq_eq_false_iff_ne.mpr c17
              have c17b1 : (t128 != 0) = true := bne_iff_ne.mpr c17
              (first | rw [c17b0] | (simp only [i64_w, i32_w]; rw [c17b0]) | skip)
              have H' := Aside0.mk H
              clear H
              go_wp2
              repeat (go_quiet (fail); try go_wp2)
              go_meet
              case rel => exact ⟨_, H', ⟨by have := HK1.out; first | omega | exact Nat.le_refl _⟩, ⟨by repeat (first | (with_reducible first | exact HB.out | apply below_alloc | apply pw_below_drewN | apply below_drew1) | exact HB.out)⟩⟩
          case rest =>
            clear HC15
            try clear c1
            try clear p1
            try clear q1
            try clear hx1
            try clear c2
            try clear p2
            try clear c3
            try clear c3b0
            try clear c4
            try clear c4b0
            try clear c5
            try clear c5b0
            try clear p6
            try clear c8
            try clear c8b0
            try clear c11
            try clear c11b0
            try clear c11b1
            try clear p12
            try clear q12
            try clear hx12
            try clear p13
            try clear q13
            try clear hx13
            try clear c17
            try clear c17b0
            try clear c17b1
            try clear c21
            try clear c21b0
            try clear c21b1
            try clear c23
            try clear c24
            try clear c24b0
            try clear c25
            try clear c25b0
            try clear c26
            try clear c26b0
            try clear c27
            try clear c27b0
            try clear c27b1
            try clear c28
            try clear c28b0
            try clear c28b1
            try clear hx122_0
            try clear hx122_1
            try clear hx122_2
            try clear hx123_0
            try clear hx123_1
            try clear hx123_2
            try clear hx134_0
            try clear hx134_1
            try clear hx134_2
            try clear hx135_0
            try clear hx135_1
            try clear hx135_2
            try clear hx136_0
            try clear hx136_1
            try clear hx136_2
            try clear hx137_0
            try clear hx137_1
            try clear hx137_2
            try clear p1
            try clear p12
            try clear p122
            try clear p123
            try clear p134
            try clear p135
            try clear p136
            try clear p137
            try clear p2
            try clear p6
            try clear q1
            try clear q12
            try clear q122
            try clear q123
            try clear q134
            try clear q135
            try clear q136
            try clear q137
            obtain ⟨kq, HA, HJ14, HB⟩ := hcut
            cases kq with
            | zero => exact absurd HA.out (by simp [remitterlaw15_LinesBack.j3])
            | succ kj14 =>
              have H := HA.out
              clear HA
              simp only [remitterlaw15_LinesBack.j3] at H
              replace H := Option.bind_eq_some_iff.mp H
              obtain ⟨⟨t138, t139, t140⟩, A320, H⟩ := H
              replace H : (if t140 = 0 then ((lines_Write.f t138).bind fun bt144 => (remitterlaw15_LinesBack.l2 kj14 a0 t138 t139 bt144.1 bt144.2 0)) else (if (t138.length : Int) = 0 then (if t139 ≥ 0 then (if t139 ≤ (a0.size : Int) then ((remitterlaw15_wakes.f).bind fun t143 => (some t143)) else (some false)) else (some false)) else (some false))) = some true := H
              have A32 := Aside0.mk A320
              clear A320
              by_cases c33 : t140 = 0
              · rw [if_pos c33] at H
                have c33b0 : (t140 == 0) = true := beq_iff_eq.mpr c33
                have c33b1 : (t140 != 0) = false := bne_eq_false_iff_eq.mpr c33
                clear c33
                replace H := Option.bind_eq_some_iff.mp H
                obtain ⟨⟨t144, t145⟩, A340, H⟩ := H
                replace H : (remitterlaw15_LinesBack.l2 kj14 a0 t138 t139 t144 t145 0) = some true := H
                have A34 := Aside0.mk A340
                clear A340
                have H' := Aside0.mk H
                clear H
                go_wp2_with (first | (go_at_call 31; (with_reducible refine (lines_Read.calls a0 t138 t139 t140 _ A32.out (GW_below HG.out (by repeat (first | (with_reducible first | exact HB.out | apply below_alloc | apply pw_below_drewN | apply below_drew1 | apply below_set | exact Aside0.out (by assumption)) | exact HB.out | exact Aside0.out (by assumption))))).mono ?_); rintro e w35 ⟨v141, rfl, ho0, hb⟩; have n0_ := Aside0.mk (Kd.R_lower ho0 (below_size (by repeat (first | (with_reducible first | exact HB.out | apply below_alloc | apply pw_below_drewN | apply below_drew1) | exact HB.out)))); have n1_ := Aside0.mk (below_step (by repeat (first | (with_reducible first | exact HB.out | apply below_alloc | apply pw_below_drewN | apply below_drew1) | exact HB.out)) hb); clear HB; have HO142 := n0_; have HB := n1_; clear n0_ n1_; (try clear hb); (try clear hb2); (try clear hk); (try clear hi); (try clear ho0); obtain ⟨Ao36, co36, eo36⟩ := Kd.R_slice HO142.out; subst eo36) | (go_at_call 36; (with_reducible refine (lines_Write.calls _ _ t138 t144 t145 _ ?side1 ?side2 A34.out (GW_below HG.out (by repeat (first | (with_reducible first | exact HB.out | apply below_alloc | apply pw_below_drewN | apply below_drew1 | apply below_set | exact Aside0.out (by assumption)) | exact HB.out | exact Aside0.out (by assumption))))).mono ?_); (case side1 => repeat (first | exact (Kd.R_reads' HO142.out).2.2 | (with_reducible refine Kd.C_alloc ?_ _) | (with_reducible refine Kd.C_drewN ?_ _) | (with_reducible refine Kd.C_drew ?_))); (case side2 => exact (Kd.R_reads' HO142.out).2.1); rintro e w37 ⟨rfl, hb⟩; have n0_ := Aside0.mk (Kd.R_below (by (with_reducible repeat (first | apply Kd.R_alloc | apply Kd.R_drewN | apply Kd.R_drew)); exact HO142.out) hb); have n1_ := Aside0.mk (below_step (by repeat (first | (with_reducible first | exact HB.out | apply below_alloc | apply pw_below_drewN | apply below_drew1) | exact HB.out)) hb); clear HO142; clear HB; have HO142 := n0_; have HB := n1_; clear n0_ n1_; (try clear hb); (try clear hb2); (try clear hk); (try clear hi)))
                repeat (go_quiet (first | (go_at_call 31; (with_reducible refine (lines_Read.calls a0 t138 t139 t140 _ A32.out (GW_below HG.out (by repeat (first | (with_reducible first | exact HB.out | apply below_alloc | apply pw_below_drewN | apply below_drew1 | apply below_set | exact Aside0.out (by assumption)) | exact HB.out | exact Aside0.out (by assumption))))).mono ?_); rintro e w35 ⟨v141, rfl, ho0, hb⟩; have n0_ := Aside0.mk (Kd.R_lower ho0 (below_size (by repeat (first | (with_reducible first | exact HB.out | apply below_alloc | apply pw_below_drewN | apply below_drew1) | exact HB.out)))); have n1_ := Aside0.mk (below_step (by repeat (first | (with_reducible first | exact HB.out | apply below_alloc | apply pw_below_drewN | apply below_drew1) | exact HB.out)) hb); clear HB; have HO142 := n0_; have HB := n1_; clear n0_ n1_; (try clear hb); (try clear hb2); (try clear hk); (try clear hi); (try clear ho0); obtain ⟨Ao36, co36, eo36⟩ := Kd.R_slice HO142.out; subst eo36) | (go_at_call 36; (with_reducible refine (lines_Write.calls _ _ t138 t144 t145 _ ?side1 ?side2 A34.out (GW_below HG.out (by repeat (first | (with_reducible first | exact HB.out | apply below_alloc | apply pw_below_drewN | apply below_drew1 | apply below_set | exact Aside0.out (by assumption)) | exact HB.out | exact Aside0.out (by assumption))))).mono ?_); (case side1 => repeat (first | exact (Kd.R_reads' HO142.out).2.2 | (with_reducible refine Kd.C_alloc ?_ _) | (with_reducible refine Kd.C_drewN ?_ _) | (with_reducible refine Kd.C_drew ?_))); (case side2 => exact (Kd.R_reads' HO142.out).2.1); rintro e w37 ⟨rfl, hb⟩; have n0_ := Aside0.mk (Kd.R_below (by (with_reducible repeat (first | apply Kd.R_alloc | apply Kd.R_drewN | apply Kd.R_drew)); exact HO142.out) hb); have n1_ := Aside0.mk (below_step (by repeat (first | (with_reducible first | exact HB.out | apply below_alloc | apply pw_below_drewN | apply below_drew1) | exact HB.out)) hb); clear HO142; clear HB; have HO142 := n0_; have HB := n1_; clear n0_ n1_; (try clear hb); (try clear hb2); (try clear hk); (try clear hi))); try go_wp2_with (first | (go_at_call 31; (with_reducible refine (lines_Read.calls a0 t138 t139 t140 _ A32.out (GW_below HG.out (by repeat (first | (with_reducible first | exact HB.out | apply below_alloc | apply pw_below_drewN | apply below_drew1 | apply below_set | exact Aside0.out (by assumption)) | exact HB.out | exact Aside0.out (by assumption))))).mono ?_); rintro e w35 ⟨v141, rfl, ho0, hb⟩; have n0_ := Aside0.mk (Kd.R_lower ho0 (below_size (by repeat (first | (with_reducible first | exact HB.out | apply below_alloc | apply pw_below_drewN | apply below_drew1) | exact HB.out)))); have n1_ := Aside0.mk (below_step (by repeat (first | (with_reducible first | exact HB.out | apply below_alloc | apply pw_below_drewN | apply below_drew1) | exact HB.out)) hb); clear HB; have HO142 := n0_; have HB := n1_; clear n0_ n1_; (try clear hb); (try clear hb2); (try clear hk); (try clear hi); (try clear ho0); obtain ⟨Ao36, co36, eo36⟩ := Kd.R_slice HO142.out; subst eo36) | (go_at_call 36; (with_reducible refine (lines_Write.calls _ _ t138 t144 t145 _ ?side1 ?side2 A34.out (GW_below HG.out (by repeat (first | (with_reducible first | exact HB.out | apply below_alloc | apply pw_below_drewN | apply below_drew1 | apply below_set | exact Aside0.out (by assumption)) | exact HB.out | exact Aside0.out (by assumption))))).mono ?_); (case side1 => repeat (first | exact (Kd.R_reads' HO142.out).2.2 | (with_reducible refine Kd.C_alloc ?_ _) | (with_reducible refine Kd.C_drewN ?_ _) | (with_reducible refine Kd.C_drew ?_))); (case side2 => exact (Kd.R_reads' HO142.out).2.1); rintro e w37 ⟨rfl, hb⟩; have n0_ := Aside0.mk (Kd.R_below (by (with_reducible repeat (first | apply Kd.R_alloc | apply Kd.R_drewN | apply Kd.R_drew)); exact HO142.out) hb); have n1_ := Aside0.mk (below_step (by repeat (first | (with_reducible first | exact HB.out | apply below_alloc | apply pw_below_drewN | apply below_drew1) | exact HB.out)) hb); clear HO142; clear HB; have HO142 := n0_; have HB := n1_; clear n0_ n1_; (try clear hb); (try clear hb2); (try clear hk); (try clear hi))))
                go_loopg [17] kj14 (fun kq v17 w' => ∃ (x17_3 : Int), v17 = .int .i64 x17_3 ∧ Aside0 (remitterlaw15_LinesBack.l2 kq a0 t138 t139 t144 t145 x17_3 = some true) ∧ Aside0 (kq ≤ kj14) ∧ Aside0 (Kd.R k68 68 w' w.heap.size (fun _ => True) (.slice Ao36 t138.length co36) t138) ∧ Aside0 (Below w.heap.size w w'))
                case atStart => exact ⟨(0), (by first | rfl | (simp; done) | (simp [*]; done) | exact congrArg Value.bool (Go.Proofs.YtkklccccjmipkaaDoor.GLib.not_isEmpty _) | exact congrArg Value.bool (Go.Proofs.YtkklccccjmipkaaDoor.GLib.not_isEmpty _).symm), H', ⟨Nat.le_refl _⟩, ⟨by (with_reducible repeat (first | apply Kd.R_alloc | apply Kd.R_drewN | apply Kd.R_drew)); exact HO142.out⟩, ⟨by repeat (first | (with_reducible first | exact HB.out | apply below_alloc | apply pw_below_drewN | apply below_drew1) | exact HB.out)⟩⟩
                case round =>
                  clear H'
                  try clear c1
                  try clear p1
                  try clear q1
                  try clear hx1
                  try clear c2
                  try clear p2
                  try clear c3
                  try clear c3b0
                  try clear c4
                  try clear c4b0
                  try clear c5
                  try clear c5b0
                  try clear p6
                  try clear c8
                  try clear c8b0
                  try clear c11
                  try clear c11b0
                  try clear c11b1
                  try clear p12
                  try clear q12
                  try clear hx12
                  try clear p13
                  try clear q13
                  try clear hx13
                  try clear c17
                  try clear c17b0
                  try clear c17b1
                  try clear c21
                  try clear c21b0
                  try clear c21b1
                  try clear c23
                  try clear c24
                  try clear c24b0
                  try clear c25
                  try clear c25b0
                  try clear c26
                  try clear c26b0
                  try clear c27
                  try clear c27b0
                  try clear c27b1
                  try clear c28
                  try clear c28b0
                  try clear c28b1
                  try clear c33
                  try clear c33b0
                  try clear c33b1
                  try clear hx122_0
                  try clear hx122_1
                  try clear hx122_2
                  try clear hx123_0
                  try clear hx123_1
                  try clear hx123_2
                  try clear hx134_0
                  try clear hx134_1
                  try clear hx134_2
                  try clear hx135_0
                  try clear hx135_1
                  try clear hx135_2
                  try clear hx136_0
                  try clear hx136_1
                  try clear hx136_2
                  try clear hx137_0
                  try clear hx137_1
                  try clear hx137_2
                  try clear p1
                  try clear p12
                  try clear p122
                  try clear p123
                  try clear p13
                  try clear p134
                  try clear p135
                  try clear p136
                  try clear p137
                  try clear p2
                  try clear p6
                  try clear q1
                  try clear q12
                  try clear q122
                  try clear q123
                  try clear q13
                  try clear q134
                  try clear q135
                  try clear q136
                  try clear q137
                  obtain ⟨x17_3, rfl, HA, HK3, HO_12, HB⟩ := hrel
                  cases gk with
                  | zero => exact absurd HA.out (by simp [remitterlaw15_LinesBack.l2])
                  | succ k3 =>
                    have H := HA.out
                    clear HA
                    simp only [remitterlaw15_LinesBack.l2] at H
                    by_cases c38 : x17_3 < (t138.length : Int)
                    · rw [if_pos c38] at H
                      have c38b0 : decide (x17_3 < (t138.length : Int)) = true := decide_eq_true c38
                      clear c38
                      by_cases c39 : 0 ≤ x17_3
                      · rw [if_pos c39] at H
                        have c39b0 : decide (0 ≤ x17_3) = true := decide_eq_true c39
                        clear c39
                        by_cases c40 : ((rd_T68 t138 x17_3).f2) < 0
                        · rw [if_pos c40] at H
                          have c40b0 : decide (((rd_T68 t138 x17_3).f2) < 0) = true := decide_eq_true c40
                          clear c40
                          cases H
                        · rw [if_neg c40] at H
                          have c40b0 : decide (((rd_T68 t138 x17_3).f2) < 0) = false := decide_eq_false c40
                          clear c40
                          by_cases c41 : (wrap64 ((wrap64 (((rd_T68 t138 x17_3).f2) + 1)) + (((rd_T68 t138 x17_3).f0).size : Int))) > (a0.size : Int)
                          · rw [if_pos c41] at H
                            have c41b0 : decide ((a0.size : Int) < (wrap64 ((wrap64 (((rd_T68 t138 x17_3).f2) + 1)) + (((rd_T68 t138 x17_3).f0).size : Int)))) = true := decide_eq_true c41
                            clear c41
                            cases H
                          · rw [if_neg c41] at H
                            have c41b0 : decide ((a0.size : Int) < (wrap64 ((wrap64 (((rd_T68 t138 x17_3).f2) + 1)) + (((rd_T68 t138 x17_3).f0).size : Int)))) = false := decide_eq_false c41
                            clear c41
                            by_cases c42 : 0 ≤ ((rd_T68 t138 x17_3).f2)
                            · rw [if_pos c42] at H
                              have c42b0 : decide (0 ≤ ((rd_T68 t138 x17_3).f2)) = true := decide_eq_true c42
                              clear c42
                              by_cases c43 : ((rd_T68 t138 x17_3).f2) < (a0.size : Int)
                              · rw [if_pos c43] at H
                                have c43b0 : decide (((rd_T68 t138 x17_3).f2) < (a0.size : Int)) = true := decide_eq_true c43
                                clear c43
                                by_cases c45 : (bt a0 ((rd_T68 t138 x17_3).f2)) = 58
                                · rw [if_pos c45] at H
                                  have c45b0 : ((bt a0 ((rd_T68 t138 x17_3).f2)) == 58) = true := beq_iff_eq.mpr c45
                                  have c45b1 : ((bt a0 ((rd_T68 t138 x17_3).f2)) != 58) = false := bne_eq_false_iff_eq.mpr c45
                                  clear c45
                                  obtain ⟨ji46, hji46⟩ : ∃ j_ : Int, (wrap64 (((rd_T68 t138 x17_3).f2) + 1)) = j_ := ⟨_, rfl⟩
                                  replace H : (if 0 ≤ (ji46) then (if (ji46) ≤ (wrap64 ((ji46) + (((rd_T68 t138 x17_3).f0).size : Int))) then (if (wrap64 ((ji46) + (((rd_T68 t138 x17_3).f0).size : Int))) ≤ (a0.size : Int) then (if (a0.extract ((ji46) : Int).toNat ((wrap64 ((ji46) + (((rd_T68 t138 x17_3).f0).size : Int))) : Int).toNat).toList = ((rd_T68 t138 x17_3).f0).toList then (if x17_3 > 0 then (if 0 ≤ (wrap64 (x17_3 - 1)) then (if (wrap64 (x17_3 - 1)) < (t138.length : Int) then (if ((rd_T68 t138 (wrap64 (x17_3 - 1))).f2) ≥ ((rd_T68 t138 x17_3).f2) then (some false) else (remitterlaw15_LinesBack.l2 k3 a0 t138 t139 t144 t145 (wrap64 (x17_3 + 1)))) else (none)) else (none)) else (remitterlaw15_LinesBack.l2 k3 a0 t138 t139 t144 t145 (wrap64 (x17_3 + 1)))) else (some false)) else (none)) else (none)) else (none)) = some true := by first | (rw [hji46] at H; exact H) | (simp only [hji46] at H ⊢; exact H)
                                  (try rw [hji46] at c41b0)
                                  have hji46w : (IntKind.i64.wrap (((rd_T68 t138 x17_3).f2) + 1)) = ji46 := (i64_w _).trans hji46
                                  by_cases c47 : 0 ≤ (ji46)
                                  · rw [if_pos c47] at H
                                    have c47b0 := eq_true c47
                                    have c47b1 : decide (0 ≤ (ji46)) = true := decide_eq_true c47
                                    clear c47
                                    by_cases c48 : (ji46) ≤ (wrap64 ((ji46) + (((rd_T68 t138 x17_3).f0).size : Int)))
                                    · rw [if_pos c48] at H
                                      have c48b0 := eq_true c48
                                      have c48b1 : decide ((ji46) ≤ (wrap64 ((ji46) + (((rd_T68 t138 x17_3).f0).size : Int)))) = true := decide_eq_true c48
                                      by_cases c49 : (wrap64 ((ji46) + (((rd_T68 t138 x17_3).f0).size : Int))) ≤ (a0.size : Int)
                                      · rw [if_pos c49] at H
                                        have c49b0 := eq_true c49
                                        have c49b1 : decide ((wrap64 ((ji46) + (((rd_T68 t138 x17_3).f0).size : Int))) ≤ (a0.size : Int)) = true := decide_eq_true c49
                                        by_cases c50 : (a0.extract ((ji46) : Int).toNat ((wrap64 ((ji46) + (((rd_T68 t138 x17_3).f0).size : Int))) : Int).toNat).toList = ((rd_T68 t138 x17_3).f0).toList
                                        · rw [if_pos c50] at H
                                          have c50b0 : ((a0.extract ((ji46) : Int).toNat ((wrap64 ((ji46) + (((rd_T68 t138 x17_3).f0).size : Int))) : Int).toNat).toList == ((rd_T68 t138 x17_3).f0).toList) = true := beq_iff_eq.mpr c50
                                          have c50b1 : ((a0.extract ((ji46) : Int).toNat ((wrap64 ((ji46) + (((rd_T68 t138 x17_3).f0).size : Int))) : Int).toNat).toList != ((rd_T68 t138 x17_3).f0).toList) = false := bne_eq_false_iff_eq.mpr c50
                                          clear c50
                                          by_cases c51 : x17_3 > 0
                                          · rw [if_pos c51] at H
                                            have c51b0 : decide (0 < x17_3) = true := decide_eq_true c51
                                            clear c51
                                            obtain ⟨ji52, hji52⟩ : ∃ j_ : Int, (wrap64 (x17_3 - 1)) = j_ := ⟨_, rfl⟩
                                            replace H : (if 0 ≤ (ji52) then (if (ji52) < (t138.length : Int) then (if ((rd_T68 t138 (ji52)).f2) ≥ ((rd_T68 t138 x17_3).f2) then (some false) else (remitterlaw15_LinesBack.l2 k3 a0 t138 t139 t144 t145 (wrap64 (x17_3 + 1)))) else (none)) else (none)) = some true := by first | (rw [hji52] at H; exact H) | (simp only [hji52] at H ⊢; exact H)
                                            have hji52w : (IntKind.i64.wrap (x17_3 - 1)) = ji52 := (i64_w _).trans hji52
                                            by_cases c53 : 0 ≤ (ji52)
                                            · rw [if_pos c53] at H
                                              have c53b0 : decide (0 ≤ (ji52)) = true := decide_eq_true c53
                                              clear c53
                                              by_cases c54 : (ji52) < (t138.length : Int)
                                              · rw [if_pos c54] at H
                                                have c54b0 : decide ((ji52) < (t138.length : Int)) = true := decide_eq_true c54
                                                clear c54
                                                by_cases c55 : ((rd_T68 t138 (ji52)).f2) ≥ ((rd_T68 t138 x17_3).f2)
                                                · rw [if_pos c55] at H
                                                  have c55b0 : decide (((rd_T68 t138 x17_3).f2) ≤ ((rd_T68 t138 (ji52)).f2)) = true := decide_eq_true c55
                                                  clear c55
                                                  cases H
                                                · rw [if_neg c55] at H
                                                  have c55b0 : decide (((rd_T68 t138 x17_3).f2) ≤ ((rd_T68 t138 (ji52)).f2)) = false := decide_eq_false c55
                                                  clear c55
                                                  have H' := Aside0.mk H
                                                  clear H
                                                  have p146 : 0 ≤ (x17_3 : Int) := of_decide_eq_true (by first | (with_reducible assumption) | assumption)
                                                  have q146 : x17_3 < (t138.length : Int) := of_decide_eq_true (by first | (with_reducible assumption) | assumption)
                                                  obtain ⟨ad146, e146, hx146_0, hx146_1, hx146_2⟩ := at_T68 (Kd.R_reads' HO_12.out).2.2 x17_3 p146 q146
                                                  cases e146
                                                  replace p146 := eq_true p146
                                                  replace q146 := eq_true q146
                                                  have p147 : 0 ≤ (x17_3 : Int) := of_decide_eq_true (by first | (with_reducible assumption) | assumption)
                                                  have q147 : x17_3 < (t138.length : Int) := of_decide_eq_true (by first | (with_reducible assumption) | assumption)
                                                  obtain ⟨ad147, e147, hx147_0, hx147_1, hx147_2⟩ := at_T68 (Kd.R_reads' HO_12.out).2.2 x17_3 p147 q147
                                                  obtain rfl : ad146 = ad147 := (by injection e147)
                                                  replace p147 := eq_true p147
                                                  replace q147 := eq_true q147
                                                  have p44 : 0 ≤ (((rd_T68 t138 x17_3).f2) : Int) := of_decide_eq_true (by first | (with_reducible assumption) | assumption)
                                                  have q44 : ((rd_T68 t138 x17_3).f2) < (a0.size : Int) := of_decide_eq_true (by first | (with_reducible assumption) | assumption)
                                                  have hx44 := bt_at a0 ((rd_T68 t138 x17_3).f2)
                                                  replace p44 := eq_true p44
                                                  replace q44 := eq_true q44
                                                  have p148 : 0 ≤ (x17_3 : Int) := of_decide_eq_true (by first | (with_reducible assumption) | assumption)
                                                  have q148 : x17_3 < (t138.length : Int) := of_decide_eq_true (by first | (with_reducible assumption) | assumption)
                                                  obtain ⟨ad148, e148, hx148_0, hx148_1, hx148_2⟩ := at_T68 (Kd.R_reads' HO_12.out).2.2 x17_3 p148 q148
                                                  obtain rfl : ad146 = ad148 := (by injection e148)
                                                  replace p148 := eq_true p148
                                                  replace q148 := eq_true q148
                                                  have p149 : 0 ≤ (x17_3 : Int) := of_decide_eq_true (by first | (with_reducible assumption) | assumption)
                                                  have q149 : x17_3 < (t138.length : Int) := of_decide_eq_true (by first | (with_reducible assumption) | assumption)
                                                  obtain ⟨ad149, e149, hx149_0, hx149_1, hx149_2⟩ := at_T68 (Kd.R_reads' HO_12.out).2.2 x17_3 p149 q149
                                                  obtain rfl : ad146 = ad149 := (by injection e149)
                                                  replace p149 := eq_true p149
                                                  replace q149 := eq_true q149
                                                  have p150 : 0 ≤ ((ji52) : Int) := of_decide_eq_true (by first | (with_reducible assumption) | assumption)
                                                  have q150 : (ji52) < (t138.length : Int) := of_decide_eq_true (by first | (with_reducible assumption) | assumption)
                                                  obtain ⟨ad150, e150, hx150_0, hx150_1, hx150_2⟩ := at_T68 (Kd.R_reads' HO_12.out).2.2 (ji52) p150 q150
                                                  obtain rfl : ad146 = ad150 := (by injection e150)
                                                  replace p150 := eq_true p150
                                                  replace q150 := eq_true q150
                                                  go_wp2
                                                  repeat (go_quiet (fail); try go_wp2)
                                                  go_roundg k3
                                                  case measure => have := HK1.out; have := HJ14.out; have := HK3.out; omega
                                                  case rel => exact ⟨(wrap64 (x17_3 + 1)), (by first | rfl | (simp; done) | (simp [*]; done) | exact congrArg Value.bool (Go.Proofs.YtkklccccjmipkaaDoor.GLib.not_isEmpty _) | exact congrArg Value.bool (Go.Proofs.YtkklccccjmipkaaDoor.GLib.not_isEmpty _).symm), H', ⟨by have := HK1.out; have := HJ14.out; have := HK3.out; omega⟩, ⟨by (with_reducible repeat (first | apply Kd.R_alloc | apply Kd.R_drewN | apply Kd.R_drew)); exact HO_12.out⟩, ⟨by repeat (first | (with_reducible first | exact HB.out | apply below_alloc | apply pw_below_drewN | apply below_drew1) | exact HB.out)⟩⟩
                                              · rw [if_neg c54] at H
                                                exact absurd H (by simp)
                                            · rw [if_neg c53] at H
                                              exact absurd H (by simp)
                                          · rw [if_neg c51] at H
                                            have c51b0 : decide (0 < x17_3) = false := decide_eq_false c51
                                            clear c51
                                            have H' := Aside0.mk H
                                            clear H
                                            have p146 : 0 ≤ (x17_3 : Int) := of_decide_eq_true (by first | (with_reducible assumption) | assumption)
                                            have q146 : x17_3 < (t138.length : Int) := of_decide_eq_true (by first | (with_reducible assumption) | assumption)
                                            obtain ⟨ad146, e146, hx146_0, hx146_1, hx146_2⟩ := at_T68 (Kd.R_reads' HO_12.out).2.2 x17_3 p146 q146
                                            cases e146
                                            replace p146 := eq_true p146
                                            replace q146 := eq_true q146
                                            have p147 : 0 ≤ (x17_3 : Int) := of_decide_eq_true (by first | (with_reducible assumption) | assumption)
                                            have q147 : x17_3 < (t138.length : Int) := of_decide_eq_true (by first | (with_reducible assumption) | assumption)
                                            obtain ⟨ad147, e147, hx147_0, hx147_1, hx147_2⟩ := at_T68 (Kd.R_reads' HO_12.out).2.2 x17_3 p147 q147
                                            obtain rfl : ad146 = ad147 := (by injection e147)
                                            replace p147 := eq_true p147
                                            replace q147 := eq_true q147
                                            have p44 : 0 ≤ (((rd_T68 t138 x17_3).f2) : Int) := of_decide_eq_true (by first | (with_reducible assumption) | assumption)
                                            have q44 : ((rd_T68 t138 x17_3).f2) < (a0.size : Int) := of_decide_eq_true (by first | (with_reducible assumption) | assumption)
                                            have hx44 := bt_at a0 ((rd_T68 t138 x17_3).f2)
                                            replace p44 := eq_true p44
                                            replace q44 := eq_true q44
                                            have p148 : 0 ≤ (x17_3 : Int) := of_decide_eq_true (by first | (with_reducible assumption) | assumption)
                                            have q148 : x17_3 < (t138.length : Int) := of_decide_eq_true (by first | (with_reducible assumption) | assumption)
                                            obtain ⟨ad148, e148, hx148_0, hx148_1, hx148_2⟩ := at_T68 (Kd.R_reads' HO_12.out).2.2 x17_3 p148 q148
                                            obtain rfl : ad146 = ad148 := (by injection e148)
                                            replace p148 := eq_true p148
                                            replace q148 := eq_true q148
                                            have p149 : 0 ≤ (x17_3 : Int) := of_decide_eq_true (by first | (with_reducible assumption) | assumption)
                                            have q149 : x17_3 < (t138.length : Int) := of_decide_eq_true (by first | (with_reducible assumption) | assumption)
                                            obtain ⟨ad149, e149, hx149_0, hx149_1, hx149_2⟩ := at_T68 (Kd.R_reads' HO_12.out).2.2 x17_3 p149 q149
                                            obtain rfl : ad146 = ad149 := (by injection e149)
                                            replace p149 := eq_true p149
                                            replace q149 := eq_true q149
                                            go_wp2
                                            repeat (go_quiet (fail); try go_wp2)
                                            go_roundg k3
                                            case measure => have := HK1.out; have := HJ14.out; have := HK3.out; omega
                                            case rel => exact ⟨(wrap64 (x17_3 + 1)), (by first | rfl | (simp; done) | (simp [*]; done) | exact congrArg Value.bool (Go.Proofs.YtkklccccjmipkaaDoor.GLib.not_isEmpty _) | exact congrArg Value.bool (Go.Proofs.YtkklccccjmipkaaDoor.GLib.not_isEmpty _).symm), H', ⟨by have := HK1.out; have := HJ14.out; have := HK3.out; omega⟩, ⟨by (with_reducible repeat (first | apply Kd.R_alloc | apply Kd.R_drewN | apply Kd.R_drew)); exact HO_12.out⟩, ⟨by repeat (first | (with_reducible first | exact HB.out | apply below_alloc | apply pw_below_drewN | apply below_drew1) | exact HB.out)⟩⟩
                                        · rw [if_neg c50] at H
                                          have c50b0 : ((a0.extract ((ji46) : Int).toNat ((wrap64 ((ji46) + (((rd_T68 t138 x17_3).f0).size : Int))) : Int).toNat).toList == ((rd_T68 t138 x17_3).f0).toList) = false := beq_eq_false_iff_ne.mpr c50
                                          have c50b1 : ((a0.extract ((ji46) : Int).toNat ((wrap64 ((ji46) + (((rd_T68 t138 x17_3).f0).size : Int))) : Int).toNat).toList != ((rd_T68 t138 x17_3).f0).toList) = true := bne_iff_ne.mpr c50
                                          cases H
                                      · rw [if_neg c49] at H
                                        exact absurd H (by simp)
                                    · rw [if_neg c48] at H
                                      exact absurd H (by simp)
                                  · rw [if_neg c47] at H
                                    exact absurd H (by simp)
                                · rw [if_neg c45] at H
                                  have c45b0 : ((bt a0 ((rd_T68 t138 x17_3).f2)) == 58) = false := beq_eq_false_iff_ne.mpr c45
                                  have c45b1 : ((bt a0 ((rd_T68 t138 x17_3).f2)) != 58) = true := bne_iff_ne.mpr c45
                                  cases H
                              · rw [if_neg c43] at H
                                exact absurd H (by simp)
                            · rw [if_neg c42] at H
                              exact absurd H (by simp)
                      · rw [if_neg c39] at H
                        exact absurd H (by simp)
                    · rw [if_neg c38] at H
                      have c38b0 : decide (x17_3 < (t138.length : Int)) = false := decide_eq_false c38
                      clear c38
                      by_cases c56 : t145 = 0
                      · rw [if_pos c56] at H
                        have c56b0 : (t145 == 0) = true := beq_iff_eq.mpr c56
                        have c56b1 : (t145 != 0) = false := bne_eq_false_iff_eq.mpr c56
                        clear c56
                        by_cases c57 : t144.toList = a0.toList
                        · rw [if_pos c57] at H
                          have c57b0 : (t144.toList == a0.toList) = true := beq_iff_eq.mpr c57
                          have c57b1 : (t144.toList != a0.toList) = false := bne_eq_false_iff_eq.mpr c57
                          clear c57
                          by_cases c58 : t139 = (a0.size : Int)
                          · rw [if_pos c58] at H
                            have c58b0 : (t139 == (a0.size : Int)) = true := beq_iff_eq.mpr c58
                            have c58b1 : (t139 != (a0.size : Int)) = false := bne_eq_false_iff_eq.mpr c58
                            clear c58
                            replace H := Option.bind_eq_some_iff.mp H
                            obtain ⟨t151, A590, H⟩ := H
                            replace H : (some t151) = some true := H
                            have A59 := Aside0.mk A590
                            clear A590
                            have hr := Option.some.inj H
                            subst hr
                            go_wp2_with (first | (go_at_call 30; (with_reducible refine (remitterlaw15_wakes.calls  true _ A59.out (GW_below HG.out (by repeat (first | (with_reducible first | exact HB.out | apply below_alloc | apply pw_below_drewN | apply below_drew1 | apply below_set | exact Aside0.out (by assumption)) | exact HB.out | exact Aside0.out (by assumption))))).mono ?_); rintro e w60 ⟨rfl, hb⟩; have n0_ := Aside0.mk (Kd.R_below (by (with_reducible repeat (first | apply Kd.R_alloc | apply Kd.R_drewN | apply Kd.R_drew)); exact HO_12.out) hb); have n1_ := Aside0.mk (below_step (by repeat (first | (with_reducible first | exact HB.out | apply below_alloc | apply pw_below_drewN | apply below_drew1) | exact HB.out)) hb); clear HO_12; clear HB; have HO_12 := n0_; have HB := n1_; clear n0_ n1_; (try clear hb); (try clear hb2); (try clear hk); (try clear hi)))
                            repeat (go_quiet (first | (go_at_call 30; (with_reducible refine (remitterlaw15_wakes.calls  true _ A59.out (GW_below HG.out (by repeat (first | (with_reducible first | exact HB.out | apply below_alloc | apply pw_below_drewN | apply below_drew1 | apply below_set | exact Aside0.out (by assumption)) | exact HB.out | exact Aside0.out (by assumption))))).mono ?_); rintro e w60 ⟨rfl, hb⟩; have n0_ := Aside0.mk (Kd.R_below (by (with_reducible repeat (first | apply Kd.R_alloc | apply Kd.R_drewN | apply Kd.R_drew)); exact HO_12.out) hb); have n1_ := Aside0.mk (below_step (by repeat (first | (with_reducible first | exact HB.out | apply below_alloc | apply pw_below_drewN | apply below_drew1) | exact HB.out)) hb); clear HO_12; clear HB; have HO_12 := n0_; have HB := n1_; clear n0_ n1_; (try clear hb); (try clear hb2); (try clear hk); (try clear hi))); try go_wp2_with (first | (go_at_call 30; (with_reducible refine (remitterlaw15_wakes.calls  true _ A59.out (GW_below HG.out (by repeat (first | (with_reducible first | exact HB.out | apply below_alloc | apply pw_below_drewN | apply below_drew1 | apply below_set | exact Aside0.out (by assumption)) | exact HB.out | exact Aside0.out (by assumption))))).mono ?_); rintro e w60 ⟨rfl, hb⟩; have n0_ := Aside0.mk (Kd.R_below (by (with_reducible repeat (first | apply Kd.R_alloc | apply Kd.R_drewN | apply Kd.R_drew)); exact HO_12.out) hb); have n1_ := Aside0.mk (below_step (by repeat (first | (with_reducible first | exact HB.out | apply below_alloc | apply pw_below_drewN | apply below_drew1) | exact HB.out)) hb); clear HO_12; clear HB; have HO_12 := n0_; have HB := n1_; clear n0_ n1_; (try clear hb); (try clear hb2); (try clear hk); (try clear hi))))
                            all_goals first | (go_ret; exact ⟨rfl, by repeat (first | (with_reducible first | exact HB.out | apply below_alloc | apply pw_below_drewN | apply below_drew1) | exact HB.out)⟩) | (exfalso; omega) | (exfalso; simp_all; done)
                          · rw [if_neg c58] at H
                            have c58b0 : (t139 == (a0.size : Int)) = false := beq_eq_false_iff_ne.mpr c58
                            have c58b1 : (t139 != (a0.size : Int)) = true := bne_iff_ne.mpr c58
                            cases H
                        · rw [if_neg c57] at H
                          have c57b0 : (t144.toList == a0.toList) = false := beq_eq_false_iff_ne.mpr c57
                          have c57b1 : (t144.toList != a0.toList) = true := bne_iff_ne.mpr c57
                          cases H
                      · rw [if_neg c56] at H
                        have c56b0 : (t145 == 0) = false := beq_eq_false_iff_ne.mpr c56
                        have c56b1 : (t145 != 0) = true := bne_iff_ne.mpr c56
                        cases H
              · rw [if_neg c33] at H
                have c33b0 : (t140 == 0) = false := beq_eq_false_iff_ne.mpr c33
                have c33b1 : (t140 != 0) = true := bne_iff_ne.mpr c33
                by_cases c61 : (t138.length : Int) = 0
                · rw [if_pos c61] at H
                  have c61b0 : ((t138.length : Int) == 0) = true := beq_iff_eq.mpr c61
                  have c61b1 : ((t138.length : Int) != 0) = false := bne_eq_false_iff_eq.mpr c61
                  clear c61
                  by_cases c62 : t139 ≥ 0
                  · rw [if_pos c62] at H
                    have c62b0 : decide (0 ≤ t139) = true := decide_eq_true c62
                    clear c62
                    by_cases c63 : t139 ≤ (a0.size : Int)
                    · rw [if_pos c63] at H
                      have c63b0 : decide (t139 ≤ (a0.size : Int)) = true := decide_eq_true c63
                      clear c63
                      replace H := Option.bind_eq_some_iff.mp H
                      obtain ⟨t143, A640, H⟩ := H
                      replace H : (some t143) = some true := H
                      have A64 := Aside0.mk A640
                      clear A640
                      have hr := Option.some.inj H
                      subst hr
                      go_wp2_with (first | (go_at_call 31; (with_reducible refine (lines_Read.calls a0 t138 t139 t140 _ A32.out (GW_below HG.out (by repeat (first | (with_reducible first | exact HB.out | apply below_alloc | apply pw_below_drewN | apply below_drew1 | apply below_set | exact Aside0.out (by assumption)) | exact HB.out | exact Aside0.out (by assumption))))).mono ?_); rintro e w65 ⟨v141, rfl, ho0, hb⟩; have n0_ := Aside0.mk (Kd.R_lower ho0 (below_size (by repeat (first | (with_reducible first | exact HB.out | apply below_alloc | apply pw_below_drewN | apply below_drew1) | exact HB.out)))); have n1_ := Aside0.mk (below_step (by repeat (first | (with_reducible first | exact HB.out | apply below_alloc | apply pw_below_drewN | apply below_drew1) | exact HB.out)) hb); clear HB; have HO142 := n0_; have HB := n1_; clear n0_ n1_; (try clear hb); (try clear hb2); (try clear hk); (try clear hi); (try clear ho0); obtain ⟨Ao66, co66, eo66⟩ := Kd.R_slice HO142.out; subst eo66) | (go_at_call 30; (with_reducible refine (remitterlaw15_wakes.calls  true _ A64.out (GW_below HG.out (by repeat (first | (with_reducible first | exact HB.out | apply below_alloc | apply pw_below_drewN | apply below_drew1 | apply below_set | exact Aside0.out (by assumption)) | exact HB.out | exact Aside0.out (by assumption))))).mono ?_); rintro e w67 ⟨rfl, hb⟩; have n0_ := Aside0.mk (Kd.R_below (by (with_reducible repeat (first | apply Kd.R_alloc | apply Kd.R_drewN | apply Kd.R_drew)); exact HO142.out) hb); have n1_ := Aside0.mk (below_step (by repeat (first | (with_reducible first | exact HB.out | apply below_alloc | apply pw_below_drewN | apply below_drew1) | exact HB.out)) hb); clear HO142; clear HB; have HO142 := n0_; have HB := n1_; clear n0_ n1_; (try clear hb); (try clear hb2); (try clear hk); (try clear hi)))
                      repeat (go_quiet (first | (go_at_call 31; (with_reducible refine (lines_Read.calls a0 t138 t139 t140 _ A32.out (GW_below HG.out (by repeat (first | (with_reducible first | exact HB.out | apply below_alloc | apply pw_below_drewN | apply below_drew1 | apply below_set | exact Aside0.out (by assumption)) | exact HB.out | exact Aside0.out (by assumption))))).mono ?_); rintro e w65 ⟨v141, rfl, ho0, hb⟩; have n0_ := Aside0.mk (Kd.R_lower ho0 (below_size (by repeat (first | (with_reducible first | exact HB.out | apply below_alloc | apply pw_below_drewN | apply below_drew1) | exact HB.out)))); have n1_ := Aside0.mk (below_step (by repeat (first | (with_reducible first | exact HB.out | apply below_alloc | apply pw_below_drewN | apply below_drew1) | exact HB.out)) hb); clear HB; have HO142 := n0_; have HB := n1_; clear n0_ n1_; (try clear hb); (try clear hb2); (try clear hk); (try clear hi); (try clear ho0); obtain ⟨Ao66, co66, eo66⟩ := Kd.R_slice HO142.out; subst eo66) | (go_at_call 30; (with_reducible refine (remitterlaw15_wakes.calls  true _ A64.out (GW_below HG.out (by repeat (first | (with_reducible first | exact HB.out | apply below_alloc | apply pw_below_drewN | apply below_drew1 | apply below_set | exact Aside0.out (by assumption)) | exact HB.out | exact Aside0.out (by assumption))))).mono ?_); rintro e w67 ⟨rfl, hb⟩; have n0_ := Aside0.mk (Kd.R_below (by (with_reducible repeat (first | apply Kd.R_alloc | apply Kd.R_drewN | apply Kd.R_drew)); exact HO142.out) hb); have n1_ := Aside0.mk (below_step (by repeat (first | (with_reducible first | exact HB.out | apply below_alloc | apply pw_below_drewN | apply below_drew1) | exact HB.out)) hb); clear HO142; clear HB; have HO142 := n0_; have HB := n1_; clear n0_ n1_; (try clear hb); (try clear hb2); (try clear hk); (try clear hi))); try go_wp2_with (first | (go_at_call 31; (with_reducible refine (lines_Read.calls a0 t138 t139 t140 _ A32.out (GW_below HG.out (by repeat (first | (with_reducible first | exact HB.out | apply below_alloc | apply pw_below_drewN | apply below_drew1 | apply below_set | exact Aside0.out (by assumption)) | exact HB.out | exact Aside0.out (by assumption))))).mono ?_); rintro e w65 ⟨v141, rfl, ho0, hb⟩; have n0_ := Aside0.mk (Kd.R_lower ho0 (below_size (by repeat (first | (with_reducible first | exact HB.out | apply below_alloc | apply pw_below_drewN | apply below_drew1) | exact HB.out)))); have n1_ := Aside0.mk (below_step (by repeat (first | (with_reducible first | exact HB.out | apply below_alloc | apply pw_below_drewN | apply below_drew1) | exact HB.out)) hb); clear HB; have HO142 := n0_; have HB := n1_; clear n0_ n1_; (try clear hb); (try clear hb2); (try clear hk); (try clear hi); (try clear ho0); obtain ⟨Ao66, co66, eo66⟩ := Kd.R_slice HO142.out; subst eo66) | (go_at_call 30; (with_reducible refine (remitterlaw15_wakes.calls  true _ A64.out (GW_below HG.out (by repeat (first | (with_reducible first | exact HB.out | apply below_alloc | apply pw_below_drewN | apply below_drew1 | apply below_set | exact Aside0.out (by assumption)) | exact HB.out | exact Aside0.out (by assumption))))).mono ?_); rintro e w67 ⟨rfl, hb⟩; have n0_ := Aside0.mk (Kd.R_below (by (with_reducible repeat (first | apply Kd.R_alloc | apply Kd.R_drewN | apply Kd.R_drew)); exact HO142.out) hb); have n1_ := Aside0.mk (below_step (by repeat (first | (with_reducible first | exact HB.out | apply below_alloc | apply pw_below_drewN | apply below_drew1) | exact HB.out)) hb); clear HO142; clear HB; have HO142 := n0_; have HB := n1_; clear n0_ n1_; (try clear hb); (try clear hb2); (try clear hk); (try clear hi))))
                      all_goals first | (go_ret; exact ⟨rfl, by repeat (first | (with_reducible first | exact HB.out | apply below_alloc | apply pw_below_drewN | apply below_drew1) | exact HB.out)⟩) | (exfalso; omega) | (exfalso; simp_all; done)
                    · rw [if_neg c63] at H
                      have c63b0 : decide (t139 ≤ (a0.size : Int)) = false := decide_eq_false c63
                      clear c63
                      cases H
                  · rw [if_neg c62] at H
                    have c62b0 : decide (0 ≤ t139) = false := decide_eq_false c62
                    clear c62
                    cases H
                · rw [if_neg c61] at H
                  have c61b0 : ((t138.length : Int) == 0) = false := beq_eq_false_iff_ne.mpr c61
                  have c61b1 : ((t138.length : Int) != 0) = true := bne_iff_ne.mpr c61
                  have c61b2 : ¬ (t138 = []) := fun h_ => c61 (by rw [h_]; rfl)
                  cases H
end Go.Proofs.YtkklccccjmipkaaDoor.PAll

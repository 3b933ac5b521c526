-- Made by this session's wip/tools/gprint.py, which runs the kit's print program; some functions' contracts are proved by hand.
import Derived.Test.YtiadcjdpeegbbaaDoorPAllx0
import Derived.Test.YtiadcjdpeegbbaaDoorPAllx1
import Derived.Test.YtiadcjdpeegbbaaDoorPAllx2
import Derived.Test.YtiadcjdpeegbbaaDoorGMake
namespace Go.Proofs.YtiadcjdpeegbbaaDoor.PAll
open Go.RowKit Go.Proofs.YtiadcjdpeegbbaaDoorW.PrintWords Go.Proofs.YtiadcjdpeegbbaaDoorW.PrintLast Go.Proofs.YtiadcjdpeegbbaaDoorW.PrintMore
attribute [local go_sem] max2_int min2_int max_two min_two max_three min_three max_four min_four   -- for this text's walks alone
set_option linter.unusedVariables false
set_option linter.unusedSimpArgs false

/-! ### remitterlaw07_RefMakes: function 4 -/
mutual
def remitterlaw07_RefMakes.j0 : Nat → Int → ByteArray → Bool → Option (Bool)
  | 0, _, _, _ => none
  | k + 1, x0, x7, x42 => if x42 = true then (some false) else (if 0 ≤ 8 then (if 8 ≤ (x7.size : Int) then (if 9 ≤ 13 then (if 13 ≤ (x7.size : Int) then (if (x7.extract 0 8).size + (x7.extract 9 13).size ≤ 9223372036854775807 then (if 15 ≤ 18 then (if 18 ≤ (x7.size : Int) then (if ((x7.extract 0 8) ++ (x7.extract 9 13)).size + (x7.extract 15 18).size ≤ 9223372036854775807 then (if 20 ≤ 21 then (if 21 ≤ (x7.size : Int) then (if (((x7.extract 0 8) ++ (x7.extract 9 13)) ++ (x7.extract 15 18)).size + (x7.extract 20 21).size ≤ 9223372036854775807 then (remitterlaw07_RefMakes.l0 k x0 x7 ((((x7.extract 0 8) ++ (x7.extract 9 13)) ++ (x7.extract 15 18)) ++ (x7.extract 20 21)) 0 0) else (none)) else (none)) else (none)) else (none)) else (none)) else (none)) else (none)) else (none)) else (none)) else (none)) else (none))
def remitterlaw07_RefMakes.l0 : Nat → Int → ByteArray → ByteArray → Int → Int → Option (Bool)
  | 0, _, _, _, _, _ => none
  | k + 1, x0, x7, x9, x10, x11 => if x11 < (x9.size : Int) then (if 0 ≤ x11 then (if (bt x9 x11) ≥ 97 then (remitterlaw07_RefMakes.l0 k x0 x7 x9 (IntKind.u64.wrap ((IntKind.u64.wrap (16 * x10)) + ((((bt x9 x11) - 97) % 256) + 10))) (wrap64 (x11 + 1))) else (remitterlaw07_RefMakes.l0 k x0 x7 x9 (IntKind.u64.wrap ((IntKind.u64.wrap (16 * x10)) + (((bt x9 x11) - 48) % 256))) (wrap64 (x11 + 1)))) else (none)) else (if x10 = x0 then (if 21 ≤ 23 then (if 23 ≤ (x7.size : Int) then (if (x7.extract 21 23).toList = ([48, 48] : List UInt8) then (if 24 ≤ (x7.size : Int) then (if (x7.extract 24 x7.size).toList = ([48, 48, 48, 48, 48, 48, 48, 48, 48, 48, 48, 48] : List UInt8) then (if 14 < (x7.size : Int) then (if (bt x7 14) = 52 then (if 19 < (x7.size : Int) then (if (bt x7 19) = 56 then ((remitterlaw07_wakes.f).bind fun t138 => (some t138)) else (some false)) else (none)) else (some false)) else (none)) else (some false)) else (none)) else (some false)) else (none)) else (none)) else (some false))
end
def remitterlaw07_RefMakes.f (k : Nat) (a0 : Int) (a1 : Int) (a2 : ByteArray) : Option (Bool) := if (a2.size : Int) > 100 then ((remitterlaw07_wakes.f).bind fun t132 => (some t132)) else ((ref_Make.f a0).bind fun t133 => ((ref_Make.f a1).bind fun t134 => ((remitterlaw07_uetr.f k t133).bind fun t135 => (if t135 = true then (if ((t133.toList == t134.toList) != (a0 == a1)) = true then (remitterlaw07_RefMakes.j0 k a0 t133 true) else ((ref_Check.f a2).bind fun t136 => (if t136 = 0 then ((ref_CheckId.f a2).bind fun t137 => (remitterlaw07_RefMakes.j0 k a0 t133 (t137 != 0))) else (remitterlaw07_RefMakes.j0 k a0 t133 false)))) else (remitterlaw07_RefMakes.j0 k a0 t133 true)))))
theorem remitterlaw07_RefMakes.mono_l : ∀ k, (∀ y0 y1 y2, LeO (remitterlaw07_RefMakes.j0 k y0 y1 y2) (remitterlaw07_RefMakes.j0 (k + 1) y0 y1 y2)) ∧ (∀ y0 y1 y2 y3 y4, LeO (remitterlaw07_RefMakes.l0 k y0 y1 y2 y3 y4) (remitterlaw07_RefMakes.l0 (k + 1) y0 y1 y2 y3 y4))
  | 0 => ⟨fun _ _ _ r h => by simp [remitterlaw07_RefMakes.j0] at h, fun _ _ _ _ _ r h => by simp [remitterlaw07_RefMakes.l0] at h⟩
  | k + 1 => by
    obtain ⟨ih0, ih1⟩ := remitterlaw07_RefMakes.mono_l k
    refine ⟨?_, ?_⟩
    · intro y0 y1 y2
      unfold remitterlaw07_RefMakes.j0
      repeat' first
      | (with_reducible exact ih0 _ _ _)
      | (with_reducible exact ih1 _ _ _ _ _)
      | (with_reducible exact remitterlaw07_uetr.mono _ _)
      | (with_reducible exact LeO.refl _)
      | (with_reducible exact LeO.none _)
      | (with_reducible refine LeO.ite ?_ ?_)
      | (with_reducible refine LeO.bind ?_ (fun _ => ?_))
      | exact ih0 _ _ _
      | exact ih1 _ _ _ _ _
      | exact remitterlaw07_uetr.mono _ _
      | exact LeO.none _
      | refine LeO.ite ?_ ?_
      | refine LeO.bind ?_ (fun _ => ?_)
    · intro y0 y1 y2 y3 y4
      unfold remitterlaw07_RefMakes.l0
      repeat' first
      | (with_reducible exact ih0 _ _ _)
      | (with_reducible exact ih1 _ _ _ _ _)
      | (with_reducible exact remitterlaw07_uetr.mono _ _)
      | (with_reducible exact LeO.refl _)
      | (with_reducible exact LeO.none _)
      | (with_reducible refine LeO.ite ?_ ?_)
      | (with_reducible refine LeO.bind ?_ (fun _ => ?_))
      | exact ih0 _ _ _
      | exact ih1 _ _ _ _ _
      | exact remitterlaw07_uetr.mono _ _
      | exact LeO.none _
      | refine LeO.ite ?_ ?_
      | refine LeO.bind ?_ (fun _ => ?_)
theorem remitterlaw07_RefMakes.mono : ∀ a0 a1 a2 k, LeO (remitterlaw07_RefMakes.f k a0 a1 a2) (remitterlaw07_RefMakes.f (k + 1) a0 a1 a2) := by
  intro a0 a1 a2 k
  obtain ⟨ih0, ih1⟩ := remitterlaw07_RefMakes.mono_l k
  unfold remitterlaw07_RefMakes.f
  repeat' first
      | (with_reducible exact ih0 _ _ _)
      | (with_reducible exact ih1 _ _ _ _ _)
      | (with_reducible exact remitterlaw07_uetr.mono _ _)
      | (with_reducible exact LeO.refl _)
      | (with_reducible exact LeO.none _)
      | (with_reducible refine LeO.ite ?_ ?_)
      | (with_reducible refine LeO.bind ?_ (fun _ => ?_))
      | exact ih0 _ _ _
      | exact ih1 _ _ _ _ _
      | exact remitterlaw07_uetr.mono _ _
      | exact LeO.none _
      | refine LeO.ite ?_ ?_
      | refine LeO.bind ?_ (fun _ => ?_)
set_option maxHeartbeats 8000000 in
set_option maxRecDepth 100000 in
theorem remitterlaw07_RefMakes.calls (k : Nat) (a0 : Int) (a1 : Int) (a2 : ByteArray) (r : Bool) (w : World) (h : remitterlaw07_RefMakes.f k a0 a1 a2 = some r) (hG : GW w) (hGP : GWP w) :
    Calls Tryd.prog 4 #[.int .u64 a0, .int .u64 a1, .string a2] w fun e w' => e = .returned (.bool r) ∧ Below w.heap.size w w' := by
  have HG := Aside0.mk hG
  clear hG
  have HGP := Aside0.mk hGP
  clear hGP
  have HB := Aside0.mk (Below.refl w.heap.size w)
  have H : (if (a2.size : Int) > 100 then ((remitterlaw07_wakes.f).bind fun t132 => (some t132)) else ((ref_Make.f a0).bind fun t133 => ((ref_Make.f a1).bind fun t134 => ((remitterlaw07_uetr.f k t133).bind fun t135 => (if t135 = true then (if ((t133.toList == t134.toList) != (a0 == a1)) = true then (remitterlaw07_RefMakes.j0 k a0 t133 true) else ((ref_Check.f a2).bind fun t136 => (if t136 = 0 then ((ref_CheckId.f a2).bind fun t137 => (remitterlaw07_RefMakes.j0 k a0 t133 (t137 != 0))) else (remitterlaw07_RefMakes.j0 k a0 t133 false)))) else (remitterlaw07_RefMakes.j0 k a0 t133 true)))))) = some r := h
  clear h
  by_cases c4 : (a2.size : Int) > 100
  · rw [if_pos c4] at H
    have c4b0 : decide (100 < (a2.size : Int)) = true := decide_eq_true c4
    have c4b1 : decide (100 < a2.size) = true := decide_eq_true (by omega)
    clear c4
    replace H := Option.bind_eq_some_iff.mp H
    obtain ⟨t132, A50, H⟩ := H
    replace H : (some t132) = some r := H
    have A5 := Aside0.mk A50
    clear A50
    obtain rfl := Option.some.inj H
    go_enter Tryd.func4, Tryd.ntmps4
    go_wp2_with (first | (go_at_call 5; (with_reducible refine (remitterlaw07_wakes.calls  t132 _ A5.out (GW_below HG.out (by repeat (first | (with_reducible first | exact HB.out | apply below_alloc | apply pw_below_drewN | apply below_drew1) | exact HB.out))) (GWP_below HGP.out (by repeat (first | (with_reducible first | exact HB.out | apply below_alloc | apply pw_below_drewN | apply below_drew1) | exact HB.out)))).mono ?_); rintro e w6 ⟨rfl, hb⟩; have n0_ := Aside0.mk (below_step (by repeat (first | (with_reducible first | exact HB.out | apply below_alloc | apply pw_below_drewN | apply below_drew1) | exact HB.out)) hb); clear HB; have HB := n0_; clear n0_; (try clear hb); (try clear hb2); (try clear hk); (try clear hi)))
    repeat (go_quiet (first | (go_at_call 5; (with_reducible refine (remitterlaw07_wakes.calls  t132 _ A5.out (GW_below HG.out (by repeat (first | (with_reducible first | exact HB.out | apply below_alloc | apply pw_below_drewN | apply below_drew1) | exact HB.out))) (GWP_below HGP.out (by repeat (first | (with_reducible first | exact HB.out | apply below_alloc | apply pw_below_drewN | apply below_drew1) | exact HB.out)))).mono ?_); rintro e w6 ⟨rfl, hb⟩; have n0_ := Aside0.mk (below_step (by repeat (first | (with_reducible first | exact HB.out | apply below_alloc | apply pw_below_drewN | apply below_drew1) | exact HB.out)) hb); clear HB; have HB := n0_; clear n0_; (try clear hb); (try clear hb2); (try clear hk); (try clear hi))); try go_wp2_with (first | (go_at_call 5; (with_reducible refine (remitterlaw07_wakes.calls  t132 _ A5.out (GW_below HG.out (by repeat (first | (with_reducible first | exact HB.out | apply below_alloc | apply pw_below_drewN | apply below_drew1) | exact HB.out))) (GWP_below HGP.out (by repeat (first | (with_reducible first | exact HB.out | apply below_alloc | apply pw_below_drewN | apply below_drew1) | exact HB.out)))).mono ?_); rintro e w6 ⟨rfl, hb⟩; have n0_ := Aside0.mk (below_step (by repeat (first | (with_reducible first | exact HB.out | apply below_alloc | apply pw_below_drewN | apply below_drew1) | exact HB.out)) hb); clear HB; have HB := n0_; clear n0_; (try clear hb); (try clear hb2); (try clear hk); (try clear hi))))
    all_goals (first | (exfalso; simp_all; done) | (exfalso; omega) | (go_ret; exact ⟨by first | rfl | (simp [errW_none, errW_some] <;> rfl) | (simp [*, errW_none, errW_some] <;> rfl), by repeat (first | (with_reducible first | exact HB.out | apply below_alloc | apply pw_below_drewN | apply below_drew1) | exact HB.out)⟩))
  · rw [if_neg c4] at H
    have c4b0 : decide (100 < (a2.size : Int)) = false := decide_eq_false c4
    have c4b1 : decide (100 < a2.size) = false := decide_eq_false (by omega)
    clear c4
    replace H := Option.bind_eq_some_iff.mp H
    obtain ⟨t133, A70, H⟩ := H
    replace H : ((ref_Make.f a1).bind fun t134 => ((remitterlaw07_uetr.f k t133).bind fun t135 => (if t135 = true then (if ((t133.toList == t134.toList) != (a0 == a1)) = true then (remitterlaw07_RefMakes.j0 k a0 t133 true) else ((ref_Check.f a2).bind fun t136 => (if t136 = 0 then ((ref_CheckId.f a2).bind fun t137 => (remitterlaw07_RefMakes.j0 k a0 t133 (t137 != 0))) else (remitterlaw07_RefMakes.j0 k a0 t133 false)))) else (remitterlaw07_RefMakes.j0 k a0 t133 true)))) = some r := H
    have A7 := Aside0.mk A70
    clear A70
    replace H := Option.bind_eq_some_iff.mp H
    obtain ⟨t134, A80, H⟩ := H
    replace H : ((remitterlaw07_uetr.f k t133).bind fun t135 => (if t135 = true then (if ((t133.toList == t134.toList) != (a0 == a1)) = true then (remitterlaw07_RefMakes.j0 k a0 t133 true) else ((ref_Check.f a2).bind fun t136 => (if t136 = 0 then ((ref_CheckId.f a2).bind fun t137 => (remitterlaw07_RefMakes.j0 k a0 t133 (t137 != 0))) else (remitterlaw07_RefMakes.j0 k a0 t133 false)))) else (remitterlaw07_RefMakes.j0 k a0 t133 true))) = some r := H
    have A8 := Aside0.mk A80
    clear A80
    have HC9 := Aside0.mk H
    clear H
    go_enter Tryd.func4, Tryd.ntmps4
    go_upto_region 4 with (first | (go_at_call 12; (with_reducible refine (ref_Make.calls a0 t133 _ A7.out (GWP_below HGP.out (by repeat (first | (with_reducible first | exact HB.out | apply below_alloc | apply pw_below_drewN | apply below_drew1) | exact HB.out)))).mono ?_); rintro e w10 ⟨rfl, hb⟩; have n0_ := Aside0.mk (below_step (by repeat (first | (with_reducible first | exact HB.out | apply below_alloc | apply pw_below_drewN | apply below_drew1) | exact HB.out)) hb); clear HB; have HB := n0_; clear n0_; (try clear hb); (try clear hb2); (try clear hk); (try clear hi)) | (go_at_call 12; (with_reducible refine (ref_Make.calls a1 t134 _ A8.out (GWP_below HGP.out (by repeat (first | (with_reducible first | exact HB.out | apply below_alloc | apply pw_below_drewN | apply below_drew1) | exact HB.out)))).mono ?_); rintro e w11 ⟨rfl, hb⟩; have n0_ := Aside0.mk (below_step (by repeat (first | (with_reducible first | exact HB.out | apply below_alloc | apply pw_below_drewN | apply below_drew1) | exact HB.out)) hb); clear HB; have HB := n0_; clear n0_; (try clear hb); (try clear hb2); (try clear hk); (try clear hi)))
    repeat (go_quiet (first | (go_at_call 12; (with_reducible refine (ref_Make.calls a0 t133 _ A7.out (GWP_below HGP.out (by repeat (first | (with_reducible first | exact HB.out | apply below_alloc | apply pw_below_drewN | apply below_drew1) | exact HB.out)))).mono ?_); rintro e w10 ⟨rfl, hb⟩; have n0_ := Aside0.mk (below_step (by repeat (first | (with_reducible first | exact HB.out | apply below_alloc | apply pw_below_drewN | apply below_drew1) | exact HB.out)) hb); clear HB; have HB := n0_; clear n0_; (try clear hb); (try clear hb2); (try clear hk); (try clear hi)) | (go_at_call 12; (with_reducible refine (ref_Make.calls a1 t134 _ A8.out (GWP_below HGP.out (by repeat (first | (with_reducible first | exact HB.out | apply below_alloc | apply pw_below_drewN | apply below_drew1) | exact HB.out)))).mono ?_); rintro e w11 ⟨rfl, hb⟩; have n0_ := Aside0.mk (below_step (by repeat (first | (with_reducible first | exact HB.out | apply below_alloc | apply pw_below_drewN | apply below_drew1) | exact HB.out)) hb); clear HB; have HB := n0_; clear n0_; (try clear hb); (try clear hb2); (try clear hk); (try clear hi))); go_upto_region 4 with (first | (go_at_call 12; (with_reducible refine (ref_Make.calls a0 t133 _ A7.out (GWP_below HGP.out (by repeat (first | (with_reducible first | exact HB.out | apply below_alloc | apply pw_below_drewN | apply below_drew1) | exact HB.out)))).mono ?_); rintro e w10 ⟨rfl, hb⟩; have n0_ := Aside0.mk (below_step (by repeat (first | (with_reducible first | exact HB.out | apply below_alloc | apply pw_below_drewN | apply below_drew1) | exact HB.out)) hb); clear HB; have HB := n0_; clear n0_; (try clear hb); (try clear hb2); (try clear hk); (try clear hi)) | (go_at_call 12; (with_reducible refine (ref_Make.calls a1 t134 _ A8.out (GWP_below HGP.out (by repeat (first | (with_reducible first | exact HB.out | apply below_alloc | apply pw_below_drewN | apply below_drew1) | exact HB.out)))).mono ?_); rintro e w11 ⟨rfl, hb⟩; have n0_ := Aside0.mk (below_step (by repeat (first | (with_reducible first | exact HB.out | apply below_alloc | apply pw_below_drewN | apply below_drew1) | exact HB.out)) hb); clear HB; have HB := n0_; clear n0_; (try clear hb); (try clear hb2); (try clear hk); (try clear hi))))
    (try simp only [Act.put, List.setIfInBounds_toArray, List.set_cons_zero, List.set_cons_succ])
    go_cut [42] (fun v42 wc => ∃ (kq : Nat) (x42_8 : Bool), v42 = .bool x42_8 ∧ Aside0 (remitterlaw07_RefMakes.j0 kq a0 t133 x42_8 = some r) ∧ Aside0 (kq ≤ k) ∧ Aside0 (Below w.heap.size w wc))
    case first =>
      have H := HC9.out
      clear HC9
      replace H := Option.bind_eq_some_iff.mp H
      obtain ⟨t135, A120, H⟩ := H
      replace H : (if t135 = true then (if ((t133.toList == t134.toList) != (a0 == a1)) = true then (remitterlaw07_RefMakes.j0 k a0 t133 true) else ((ref_Check.f a2).bind fun t136 => (if t136 = 0 then ((ref_CheckId.f a2).bind fun t137 => (remitterlaw07_RefMakes.j0 k a0 t133 (t137 != 0))) else (remitterlaw07_RefMakes.j0 k a0 t133 false)))) else (remitterlaw07_RefMakes.j0 k a0 t133 true)) = some r := H
      have A12 := Aside0.mk A120
      clear A120
      by_cases c13 : t135 = true
      · subst c13
        have H1 : (if ((t133.toList == t134.toList) != (a0 == a1)) = true then (remitterlaw07_RefMakes.j0 k a0 t133 true) else ((ref_Check.f a2).bind fun t136 => (if t136 = 0 then ((ref_CheckId.f a2).bind fun t137 => (remitterlaw07_RefMakes.j0 k a0 t133 (t137 != 0))) else (remitterlaw07_RefMakes.j0 k a0 t133 false)))) = some r := by rw [if_pos rfl] at H; exact H
        clear H
        have H := H1
        clear H1
        by_cases c14 : ((t133.toList == t134.toList) != (a0 == a1)) = true
        · rw [if_pos c14] at H
          have c14b0 : ((t133.toList == t134.toList) != (a0 == a1)) = true := c14
          (try (have c14b1 : decide ((t133.toList == t134.toList) = (a0 == a1)) = false := by simpa using c14))
          (try (have c14b2 : ((t133.toList == t134.toList) == (a0 == a1)) = false := by simpa using c14))
          (try (have c14b3 : ¬ ((t133.toList == t134.toList) = (a0 == a1)) := by simpa using c14))
          clear c14
          (first | rw [c14b0] | (simp only [i64_w, i32_w]; rw [c14b0]) | skip)
          have H' := Aside0.mk H
          clear H
          go_wp2_with (first | (go_at_call 11; (with_reducible refine (remitterlaw07_uetr.calls k t133 true _ A12.out).mono ?_); rintro e w' ⟨rfl, ⟨nd, rfl⟩⟩; (try first | exact ⟨rfl, _, World.drewN_drewN _ _ _⟩ | exact ⟨rfl, _, Eq.trans (World.drewN_drewN _ _ _) (congrArg (World.drewN _) (Nat.add_assoc _ _ _))⟩)))
          repeat (go_quiet (first | (go_at_call 11; (with_reducible refine (remitterlaw07_uetr.calls k t133 true _ A12.out).mono ?_); rintro e w' ⟨rfl, ⟨nd, rfl⟩⟩; (try first | exact ⟨rfl, _, World.drewN_drewN _ _ _⟩ | exact ⟨rfl, _, Eq.trans (World.drewN_drewN _ _ _) (congrArg (World.drewN _) (Nat.add_assoc _ _ _))⟩))); try go_wp2_with (first | (go_at_call 11; (with_reducible refine (remitterlaw07_uetr.calls k t133 true _ A12.out).mono ?_); rintro e w' ⟨rfl, ⟨nd, rfl⟩⟩; (try first | exact ⟨rfl, _, World.drewN_drewN _ _ _⟩ | exact ⟨rfl, _, Eq.trans (World.drewN_drewN _ _ _) (congrArg (World.drewN _) (Nat.add_assoc _ _ _))⟩))))
          go_meet
          case rel => exact ⟨_, (true), (by first | rfl | (simp; done) | (simp [*]; done) | exact congrArg Value.bool (Go.Proofs.YtiadcjdpeegbbaaDoor.GLib.not_isEmpty _) | exact congrArg Value.bool (Go.Proofs.YtiadcjdpeegbbaaDoor.GLib.not_isEmpty _).symm), H', ⟨by first | omega | exact Nat.le_refl _⟩, ⟨by repeat (first | (with_reducible first | exact HB.out | apply below_alloc | apply pw_below_drewN | apply below_drew1) | exact HB.out)⟩⟩
        · rw [if_neg c14] at H
          have c14b0 : ((t133.toList == t134.toList) != (a0 == a1)) = false := by simpa using c14
          (try (have c14b1 : decide ((t133.toList == t134.toList) = (a0 == a1)) = true := by simpa using c14))
          (try (have c14b2 : ((t133.toList == t134.toList) == (a0 == a1)) = true := by simpa using c14))
          clear c14
          (first | rw [c14b0] | (simp only [i64_w, i32_w]; rw [c14b0]) | skip)
          replace H := Option.bind_eq_some_iff.mp H
          obtain ⟨t136, A150, H⟩ := H
          replace H : (if t136 = 0 then ((ref_CheckId.f a2).bind fun t137 => (remitterlaw07_RefMakes.j0 k a0 t133 (t137 != 0))) else (remitterlaw07_RefMakes.j0 k a0 t133 false)) = some r := H
          have A15 := Aside0.mk A150
          clear A150
          by_cases c16 : t136 = 0
          · rw [if_pos c16] at H
            have c16b0 : (t136 == 0) = true := beq_iff_eq.mpr c16
            have c16b1 : (t136 != 0) = false := bne_eq_false_iff_eq.mpr c16
            clear c16
            replace H := Option.bind_eq_some_iff.mp H
            obtain ⟨t137, A170, H⟩ := H
            replace H : (remitterlaw07_RefMakes.j0 k a0 t133 (t137 != 0)) = some r := H
            have A17 := Aside0.mk A170
            clear A170
            have H' := Aside0.mk H
            clear H
            go_wp2_with (first | (go_at_call 11; (with_reducible refine (remitterlaw07_uetr.calls k t133 true _ A12.out).mono ?_); rintro e w' ⟨rfl, ⟨nd, rfl⟩⟩; (try first | exact ⟨rfl, _, World.drewN_drewN _ _ _⟩ | exact ⟨rfl, _, Eq.trans (World.drewN_drewN _ _ _) (congrArg (World.drewN _) (Nat.add_assoc _ _ _))⟩)) | (go_at_call 6; (with_reducible refine (ref_Check.calls a2 t136 _ A15.out (GW_below HG.out (by repeat (first | (with_reducible first | exact HB.out | apply below_alloc | apply pw_below_drewN | apply below_drew1) | exact HB.out)))).mono ?_); rintro e w18 ⟨rfl, hb⟩; have n0_ := Aside0.mk (below_step (by repeat (first | (with_reducible first | exact HB.out | apply below_alloc | apply pw_below_drewN | apply below_drew1) | exact HB.out)) hb); clear HB; have HB := n0_; clear n0_; (try clear hb); (try clear hb2); (try clear hk); (try clear hi)) | (go_at_call 9; (with_reducible refine (ref_CheckId.calls a2 t137 _ A17.out (GW_below HG.out (by repeat (first | (with_reducible first | exact HB.out | apply below_alloc | apply pw_below_drewN | apply below_drew1) | exact HB.out)))).mono ?_); rintro e w19 ⟨rfl, hb⟩; have n0_ := Aside0.mk (below_step (by repeat (first | (with_reducible first | exact HB.out | apply below_alloc | apply pw_below_drewN | apply below_drew1) | exact HB.out)) hb); clear HB; have HB := n0_; clear n0_; (try clear hb); (try clear hb2); (try clear hk); (try clear hi)))
            repeat (go_quiet (first | (go_at_call 11; (with_reducible refine (remitterlaw07_uetr.calls k t133 true _ A12.out).mono ?_); rintro e w' ⟨rfl, ⟨nd, rfl⟩⟩; (try first | exact ⟨rfl, _, World.drewN_drewN _ _ _⟩ | exact ⟨rfl, _, Eq.trans (World.drewN_drewN _ _ _) (congrArg (World.drewN _) (Nat.add_assoc _ _ _))⟩)) | (go_at_call 6; (with_reducible refine (ref_Check.calls a2 t136 _ A15.out (GW_below HG.out (by repeat (first | (with_reducible first | exact HB.out | apply below_alloc | apply pw_below_drewN | apply below_drew1) | exact HB.out)))).mono ?_); rintro e w18 ⟨rfl, hb⟩; have n0_ := Aside0.mk (below_step (by repeat (first | (with_reducible first | exact HB.out | apply below_alloc | apply pw_below_drewN | apply below_drew1) | exact HB.out)) hb); clear HB; have HB := n0_; clear n0_; (try clear hb); (try clear hb2); (try clear hk); (try clear hi)) | (go_at_call 9; (with_reducible refine (ref_CheckId.calls a2 t137 _ A17.out (GW_below HG.out (by repeat (first | (with_reducible first | exact HB.out | apply below_alloc | apply pw_below_drewN | apply below_drew1) | exact HB.out)))).mono ?_); rintro e w19 ⟨rfl, hb⟩; have n0_ := Aside0.mk (below_step (by repeat (first | (with_reducible first | exact HB.out | apply below_alloc | apply pw_below_drewN | apply below_drew1) | exact HB.out)) hb); clear HB; have HB := n0_; clear n0_; (try clear hb); (try clear hb2); (try clear hk); (try clear hi))); try go_wp2_with (first | (go_at_call 11; (with_reducible refine (remitterlaw07_uetr.calls k t133 true _ A12.out).mono ?_); rintro e w' ⟨rfl, ⟨nd, rfl⟩⟩; (try first | exact ⟨rfl, _, World.drewN_drewN _ _ _⟩ | exact ⟨rfl, _, Eq.trans (World.drewN_drewN _ _ _) (congrArg (World.drewN _) (Nat.add_assoc _ _ _))⟩)) | (go_at_call 6; (with_reducible refine (ref_Check.calls a2 t136 _ A15.out (GW_below HG.out (by repeat (first | (with_reducible first | exact HB.out | apply below_alloc | apply pw_below_drewN | apply below_drew1) | exact HB.out)))).mono ?_); rintro e w18 ⟨rfl, hb⟩; have n0_ := Aside0.mk (below_step (by repeat (first | (with_reducible first | exact HB.out | apply below_alloc | apply pw_below_drewN | apply below_drew1) | exact HB.out)) hb); clear HB; have HB := n0_; clear n0_; (try clear hb); (try clear hb2); (try clear hk); (try clear hi)) | (go_at_call 9; (with_reducible refine (ref_CheckId.calls a2 t137 _ A17.out (GW_below HG.out (by repeat (first | (with_reducible first | exact HB.out | apply below_alloc | apply pw_below_drewN | apply below_drew1) | exact HB.out)))).mono ?_); rintro e w19 ⟨rfl, hb⟩; have n0_ := Aside0.mk (below_step (by repeat (first | (with_reducible first | exact HB.out | apply below_alloc | apply pw_below_drewN | apply below_drew1) | exact HB.out)) hb); clear HB; have HB := n0_; clear n0_; (try clear hb); (try clear hb2); (try clear hk); (try clear hi))))
            go_meet
            case rel => exact ⟨_, ((t137 != 0)), (by first | rfl | (simp; done) | (simp [*]; done) | exact congrArg Value.bool (Go.Proofs.YtiadcjdpeegbbaaDoor.GLib.not_isEmpty _) | exact congrArg Value.bool (Go.Proofs.YtiadcjdpeegbbaaDoor.GLib.not_isEmpty _).symm), H', ⟨by first | omega | exact Nat.le_refl _⟩, ⟨by repeat (first | (with_reducible first | exact HB.out | apply below_alloc | apply pw_below_drewN | apply below_drew1) | exact HB.out)⟩⟩
          · rw [if_neg c16] at H
            have c16b0 : (t136 == 0) = false := beq_eq_false_iff_ne.mpr c16
            have c16b1 : (t136 != 0) = true := bne_iff_ne.mpr c16
            have H' := Aside0.mk H
            clear H
            go_wp2_with (first | (go_at_call 11; (with_reducible refine (remitterlaw07_uetr.calls k t133 true _ A12.out).mono ?_); rintro e w' ⟨rfl, ⟨nd, rfl⟩⟩; (try first | exact ⟨rfl, _, World.drewN_drewN _ _ _⟩ | exact ⟨rfl, _, Eq.trans (World.drewN_drewN _ _ _) (congrArg (World.drewN _) (Nat.add_assoc _ _ _))⟩)) | (go_at_call 6; (with_reducible refine (ref_Check.calls a2 t136 _ A15.out (GW_below HG.out (by repeat (first | (with_reducible first | exact HB.out | apply below_alloc | apply pw_below_drewN | apply below_drew1) | exact HB.out)))).mono ?_); rintro e w20 ⟨rfl, hb⟩; have n0_ := Aside0.mk (below_step (by repeat (first | (with_reducible first | exact HB.out | apply below_alloc | apply pw_below_drewN | apply below_drew1) | exact HB.out)) hb); clear HB; have HB := n0_; clear n0_; (try clear hb); (try clear hb2); (try clear hk); (try clear hi)))
            repeat (go_quiet (first | (go_at_call 11; (with_reducible refine (remitterlaw07_uetr.calls k t133 true _ A12.out).mono ?_); rintro e w' ⟨rfl, ⟨nd, rfl⟩⟩; (try first | exact ⟨rfl, _, World.drewN_drewN _ _ _⟩ | exact ⟨rfl, _, Eq.trans (World.drewN_drewN _ _ _) (congrArg (World.drewN _) (Nat.add_assoc _ _ _))⟩)) | (go_at_call 6; (with_reducible refine (ref_Check.calls a2 t136 _ A15.out (GW_below HG.out (by repeat (first | (with_reducible first | exact HB.out | apply below_alloc | apply pw_below_drewN | apply below_drew1) | exact HB.out)))).mono ?_); rintro e w20 ⟨rfl, hb⟩; have n0_ := Aside0.mk (below_step (by repeat (first | (with_reducible first | exact HB.out | apply below_alloc | apply pw_below_drewN | apply below_drew1) | exact HB.out)) hb); clear HB; have HB := n0_; clear n0_; (try clear hb); (try clear hb2); (try clear hk); (try clear hi))); try go_wp2_with (first | (go_at_call 11; (with_reducible refine (remitterlaw07_uetr.calls k t133 true _ A12.out).mono ?_); rintro e w' ⟨rfl, ⟨nd, rfl⟩⟩; (try first | exact ⟨rfl, _, World.drewN_drewN _ _ _⟩ | exact ⟨rfl, _, Eq.trans (World.drewN_drewN _ _ _) (congrArg (World.drewN _) (Nat.add_assoc _ _ _))⟩)) | (go_at_call 6; (with_reducible refine (ref_Check.calls a2 t136 _ A15.out (GW_below HG.out (by repeat (first | (with_reducible first | exact HB.out | apply below_alloc | apply pw_below_drewN | apply below_drew1) | exact HB.out)))).mono ?_); rintro e w20 ⟨rfl, hb⟩; have n0_ := Aside0.mk (below_step (by repeat (first | (with_reducible first | exact HB.out | apply below_alloc | apply pw_below_drewN | apply below_drew1) | exact HB.out)) hb); clear HB; have HB := n0_; clear n0_; (try clear hb); (try clear hb2); (try clear hk); (try clear hi))))
            go_meet
            case rel => exact ⟨_, (false), (by first | rfl | (simp; done) | (simp [*]; done) | exact congrArg Value.bool (Go.Proofs.YtiadcjdpeegbbaaDoor.GLib.not_isEmpty _) | exact congrArg Value.bool (Go.Proofs.YtiadcjdpeegbbaaDoor.GLib.not_isEmpty _).symm), H', ⟨by first | omega | exact Nat.le_refl _⟩, ⟨by repeat (first | (with_reducible first | exact HB.out | apply below_alloc | apply pw_below_drewN | apply below_drew1) | exact HB.out)⟩⟩
      · replace c13 := Bool.eq_false_iff.mpr c13
        subst c13
        have H1 : (remitterlaw07_RefMakes.j0 k a0 t133 true) = some r := by rw [if_neg (show ¬ (false = true) by decide)] at H; exact H
        clear H
        have H := H1
        clear H1
        have H' := Aside0.mk H
        clear H
        go_wp2_with (first | (go_at_call 11; (with_reducible refine (remitterlaw07_uetr.calls k t133 false _ A12.out).mono ?_); rintro e w' ⟨rfl, ⟨nd, rfl⟩⟩; (try first | exact ⟨rfl, _, World.drewN_drewN _ _ _⟩ | exact ⟨rfl, _, Eq.trans (World.drewN_drewN _ _ _) (congrArg (World.drewN _) (Nat.add_assoc _ _ _))⟩)))
        repeat (go_quiet (first | (go_at_call 11; (with_reducible refine (remitterlaw07_uetr.calls k t133 false _ A12.out).mono ?_); rintro e w' ⟨rfl, ⟨nd, rfl⟩⟩; (try first | exact ⟨rfl, _, World.drewN_drewN _ _ _⟩ | exact ⟨rfl, _, Eq.trans (World.drewN_drewN _ _ _) (congrArg (World.drewN _) (Nat.add_assoc _ _ _))⟩))); try go_wp2_with (first | (go_at_call 11; (with_reducible refine (remitterlaw07_uetr.calls k t133 false _ A12.out).mono ?_); rintro e w' ⟨rfl, ⟨nd, rfl⟩⟩; (try first | exact ⟨rfl, _, World.drewN_drewN _ _ _⟩ | exact ⟨rfl, _, Eq.trans (World.drewN_drewN _ _ _) (congrArg (World.drewN _) (Nat.add_assoc _ _ _))⟩))))
        go_meet
        case rel => exact ⟨_, (true), (by first | rfl | (simp; done) | (simp [*]; done) | exact congrArg Value.bool (Go.Proofs.YtiadcjdpeegbbaaDoor.GLib.not_isEmpty _) | exact congrArg Value.bool (Go.Proofs.YtiadcjdpeegbbaaDoor.GLib.not_isEmpty _).symm), H', ⟨by first | omega | exact Nat.le_refl _⟩, ⟨by repeat (first | (with_reducible first | exact HB.out | apply below_alloc | apply pw_below_drewN | apply below_drew1) | exact HB.out)⟩⟩
    case rest =>
      clear HC9
      try clear c1
      try clear p2
      try clear c4
      try clear c4b0
      try clear c4b1
      try clear c13
      try clear c14
      try clear c14b0
      try clear c14b1
      try clear c14b2
      try clear c16
      try clear c16b0
      try clear c16b1
      obtain ⟨kq, x42_8, rfl, HA, HJ8, HB⟩ := hcut
      cases kq with
      | zero => exact absurd HA.out (by simp [remitterlaw07_RefMakes.j0])
      | succ kj8 =>
        have H := HA.out
        clear HA
        simp only [remitterlaw07_RefMakes.j0] at H
        by_cases c21 : x42_8 = true
        · subst c21
          have H1 : (some false) = some r := by rw [if_pos rfl] at H; exact H
          clear H
          have H := H1
          clear H1
          obtain rfl := Option.some.inj H
          go_wp2
          repeat (go_quiet (fail); try go_wp2)
          all_goals (first | (exfalso; simp_all; done) | (exfalso; omega) | (go_ret; exact ⟨by first | rfl | (simp [errW_none, errW_some] <;> rfl) | (simp [*, errW_none, errW_some] <;> rfl), by repeat (first | (with_reducible first | exact HB.out | apply below_alloc | apply pw_below_drewN | apply below_drew1) | exact HB.out)⟩))
        · replace c21 := Bool.eq_false_iff.mpr c21
          subst c21
          have H1 : (if 0 ≤ 8 then (if 8 ≤ (t133.size : Int) then (if 9 ≤ 13 then (if 13 ≤ (t133.size : Int) then (if (t133.extract 0 8).size + (t133.extract 9 13).size ≤ 9223372036854775807 then (if 15 ≤ 18 then (if 18 ≤ (t133.size : Int) then (if ((t133.extract 0 8) ++ (t133.extract 9 13)).size + (t133.extract 15 18).size ≤ 9223372036854775807 then (if 20 ≤ 21 then (if 21 ≤ (t133.size : Int) then (if (((t133.extract 0 8) ++ (t133.extract 9 13)) ++ (t133.extract 15 18)).size + (t133.extract 20 21).size ≤ 9223372036854775807 then (remitterlaw07_RefMakes.l0 kj8 a0 t133 ((((t133.extract 0 8) ++ (t133.extract 9 13)) ++ (t133.extract 15 18)) ++ (t133.extract 20 21)) 0 0) else (none)) else (none)) else (none)) else (none)) else (none)) else (none)) else (none)) else (none)) else (none)) else (none)) else (none)) = some r := by rw [if_neg (show ¬ (false = true) by decide)] at H; exact H
          clear H
          have H := H1
          clear H1
          by_cases c22 : 0 ≤ 8
          · rw [if_pos c22] at H
            have c22b0 := eq_true c22
            have c22b1 : decide (0 ≤ 8) = true := decide_eq_true c22
            clear c22
            by_cases c23 : 8 ≤ (t133.size : Int)
            · rw [if_pos c23] at H
              have c23b0 := eq_true c23
              have c23b1 : decide (8 ≤ (t133.size : Int)) = true := decide_eq_true c23
              clear c23
              by_cases c24 : 9 ≤ 13
              · rw [if_pos c24] at H
                have c24b0 := eq_true c24
                have c24b1 : decide (9 ≤ 13) = true := decide_eq_true c24
                clear c24
                by_cases c25 : 13 ≤ (t133.size : Int)
                · rw [if_pos c25] at H
                  have c25b0 := eq_true c25
                  have c25b1 : decide (13 ≤ (t133.size : Int)) = true := decide_eq_true c25
                  clear c25
                  by_cases c26 : (t133.extract 0 8).size + (t133.extract 9 13).size ≤ 9223372036854775807
                  · rw [if_pos c26] at H
                    have c26b0 := eq_true c26
                    have c26b1 : decide ((t133.extract 0 8).size + (t133.extract 9 13).size ≤ 9223372036854775807) = true := decide_eq_true c26
                    try have c26b2 : (9223372036854775807 < (t133.extract 0 8).size + (t133.extract 9 13).size) = False := eq_false (Nat.not_lt.2 c26)
                    by_cases c27 : 15 ≤ 18
                    · rw [if_pos c27] at H
                      have c27b0 := eq_true c27
                      have c27b1 : decide (15 ≤ 18) = true := decide_eq_true c27
                      clear c27
                      by_cases c28 : 18 ≤ (t133.size : Int)
                      · rw [if_pos c28] at H
                        have c28b0 := eq_true c28
                        have c28b1 : decide (18 ≤ (t133.size : Int)) = true := decide_eq_true c28
                        clear c28
                        by_cases c29 : ((t133.extract 0 8) ++ (t133.extract 9 13)).size + (t133.extract 15 18).size ≤ 9223372036854775807
                        · rw [if_pos c29] at H
                          have c29b0 := eq_true c29
                          have c29b1 : decide (((t133.extract 0 8) ++ (t133.extract 9 13)).size + (t133.extract 15 18).size ≤ 9223372036854775807) = true := decide_eq_true c29
                          try have c29b2 : (9223372036854775807 < ((t133.extract 0 8) ++ (t133.extract 9 13)).size + (t133.extract 15 18).size) = False := eq_false (Nat.not_lt.2 c29)
                          try (have c29b7 := c29b2; simp only [ByteArray.size_append, Go.Proofs.YtiadcjdpeegbbaaDoor.GLib.size_mk, List.size_toArray, List.length_cons, List.length_nil, Nat.zero_add, Nat.reduceAdd] at c29b7)
                          by_cases c30 : 20 ≤ 21
                          · rw [if_pos c30] at H
                            have c30b0 := eq_true c30
                            have c30b1 : decide (20 ≤ 21) = true := decide_eq_true c30
                            clear c30
                            by_cases c31 : 21 ≤ (t133.size : Int)
                            · rw [if_pos c31] at H
                              have c31b0 := eq_true c31
                              have c31b1 : decide (21 ≤ (t133.size : Int)) = true := decide_eq_true c31
                              clear c31
                              by_cases c32 : (((t133.extract 0 8) ++ (t133.extract 9 13)) ++ (t133.extract 15 18)).size + (t133.extract 20 21).size ≤ 9223372036854775807
                              · rw [if_pos c32] at H
                                have c32b0 := eq_true c32
                                have c32b1 : decide ((((t133.extract 0 8) ++ (t133.extract 9 13)) ++ (t133.extract 15 18)).size + (t133.extract 20 21).size ≤ 9223372036854775807) = true := decide_eq_true c32
                                try have c32b2 : (9223372036854775807 < (((t133.extract 0 8) ++ (t133.extract 9 13)) ++ (t133.extract 15 18)).size + (t133.extract 20 21).size) = False := eq_false (Nat.not_lt.2 c32)
                                try (have c32b7 := c32b2; simp only [ByteArray.size_append, Go.Proofs.YtiadcjdpeegbbaaDoor.GLib.size_mk, List.size_toArray, List.length_cons, List.length_nil, Nat.zero_add, Nat.reduceAdd] at c32b7)
                                have H' := Aside0.mk H
                                clear H
                                go_wp2
                                repeat (go_quiet (fail); try go_wp2)
                                go_loopg [10, 11] kj8 (fun kq v10 v11 w' => ∃ (x10_2 : Int) (x11_2 : Int), v10 = .int .u64 x10_2 ∧ v11 = .int .i64 x11_2 ∧ Aside0 (remitterlaw07_RefMakes.l0 kq a0 t133 ((((t133.extract 0 8) ++ (t133.extract 9 13)) ++ (t133.extract 15 18)) ++ (t133.extract 20 21)) x10_2 x11_2 = some r) ∧ Aside0 (kq ≤ kj8) ∧ Aside0 (Below w.heap.size w w'))
                                case atStart => exact ⟨(0), (0), (by first | rfl | (simp; done) | (simp [*]; done) | exact congrArg Value.bool (Go.Proofs.YtiadcjdpeegbbaaDoor.GLib.not_isEmpty _) | exact congrArg Value.bool (Go.Proofs.YtiadcjdpeegbbaaDoor.GLib.not_isEmpty _).symm), (by first | rfl | (simp; done) | (simp [*]; done) | exact congrArg Value.bool (Go.Proofs.YtiadcjdpeegbbaaDoor.GLib.not_isEmpty _) | exact congrArg Value.bool (Go.Proofs.YtiadcjdpeegbbaaDoor.GLib.not_isEmpty _).symm), H', ⟨Nat.le_refl _⟩, ⟨by repeat (first | (with_reducible first | exact HB.out | apply below_alloc | apply pw_below_drewN | apply below_drew1) | exact HB.out)⟩⟩
                                case round =>
                                  clear H'
                                  try clear c1
                                  try clear c2
                                  try clear p2
                                  try clear c3
                                  try clear c4
                                  try clear c4b0
                                  try clear c4b1
                                  try clear c13
                                  try clear c14
                                  try clear c14b0
                                  try clear c14b1
                                  try clear c14b2
                                  try clear c16
                                  try clear c16b0
                                  try clear c16b1
                                  try clear c21
                                  try clear c22
                                  try clear c22b0
                                  try clear c22b1
                                  try clear c23
                                  try clear c23b0
                                  try clear c23b1
                                  try clear c24
                                  try clear c24b0
                                  try clear c24b1
                                  try clear c25
                                  try clear c25b0
                                  try clear c25b1
                                  try clear c26
                                  try clear c26b0
                                  try clear c26b1
                                  try clear c26b2
                                  try clear c27
                                  try clear c27b0
                                  try clear c27b1
                                  try clear c28
                                  try clear c28b0
                                  try clear c28b1
                                  try clear c29
                                  try clear c29b0
                                  try clear c29b1
                                  try clear c29b2
                                  try clear c30
                                  try clear c30b0
                                  try clear c30b1
                                  try clear c31
                                  try clear c31b0
                                  try clear c31b1
                                  try clear c32
                                  try clear c32b0
                                  try clear c32b1
                                  try clear c32b2
                                  try clear p2
                                  obtain ⟨x10_2, x11_2, rfl, rfl, HA, HK2, HB⟩ := hrel
                                  cases gk with
                                  | zero => exact absurd HA.out (by simp [remitterlaw07_RefMakes.l0])
                                  | succ k2 =>
                                    have H := HA.out
                                    clear HA
                                    simp only [remitterlaw07_RefMakes.l0] at H
                                    by_cases c33 : x11_2 < (((((t133.extract 0 8) ++ (t133.extract 9 13)) ++ (t133.extract 15 18)) ++ (t133.extract 20 21)).size : Int)
                                    · rw [if_pos c33] at H
                                      have c33b0 : decide (x11_2 < (((((t133.extract 0 8) ++ (t133.extract 9 13)) ++ (t133.extract 15 18)) ++ (t133.extract 20 21)).size : Int)) = true := decide_eq_true c33
                                      try (have c33b8 := c33b0; simp only [ByteArray.size_append, ByteArray.size_extract, Nat.sub_zero, Int.natCast_add, Go.Proofs.YtiadcjdpeegbbaaDoor.GLib.size_mk, List.size_toArray, List.length_cons, List.length_nil] at c33b8)
                                      clear c33
                                      by_cases c34 : 0 ≤ x11_2
                                      · rw [if_pos c34] at H
                                        have c34b0 : decide (0 ≤ x11_2) = true := decide_eq_true c34
                                        clear c34
                                        by_cases c37 : (bt ((((t133.extract 0 8) ++ (t133.extract 9 13)) ++ (t133.extract 15 18)) ++ (t133.extract 20 21)) x11_2) ≥ 97
                                        · rw [if_pos c37] at H
                                          have c37b0 : decide (97 ≤ (bt ((((t133.extract 0 8) ++ (t133.extract 9 13)) ++ (t133.extract 15 18)) ++ (t133.extract 20 21)) x11_2)) = true := decide_eq_true c37
                                          clear c37
                                          have H' := Aside0.mk H
                                          clear H
                                          have p35 : 0 ≤ (x11_2 : Int) := of_decide_eq_true (by first | (with_reducible assumption) | assumption)
                                          have q35 : x11_2 < (((((t133.extract 0 8) ++ (t133.extract 9 13)) ++ (t133.extract 15 18)) ++ (t133.extract 20 21)).size : Int) := of_decide_eq_true (by first | (with_reducible assumption) | assumption)
                                          try (have q35n := q35; simp only [ByteArray.size_append, ByteArray.size_extract, Nat.sub_zero, Int.natCast_add, Go.Proofs.YtiadcjdpeegbbaaDoor.GLib.size_mk, List.size_toArray, List.length_cons, List.length_nil] at q35n; replace q35n := eq_true q35n)
                                          have hx35 := bt_at ((((t133.extract 0 8) ++ (t133.extract 9 13)) ++ (t133.extract 15 18)) ++ (t133.extract 20 21)) x11_2
                                          replace p35 := eq_true p35
                                          replace q35 := eq_true q35
                                          have p36 : 0 ≤ (x11_2 : Int) := of_decide_eq_true (by first | (with_reducible assumption) | assumption)
                                          have q36 : x11_2 < (((((t133.extract 0 8) ++ (t133.extract 9 13)) ++ (t133.extract 15 18)) ++ (t133.extract 20 21)).size : Int) := of_decide_eq_true (by first | (with_reducible assumption) | assumption)
                                          try (have q36n := q36; simp only [ByteArray.size_append, ByteArray.size_extract, Nat.sub_zero, Int.natCast_add, Go.Proofs.YtiadcjdpeegbbaaDoor.GLib.size_mk, List.size_toArray, List.length_cons, List.length_nil] at q36n; replace q36n := eq_true q36n)
                                          have hx36 := bt_at ((((t133.extract 0 8) ++ (t133.extract 9 13)) ++ (t133.extract 15 18)) ++ (t133.extract 20 21)) x11_2
                                          replace p36 := eq_true p36
                                          replace q36 := eq_true q36
                                          have p38 : 0 ≤ (x11_2 : Int) := of_decide_eq_true (by first | (with_reducible assumption) | assumption)
                                          have q38 : x11_2 < (((((t133.extract 0 8) ++ (t133.extract 9 13)) ++ (t133.extract 15 18)) ++ (t133.extract 20 21)).size : Int) := of_decide_eq_true (by first | (with_reducible assumption) | assumption)
                                          try (have q38n := q38; simp only [ByteArray.size_append, ByteArray.size_extract, Nat.sub_zero, Int.natCast_add, Go.Proofs.YtiadcjdpeegbbaaDoor.GLib.size_mk, List.size_toArray, List.length_cons, List.length_nil] at q38n; replace q38n := eq_true q38n)
                                          have hx38 := bt_at ((((t133.extract 0 8) ++ (t133.extract 9 13)) ++ (t133.extract 15 18)) ++ (t133.extract 20 21)) x11_2
                                          replace p38 := eq_true p38
                                          replace q38 := eq_true q38
                                          go_wp2
                                          repeat (go_quiet (fail); try go_wp2)
                                          go_roundg k2
                                          case measure => have := HJ8.out; have := HK2.out; omega
                                          case rel => exact ⟨(IntKind.u64.wrap ((IntKind.u64.wrap (16 * x10_2)) + ((((bt ((((t133.extract 0 8) ++ (t133.extract 9 13)) ++ (t133.extract 15 18)) ++ (t133.extract 20 21)) x11_2) - 97) % 256) + 10))), (wrap64 (x11_2 + 1)), (by first | rfl | (simp; done) | (simp [*]; done) | exact congrArg Value.bool (Go.Proofs.YtiadcjdpeegbbaaDoor.GLib.not_isEmpty _) | exact congrArg Value.bool (Go.Proofs.YtiadcjdpeegbbaaDoor.GLib.not_isEmpty _).symm), (by first | rfl | (simp; done) | (simp [*]; done) | exact congrArg Value.bool (Go.Proofs.YtiadcjdpeegbbaaDoor.GLib.not_isEmpty _) | exact congrArg Value.bool (Go.Proofs.YtiadcjdpeegbbaaDoor.GLib.not_isEmpty _).symm), H', ⟨by have := HJ8.out; have := HK2.out; omega⟩, ⟨by repeat (first | (with_reducible first | exact HB.out | apply below_alloc | apply pw_below_drewN | apply below_drew1) | exact HB.out)⟩⟩
                                        · rw [if_neg c37] at H
                                          have c37b0 : decide (97 ≤ (bt ((((t133.extract 0 8) ++ (t133.extract 9 13)) ++ (t133.extract 15 18)) ++ (t133.extract 20 21)) x11_2)) = false := decide_eq_false c37
                                          clear c37
                                          have H' := Aside0.mk H
                                          clear H
                                          have p35 : 0 ≤ (x11_2 : Int) := of_decide_eq_true (by first | (with_reducible assumption) | assumption)
                                          have q35 : x11_2 < (((((t133.extract 0 8) ++ (t133.extract 9 13)) ++ (t133.extract 15 18)) ++ (t133.extract 20 21)).size : Int) := of_decide_eq_true (by first | (with_reducible assumption) | assumption)
                                          try (have q35n := q35; simp only [ByteArray.size_append, ByteArray.size_extract, Nat.sub_zero, Int.natCast_add, Go.Proofs.YtiadcjdpeegbbaaDoor.GLib.size_mk, List.size_toArray, List.length_cons, List.length_nil] at q35n; replace q35n := eq_true q35n)
                                          have hx35 := bt_at ((((t133.extract 0 8) ++ (t133.extract 9 13)) ++ (t133.extract 15 18)) ++ (t133.extract 20 21)) x11_2
                                          replace p35 := eq_true p35
                                          replace q35 := eq_true q35
                                          have p36 : 0 ≤ (x11_2 : Int) := of_decide_eq_true (by first | (with_reducible assumption) | assumption)
                                          have q36 : x11_2 < (((((t133.extract 0 8) ++ (t133.extract 9 13)) ++ (t133.extract 15 18)) ++ (t133.extract 20 21)).size : Int) := of_decide_eq_true (by first | (with_reducible assumption) | assumption)
                                          try (have q36n := q36; simp only [ByteArray.size_append, ByteArray.size_extract, Nat.sub_zero, Int.natCast_add, Go.Proofs.YtiadcjdpeegbbaaDoor.GLib.size_mk, List.size_toArray, List.length_cons, List.length_nil] at q36n; replace q36n := eq_true q36n)
                                          have hx36 := bt_at ((((t133.extract 0 8) ++ (t133.extract 9 13)) ++ (t133.extract 15 18)) ++ (t133.extract 20 21)) x11_2
                                          replace p36 := eq_true p36
                                          replace q36 := eq_true q36
                                          go_wp2
                                          repeat (go_quiet (fail); try go_wp2)
                                          go_roundg k2
                                          case measure => have := HJ8.out; have := HK2.out; omega
                                          case rel => exact ⟨(IntKind.u64.wrap ((IntKind.u64.wrap (16 * x10_2)) + (((bt ((((t133.extract 0 8) ++ (t133.extract 9 13)) ++ (t133.extract 15 18)) ++ (t133.extract 20 21)) x11_2) - 48) % 256))), (wrap64 (x11_2 + 1)), (by first | rfl | (simp; done) | (simp [*]; done) | exact congrArg Value.bool (Go.Proofs.YtiadcjdpeegbbaaDoor.GLib.not_isEmpty _) | exact congrArg Value.bool (Go.Proofs.YtiadcjdpeegbbaaDoor.GLib.not_isEmpty _).symm), (by first | rfl | (simp; done) | (simp [*]; done) | exact congrArg Value.bool (Go.Proofs.YtiadcjdpeegbbaaDoor.GLib.not_isEmpty _) | exact congrArg Value.bool (Go.Proofs.YtiadcjdpeegbbaaDoor.GLib.not_isEmpty _).symm), H', ⟨by have := HJ8.out; have := HK2.out; omega⟩, ⟨by repeat (first | (with_reducible first | exact HB.out | apply below_alloc | apply pw_below_drewN | apply below_drew1) | exact HB.out)⟩⟩
                                      · rw [if_neg c34] at H
                                        exact absurd H (by simp)
                                    · rw [if_neg c33] at H
                                      have c33b0 : decide (x11_2 < (((((t133.extract 0 8) ++ (t133.extract 9 13)) ++ (t133.extract 15 18)) ++ (t133.extract 20 21)).size : Int)) = false := decide_eq_false c33
                                      try (have c33b8 := c33b0; simp only [ByteArray.size_append, ByteArray.size_extract, Nat.sub_zero, Int.natCast_add, Go.Proofs.YtiadcjdpeegbbaaDoor.GLib.size_mk, List.size_toArray, List.length_cons, List.length_nil] at c33b8)
                                      clear c33
                                      by_cases c39 : x10_2 = a0
                                      · rw [if_pos c39] at H
                                        have c39b0 : (x10_2 == a0) = true := beq_iff_eq.mpr c39
                                        have c39b1 : (x10_2 != a0) = false := bne_eq_false_iff_eq.mpr c39
                                        clear c39
                                        by_cases c40 : 21 ≤ 23
                                        · rw [if_pos c40] at H
                                          have c40b0 := eq_true c40
                                          have c40b1 : decide (21 ≤ 23) = true := decide_eq_true c40
                                          clear c40
                                          by_cases c41 : 23 ≤ (t133.size : Int)
                                          · rw [if_pos c41] at H
                                            have c41b0 := eq_true c41
                                            have c41b1 : decide (23 ≤ (t133.size : Int)) = true := decide_eq_true c41
                                            clear c41
                                            by_cases c42 : (t133.extract 21 23).toList = ([48, 48] : List UInt8)
                                            · rw [if_pos c42] at H
                                              have c42b0 : ((t133.extract 21 23).toList == ([48, 48] : List UInt8)) = true := beq_iff_eq.mpr c42
                                              have c42b1 : ((t133.extract 21 23).toList != ([48, 48] : List UInt8)) = false := bne_eq_false_iff_eq.mpr c42
                                              clear c42
                                              by_cases c43 : 24 ≤ (t133.size : Int)
                                              · rw [if_pos c43] at H
                                                have c43b0 := eq_true c43
                                                have c43b1 : decide (24 ≤ (t133.size : Int)) = true := decide_eq_true c43
                                                clear c43
                                                by_cases c44 : (t133.extract 24 t133.size).toList = ([48, 48, 48, 48, 48, 48, 48, 48, 48, 48, 48, 48] : List UInt8)
                                                · rw [if_pos c44] at H
                                                  have c44b0 : ((t133.extract 24 t133.size).toList == ([48, 48, 48, 48, 48, 48, 48, 48, 48, 48, 48, 48] : List UInt8)) = true := beq_iff_eq.mpr c44
                                                  have c44b1 : ((t133.extract 24 t133.size).toList != ([48, 48, 48, 48, 48, 48, 48, 48, 48, 48, 48, 48] : List UInt8)) = false := bne_eq_false_iff_eq.mpr c44
                                                  clear c44
                                                  by_cases c45 : 14 < (t133.size : Int)
                                                  · rw [if_pos c45] at H
                                                    have c45b0 : decide (14 < (t133.size : Int)) = true := decide_eq_true c45
                                                    have c45b1 : decide (14 < t133.size) = true := decide_eq_true (by omega)
                                                    clear c45
                                                    by_cases c47 : (bt t133 14) = 52
                                                    · rw [if_pos c47] at H
                                                      have c47b0 : ((bt t133 14) == 52) = true := beq_iff_eq.mpr c47
                                                      have c47b1 : ((bt t133 14) != 52) = false := bne_eq_false_iff_eq.mpr c47
                                                      clear c47
                                                      by_cases c48 : 19 < (t133.size : Int)
                                                      · rw [if_pos c48] at H
                                                        have c48b0 : decide (19 < (t133.size : Int)) = true := decide_eq_true c48
                                                        have c48b1 : decide (19 < t133.size) = true := decide_eq_true (by omega)
                                                        clear c48
                                                        by_cases c50 : (bt t133 19) = 56
                                                        · rw [if_pos c50] at H
                                                          have c50b0 : ((bt t133 19) == 56) = true := beq_iff_eq.mpr c50
                                                          have c50b1 : ((bt t133 19) != 56) = false := bne_eq_false_iff_eq.mpr c50
                                                          clear c50
                                                          replace H := Option.bind_eq_some_iff.mp H
                                                          obtain ⟨t138, A510, H⟩ := H
                                                          replace H : (some t138) = some r := H
                                                          have A51 := Aside0.mk A510
                                                          clear A510
                                                          obtain rfl := Option.some.inj H
                                                          have p46 : 0 ≤ (14 : Int) := (by omega)
                                                          have q46 : 14 < t133.size := (by have : (14 : Int) < (t133.size : Int) := of_decide_eq_true (by first | (with_reducible assumption) | assumption); omega)
                                                          have hx46 : ∀ h : 14 < t133.size, ((t133[14]'h).toNat : Int) = bt t133 14 := bt_at t133 14
                                                          clear p46
                                                          have qi46 : (14 < (t133.size : Int)) = True := eq_true (of_decide_eq_true (by first | (with_reducible assumption) | assumption))
                                                          replace q46 := eq_true q46
                                                          have p49 : 0 ≤ (19 : Int) := (by omega)
                                                          have q49 : 19 < t133.size := (by have : (19 : Int) < (t133.size : Int) := of_decide_eq_true (by first | (with_reducible assumption) | assumption); omega)
                                                          have hx49 : ∀ h : 19 < t133.size, ((t133[19]'h).toNat : Int) = bt t133 19 := bt_at t133 19
                                                          clear p49
                                                          have qi49 : (19 < (t133.size : Int)) = True := eq_true (of_decide_eq_true (by first | (with_reducible assumption) | assumption))
                                                          replace q49 := eq_true q49
                                                          go_wp2_with (first | (go_at_call 5; (with_reducible refine (remitterlaw07_wakes.calls  t138 _ A51.out (GW_below HG.out (by repeat (first | (with_reducible first | exact HB.out | apply below_alloc | apply pw_below_drewN | apply below_drew1) | exact HB.out))) (GWP_below HGP.out (by repeat (first | (with_reducible first | exact HB.out | apply below_alloc | apply pw_below_drewN | apply below_drew1) | exact HB.out)))).mono ?_); rintro e w52 ⟨rfl, hb⟩; have n0_ := Aside0.mk (below_step (by repeat (first | (with_reducible first | exact HB.out | apply below_alloc | apply pw_below_drewN | apply below_drew1) | exact HB.out)) hb); clear HB; have HB := n0_; clear n0_; (try clear hb); (try clear hb2); (try clear hk); (try clear hi)))
                                                          repeat (go_quiet (first | (go_at_call 5; (with_reducible refine (remitterlaw07_wakes.calls  t138 _ A51.out (GW_below HG.out (by repeat (first | (with_reducible first | exact HB.out | apply below_alloc | apply pw_below_drewN | apply below_drew1) | exact HB.out))) (GWP_below HGP.out (by repeat (first | (with_reducible first | exact HB.out | apply below_alloc | apply pw_below_drewN | apply below_drew1) | exact HB.out)))).mono ?_); rintro e w52 ⟨rfl, hb⟩; have n0_ := Aside0.mk (below_step (by repeat (first | (with_reducible first | exact HB.out | apply below_alloc | apply pw_below_drewN | apply below_drew1) | exact HB.out)) hb); clear HB; have HB := n0_; clear n0_; (try clear hb); (try clear hb2); (try clear hk); (try clear hi))); try go_wp2_with (first | (go_at_call 5; (with_reducible refine (remitterlaw07_wakes.calls  t138 _ A51.out (GW_below HG.out (by repeat (first | (with_reducible first | exact HB.out | apply below_alloc | apply pw_below_drewN | apply below_drew1) | exact HB.out))) (GWP_below HGP.out (by repeat (first | (with_reducible first | exact HB.out | apply below_alloc | apply pw_below_drewN | apply below_drew1) | exact HB.out)))).mono ?_); rintro e w52 ⟨rfl, hb⟩; have n0_ := Aside0.mk (below_step (by repeat (first | (with_reducible first | exact HB.out | apply below_alloc | apply pw_below_drewN | apply below_drew1) | exact HB.out)) hb); clear HB; have HB := n0_; clear n0_; (try clear hb); (try clear hb2); (try clear hk); (try clear hi))))
                                                          all_goals (first | (exfalso; simp_all; done) | (exfalso; omega) | (go_ret; exact ⟨by first | rfl | (simp [errW_none, errW_some] <;> rfl) | (simp [*, errW_none, errW_some] <;> rfl), by repeat (first | (with_reducible first | exact HB.out | apply below_alloc | apply pw_below_drewN | apply below_drew1) | exact HB.out)⟩))
                                                        · rw [if_neg c50] at H
                                                          have c50b0 : ((bt t133 19) == 56) = false := beq_eq_false_iff_ne.mpr c50
                                                          have c50b1 : ((bt t133 19) != 56) = true := bne_iff_ne.mpr c50
                                                          obtain rfl := Option.some.inj H
                                                          have p46 : 0 ≤ (14 : Int) := (by omega)
                                                          have q46 : 14 < t133.size := (by have : (14 : Int) < (t133.size : Int) := of_decide_eq_true (by first | (with_reducible assumption) | assumption); omega)
                                                          have hx46 : ∀ h : 14 < t133.size, ((t133[14]'h).toNat : Int) = bt t133 14 := bt_at t133 14
                                                          clear p46
                                                          have qi46 : (14 < (t133.size : Int)) = True := eq_true (of_decide_eq_true (by first | (with_reducible assumption) | assumption))
                                                          replace q46 := eq_true q46
                                                          have p49 : 0 ≤ (19 : Int) := (by omega)
                                                          have q49 : 19 < t133.size := (by have : (19 : Int) < (t133.size : Int) := of_decide_eq_true (by first | (with_reducible assumption) | assumption); omega)
                                                          have hx49 : ∀ h : 19 < t133.size, ((t133[19]'h).toNat : Int) = bt t133 19 := bt_at t133 19
                                                          clear p49
                                                          have qi49 : (19 < (t133.size : Int)) = True := eq_true (of_decide_eq_true (by first | (with_reducible assumption) | assumption))
                                                          replace q49 := eq_true q49
                                                          go_wp2
                                                          repeat (go_quiet (fail); try go_wp2)
                                                          all_goals (first | (exfalso; simp_all; done) | (exfalso; omega) | (go_ret; exact ⟨by first | rfl | (simp [errW_none, errW_some] <;> rfl) | (simp [*, errW_none, errW_some] <;> rfl), by repeat (first | (with_reducible first | exact HB.out | apply below_alloc | apply pw_below_drewN | apply below_drew1) | exact HB.out)⟩))
                                                      · rw [if_neg c48] at H
                                                        exact absurd H (by simp)
                                                    · rw [if_neg c47] at H
                                                      have c47b0 : ((bt t133 14) == 52) = false := beq_eq_false_iff_ne.mpr c47
                                                      have c47b1 : ((bt t133 14) != 52) = true := bne_iff_ne.mpr c47
                                                      obtain rfl := Option.some.inj H
                                                      have p46 : 0 ≤ (14 : Int) := (by omega)
                                                      have q46 : 14 < t133.size := (by have : (14 : Int) < (t133.size : Int) := of_decide_eq_true (by first | (with_reducible assumption) | assumption); omega)
                                                      have hx46 : ∀ h : 14 < t133.size, ((t133[14]'h).toNat : Int) = bt t133 14 := bt_at t133 14
                                                      clear p46
                                                      have qi46 : (14 < (t133.size : Int)) = True := eq_true (of_decide_eq_true (by first | (with_reducible assumption) | assumption))
                                                      replace q46 := eq_true q46
                                                      go_wp2
                                                      repeat (go_quiet (fail); try go_wp2)
                                                      all_goals (first | (exfalso; simp_all; done) | (exfalso; omega) | (go_ret; exact ⟨by first | rfl | (simp [errW_none, errW_some] <;> rfl) | (simp [*, errW_none, errW_some] <;> rfl), by repeat (first | (with_reducible first | exact HB.out | apply below_alloc | apply pw_below_drewN | apply below_drew1) | exact HB.out)⟩))
                                                  · rw [if_neg c45] at H
                                                    exact absurd H (by simp)
                                                · rw [if_neg c44] at H
                                                  have c44b0 : ((t133.extract 24 t133.size).toList == ([48, 48, 48, 48, 48, 48, 48, 48, 48, 48, 48, 48] : List UInt8)) = false := beq_eq_false_iff_ne.mpr c44
                                                  have c44b1 : ((t133.extract 24 t133.size).toList != ([48, 48, 48, 48, 48, 48, 48, 48, 48, 48, 48, 48] : List UInt8)) = true := bne_iff_ne.mpr c44
                                                  obtain rfl := Option.some.inj H
                                                  go_wp2
                                                  repeat (go_quiet (fail); try go_wp2)
                                                  all_goals (first | (exfalso; simp_all; done) | (exfalso; omega) | (go_ret; exact ⟨by first | rfl | (simp [errW_none, errW_some] <;> rfl) | (simp [*, errW_none, errW_some] <;> rfl), by repeat (first | (with_reducible first | exact HB.out | apply below_alloc | apply pw_below_drewN | apply below_drew1) | exact HB.out)⟩))
                                              · rw [if_neg c43] at H
                                                exact absurd H (by simp)
                                            · rw [if_neg c42] at H
                                              have c42b0 : ((t133.extract 21 23).toList == ([48, 48] : List UInt8)) = false := beq_eq_false_iff_ne.mpr c42
                                              have c42b1 : ((t133.extract 21 23).toList != ([48, 48] : List UInt8)) = true := bne_iff_ne.mpr c42
                                              obtain rfl := Option.some.inj H
                                              go_wp2
                                              repeat (go_quiet (fail); try go_wp2)
                                              all_goals (first | (exfalso; simp_all; done) | (exfalso; omega) | (go_ret; exact ⟨by first | rfl | (simp [errW_none, errW_some] <;> rfl) | (simp [*, errW_none, errW_some] <;> rfl), by repeat (first | (with_reducible first | exact HB.out | apply below_alloc | apply pw_below_drewN | apply below_drew1) | exact HB.out)⟩))
                                          · rw [if_neg c41] at H
                                            exact absurd H (by simp)
                                        · rw [if_neg c40] at H
                                          exact absurd H (by simp)
                                      · rw [if_neg c39] at H
                                        have c39b0 : (x10_2 == a0) = false := beq_eq_false_iff_ne.mpr c39
                                        have c39b1 : (x10_2 != a0) = true := bne_iff_ne.mpr c39
                                        obtain rfl := Option.some.inj H
                                        go_wp2
                                        repeat (go_quiet (fail); try go_wp2)
                                        all_goals (first | (exfalso; simp_all; done) | (exfalso; omega) | (go_ret; exact ⟨by first | rfl | (simp [errW_none, errW_some] <;> rfl) | (simp [*, errW_none, errW_some] <;> rfl), by repeat (first | (with_reducible first | exact HB.out | apply below_alloc | apply pw_below_drewN | apply below_drew1) | exact HB.out)⟩))
                              · rw [if_neg c32] at H
                                exact absurd H (by simp)
                            · rw [if_neg c31] at H
                              exact absurd H (by simp)
                          · rw [if_neg c30] at H
                            exact absurd H (by simp)
                        · rw [if_neg c29] at H
                          exact absurd H (by simp)
                      · rw [if_neg c28] at H
                        exact absurd H (by simp)
                    · rw [if_neg c27] at H
                      exact absurd H (by simp)
                  · rw [if_neg c26] at H
                    exact absurd H (by simp)
                · rw [if_neg c25] at H
                  exact absurd H (by simp)
              · rw [if_neg c24] at H
                exact absurd H (by simp)
            · rw [if_neg c23] at H
              exact absurd H (by simp)
          · rw [if_neg c22] at H
            exact absurd H (by simp)

/-- THE ONE PURE STATEMENT of remitterlaw07_RefMakes: yours. -/
def remitterlaw07_RefMakes.Pure : Prop := ∀ (a0 : Int) (a1 : Int) (a2 : ByteArray), (Lit.int .u64 a0).wf = true → (Lit.int .u64 a1).wf = true → a2.size ≤ 140737488351232 → ∃ k, remitterlaw07_RefMakes.f k a0 a1 a2 = some true
theorem remitterlaw07_RefMakes.walk (P : remitterlaw07_RefMakes.Pure) (a0 : Int) (a1 : Int) (a2 : ByteArray) (w : World) (w0 : (Lit.int .u64 a0).wf = true) (w1 : (Lit.int .u64 a1).wf = true) (w2 : a2.size ≤ 140737488351232) (hG : GW w) (hGP : GWP w) :
    Calls Tryd.prog 4 #[.int .u64 a0, .int .u64 a1, .string a2] w fun e w' => e = .returned (.bool true) ∧ Below w.heap.size w w' := by
  obtain ⟨k, h⟩ := P a0 a1 a2 w0 w1 w2
  refine (remitterlaw07_RefMakes.calls k a0 a1 a2 true w h hG hGP).mono ?_
  rintro e w' ⟨rfl, hd⟩
  exact ⟨rfl, hd⟩

end Go.Proofs.YtiadcjdpeegbbaaDoor.PAll

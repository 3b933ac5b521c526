-- Made by this session's wip/tools/gprint.py, which runs the kit's print program; some functions' contracts are proved by hand.
import Derived.Test.YtkklccccjmipkaaDoorLPLin0
import Derived.Test.YtkklccccjmipkaaDoorLPLWk
namespace Go.Proofs.YtkklccccjmipkaaDoor.PAll
open Go.RowKit Go.Proofs.YtkklccccjmipkaaDoorW.PrintWords Go.Proofs.YtkklccccjmipkaaDoorW.PrintLast Go.Proofs.YtkklccccjmipkaaDoorW.PrintMore
attribute [local go_sem] max2_int min2_int max_two min_two max_three min_three max_four min_four   -- for this text's walks alone
set_option linter.unusedVariables false
set_option linter.unusedSimpArgs false

-- GIVEN: function 31 (lines_Read): YtkklccccjmipkaaDoorLReadC

-- GIVEN: function 72 (strings_Split): YtkklccccjmipkaaDoorGSplitC


def remitterlaw15_LinesLong.l0 : Nat → ByteArray → Int → Option (Bool)
  | 0, _, _ => none
  | k + 1, x1, x2 => if x2 < 2000 then (if x1.size + 3 ≤ 9223372036854775807 then (remitterlaw15_LinesLong.l0 k (x1 ++ (⟨#[13, 10, 65]⟩ : ByteArray)) (wrap64 (x2 + 1))) else (none)) else ((lines_Read.f x1).bind fun bt122 => (if x1.size + 3 ≤ 9223372036854775807 then ((lines_Read.f (x1 ++ (⟨#[13, 10, 65]⟩ : ByteArray))).bind fun bt127 => (if bt122.2.2 = 0 then (if bt127.2.2 = 3 then (if bt127.2.1 = (wrap64 ((x1.size : Int) + 2)) then ((remitterlaw15_wakes.f).bind fun t132 => (some t132)) else (some false)) else (some false)) else (some false))) else (none)))
def remitterlaw15_LinesLong.f (k : Nat)  : Option (Bool) := remitterlaw15_LinesLong.l0 k (⟨#[58, 50, 48, 58, 82]⟩ : ByteArray) 1
theorem remitterlaw15_LinesLong.mono_l : ∀ k, (∀ y0 y1, LeO (remitterlaw15_LinesLong.l0 k y0 y1) (remitterlaw15_LinesLong.l0 (k + 1) y0 y1))
  | 0 => fun _ _ r h => by simp [remitterlaw15_LinesLong.l0] at h
  | k + 1 => by
    have ih0 := remitterlaw15_LinesLong.mono_l k
    · intro y0 y1
      unfold remitterlaw15_LinesLong.l0
      repeat' first
      | (with_reducible exact ih0 _ _)
      | (with_reducible exact LeO.refl _)
      | (with_reducible exact LeO.none _)
      | (with_reducible refine LeO.ite ?_ ?_)
      | (with_reducible refine LeO.bind ?_ (fun _ => ?_))
      | exact ih0 _ _
      | exact LeO.none _
      | refine LeO.ite ?_ ?_
      | refine LeO.bind ?_ (fun _ => ?_)
theorem remitterlaw15_LinesLong.mono : ∀ k, LeO (remitterlaw15_LinesLong.f k ) (remitterlaw15_LinesLong.f (k + 1) ) := by
  intro  k
  have ih0 := remitterlaw15_LinesLong.mono_l k
  unfold remitterlaw15_LinesLong.f
  repeat' first
      | (with_reducible exact ih0 _ _)
      | (with_reducible exact LeO.refl _)
      | (with_reducible exact LeO.none _)
      | (with_reducible refine LeO.ite ?_ ?_)
      | (with_reducible refine LeO.bind ?_ (fun _ => ?_))
      | exact ih0 _ _
      | exact LeO.none _
      | refine LeO.ite ?_ ?_
      | refine LeO.bind ?_ (fun _ => ?_)
set_option maxHeartbeats 8000000 in
set_option maxRecDepth 100000 in
theorem remitterlaw15_LinesLong.calls (k : Nat)  (w : World) (h : remitterlaw15_LinesLong.f k  = some true) (hG : GW w) :
    Calls Tryd.prog 12 #[] w fun e w' => e = .returned (.bool true) ∧ Below w.heap.size w w' := by
  have HG := Aside0.mk hG
  clear hG
  have HB := Aside0.mk (Below.refl w.heap.size w)
  have H : (remitterlaw15_LinesLong.l0 k (⟨#[58, 50, 48, 58, 82]⟩ : ByteArray) 1) = some true := h
  clear h
  have H' := Aside0.mk H
  clear H
  go_enter Tryd.func12, Tryd.ntmps12
  go_wp2
  go_loopg [1, 2] k (fun kq v1 v2 w' => ∃ (x1_1 : ByteArray) (x2_1 : Int), v1 = .string x1_1 ∧ v2 = .int .i64 x2_1 ∧ Aside0 (remitterlaw15_LinesLong.l0 kq x1_1 x2_1 = some true) ∧ Aside0 (kq ≤ k) ∧ Aside0 (Below w.heap.size w w'))
  case atStart => exact ⟨((⟨#[58, 50, 48, 58, 82]⟩ : ByteArray)), (1), (by first | rfl | (simp; done) | (simp [*]; done) | exact congrArg Value.bool (Go.Proofs.YtkklccccjmipkaaDoor.GLib.not_isEmpty _) | exact congrArg Value.bool (Go.Proofs.YtkklccccjmipkaaDoor.GLib.not_isEmpty _).symm), (by first | rfl | (simp; done) | (simp [*]; done) | exact congrArg Value.bool (Go.Proofs.YtkklccccjmipkaaDoor.GLib.not_isEmpty _) | exact congrArg Value.bool (Go.Proofs.YtkklccccjmipkaaDoor.GLib.not_isEmpty _).symm), H', ⟨Nat.le_refl _⟩, ⟨by repeat (first | (with_reducible first | exact HB.out | apply below_alloc | apply pw_below_drewN | apply below_drew1) | exact HB.out)⟩⟩
  case round =>
    clear H'
    obtain ⟨x1_1, x2_1, rfl, rfl, HA, HK1, HB⟩ := hrel
    cases gk with
    | zero => exact absurd HA.out (by simp [remitterlaw15_LinesLong.l0])
    | succ k1 =>
      have H := HA.out
      clear HA
      simp only [remitterlaw15_LinesLong.l0] at H
      by_cases c1 : x2_1 < 2000
      · rw [if_pos c1] at H
        have c1b0 : decide (x2_1 < 2000) = true := decide_eq_true c1
        clear c1
        by_cases c2 : x1_1.size + 3 ≤ 9223372036854775807
        · rw [if_pos c2] at H
          have c2b0 := eq_true c2
          have c2b1 : decide (x1_1.size + 3 ≤ 9223372036854775807) = true := decide_eq_true c2
          try have c2b2 : (9223372036854775807 < x1_1.size + 3) = False := eq_false (Nat.not_lt.2 c2)
          have H' := Aside0.mk H
          clear H
          go_wp2
          go_roundg k1
          case measure => have := HK1.out; omega
          case rel => exact ⟨(x1_1 ++ (⟨#[13, 10, 65]⟩ : ByteArray)), (wrap64 (x2_1 + 1)), (by first | rfl | (simp; done) | (simp [*]; done) | exact congrArg Value.bool (Go.Proofs.YtkklccccjmipkaaDoor.GLib.not_isEmpty _) | exact congrArg Value.bool (Go.Proofs.YtkklccccjmipkaaDoor.GLib.not_isEmpty _).symm), (by first | rfl | (simp; done) | (simp [*]; done) | exact congrArg Value.bool (Go.Proofs.YtkklccccjmipkaaDoor.GLib.not_isEmpty _) | exact congrArg Value.bool (Go.Proofs.YtkklccccjmipkaaDoor.GLib.not_isEmpty _).symm), H', ⟨by have := HK1.out; omega⟩, ⟨by repeat (first | (with_reducible first | exact HB.out | apply below_alloc | apply pw_below_drewN | apply below_drew1) | exact HB.out)⟩⟩
        · rw [if_neg c2] at H
          exact absurd H (by simp)
      · rw [if_neg c1] at H
        have c1b0 : decide (x2_1 < 2000) = false := decide_eq_false c1
        clear c1
        replace H := Option.bind_eq_some_iff.mp H
        obtain ⟨⟨t122, t123, t124⟩, A30, H⟩ := H
        replace H : (if x1_1.size + 3 ≤ 9223372036854775807 then ((lines_Read.f (x1_1 ++ (⟨#[13, 10, 65]⟩ : ByteArray))).bind fun bt127 => (if t124 = 0 then (if bt127.2.2 = 3 then (if bt127.2.1 = (wrap64 ((x1_1.size : Int) + 2)) then ((remitterlaw15_wakes.f).bind fun t132 => (some t132)) else (some false)) else (some false)) else (some false))) else (none)) = some true := H
        have A3 := Aside0.mk A30
        clear A30
        by_cases c4 : x1_1.size + 3 ≤ 9223372036854775807
        · rw [if_pos c4] at H
          have c4b0 := eq_true c4
          have c4b1 : decide (x1_1.size + 3 ≤ 9223372036854775807) = true := decide_eq_true c4
          try have c4b2 : (9223372036854775807 < x1_1.size + 3) = False := eq_false (Nat.not_lt.2 c4)
          replace H := Option.bind_eq_some_iff.mp H
          obtain ⟨⟨t127, t128, t129⟩, A50, H⟩ := H
          replace H : (if t124 = 0 then (if t129 = 3 then (if t128 = (wrap64 ((x1_1.size : Int) + 2)) then ((remitterlaw15_wakes.f).bind fun t132 => (some t132)) else (some false)) else (some false)) else (some false)) = some true := H
          have A5 := Aside0.mk A50
          clear A50
          by_cases c6 : t124 = 0
          · rw [if_pos c6] at H
            have c6b0 : (t124 == 0) = true := beq_iff_eq.mpr c6
            have c6b1 : (t124 != 0) = false := bne_eq_false_iff_eq.mpr c6
            clear c6
            by_cases c7 : t129 = 3
            · rw [if_pos c7] at H
              have c7b0 : (t129 == 3) = true := beq_iff_eq.mpr c7
              have c7b1 : (t129 != 3) = false := bne_eq_false_iff_eq.mpr c7
              clear c7
              by_cases c8 : t128 = (wrap64 ((x1_1.size : Int) + 2))
              · rw [if_pos c8] at H
                have c8b0 : (t128 == (wrap64 ((x1_1.size : Int) + 2))) = true := beq_iff_eq.mpr c8
                have c8b1 : (t128 != (wrap64 ((x1_1.size : Int) + 2))) = false := bne_eq_false_iff_eq.mpr c8
                have hw8_ : wrap64 ((x1_1.size : Int) + 2) = (x1_1.size : Int) + 2 := Go.Proofs.YtkklccccjmipkaaDoor.GPlain.wrap_ok (by omega) (by omega)
                rw [hw8_] at c8b0 c8b1
                clear hw8_
                clear c8
                replace H := Option.bind_eq_some_iff.mp H
                obtain ⟨t132, A90, H⟩ := H
                replace H : (some t132) = some true := H
                have A9 := Aside0.mk A90
                clear A90
                have hr := Option.some.inj H
                subst hr
                go_wp2_with (first | ((with_reducible refine gate_callee (f := 31) rfl ?_); refine goesL_ (some 17) rfl rfl Tryd.func31 (by kernel_rfl) rfl #[.string x1_1] rfl (by (try simp only [List.map_toArray, List.map_cons, List.map_nil]); first | done | rfl | (simp only [List.length_drop, List.length_take]; rfl)) ?_; (with_reducible refine (lines_Read.calls x1_1 t122 t123 t124 _ A3.out (GW_below HG.out (by repeat (first | (with_reducible first | exact HB.out | apply below_alloc | apply pw_below_drewN | apply below_drew1 | apply below_set | exact Aside0.out (by assumption)) | exact HB.out | exact Aside0.out (by assumption))))).mono ?_); rintro e w10 ⟨v125, rfl, ho0, hb⟩; refine ⟨_, rfl, ?_⟩; have n0_ := Aside0.mk (Kd.R_lower ho0 (below_size (by repeat (first | (with_reducible first | exact HB.out | apply below_alloc | apply pw_below_drewN | apply below_drew1) | exact HB.out)))); have n1_ := Aside0.mk (below_step (by repeat (first | (with_reducible first | exact HB.out | apply below_alloc | apply pw_below_drewN | apply below_drew1) | exact HB.out)) hb); clear HB; have HO126 := n0_; have HB := n1_; clear n0_ n1_; (try clear hb); (try clear hb2); (try clear hk); (try clear hi); (try clear ho0)) | ((with_reducible refine gate_callee (f := 31) rfl ?_); refine goesL_ (some 24) rfl rfl Tryd.func31 (by kernel_rfl) rfl #[.string (x1_1 ++ (⟨#[13, 10, 65]⟩ : ByteArray))] rfl (by (try simp only [List.map_toArray, List.map_cons, List.map_nil]); first | done | rfl | (simp only [List.length_drop, List.length_take]; rfl)) ?_; (with_reducible refine (lines_Read.calls (x1_1 ++ (⟨#[13, 10, 65]⟩ : ByteArray)) t127 t128 t129 _ A5.out (GW_below HG.out (by repeat (first | (with_reducible first | exact HB.out | apply below_alloc | apply pw_below_drewN | apply below_drew1 | apply below_set | exact Aside0.out (by assumption)) | exact HB.out | exact Aside0.out (by assumption))))).mono ?_); rintro e w11 ⟨v130, rfl, ho0, hb⟩; refine ⟨_, rfl, ?_⟩; have n0_ := Aside0.mk (Kd.R_elder' (by (with_reducible repeat (first | apply Kd.R_alloc | apply Kd.R_drewN | apply Kd.R_drew)); exact HO126.out) (Kd.R_base ho0) hb); have n1_ := Aside0.mk (Kd.R_lower (Kd.R_new' ho0 (Kd.R_lt (by (with_reducible repeat (first | apply Kd.R_alloc | apply Kd.R_drewN | apply Kd.R_drew)); exact HO126.out))) (below_size (by repeat (first | (with_reducible first | exact HB.out | apply below_alloc | apply pw_below_drewN | apply below_drew1) | exact HB.out)))); have n2_ := Aside0.mk (below_step (by repeat (first | (with_reducible first | exact HB.out | apply below_alloc | apply pw_below_drewN | apply below_drew1) | exact HB.out)) hb); clear HO126; clear HB; have HO126 := n0_; have HO131 := n1_; have HB := n2_; clear n0_ n1_ n2_; (try clear hb); (try clear hb2); (try clear hk); (try clear hi); (try clear ho0)) | (go_at_call 30; (with_reducible refine (remitterlaw15_wakes.calls  true _ A9.out (GW_below HG.out (by repeat (first | (with_reducible first | exact HB.out | apply below_alloc | apply pw_below_drewN | apply below_drew1 | apply below_set | exact Aside0.out (by assumption)) | exact HB.out | exact Aside0.out (by assumption))))).mono ?_); rintro e w12 ⟨rfl, hb⟩; have n0_ := Aside0.mk (Kd.R_below (by (with_reducible repeat (first | apply Kd.R_alloc | apply Kd.R_drewN | apply Kd.R_drew)); exact HO126.out) hb); have n1_ := Aside0.mk (Kd.R_below (by (with_reducible repeat (first | apply Kd.R_alloc | apply Kd.R_drewN | apply Kd.R_drew)); exact HO131.out) hb); have n2_ := Aside0.mk (below_step (by repeat (first | (with_reducible first | exact HB.out | apply below_alloc | apply pw_below_drewN | apply below_drew1) | exact HB.out)) hb); clear HO126; clear HO131; clear HB; have HO126 := n0_; have HO131 := n1_; have HB := n2_; clear n0_ n1_ n2_; (try clear hb); (try clear hb2); (try clear hk); (try clear hi)))
                all_goals first | (go_ret; exact ⟨rfl, by repeat (first | (with_reducible first | exact HB.out | apply below_alloc | apply pw_below_drewN | apply below_drew1) | exact HB.out)⟩) | (exfalso; omega) | (exfalso; simp_all; done)
              · rw [if_neg c8] at H
                have c8b0 : (t128 == (wrap64 ((x1_1.size : Int) + 2))) = false := beq_eq_false_iff_ne.mpr c8
                have c8b1 : (t128 != (wrap64 ((x1_1.size : Int) + 2))) = true := bne_iff_ne.mpr c8
                cases H
            · rw [if_neg c7] at H
              have c7b0 : (t129 == 3) = false := beq_eq_false_iff_ne.mpr c7
              have c7b1 : (t129 != 3) = true := bne_iff_ne.mpr c7
              cases H
          · rw [if_neg c6] at H
            have c6b0 : (t124 == 0) = false := beq_eq_false_iff_ne.mpr c6
            have c6b1 : (t124 != 0) = true := bne_iff_ne.mpr c6
            cases H
        · rw [if_neg c4] at H
          exact absurd H (by simp)

/-- THE ONE PURE STATEMENT of remitterlaw15_LinesLong: yours. -/
def remitterlaw15_LinesLong.Pure : Prop := ∃ k, remitterlaw15_LinesLong.f k  = some true
theorem remitterlaw15_LinesLong.walk (P : remitterlaw15_LinesLong.Pure)  (w : World)  (hG : GW w) :
    Calls Tryd.prog 12 #[] w fun e w' => e = .returned (.bool true) ∧ Below w.heap.size w w' := by
  obtain ⟨k, h⟩ := P  
  refine (remitterlaw15_LinesLong.calls k w h hG).mono ?_
  rintro e w' ⟨rfl, hd⟩
  exact ⟨rfl, hd⟩

end Go.Proofs.YtkklccccjmipkaaDoor.PAll

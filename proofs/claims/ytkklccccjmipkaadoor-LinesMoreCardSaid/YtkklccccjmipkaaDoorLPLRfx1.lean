-- Made by this session's wip/tools/gprint.py, which runs the kit's print program; some functions' contracts are proved by hand.
import Derived.Test.YtkklccccjmipkaaDoorLPLin0
namespace Go.Proofs.YtkklccccjmipkaaDoor.PAll
open Go.RowKit Go.Proofs.YtkklccccjmipkaaDoorW.PrintWords Go.Proofs.YtkklccccjmipkaaDoorW.PrintLast Go.Proofs.YtkklccccjmipkaaDoorW.PrintMore
attribute [local go_sem] max2_int min2_int max_two min_two max_three min_three max_four min_four   -- for this text's walks alone
set_option linter.unusedVariables false
set_option linter.unusedSimpArgs false

def remitterref15_Cut.l0 : Nat → ByteArray → List ByteArray → Int → Int → Option (List ByteArray)
  | 0, _, _, _, _ => none
  | k + 1, x0, x3, x4, x5 => if (wrap64 (x5 + 1)) < (x0.size : Int) then (if 0 ≤ x5 then (if x5 < (x0.size : Int) then (if (bt x0 x5) = 13 then (if 0 ≤ (wrap64 (x5 + 1)) then (if (bt x0 (wrap64 (x5 + 1))) = 10 then (if x5 ≥ x4 then (if 0 ≤ x4 then (if x4 ≤ x5 then (if x5 ≤ (x0.size : Int) then (if x3.length < 8796093022208 then (remitterref15_Cut.l0 k x0 (x3 ++ [x0.extract (x4 : Int).toNat (x5 : Int).toNat]) (wrap64 (x5 + 2)) (wrap64 (x5 + 1))) else (none)) else (none)) else (none)) else (none)) else (remitterref15_Cut.l0 k x0 x3 x4 (wrap64 (x5 + 1)))) else (remitterref15_Cut.l0 k x0 x3 x4 (wrap64 (x5 + 1)))) else (none)) else (remitterref15_Cut.l0 k x0 x3 x4 (wrap64 (x5 + 1)))) else (none)) else (none)) else (if 0 ≤ x4 then (if x4 ≤ (x0.size : Int) then (if x3.length < 8796093022208 then (some (x3 ++ [x0.extract (x4 : Int).toNat x0.size])) else (none)) else (none)) else (none))
def remitterref15_Cut.f (k : Nat) (a0 : ByteArray) : Option (List ByteArray) := remitterref15_Cut.l0 k a0 ([] : List ByteArray) 0 0
theorem remitterref15_Cut.mono_l : ∀ k, (∀ y0 y1 y2 y3, LeO (remitterref15_Cut.l0 k y0 y1 y2 y3) (remitterref15_Cut.l0 (k + 1) y0 y1 y2 y3))
  | 0 => fun _ _ _ _ r h => by simp [remitterref15_Cut.l0] at h
  | k + 1 => by
    have ih0 := remitterref15_Cut.mono_l k
    · intro y0 y1 y2 y3
      unfold remitterref15_Cut.l0
      repeat' first
      | (with_reducible exact ih0 _ _ _ _)
      | (with_reducible exact LeO.refl _)
      | (with_reducible exact LeO.none _)
      | (with_reducible refine LeO.ite ?_ ?_)
      | (with_reducible refine LeO.bind ?_ (fun _ => ?_))
      | exact ih0 _ _ _ _
      | exact LeO.none _
      | refine LeO.ite ?_ ?_
      | refine LeO.bind ?_ (fun _ => ?_)
theorem remitterref15_Cut.mono : ∀ a0 k, LeO (remitterref15_Cut.f k a0) (remitterref15_Cut.f (k + 1) a0) := by
  intro a0 k
  have ih0 := remitterref15_Cut.mono_l k
  unfold remitterref15_Cut.f
  repeat' first
      | (with_reducible exact ih0 _ _ _ _)
      | (with_reducible exact LeO.refl _)
      | (with_reducible exact LeO.none _)
      | (with_reducible refine LeO.ite ?_ ?_)
      | (with_reducible refine LeO.bind ?_ (fun _ => ?_))
      | exact ih0 _ _ _ _
      | exact LeO.none _
      | refine LeO.ite ?_ ?_
      | refine LeO.bind ?_ (fun _ => ?_)
set_option maxHeartbeats 8000000 in
set_option maxRecDepth 100000 in
theorem remitterref15_Cut.calls (k : Nat) (a0 : ByteArray) (r : List ByteArray) (w : World) (h : remitterref15_Cut.f k a0 = some r) :
    Calls Tryd.prog 34 #[.string a0] w fun e w' => ∃ v0_ : Value, e = .returned (v0_) ∧ Kd.R Kd.string 9 w' w.heap.size (fun _ => True) v0_ r ∧ Below w.heap.size w w' := by
  have HB := Aside0.mk (Below.refl w.heap.size w)
  have H : (remitterref15_Cut.l0 k a0 ([] : List ByteArray) 0 0) = some r := h
  clear h
  have H' := Aside0.mk H
  clear H
  go_enter Tryd.func34, Tryd.ntmps34
  go_wp2
  go_loopg [3, 4, 5] k (fun kq v3 v4 v5 w' => ∃ (x3_1 : List ByteArray) (x4_1 : Int) (x5_1 : Int), v4 = .int .i64 x4_1 ∧ v5 = .int .i64 x5_1 ∧ Aside0 (remitterref15_Cut.l0 kq a0 x3_1 x4_1 x5_1 = some r) ∧ Aside0 (kq ≤ k) ∧ Aside0 (Kd.R Kd.string 9 w' w.heap.size (fun _ => True) v3 x3_1) ∧ Aside0 (Below w.heap.size w w'))
  case atStart => exact ⟨(([] : List ByteArray)), (0), (0), (by first | rfl | (simp; done) | (simp [*]; done) | exact congrArg Value.bool (Go.Proofs.YtkklccccjmipkaaDoor.GLib.not_isEmpty _) | exact congrArg Value.bool (Go.Proofs.YtkklccccjmipkaaDoor.GLib.not_isEmpty _).symm), (by first | rfl | (simp; done) | (simp [*]; done) | exact congrArg Value.bool (Go.Proofs.YtkklccccjmipkaaDoor.GLib.not_isEmpty _) | exact congrArg Value.bool (Go.Proofs.YtkklccccjmipkaaDoor.GLib.not_isEmpty _).symm), H', ⟨Nat.le_refl _⟩, ⟨by first | exact Kd.R_nil _ _ _ _ _ | exact Kd.N_nil _ _ _ _ _ | exact Kd.V_nil _ _ _ _ _ | exact Kd.Q_nil _ _ _ _ _ | exact Kd.S_nil _ _ _ _ _⟩, ⟨by repeat (first | (with_reducible first | exact HB.out | apply below_alloc | apply pw_below_drewN | apply below_drew1) | exact HB.out)⟩⟩
  case round =>
    clear H'
    obtain ⟨x3_1, x4_1, x5_1, rfl, rfl, HA, HK1, HO_3, HB⟩ := hrel
    cases gk with
    | zero => exact absurd HA.out (by simp [remitterref15_Cut.l0])
    | succ k1 =>
      have H := HA.out
      clear HA
      simp only [remitterref15_Cut.l0] at H
      by_cases c2 : (wrap64 (x5_1 + 1)) < (a0.size : Int)
      · rw [if_pos c2] at H
        have c2b0 : decide ((wrap64 (x5_1 + 1)) < (a0.size : Int)) = true := decide_eq_true c2
        clear c2
        by_cases c3 : 0 ≤ x5_1
        · rw [if_pos c3] at H
          have c3b0 : decide (0 ≤ x5_1) = true := decide_eq_true c3
          clear c3
          by_cases c4 : x5_1 < (a0.size : Int)
          · rw [if_pos c4] at H
            have c4b0 : decide (x5_1 < (a0.size : Int)) = true := decide_eq_true c4
            clear c4
            by_cases c6 : (bt a0 x5_1) = 13
            · rw [if_pos c6] at H
              have c6b0 : ((bt a0 x5_1) == 13) = true := beq_iff_eq.mpr c6
              have c6b1 : ((bt a0 x5_1) != 13) = false := bne_eq_false_iff_eq.mpr c6
              clear c6
              obtain ⟨ji7, hji7⟩ : ∃ j_ : Int, (wrap64 (x5_1 + 1)) = j_ := ⟨_, rfl⟩
              replace H : (if 0 ≤ (ji7) then (if (bt a0 (ji7)) = 10 then (if x5_1 ≥ x4_1 then (if 0 ≤ x4_1 then (if x4_1 ≤ x5_1 then (if x5_1 ≤ (a0.size : Int) then (if x3_1.length < 8796093022208 then (remitterref15_Cut.l0 k1 a0 (x3_1 ++ [a0.extract (x4_1 : Int).toNat (x5_1 : Int).toNat]) (wrap64 (x5_1 + 2)) ji7) else (none)) else (none)) else (none)) else (none)) else (remitterref15_Cut.l0 k1 a0 x3_1 x4_1 ji7)) else (remitterref15_Cut.l0 k1 a0 x3_1 x4_1 ji7)) else (none)) = some r := by first | (rw [hji7] at H; exact H) | (simp only [hji7] at H ⊢; exact H)
              (try rw [hji7] at c2b0)
              have hji7w : (IntKind.i64.wrap (x5_1 + 1)) = ji7 := (i64_w _).trans hji7
              by_cases c8 : 0 ≤ (ji7)
              · rw [if_pos c8] at H
                have c8b0 : decide (0 ≤ (ji7)) = true := decide_eq_true c8
                clear c8
                by_cases c10 : (bt a0 (ji7)) = 10
                · rw [if_pos c10] at H
                  have c10b0 : ((bt a0 (ji7)) == 10) = true := beq_iff_eq.mpr c10
                  have c10b1 : ((bt a0 (ji7)) != 10) = false := bne_eq_false_iff_eq.mpr c10
                  clear c10
                  by_cases c11 : x5_1 ≥ x4_1
                  · rw [if_pos c11] at H
                    have c11b0 : decide (x4_1 ≤ x5_1) = true := decide_eq_true c11
                    clear c11
                    by_cases c12 : 0 ≤ x4_1
                    · rw [if_pos c12] at H
                      have c12b0 := eq_true c12
                      have c12b1 : decide (0 ≤ x4_1) = true := decide_eq_true c12
                      clear c12
                      by_cases c13 : x4_1 ≤ x5_1
                      · rw [if_pos c13] at H
                        have c13b0 := eq_true c13
                        have c13b1 : decide (x4_1 ≤ x5_1) = true := decide_eq_true c13
                        clear c13
                        by_cases c14 : x5_1 ≤ (a0.size : Int)
                        · rw [if_pos c14] at H
                          have c14b0 := eq_true c14
                          have c14b1 : decide (x5_1 ≤ (a0.size : Int)) = true := decide_eq_true c14
                          clear c14
                          by_cases c15 : x3_1.length < 8796093022208
                          · rw [if_pos c15] at H
                            have LMc15 := Aside0.mk c15
                            clear c15
                            obtain ⟨y101, hy101⟩ : ∃ y_ : List ByteArray, y_ = (x3_1 ++ [a0.extract (x4_1 : Int).toNat (x5_1 : Int).toNat]) := ⟨_, rfl⟩
                            replace H : (remitterref15_Cut.l0 k1 a0 y101 (wrap64 (x5_1 + 2)) ji7) = some r := by first | (rw [hy101]; with_reducible exact H) | (have H2_ := (Option.bind_some _ _).symm.trans H; rw [hy101]; with_reducible exact H2_) | (have H2_ := (Option.bind_some _ _).symm.trans H; with_reducible exact H2_) | with_reducible exact H | (rw [hy101]; exact H) | exact H
                            have Ny101 := Aside0.mk hy101
                            clear hy101
                            have H' := Aside0.mk H
                            clear H
                            have p5 : 0 ≤ (x5_1 : Int) := of_decide_eq_true (by first | (with_reducible assumption) | assumption)
                            have q5 : x5_1 < (a0.size : Int) := of_decide_eq_true (by first | (with_reducible assumption) | assumption)
                            have hx5 := bt_at a0 x5_1
                            replace p5 := eq_true p5
                            replace q5 := eq_true q5
                            have p9 : 0 ≤ ((ji7) : Int) := of_decide_eq_true (by first | (with_reducible assumption) | assumption)
                            have q9 : (ji7) < (a0.size : Int) := of_decide_eq_true (by first | (with_reducible assumption) | assumption)
                            have hx9 := bt_at a0 (ji7)
                            replace p9 := eq_true p9
                            replace q9 := eq_true q9
                            go_wp2_with (first | ((with_reducible refine gate_builtin (b := .append) (xs := #[.tmp 29, .tmp 34]) rfl ?_); at_builtin; refine Kd.R_append Kd.string (w0 := w) w.heap.size rfl (.tmp 29) (.tmp 34) 64 9 (.string ⟨#[]⟩) 16 rfl Tryd.underlying64 info9 rfl (by decide) (by omega) u3 x3_1 (a0.extract (x4_1 : Int).toNat (x5_1 : Int).toNat) [.string (a0.extract (x4_1 : Int).toNat (x5_1 : Int).toNat)] (fun _ => True) (fun _ => False) rfl rfl ?aP (fun _ hk => hk.elim) ?aF ?aO ?aB ?aS ?aL ?_; (case aP => exact rfl); (case aB => exact (by repeat (first | (with_reducible first | exact HB.out | apply below_alloc | apply pw_below_drewN | apply below_drew1) | exact HB.out))); (case aF => exact (fun _ _ => trivial)); (case aO => exact (by (with_reducible repeat (first | apply Kd.R_alloc | apply Kd.R_drewN | apply Kd.R_drew)); exact HO_3.out)); (case aS => exact (below_size (by repeat (first | (with_reducible first | exact HB.out | apply below_alloc | apply pw_below_drewN | apply below_drew1) | exact HB.out)))); (case aL => have := LMc15.out; omega); intro v102 w16 ho hb hg hat; rw [← Ny101.out] at ho; have n0_ := Aside0.mk (hb); have n1_ := Aside0.mk (ho); clear HB; clear HO_3; have HB := n0_; have HO103 := n1_; clear n0_ n1_; clear ho hb hg hat))
                            go_roundg k1
                            case measure => have := HK1.out; omega
                            case rel => exact ⟨(y101), (wrap64 (x5_1 + 2)), (ji7), (by first | rfl | (simp; done) | (simp [*]; done) | exact congrArg Value.bool (Go.Proofs.YtkklccccjmipkaaDoor.GLib.not_isEmpty _) | exact congrArg Value.bool (Go.Proofs.YtkklccccjmipkaaDoor.GLib.not_isEmpty _).symm), (by first | rfl | (simp; done) | (simp only [← hji7] <;> (first | rfl | simp)) | (simp [*]; done)), H', ⟨by have := HK1.out; omega⟩, ⟨by (with_reducible repeat (first | apply Kd.R_alloc | apply Kd.R_drewN | apply Kd.R_drew)); exact HO103.out⟩, ⟨by repeat (first | (with_reducible first | exact HB.out | apply below_alloc | apply pw_below_drewN | apply below_drew1) | exact HB.out)⟩⟩
                          · rw [if_neg c15] at H
                            exact absurd H (by simp)
                        · rw [if_neg c14] at H
                          exact absurd H (by simp)
                      · rw [if_neg c13] at H
                        exact absurd H (by simp)
                    · rw [if_neg c12] at H
                      exact absurd H (by simp)
                  · rw [if_neg c11] at H
                    have c11b0 : decide (x4_1 ≤ x5_1) = false := decide_eq_false c11
                    clear c11
                    have H' := Aside0.mk H
                    clear H
                    have p5 : 0 ≤ (x5_1 : Int) := of_decide_eq_true (by first | (with_reducible assumption) | assumption)
                    have q5 : x5_1 < (a0.size : Int) := of_decide_eq_true (by first | (with_reducible assumption) | assumption)
                    have hx5 := bt_at a0 x5_1
                    replace p5 := eq_true p5
                    replace q5 := eq_true q5
                    have p9 : 0 ≤ ((ji7) : Int) := of_decide_eq_true (by first | (with_reducible assumption) | assumption)
                    have q9 : (ji7) < (a0.size : Int) := of_decide_eq_true (by first | (with_reducible assumption) | assumption)
                    have hx9 := bt_at a0 (ji7)
                    replace p9 := eq_true p9
                    replace q9 := eq_true q9
                    go_wp2
                    go_roundg k1
                    case measure => have := HK1.out; omega
                    case rel => exact ⟨(x3_1), (x4_1), (ji7), (by first | rfl | (simp; done) | (simp [*]; done) | exact congrArg Value.bool (Go.Proofs.YtkklccccjmipkaaDoor.GLib.not_isEmpty _) | exact congrArg Value.bool (Go.Proofs.YtkklccccjmipkaaDoor.GLib.not_isEmpty _).symm), (by first | rfl | (simp; done) | (simp only [← hji7] <;> (first | rfl | simp)) | (simp [*]; done)), H', ⟨by have := HK1.out; omega⟩, ⟨by (with_reducible repeat (first | apply Kd.R_alloc | apply Kd.R_drewN | apply Kd.R_drew)); exact HO_3.out⟩, ⟨by repeat (first | (with_reducible first | exact HB.out | apply below_alloc | apply pw_below_drewN | apply below_drew1) | exact HB.out)⟩⟩
                · rw [if_neg c10] at H
                  have c10b0 : ((bt a0 (ji7)) == 10) = false := beq_eq_false_iff_ne.mpr c10
                  have c10b1 : ((bt a0 (ji7)) != 10) = true := bne_iff_ne.mpr c10
                  have H' := Aside0.mk H
                  clear H
                  have p5 : 0 ≤ (x5_1 : Int) := of_decide_eq_true (by first | (with_reducible assumption) | assumption)
                  have q5 : x5_1 < (a0.size : Int) := of_decide_eq_true (by first | (with_reducible assumption) | assumption)
                  have hx5 := bt_at a0 x5_1
                  replace p5 := eq_true p5
                  replace q5 := eq_true q5
                  have p9 : 0 ≤ ((ji7) : Int) := of_decide_eq_true (by first | (with_reducible assumption) | assumption)
                  have q9 : (ji7) < (a0.size : Int) := of_decide_eq_true (by first | (with_reducible assumption) | assumption)
                  have hx9 := bt_at a0 (ji7)
                  replace p9 := eq_true p9
                  replace q9 := eq_true q9
                  go_wp2
                  go_roundg k1
                  case measure => have := HK1.out; omega
                  case rel => exact ⟨(x3_1), (x4_1), (ji7), (by first | rfl | (simp; done) | (simp [*]; done) | exact congrArg Value.bool (Go.Proofs.YtkklccccjmipkaaDoor.GLib.not_isEmpty _) | exact congrArg Value.bool (Go.Proofs.YtkklccccjmipkaaDoor.GLib.not_isEmpty _).symm), (by first | rfl | (simp; done) | (simp only [← hji7] <;> (first | rfl | simp)) | (simp [*]; done)), H', ⟨by have := HK1.out; omega⟩, ⟨by (with_reducible repeat (first | apply Kd.R_alloc | apply Kd.R_drewN | apply Kd.R_drew)); exact HO_3.out⟩, ⟨by repeat (first | (with_reducible first | exact HB.out | apply below_alloc | apply pw_below_drewN | apply below_drew1) | exact HB.out)⟩⟩
              · rw [if_neg c8] at H
                exact absurd H (by simp)
            · rw [if_neg c6] at H
              have c6b0 : ((bt a0 x5_1) == 13) = false := beq_eq_false_iff_ne.mpr c6
              have c6b1 : ((bt a0 x5_1) != 13) = true := bne_iff_ne.mpr c6
              have H' := Aside0.mk H
              clear H
              have p5 : 0 ≤ (x5_1 : Int) := of_decide_eq_true (by first | (with_reducible assumption) | assumption)
              have q5 : x5_1 < (a0.size : Int) := of_decide_eq_true (by first | (with_reducible assumption) | assumption)
              have hx5 := bt_at a0 x5_1
              replace p5 := eq_true p5
              replace q5 := eq_true q5
              go_wp2
              go_roundg k1
              case measure => have := HK1.out; omega
              case rel => exact ⟨(x3_1), (x4_1), (wrap64 (x5_1 + 1)), (by first | rfl | (simp; done) | (simp [*]; done) | exact congrArg Value.bool (Go.Proofs.YtkklccccjmipkaaDoor.GLib.not_isEmpty _) | exact congrArg Value.bool (Go.Proofs.YtkklccccjmipkaaDoor.GLib.not_isEmpty _).symm), (by first | rfl | (simp; done) | (simp [*]; done) | exact congrArg Value.bool (Go.Proofs.YtkklccccjmipkaaDoor.GLib.not_isEmpty _) | exact congrArg Value.bool (Go.Proofs.YtkklccccjmipkaaDoor.GLib.not_isEmpty _).symm), H', ⟨by have := HK1.out; omega⟩, ⟨by (with_reducible repeat (first | apply Kd.R_alloc | apply Kd.R_drewN | apply Kd.R_drew)); exact HO_3.out⟩, ⟨by repeat (first | (with_reducible first | exact HB.out | apply below_alloc | apply pw_below_drewN | apply below_drew1) | exact HB.out)⟩⟩
          · rw [if_neg c4] at H
            exact absurd H (by simp)
        · rw [if_neg c3] at H
          exact absurd H (by simp)
      · rw [if_neg c2] at H
        have c2b0 : decide ((wrap64 (x5_1 + 1)) < (a0.size : Int)) = false := decide_eq_false c2
        clear c2
        by_cases c17 : 0 ≤ x4_1
        · rw [if_pos c17] at H
          have c17b0 := eq_true c17
          have c17b1 : decide (0 ≤ x4_1) = true := decide_eq_true c17
          clear c17
          by_cases c18 : x4_1 ≤ (a0.size : Int)
          · rw [if_pos c18] at H
            have c18b0 := eq_true c18
            have c18b1 : decide (x4_1 ≤ (a0.size : Int)) = true := decide_eq_true c18
            clear c18
            by_cases c19 : x3_1.length < 8796093022208
            · rw [if_pos c19] at H
              have LMc19 := Aside0.mk c19
              clear c19
              obtain ⟨y104, hy104⟩ : ∃ y_ : List ByteArray, y_ = (x3_1 ++ [a0.extract (x4_1 : Int).toNat a0.size]) := ⟨_, rfl⟩
              replace H : (some y104) = some r := by first | (rw [hy104]; with_reducible exact H) | (have H2_ := (Option.bind_some _ _).symm.trans H; rw [hy104]; with_reducible exact H2_) | (have H2_ := (Option.bind_some _ _).symm.trans H; with_reducible exact H2_) | with_reducible exact H | (rw [hy104]; exact H) | exact H
              have Ny104 := Aside0.mk hy104
              clear hy104
              obtain rfl := Option.some.inj H
              go_wp2_with (first | ((with_reducible refine gate_builtin (b := .append) (xs := #[.tmp 38, .tmp 42]) rfl ?_); at_builtin; refine Kd.R_append Kd.string (w0 := w) w.heap.size rfl (.tmp 38) (.tmp 42) 64 9 (.string ⟨#[]⟩) 16 rfl Tryd.underlying64 info9 rfl (by decide) (by omega) u3 x3_1 (a0.extract (x4_1 : Int).toNat a0.size) [.string (a0.extract (x4_1 : Int).toNat a0.size)] (fun _ => True) (fun _ => False) rfl rfl ?aP (fun _ hk => hk.elim) ?aF ?aO ?aB ?aS ?aL ?_; (case aP => exact rfl); (case aB => exact (by repeat (first | (with_reducible first | exact HB.out | apply below_alloc | apply pw_below_drewN | apply below_drew1) | exact HB.out))); (case aF => exact (fun _ _ => trivial)); (case aO => exact (by (with_reducible repeat (first | apply Kd.R_alloc | apply Kd.R_drewN | apply Kd.R_drew)); exact HO_3.out)); (case aS => exact (below_size (by repeat (first | (with_reducible first | exact HB.out | apply below_alloc | apply pw_below_drewN | apply below_drew1) | exact HB.out)))); (case aL => have := LMc19.out; omega); intro v105 w20 ho hb hg hat; rw [← Ny104.out] at ho; have n0_ := Aside0.mk (hb); have n1_ := Aside0.mk (ho); clear HB; clear HO_3; have HB := n0_; have HO106 := n1_; clear n0_ n1_; clear ho hb hg hat))
              go_ret
              exact ⟨_, by first | rfl | (simp [errW_none, errW_some] <;> rfl) | (simp [*, errW_none, errW_some] <;> rfl), by (with_reducible repeat (first | apply Kd.R_alloc | apply Kd.R_drewN | apply Kd.R_drew)); exact HO106.out, by repeat (first | (with_reducible first | exact HB.out | apply below_alloc | apply pw_below_drewN | apply below_drew1) | exact HB.out)⟩
            · rw [if_neg c19] at H
              exact absurd H (by simp)
          · rw [if_neg c18] at H
            exact absurd H (by simp)
        · rw [if_neg c17] at H
          exact absurd H (by simp)

def remitterref15_digit.f (a0 : Int) : Option (Bool) := if a0 ≥ 48 then (some (decide (a0 ≤ 57))) else (some false)
set_option maxHeartbeats 8000000 in
set_option maxRecDepth 100000 in
theorem remitterref15_digit.calls (a0 : Int) (r : Bool) (w : World) (h : remitterref15_digit.f a0 = some r) :
    Calls Tryd.prog 125 #[.int .u8 a0] w fun e w' => e = .returned (.bool r) ∧ Drawn0 w w' := by
  have H : (if a0 ≥ 48 then (some (decide (a0 ≤ 57))) else (some false)) = some r := h
  clear h
  by_cases c2 : a0 ≥ 48
  · rw [if_pos c2] at H
    have c2b0 : decide (48 ≤ a0) = true := decide_eq_true c2
    clear c2
    obtain rfl := Option.some.inj H
    go_enter Tryd.func125, Tryd.ntmps125
    go_wp2
    all_goals (first | (exfalso; simp_all; done) | (exfalso; omega) | (go_ret; exact ⟨by first | rfl | (simp; done) | (simp [*]; done), by repeat (first | exact Drawn0.refl _ | apply Drawn0.step)⟩))
  · rw [if_neg c2] at H
    have c2b0 : decide (48 ≤ a0) = false := decide_eq_false c2
    clear c2
    obtain rfl := Option.some.inj H
    go_enter Tryd.func125, Tryd.ntmps125
    go_wp2
    all_goals (first | (exfalso; simp_all; done) | (exfalso; omega) | (go_ret; exact ⟨by first | rfl | (simp; done) | (simp [*]; done), by repeat (first | exact Drawn0.refl _ | apply Drawn0.step)⟩))

def remitterref15_tag.j0 : Nat → ByteArray → Bool → Option (Int)
  | 0, _, _ => none
  | k + 1, x0, x20 => if x20 = true then (if 3 < (x0.size : Int) then (if (bt x0 3) = 58 then (some 2) else (if (x0.size : Int) ≥ 5 then (if (bt x0 3) ≥ 65 then (if (bt x0 3) ≤ 90 then (if 4 < (x0.size : Int) then (if (bt x0 4) = 58 then (some 3) else (some 0)) else (none)) else (some 0)) else (some 0)) else (some 0))) else (none)) else (some 0)
def remitterref15_tag.f (k : Nat) (a0 : ByteArray) : Option (Int) := if (a0.size : Int) ≥ 4 then (if 0 < (a0.size : Int) then (if (bt a0 0) = 58 then (if 1 < (a0.size : Int) then ((remitterref15_digit.f (bt a0 1)).bind fun t107 => (if t107 = true then (if 2 < (a0.size : Int) then ((remitterref15_digit.f (bt a0 2)).bind fun t108 => (remitterref15_tag.j0 k a0 t108)) else (none)) else (remitterref15_tag.j0 k a0 false))) else (none)) else (remitterref15_tag.j0 k a0 false)) else (none)) else (remitterref15_tag.j0 k a0 false)
theorem remitterref15_tag.mono_l : ∀ k, (∀ y0 y1, LeO (remitterref15_tag.j0 k y0 y1) (remitterref15_tag.j0 (k + 1) y0 y1))
  | 0 => fun _ _ r h => by simp [remitterref15_tag.j0] at h
  | k + 1 => by
    have ih0 := remitterref15_tag.mono_l k
    · intro y0 y1
      unfold remitterref15_tag.j0
      repeat' first
      | (with_reducible exact ih0 _ _)
      | (with_reducible exact LeO.refl _)
      | (with_reducible exact LeO.none _)
      | (with_reducible refine LeO.ite ?_ ?_)
      | (with_reducible refine LeO.bind ?_ (fun _ => ?_))
      | exact ih0 _ _
      | exact LeO.none _
      | refine LeO.ite ?_ ?_
      | refine LeO.bind ?_ (fun _ => ?_)
theorem remitterref15_tag.mono : ∀ a0 k, LeO (remitterref15_tag.f k a0) (remitterref15_tag.f (k + 1) a0) := by
  intro a0 k
  have ih0 := remitterref15_tag.mono_l k
  unfold remitterref15_tag.f
  repeat' first
      | (with_reducible exact ih0 _ _)
      | (with_reducible exact LeO.refl _)
      | (with_reducible exact LeO.none _)
      | (with_reducible refine LeO.ite ?_ ?_)
      | (with_reducible refine LeO.bind ?_ (fun _ => ?_))
      | exact ih0 _ _
      | exact LeO.none _
      | refine LeO.ite ?_ ?_
      | refine LeO.bind ?_ (fun _ => ?_)
set_option maxHeartbeats 8000000 in
set_option maxRecDepth 100000 in
theorem remitterref15_tag.calls (k : Nat) (a0 : ByteArray) (r : Int) (w : World) (h : remitterref15_tag.f k a0 = some r) :
    Calls Tryd.prog 70 #[.string a0] w fun e w' => e = .returned (.int .i64 r) ∧ Drawn0 w w' := by
  have H : (if (a0.size : Int) ≥ 4 then (if 0 < (a0.size : Int) then (if (bt a0 0) = 58 then (if 1 < (a0.size : Int) then ((remitterref15_digit.f (bt a0 1)).bind fun t107 => (if t107 = true then (if 2 < (a0.size : Int) then ((remitterref15_digit.f (bt a0 2)).bind fun t108 => (remitterref15_tag.j0 k a0 t108)) else (none)) else (remitterref15_tag.j0 k a0 false))) else (none)) else (remitterref15_tag.j0 k a0 false)) else (none)) else (remitterref15_tag.j0 k a0 false)) = some r := h
  clear h
  have HC2 := Aside0.mk H
  clear H
  go_enter Tryd.func70, Tryd.ntmps70
  go_upto_region 1 with (fail)
  go_cut [20] (fun v20 wc => ∃ (kq : Nat) (x20_1 : Bool), v20 = .bool x20_1 ∧ Aside0 (remitterref15_tag.j0 kq a0 x20_1 = some r) ∧ Aside0 (kq ≤ k) ∧ Drawn0 w wc)
  case first =>
    have H := HC2.out
    clear HC2
    by_cases c3 : (a0.size : Int) ≥ 4
    · rw [if_pos c3] at H
      have c3b0 : decide (4 ≤ (a0.size : Int)) = true := decide_eq_true c3
      have c3b1 : decide (4 ≤ a0.size) = true := decide_eq_true (by omega)
      clear c3
      (first | rw [c3b0] | (simp only [i64_w, i32_w]; rw [c3b0]) | skip)
      by_cases c4 : 0 < (a0.size : Int)
      · rw [if_pos c4] at H
        have c4b0 : decide (0 < (a0.size : Int)) = true := decide_eq_true c4
        have c4b1 : decide (0 < a0.size) = true := decide_eq_true (by omega)
        clear c4
        by_cases c6 : (bt a0 0) = 58
        · rw [if_pos c6] at H
          have c6b0 : ((bt a0 0) == 58) = true := beq_iff_eq.mpr c6
          have c6b1 : ((bt a0 0) != 58) = false := bne_eq_false_iff_eq.mpr c6
          clear c6
          by_cases c7 : 1 < (a0.size : Int)
          · rw [if_pos c7] at H
            have c7b0 : decide (1 < (a0.size : Int)) = true := decide_eq_true c7
            have c7b1 : decide (1 < a0.size) = true := decide_eq_true (by omega)
            clear c7
            replace H := Option.bind_eq_some_iff.mp H
            obtain ⟨t107, A90, H⟩ := H
            replace H : (if t107 = true then (if 2 < (a0.size : Int) then ((remitterref15_digit.f (bt a0 2)).bind fun t108 => (remitterref15_tag.j0 k a0 t108)) else (none)) else (remitterref15_tag.j0 k a0 false)) = some r := H
            have A9 := Aside0.mk A90
            clear A90
            by_cases c10 : t107 = true
            · subst c10
              have H1 : (if 2 < (a0.size : Int) then ((remitterref15_digit.f (bt a0 2)).bind fun t108 => (remitterref15_tag.j0 k a0 t108)) else (none)) = some r := by rw [if_pos rfl] at H; exact H
              clear H
              have H := H1
              clear H1
              by_cases c11 : 2 < (a0.size : Int)
              · rw [if_pos c11] at H
                have c11b0 : decide (2 < (a0.size : Int)) = true := decide_eq_true c11
                have c11b1 : decide (2 < a0.size) = true := decide_eq_true (by omega)
                clear c11
                replace H := Option.bind_eq_some_iff.mp H
                obtain ⟨t108, A130, H⟩ := H
                replace H : (remitterref15_tag.j0 k a0 t108) = some r := H
                have A13 := Aside0.mk A130
                clear A130
                have H' := Aside0.mk H
                clear H
                have p5 : 0 ≤ (0 : Int) := (by omega)
                have q5 : 0 < a0.size := (by have : (0 : Int) < (a0.size : Int) := of_decide_eq_true (by first | (with_reducible assumption) | assumption); omega)
                have hx5 : ∀ h : 0 < a0.size, ((a0[0]'h).toNat : Int) = bt a0 0 := bt_at a0 0
                clear p5
                have qi5 : (0 < (a0.size : Int)) = True := eq_true (of_decide_eq_true (by first | (with_reducible assumption) | assumption))
                replace q5 := eq_true q5
                have p8 : 0 ≤ (1 : Int) := (by omega)
                have q8 : 1 < a0.size := (by have : (1 : Int) < (a0.size : Int) := of_decide_eq_true (by first | (with_reducible assumption) | assumption); omega)
                have hx8 : ∀ h : 1 < a0.size, ((a0[1]'h).toNat : Int) = bt a0 1 := bt_at a0 1
                clear p8
                have qi8 : (1 < (a0.size : Int)) = True := eq_true (of_decide_eq_true (by first | (with_reducible assumption) | assumption))
                replace q8 := eq_true q8
                go_wp2_with (first | (go_at_call 125; (with_reducible refine (remitterref15_digit.calls (bt a0 1) true _ A9.out).mono ?_); rintro e w' ⟨rfl, ⟨nd, rfl⟩⟩; have p12 : 0 ≤ (2 : Int) := (by omega); have q12 : 2 < a0.size := (by have : (2 : Int) < (a0.size : Int) := of_decide_eq_true (by first | (with_reducible assumption) | assumption); omega); have hx12 : ∀ h : 2 < a0.size, ((a0[2]'h).toNat : Int) = bt a0 2 := bt_at a0 2; clear p12; have qi12 : (2 < (a0.size : Int)) = True := eq_true (of_decide_eq_true (by first | (with_reducible assumption) | assumption)); replace q12 := eq_true q12) | (go_at_call 125; (with_reducible refine (remitterref15_digit.calls (bt a0 2) t108 _ A13.out).mono ?_); rintro e w' ⟨rfl, ⟨nd, rfl⟩⟩))
                go_meet
                case rel => exact ⟨_, (t108), (by first | rfl | (simp; done) | (simp [*]; done) | exact congrArg Value.bool (Go.Proofs.YtkklccccjmipkaaDoor.GLib.not_isEmpty _) | exact congrArg Value.bool (Go.Proofs.YtkklccccjmipkaaDoor.GLib.not_isEmpty _).symm), H', ⟨by first | omega | exact Nat.le_refl _⟩, by repeat (first | exact Drawn0.refl _ | apply Drawn0.step)⟩
              · rw [if_neg c11] at H
                exact absurd H (by simp)
            · replace c10 := Bool.eq_false_iff.mpr c10
              subst c10
              have H1 : (remitterref15_tag.j0 k a0 false) = some r := by rw [if_neg (show ¬ (false = true) by decide)] at H; exact H
              clear H
              have H := H1
              clear H1
              have H' := Aside0.mk H
              clear H
              have p5 : 0 ≤ (0 : Int) := (by omega)
              have q5 : 0 < a0.size := (by have : (0 : Int) < (a0.size : Int) := of_decide_eq_true (by first | (with_reducible assumption) | assumption); omega)
              have hx5 : ∀ h : 0 < a0.size, ((a0[0]'h).toNat : Int) = bt a0 0 := bt_at a0 0
              clear p5
              have qi5 : (0 < (a0.size : Int)) = True := eq_true (of_decide_eq_true (by first | (with_reducible assumption) | assumption))
              replace q5 := eq_true q5
              have p8 : 0 ≤ (1 : Int) := (by omega)
              have q8 : 1 < a0.size := (by have : (1 : Int) < (a0.size : Int) := of_decide_eq_true (by first | (with_reducible assumption) | assumption); omega)
              have hx8 : ∀ h : 1 < a0.size, ((a0[1]'h).toNat : Int) = bt a0 1 := bt_at a0 1
              clear p8
              have qi8 : (1 < (a0.size : Int)) = True := eq_true (of_decide_eq_true (by first | (with_reducible assumption) | assumption))
              replace q8 := eq_true q8
              go_wp2_with (first | (go_at_call 125; (with_reducible refine (remitterref15_digit.calls (bt a0 1) false _ A9.out).mono ?_); rintro e w' ⟨rfl, ⟨nd, rfl⟩⟩))
              go_meet
              case rel => exact ⟨_, (false), (by first | rfl | (simp; done) | (simp [*]; done) | exact congrArg Value.bool (Go.Proofs.YtkklccccjmipkaaDoor.GLib.not_isEmpty _) | exact congrArg Value.bool (Go.Proofs.YtkklccccjmipkaaDoor.GLib.not_isEmpty _).symm), H', ⟨by first | omega | exact Nat.le_refl _⟩, by repeat (first | exact Drawn0.refl _ | apply Drawn0.step)⟩
          · rw [if_neg c7] at H
            exact absurd H (by simp)
        · rw [if_neg c6] at H
          have c6b0 : ((bt a0 0) == 58) = false := beq_eq_false_iff_ne.mpr c6
          have c6b1 : ((bt a0 0) != 58) = true := bne_iff_ne.mpr c6
          have H' := Aside0.mk H
          clear H
          have p5 : 0 ≤ (0 : Int) := (by omega)
          have q5 : 0 < a0.size := (by have : (0 : Int) < (a0.size : Int) := of_decide_eq_true (by first | (with_reducible assumption) | assumption); omega)
          have hx5 : ∀ h : 0 < a0.size, ((a0[0]'h).toNat : Int) = bt a0 0 := bt_at a0 0
          clear p5
          have qi5 : (0 < (a0.size : Int)) = True := eq_true (of_decide_eq_true (by first | (with_reducible assumption) | assumption))
          replace q5 := eq_true q5
          go_wp2
          go_meet
          case rel => exact ⟨_, (false), (by first | rfl | (simp; done) | (simp [*]; done) | exact congrArg Value.bool (Go.Proofs.YtkklccccjmipkaaDoor.GLib.not_isEmpty _) | exact congrArg Value.bool (Go.Proofs.YtkklccccjmipkaaDoor.GLib.not_isEmpty _).symm), H', ⟨by first | omega | exact Nat.le_refl _⟩, by repeat (first | exact Drawn0.refl _ | apply Drawn0.step)⟩
      · rw [if_neg c4] at H
        exact absurd H (by simp)
    · rw [if_neg c3] at H
      have c3b0 : decide (4 ≤ (a0.size : Int)) = false := decide_eq_false c3
      have c3b1 : decide (4 ≤ a0.size) = false := decide_eq_false (by omega)
      clear c3
      (first | rw [c3b0] | (simp only [i64_w, i32_w]; rw [c3b0]) | skip)
      have H' := Aside0.mk H
      clear H
      go_wp2
      go_meet
      case rel => exact ⟨_, (false), (by first | rfl | (simp; done) | (simp [*]; done) | exact congrArg Value.bool (Go.Proofs.YtkklccccjmipkaaDoor.GLib.not_isEmpty _) | exact congrArg Value.bool (Go.Proofs.YtkklccccjmipkaaDoor.GLib.not_isEmpty _).symm), H', ⟨by first | omega | exact Nat.le_refl _⟩, by repeat (first | exact Drawn0.refl _ | apply Drawn0.step)⟩
  case rest =>
    clear HC2
    try clear c1
    try clear p1
    try clear q1
    try clear hx1
    try clear qi1
    try clear p2
    try clear c3
    try clear c3b0
    try clear c3b1
    try clear c4
    try clear c4b0
    try clear c4b1
    try clear p5
    try clear q5
    try clear hx5
    try clear qi5
    try clear c6
    try clear c6b0
    try clear c6b1
    try clear c7
    try clear c7b0
    try clear c7b1
    try clear p8
    try clear q8
    try clear hx8
    try clear qi8
    try clear c10
    try clear c11
    try clear c11b0
    try clear c11b1
    try clear p12
    try clear q12
    try clear hx12
    try clear qi12
    try clear p12
    try clear p5
    try clear p8
    try clear q12
    try clear q5
    try clear q8
    obtain ⟨kq, x20_1, rfl, HA, HJ1, ⟨mc1, rfl⟩⟩ := hcut
    cases kq with
    | zero => exact absurd HA.out (by simp [remitterref15_tag.j0])
    | succ kj1 =>
      have H := HA.out
      clear HA
      simp only [remitterref15_tag.j0] at H
      by_cases c14 : x20_1 = true
      · subst c14
        have H1 : (if 3 < (a0.size : Int) then (if (bt a0 3) = 58 then (some 2) else (if (a0.size : Int) ≥ 5 then (if (bt a0 3) ≥ 65 then (if (bt a0 3) ≤ 90 then (if 4 < (a0.size : Int) then (if (bt a0 4) = 58 then (some 3) else (some 0)) else (none)) else (some 0)) else (some 0)) else (some 0))) else (none)) = some r := by rw [if_pos rfl] at H; exact H
        clear H
        have H := H1
        clear H1
        by_cases c15 : 3 < (a0.size : Int)
        · rw [if_pos c15] at H
          have c15b0 : decide (3 < (a0.size : Int)) = true := decide_eq_true c15
          have c15b1 : decide (3 < a0.size) = true := decide_eq_true (by omega)
          clear c15
          by_cases c17 : (bt a0 3) = 58
          · rw [if_pos c17] at H
            have c17b0 : ((bt a0 3) == 58) = true := beq_iff_eq.mpr c17
            have c17b1 : ((bt a0 3) != 58) = false := bne_eq_false_iff_eq.mpr c17
            clear c17
            obtain rfl := Option.some.inj H
            have p16 : 0 ≤ (3 : Int) := (by omega)
            have q16 : 3 < a0.size := (by have : (3 : Int) < (a0.size : Int) := of_decide_eq_true (by first | (with_reducible assumption) | assumption); omega)
            have hx16 : ∀ h : 3 < a0.size, ((a0[3]'h).toNat : Int) = bt a0 3 := bt_at a0 3
            clear p16
            have qi16 : (3 < (a0.size : Int)) = True := eq_true (of_decide_eq_true (by first | (with_reducible assumption) | assumption))
            replace q16 := eq_true q16
            go_wp2
            all_goals (first | (exfalso; simp_all; done) | (exfalso; omega) | (go_ret; exact ⟨by first | rfl | (simp; done) | (simp [*]; done), by repeat (first | exact Drawn0.refl _ | apply Drawn0.step)⟩))
          · rw [if_neg c17] at H
            have c17b0 : ((bt a0 3) == 58) = false := beq_eq_false_iff_ne.mpr c17
            have c17b1 : ((bt a0 3) != 58) = true := bne_iff_ne.mpr c17
            by_cases c18 : (a0.size : Int) ≥ 5
            · rw [if_pos c18] at H
              have c18b0 : decide (5 ≤ (a0.size : Int)) = true := decide_eq_true c18
              have c18b1 : decide (5 ≤ a0.size) = true := decide_eq_true (by omega)
              clear c18
              by_cases c20 : (bt a0 3) ≥ 65
              · rw [if_pos c20] at H
                have c20b0 : decide (65 ≤ (bt a0 3)) = true := decide_eq_true c20
                clear c20
                by_cases c22 : (bt a0 3) ≤ 90
                · rw [if_pos c22] at H
                  have c22b0 : decide ((bt a0 3) ≤ 90) = true := decide_eq_true c22
                  clear c22
                  by_cases c23 : 4 < (a0.size : Int)
                  · rw [if_pos c23] at H
                    have c23b0 : decide (4 < (a0.size : Int)) = true := decide_eq_true c23
                    have c23b1 : decide (4 < a0.size) = true := decide_eq_true (by omega)
                    clear c23
                    by_cases c25 : (bt a0 4) = 58
                    · rw [if_pos c25] at H
                      have c25b0 : ((bt a0 4) == 58) = true := beq_iff_eq.mpr c25
                      have c25b1 : ((bt a0 4) != 58) = false := bne_eq_false_iff_eq.mpr c25
                      clear c25
                      obtain rfl := Option.some.inj H
                      have p16 : 0 ≤ (3 : Int) := (by omega)
                      have q16 : 3 < a0.size := (by have : (3 : Int) < (a0.size : Int) := of_decide_eq_true (by first | (with_reducible assumption) | assumption); omega)
                      have hx16 : ∀ h : 3 < a0.size, ((a0[3]'h).toNat : Int) = bt a0 3 := bt_at a0 3
                      clear p16
                      have qi16 : (3 < (a0.size : Int)) = True := eq_true (of_decide_eq_true (by first | (with_reducible assumption) | assumption))
                      replace q16 := eq_true q16
                      have p19 : 0 ≤ (3 : Int) := (by omega)
                      have q19 : 3 < a0.size := (by have : (3 : Int) < (a0.size : Int) := of_decide_eq_true (by first | (with_reducible assumption) | assumption); omega)
                      have hx19 : ∀ h : 3 < a0.size, ((a0[3]'h).toNat : Int) = bt a0 3 := bt_at a0 3
                      clear p19
                      have qi19 : (3 < (a0.size : Int)) = True := eq_true (of_decide_eq_true (by first | (with_reducible assumption) | assumption))
                      replace q19 := eq_true q19
                      have p21 : 0 ≤ (3 : Int) := (by omega)
                      have q21 : 3 < a0.size := (by have : (3 : Int) < (a0.size : Int) := of_decide_eq_true (by first | (with_reducible assumption) | assumption); omega)
                      have hx21 : ∀ h : 3 < a0.size, ((a0[3]'h).toNat : Int) = bt a0 3 := bt_at a0 3
                      clear p21
                      have qi21 : (3 < (a0.size : Int)) = True := eq_true (of_decide_eq_true (by first | (with_reducible assumption) | assumption))
                      replace q21 := eq_true q21
                      have p24 : 0 ≤ (4 : Int) := (by omega)
                      have q24 : 4 < a0.size := (by have : (4 : Int) < (a0.size : Int) := of_decide_eq_true (by first | (with_reducible assumption) | assumption); omega)
                      have hx24 : ∀ h : 4 < a0.size, ((a0[4]'h).toNat : Int) = bt a0 4 := bt_at a0 4
                      clear p24
                      have qi24 : (4 < (a0.size : Int)) = True := eq_true (of_decide_eq_true (by first | (with_reducible assumption) | assumption))
                      replace q24 := eq_true q24
                      go_wp2
                      all_goals (first | (exfalso; simp_all; done) | (exfalso; omega) | (go_ret; exact ⟨by first | rfl | (simp; done) | (simp [*]; done), by repeat (first | exact Drawn0.refl _ | apply Drawn0.step)⟩))
                    · rw [if_neg c25] at H
                      have c25b0 : ((bt a0 4) == 58) = false := beq_eq_false_iff_ne.mpr c25
                      have c25b1 : ((bt a0 4) != 58) = true := bne_iff_ne.mpr c25
                      obtain rfl := Option.some.inj H
                      have p16 : 0 ≤ (3 : Int) := (by omega)
                      have q16 : 3 < a0.size := (by have : (3 : Int) < (a0.size : Int) := of_decide_eq_true (by first | (with_reducible assumption) | assumption); omega)
                      have hx16 : ∀ h : 3 < a0.size, ((a0[3]'h).toNat : Int) = bt a0 3 := bt_at a0 3
                      clear p16
                      have qi16 : (3 < (a0.size : Int)) = True := eq_true (of_decide_eq_true (by first | (with_reducible assumption) | assumption))
                      replace q16 := eq_true q16
                      have p19 : 0 ≤ (3 : Int) := (by omega)
                      have q19 : 3 < a0.size := (by have : (3 : Int) < (a0.size : Int) := of_decide_eq_true (by first | (with_reducible assumption) | assumption); omega)
                      have hx19 : ∀ h : 3 < a0.size, ((a0[3]'h).toNat : Int) = bt a0 3 := bt_at a0 3
                      clear p19
                      have qi19 : (3 < (a0.size : Int)) = True := eq_true (of_decide_eq_true (by first | (with_reducible assumption) | assumption))
                      replace q19 := eq_true q19
                      have p21 : 0 ≤ (3 : Int) := (by omega)
                      have q21 : 3 < a0.size := (by have : (3 : Int) < (a0.size : Int) := of_decide_eq_true (by first | (with_reducible assumption) | assumption); omega)
                      have hx21 : ∀ h : 3 < a0.size, ((a0[3]'h).toNat : Int) = bt a0 3 := bt_at a0 3
                      clear p21
                      have qi21 : (3 < (a0.size : Int)) = True := eq_true (of_decide_eq_true (by first | (with_reducible assumption) | assumption))
                      replace q21 := eq_true q21
                      have p24 : 0 ≤ (4 : Int) := (by omega)
                      have q24 : 4 < a0.size := (by have : (4 : Int) < (a0.size : Int) := of_decide_eq_true (by first | (with_reducible assumption) | assumption); omega)
                      have hx24 : ∀ h : 4 < a0.size, ((a0[4]'h).toNat : Int) = bt a0 4 := bt_at a0 4
                      clear p24
                      have qi24 : (4 < (a0.size : Int)) = True := eq_true (of_decide_eq_true (by first | (with_reducible assumption) | assumption))
                      replace q24 := eq_true q24
                      go_wp2
                      all_goals (first | (exfalso; simp_all; done) | (exfalso; omega) | (go_ret; exact ⟨by first | rfl | (simp; done) | (simp [*]; done), by repeat (first | exact Drawn0.refl _ | apply Drawn0.step)⟩))
                  · rw [if_neg c23] at H
                    exact absurd H (by simp)
                · rw [if_neg c22] at H
                  have c22b0 : decide ((bt a0 3) ≤ 90) = false := decide_eq_false c22
                  clear c22
                  obtain rfl := Option.some.inj H
                  have p16 : 0 ≤ (3 : Int) := (by omega)
                  have q16 : 3 < a0.size := (by have : (3 : Int) < (a0.size : Int) := of_decide_eq_true (by first | (with_reducible assumption) | assumption); omega)
                  have hx16 : ∀ h : 3 < a0.size, ((a0[3]'h).toNat : Int) = bt a0 3 := bt_at a0 3
                  clear p16
                  have qi16 : (3 < (a0.size : Int)) = True := eq_true (of_decide_eq_true (by first | (with_reducible assumption) | assumption))
                  replace q16 := eq_true q16
                  have p19 : 0 ≤ (3 : Int) := (by omega)
                  have q19 : 3 < a0.size := (by have : (3 : Int) < (a0.size : Int) := of_decide_eq_true (by first | (with_reducible assumption) | assumption); omega)
                  have hx19 : ∀ h : 3 < a0.size, ((a0[3]'h).toNat : Int) = bt a0 3 := bt_at a0 3
                  clear p19
                  have qi19 : (3 < (a0.size : Int)) = True := eq_true (of_decide_eq_true (by first | (with_reducible assumption) | assumption))
                  replace q19 := eq_true q19
                  have p21 : 0 ≤ (3 : Int) := (by omega)
                  have q21 : 3 < a0.size := (by have : (3 : Int) < (a0.size : Int) := of_decide_eq_true (by first | (with_reducible assumption) | assumption); omega)
                  have hx21 : ∀ h : 3 < a0.size, ((a0[3]'h).toNat : Int) = bt a0 3 := bt_at a0 3
                  clear p21
                  have qi21 : (3 < (a0.size : Int)) = True := eq_true (of_decide_eq_true (by first | (with_reducible assumption) | assumption))
                  replace q21 := eq_true q21
                  go_wp2
                  all_goals (first | (exfalso; simp_all; done) | (exfalso; omega) | (go_ret; exact ⟨by first | rfl | (simp; done) | (simp [*]; done), by repeat (first | exact Drawn0.refl _ | apply Drawn0.step)⟩))
              · rw [if_neg c20] at H
                have c20b0 : decide (65 ≤ (bt a0 3)) = false := decide_eq_false c20
                clear c20
                obtain rfl := Option.some.inj H
                have p16 : 0 ≤ (3 : Int) := (by omega)
                have q16 : 3 < a0.size := (by have : (3 : Int) < (a0.size : Int) := of_decide_eq_true (by first | (with_reducible assumption) | assumption); omega)
                have hx16 : ∀ h : 3 < a0.size, ((a0[3]'h).toNat : Int) = bt a0 3 := bt_at a0 3
                clear p16
                have qi16 : (3 < (a0.size : Int)) = True := eq_true (of_decide_eq_true (by first | (with_reducible assumption) | assumption))
                replace q16 := eq_true q16
                have p19 : 0 ≤ (3 : Int) := (by omega)
                have q19 : 3 < a0.size := (by have : (3 : Int) < (a0.size : Int) := of_decide_eq_true (by first | (with_reducible assumption) | assumption); omega)
                have hx19 : ∀ h : 3 < a0.size, ((a0[3]'h).toNat : Int) = bt a0 3 := bt_at a0 3
                clear p19
                have qi19 : (3 < (a0.size : Int)) = True := eq_true (of_decide_eq_true (by first | (with_reducible assumption) | assumption))
                replace q19 := eq_true q19
                go_wp2
                all_goals (first | (exfalso; simp_all; done) | (exfalso; omega) | (go_ret; exact ⟨by first | rfl | (simp; done) | (simp [*]; done), by repeat (first | exact Drawn0.refl _ | apply Drawn0.step)⟩))
            · rw [if_neg c18] at H
              have c18b0 : decide (5 ≤ (a0.size : Int)) = false := decide_eq_false c18
              have c18b1 : decide (5 ≤ a0.size) = false := decide_eq_false (by omega)
              clear c18
              obtain rfl := Option.some.inj H
              have p16 : 0 ≤ (3 : Int) := (by omega)
              have q16 : 3 < a0.size := (by have : (3 : Int) < (a0.size : Int) := of_decide_eq_true (by first | (with_reducible assumption) | assumption); omega)
              have hx16 : ∀ h : 3 < a0.size, ((a0[3]'h).toNat : Int) = bt a0 3 := bt_at a0 3
              clear p16
              have qi16 : (3 < (a0.size : Int)) = True := eq_true (of_decide_eq_true (by first | (with_reducible assumption) | assumption))
              replace q16 := eq_true q16
              go_wp2
              all_goals (first | (exfalso; simp_all; done) | (exfalso; omega) | (go_ret; exact ⟨by first | rfl | (simp; done) | (simp [*]; done), by repeat (first | exact Drawn0.refl _ | apply Drawn0.step)⟩))
        · rw [if_neg c15] at H
          exact absurd H (by simp)
      · replace c14 := Bool.eq_false_iff.mpr c14
        subst c14
        have H1 : (some 0) = some r := by rw [if_neg (show ¬ (false = true) by decide)] at H; exact H
        clear H
        have H := H1
        clear H1
        obtain rfl := Option.some.inj H
        go_wp2
        all_goals (first | (exfalso; simp_all; done) | (exfalso; omega) | (go_ret; exact ⟨by first | rfl | (simp; done) | (simp [*]; done), by repeat (first | exact Drawn0.refl _ | apply Drawn0.step)⟩))

def remitterref05_plain.f (a0 : Int) (a1 : Bool) : Option (Bool) := if a0 ≥ 65 then (if a0 ≤ 90 then (some true) else (if a0 ≥ 48 then (if a0 ≤ 57 then (some true) else (if a1 = true then (if a0 ≥ 97 then (some (decide (a0 ≤ 122))) else (some false)) else (some false))) else (if a1 = true then (if a0 ≥ 97 then (some (decide (a0 ≤ 122))) else (some false)) else (some false)))) else (if a0 ≥ 48 then (if a0 ≤ 57 then (some true) else (if a1 = true then (if a0 ≥ 97 then (some (decide (a0 ≤ 122))) else (some false)) else (some false))) else (if a1 = true then (if a0 ≥ 97 then (some (decide (a0 ≤ 122))) else (some false)) else (some false)))
set_option maxHeartbeats 8000000 in
set_option maxRecDepth 100000 in
theorem remitterref05_plain.calls (a0 : Int) (a1 : Bool) (r : Bool) (w : World) (h : remitterref05_plain.f a0 a1 = some r) :
    Calls Tryd.prog 155 #[.int .u8 a0, .bool a1] w fun e w' => e = .returned (.bool r) ∧ Drawn0 w w' := by
  have H : (if a0 ≥ 65 then (if a0 ≤ 90 then (some true) else (if a0 ≥ 48 then (if a0 ≤ 57 then (some true) else (if a1 = true then (if a0 ≥ 97 then (some (decide (a0 ≤ 122))) else (some false)) else (some false))) else (if a1 = true then (if a0 ≥ 97 then (some (decide (a0 ≤ 122))) else (some false)) else (some false)))) else (if a0 ≥ 48 then (if a0 ≤ 57 then (some true) else (if a1 = true then (if a0 ≥ 97 then (some (decide (a0 ≤ 122))) else (some false)) else (some false))) else (if a1 = true then (if a0 ≥ 97 then (some (decide (a0 ≤ 122))) else (some false)) else (some false)))) = some r := h
  clear h
  by_cases c3 : a0 ≥ 65
  · rw [if_pos c3] at H
    have c3b0 : decide (65 ≤ a0) = true := decide_eq_true c3
    clear c3
    by_cases c4 : a0 ≤ 90
    · rw [if_pos c4] at H
      have c4b0 : decide (a0 ≤ 90) = true := decide_eq_true c4
      clear c4
      obtain rfl := Option.some.inj H
      go_enter Tryd.func155, Tryd.ntmps155
      go_wp2
      all_goals (first | (exfalso; simp_all; done) | (exfalso; omega) | (go_ret; exact ⟨by first | rfl | (simp; done) | (simp [*]; done), by repeat (first | exact Drawn0.refl _ | apply Drawn0.step)⟩))
    · rw [if_neg c4] at H
      have c4b0 : decide (a0 ≤ 90) = false := decide_eq_false c4
      clear c4
      by_cases c5 : a0 ≥ 48
      · rw [if_pos c5] at H
        have c5b0 : decide (48 ≤ a0) = true := decide_eq_true c5
        clear c5
        by_cases c6 : a0 ≤ 57
        · rw [if_pos c6] at H
          have c6b0 : decide (a0 ≤ 57) = true := decide_eq_true c6
          clear c6
          obtain rfl := Option.some.inj H
          go_enter Tryd.func155, Tryd.ntmps155
          go_wp2
          all_goals (first | (exfalso; simp_all; done) | (exfalso; omega) | (go_ret; exact ⟨by first | rfl | (simp; done) | (simp [*]; done), by repeat (first | exact Drawn0.refl _ | apply Drawn0.step)⟩))
        · rw [if_neg c6] at H
          have c6b0 : decide (a0 ≤ 57) = false := decide_eq_false c6
          clear c6
          by_cases c7 : a1 = true
          · subst c7
            have H1 : (if a0 ≥ 97 then (some (decide (a0 ≤ 122))) else (some false)) = some r := by rw [if_pos rfl] at H; exact H
            clear H
            have H := H1
            clear H1
            by_cases c8 : a0 ≥ 97
            · rw [if_pos c8] at H
              have c8b0 : decide (97 ≤ a0) = true := decide_eq_true c8
              clear c8
              obtain rfl := Option.some.inj H
              go_enter Tryd.func155, Tryd.ntmps155
              go_wp2
              all_goals (first | (exfalso; simp_all; done) | (exfalso; omega) | (go_ret; exact ⟨by first | rfl | (simp; done) | (simp [*]; done), by repeat (first | exact Drawn0.refl _ | apply Drawn0.step)⟩))
            · rw [if_neg c8] at H
              have c8b0 : decide (97 ≤ a0) = false := decide_eq_false c8
              clear c8
              obtain rfl := Option.some.inj H
              go_enter Tryd.func155, Tryd.ntmps155
              go_wp2
              all_goals (first | (exfalso; simp_all; done) | (exfalso; omega) | (go_ret; exact ⟨by first | rfl | (simp; done) | (simp [*]; done), by repeat (first | exact Drawn0.refl _ | apply Drawn0.step)⟩))
          · replace c7 := Bool.eq_false_iff.mpr c7
            subst c7
            have H1 : (some false) = some r := by rw [if_neg (show ¬ (false = true) by decide)] at H; exact H
            clear H
            have H := H1
            clear H1
            obtain rfl := Option.some.inj H
            go_enter Tryd.func155, Tryd.ntmps155
            go_wp2
            all_goals (first | (exfalso; simp_all; done) | (exfalso; omega) | (go_ret; exact ⟨by first | rfl | (simp; done) | (simp [*]; done), by repeat (first | exact Drawn0.refl _ | apply Drawn0.step)⟩))
      · rw [if_neg c5] at H
        have c5b0 : decide (48 ≤ a0) = false := decide_eq_false c5
        clear c5
        by_cases c9 : a1 = true
        · subst c9
          have H1 : (if a0 ≥ 97 then (some (decide (a0 ≤ 122))) else (some false)) = some r := by rw [if_pos rfl] at H; exact H
          clear H
          have H := H1
          clear H1
          by_cases c10 : a0 ≥ 97
          · rw [if_pos c10] at H
            have c10b0 : decide (97 ≤ a0) = true := decide_eq_true c10
            clear c10
            obtain rfl := Option.some.inj H
            go_enter Tryd.func155, Tryd.ntmps155
            go_wp2
            all_goals (first | (exfalso; simp_all; done) | (exfalso; omega) | (go_ret; exact ⟨by first | rfl | (simp; done) | (simp [*]; done), by repeat (first | exact Drawn0.refl _ | apply Drawn0.step)⟩))
          · rw [if_neg c10] at H
            have c10b0 : decide (97 ≤ a0) = false := decide_eq_false c10
            clear c10
            obtain rfl := Option.some.inj H
            go_enter Tryd.func155, Tryd.ntmps155
            go_wp2
            all_goals (first | (exfalso; simp_all; done) | (exfalso; omega) | (go_ret; exact ⟨by first | rfl | (simp; done) | (simp [*]; done), by repeat (first | exact Drawn0.refl _ | apply Drawn0.step)⟩))
        · replace c9 := Bool.eq_false_iff.mpr c9
          subst c9
          have H1 : (some false) = some r := by rw [if_neg (show ¬ (false = true) by decide)] at H; exact H
          clear H
          have H := H1
          clear H1
          obtain rfl := Option.some.inj H
          go_enter Tryd.func155, Tryd.ntmps155
          go_wp2
          all_goals (first | (exfalso; simp_all; done) | (exfalso; omega) | (go_ret; exact ⟨by first | rfl | (simp; done) | (simp [*]; done), by repeat (first | exact Drawn0.refl _ | apply Drawn0.step)⟩))
  · rw [if_neg c3] at H
    have c3b0 : decide (65 ≤ a0) = false := decide_eq_false c3
    clear c3
    by_cases c11 : a0 ≥ 48
    · rw [if_pos c11] at H
      have c11b0 : decide (48 ≤ a0) = true := decide_eq_true c11
      clear c11
      by_cases c12 : a0 ≤ 57
      · rw [if_pos c12] at H
        have c12b0 : decide (a0 ≤ 57) = true := decide_eq_true c12
        clear c12
        obtain rfl := Option.some.inj H
        go_enter Tryd.func155, Tryd.ntmps155
        go_wp2
        all_goals (first | (exfalso; simp_all; done) | (exfalso; omega) | (go_ret; exact ⟨by first | rfl | (simp; done) | (simp [*]; done), by repeat (first | exact Drawn0.refl _ | apply Drawn0.step)⟩))
      · rw [if_neg c12] at H
        have c12b0 : decide (a0 ≤ 57) = false := decide_eq_false c12
        clear c12
        by_cases c13 : a1 = true
        · subst c13
          have H1 : (if a0 ≥ 97 then (some (decide (a0 ≤ 122))) else (some false)) = some r := by rw [if_pos rfl] at H; exact H
          clear H
          have H := H1
          clear H1
          by_cases c14 : a0 ≥ 97
          · rw [if_pos c14] at H
            have c14b0 : decide (97 ≤ a0) = true := decide_eq_true c14
            clear c14
            obtain rfl := Option.some.inj H
            go_enter Tryd.func155, Tryd.ntmps155
            go_wp2
            all_goals (first | (exfalso; simp_all; done) | (exfalso; omega) | (go_ret; exact ⟨by first | rfl | (simp; done) | (simp [*]; done), by repeat (first | exact Drawn0.refl _ | apply Drawn0.step)⟩))
          · rw [if_neg c14] at H
            have c14b0 : decide (97 ≤ a0) = false := decide_eq_false c14
            clear c14
            obtain rfl := Option.some.inj H
            go_enter Tryd.func155, Tryd.ntmps155
            go_wp2
            all_goals (first | (exfalso; simp_all; done) | (exfalso; omega) | (go_ret; exact ⟨by first | rfl | (simp; done) | (simp [*]; done), by repeat (first | exact Drawn0.refl _ | apply Drawn0.step)⟩))
        · replace c13 := Bool.eq_false_iff.mpr c13
          subst c13
          have H1 : (some false) = some r := by rw [if_neg (show ¬ (false = true) by decide)] at H; exact H
          clear H
          have H := H1
          clear H1
          obtain rfl := Option.some.inj H
          go_enter Tryd.func155, Tryd.ntmps155
          go_wp2
          all_goals (first | (exfalso; simp_all; done) | (exfalso; omega) | (go_ret; exact ⟨by first | rfl | (simp; done) | (simp [*]; done), by repeat (first | exact Drawn0.refl _ | apply Drawn0.step)⟩))
    · rw [if_neg c11] at H
      have c11b0 : decide (48 ≤ a0) = false := decide_eq_false c11
      clear c11
      by_cases c15 : a1 = true
      · subst c15
        have H1 : (if a0 ≥ 97 then (some (decide (a0 ≤ 122))) else (some false)) = some r := by rw [if_pos rfl] at H; exact H
        clear H
        have H := H1
        clear H1
        by_cases c16 : a0 ≥ 97
        · rw [if_pos c16] at H
          have c16b0 : decide (97 ≤ a0) = true := decide_eq_true c16
          clear c16
          obtain rfl := Option.some.inj H
          go_enter Tryd.func155, Tryd.ntmps155
          go_wp2
          all_goals (first | (exfalso; simp_all; done) | (exfalso; omega) | (go_ret; exact ⟨by first | rfl | (simp; done) | (simp [*]; done), by repeat (first | exact Drawn0.refl _ | apply Drawn0.step)⟩))
        · rw [if_neg c16] at H
          have c16b0 : decide (97 ≤ a0) = false := decide_eq_false c16
          clear c16
          obtain rfl := Option.some.inj H
          go_enter Tryd.func155, Tryd.ntmps155
          go_wp2
          all_goals (first | (exfalso; simp_all; done) | (exfalso; omega) | (go_ret; exact ⟨by first | rfl | (simp; done) | (simp [*]; done), by repeat (first | exact Drawn0.refl _ | apply Drawn0.step)⟩))
      · replace c15 := Bool.eq_false_iff.mpr c15
        subst c15
        have H1 : (some false) = some r := by rw [if_neg (show ¬ (false = true) by decide)] at H; exact H
        clear H
        have H := H1
        clear H1
        obtain rfl := Option.some.inj H
        go_enter Tryd.func155, Tryd.ntmps155
        go_wp2
        all_goals (first | (exfalso; simp_all; done) | (exfalso; omega) | (go_ret; exact ⟨by first | rfl | (simp; done) | (simp [*]; done), by repeat (first | exact Drawn0.refl _ | apply Drawn0.step)⟩))

end Go.Proofs.YtkklccccjmipkaaDoor.PAll

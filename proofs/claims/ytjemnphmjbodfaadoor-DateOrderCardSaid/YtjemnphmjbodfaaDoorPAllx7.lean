-- Made by this session's wip/tools/gprint.py, which runs the kit's print program; some functions' contracts are proved by hand.
import Derived.Test.YtjemnphmjbodfaaDoorPAllx0
import Derived.Test.YtjemnphmjbodfaaDoorPAllx2
import Derived.Test.YtjemnphmjbodfaaDoorPAllx3
import Derived.Test.YtjemnphmjbodfaaDoorPAllx6
import Derived.Test.YtjemnphmjbodfaaDoorGToXML
import Derived.Test.YtjemnphmjbodfaaDoorGMoment
import Derived.Test.YtjemnphmjbodfaaDoorGDay
namespace Go.Proofs.YtjemnphmjbodfaaDoor.PAll
open Go.RowKit Go.Proofs.YtjemnphmjbodfaaDoorW.PrintWords Go.Proofs.YtjemnphmjbodfaaDoorW.PrintLast Go.Proofs.YtjemnphmjbodfaaDoorW.PrintMore
attribute [local go_sem] max2_int min2_int max_two min_two max_three min_three max_four min_four   -- for this text's walks alone
set_option linter.unusedVariables false
set_option linter.unusedSimpArgs false

/-! ### remitterref06_Text: function 17 -/
def remitterref06_Text.l0 : Nat → Int → Int → Int → Option (ByteArray)
  | 0, _, _, _ => none
  | k + 1, x0, x3, x4 => (remitterref06_length.f k x3 x4).bind fun t164 => (if x0 ≥ t164 then ((remitterref06_length.f k x3 x4).bind fun t165 => (if (wrap64 (x4 + 1)) = 13 then (remitterref06_Text.l0 k (wrap64 (x0 - t165)) (wrap64 (x3 + 1)) 1) else (remitterref06_Text.l0 k (wrap64 (x0 - t165)) x3 (wrap64 (x4 + 1))))) else ((remitterref06_two.f k x3 4).bind fun t166 => (if t166.size + 1 ≤ 9223372036854775807 then ((remitterref06_two.f k x4 2).bind fun t167 => (if (t166 ++ (⟨#[45]⟩ : ByteArray)).size + t167.size ≤ 9223372036854775807 then (if ((t166 ++ (⟨#[45]⟩ : ByteArray)) ++ t167).size + 1 ≤ 9223372036854775807 then ((remitterref06_two.f k (wrap64 (x0 + 1)) 2).bind fun t168 => (if (((t166 ++ (⟨#[45]⟩ : ByteArray)) ++ t167) ++ (⟨#[45]⟩ : ByteArray)).size + t168.size ≤ 9223372036854775807 then (some ((((t166 ++ (⟨#[45]⟩ : ByteArray)) ++ t167) ++ (⟨#[45]⟩ : ByteArray)) ++ t168)) else (none))) else (none)) else (none))) else (none))))
def remitterref06_Text.f (k : Nat) (a0 : Int) : Option (ByteArray) := remitterref06_Text.l0 k a0 1980 1
theorem remitterref06_Text.mono_l : ∀ k, (∀ y0 y1 y2, LeO (remitterref06_Text.l0 k y0 y1 y2) (remitterref06_Text.l0 (k + 1) y0 y1 y2))
  | 0 => fun _ _ _ r h => by simp [remitterref06_Text.l0] at h
  | k + 1 => by
    have ih0 := remitterref06_Text.mono_l k
    · intro y0 y1 y2
      unfold remitterref06_Text.l0
      repeat' first
      | (with_reducible exact ih0 _ _ _)
      | (with_reducible exact remitterref06_length.mono _ _ _)
      | (with_reducible exact remitterref06_two.mono _ _ _)
      | (with_reducible exact LeO.refl _)
      | (with_reducible exact LeO.none _)
      | (with_reducible refine LeO.ite ?_ ?_)
      | (with_reducible refine LeO.bind ?_ (fun _ => ?_))
      | exact ih0 _ _ _
      | exact remitterref06_length.mono _ _ _
      | exact remitterref06_two.mono _ _ _
      | exact LeO.none _
      | refine LeO.ite ?_ ?_
      | refine LeO.bind ?_ (fun _ => ?_)
theorem remitterref06_Text.mono : ∀ a0 k, LeO (remitterref06_Text.f k a0) (remitterref06_Text.f (k + 1) a0) := by
  intro a0 k
  have ih0 := remitterref06_Text.mono_l k
  unfold remitterref06_Text.f
  repeat' first
      | (with_reducible exact ih0 _ _ _)
      | (with_reducible exact remitterref06_length.mono _ _ _)
      | (with_reducible exact remitterref06_two.mono _ _ _)
      | (with_reducible exact LeO.refl _)
      | (with_reducible exact LeO.none _)
      | (with_reducible refine LeO.ite ?_ ?_)
      | (with_reducible refine LeO.bind ?_ (fun _ => ?_))
      | exact ih0 _ _ _
      | exact remitterref06_length.mono _ _ _
      | exact remitterref06_two.mono _ _ _
      | exact LeO.none _
      | refine LeO.ite ?_ ?_
      | refine LeO.bind ?_ (fun _ => ?_)
set_option maxHeartbeats 8000000 in
set_option maxRecDepth 100000 in
theorem remitterref06_Text.calls (k : Nat) (a0 : Int) (r : ByteArray) (w : World) (h : remitterref06_Text.f k a0 = some r) :
    Calls Tryd.prog 17 #[.int .i64 a0] w fun e w' => e = .returned (.string r) ∧ Below w.heap.size w w' := by
  have HB := Aside0.mk (Below.refl w.heap.size w)
  have H : (remitterref06_Text.l0 k a0 1980 1) = some r := h
  clear h
  have H' := Aside0.mk H
  clear H
  go_enter Tryd.func17, Tryd.ntmps17
  go_wp2
  go_loopg [0, 3, 4] k (fun kq v0 v3 v4 w' => ∃ (x0_1 : Int) (x3_1 : Int) (x4_1 : Int), v0 = .int .i64 x0_1 ∧ v3 = .int .i64 x3_1 ∧ v4 = .int .i64 x4_1 ∧ Aside0 (remitterref06_Text.l0 kq x0_1 x3_1 x4_1 = some r) ∧ Aside0 (kq ≤ k) ∧ Aside0 (Below w.heap.size w w'))
  case atStart => exact ⟨(a0), (1980), (1), (by first | rfl | (simp; done) | (simp [*]; done) | exact congrArg Value.bool (Go.Proofs.YtjemnphmjbodfaaDoor.GLib.not_isEmpty _) | exact congrArg Value.bool (Go.Proofs.YtjemnphmjbodfaaDoor.GLib.not_isEmpty _).symm), (by first | rfl | (simp; done) | (simp [*]; done) | exact congrArg Value.bool (Go.Proofs.YtjemnphmjbodfaaDoor.GLib.not_isEmpty _) | exact congrArg Value.bool (Go.Proofs.YtjemnphmjbodfaaDoor.GLib.not_isEmpty _).symm), (by first | rfl | (simp; done) | (simp [*]; done) | exact congrArg Value.bool (Go.Proofs.YtjemnphmjbodfaaDoor.GLib.not_isEmpty _) | exact congrArg Value.bool (Go.Proofs.YtjemnphmjbodfaaDoor.GLib.not_isEmpty _).symm), H', ⟨Nat.le_refl _⟩, ⟨by repeat (first | (with_reducible first | exact HB.out | apply below_alloc | apply pw_below_drewN | apply below_drew1) | exact HB.out)⟩⟩
  case round =>
    clear H'
    try clear c1
    obtain ⟨x0_1, x3_1, x4_1, rfl, rfl, rfl, HA, HK1, HB⟩ := hrel
    cases gk with
    | zero => exact absurd HA.out (by simp [remitterref06_Text.l0])
    | succ k1 =>
      have H := HA.out
      clear HA
      simp only [remitterref06_Text.l0] at H
      replace H := Option.bind_eq_some_iff.mp H
      obtain ⟨t164, A20, H⟩ := H
      replace H : (if x0_1 ≥ t164 then ((remitterref06_length.f k1 x3_1 x4_1).bind fun t165 => (if (wrap64 (x4_1 + 1)) = 13 then (remitterref06_Text.l0 k1 (wrap64 (x0_1 - t165)) (wrap64 (x3_1 + 1)) 1) else (remitterref06_Text.l0 k1 (wrap64 (x0_1 - t165)) x3_1 (wrap64 (x4_1 + 1))))) else ((remitterref06_two.f k1 x3_1 4).bind fun t166 => (if t166.size + 1 ≤ 9223372036854775807 then ((remitterref06_two.f k1 x4_1 2).bind fun t167 => (if (t166 ++ (⟨#[45]⟩ : ByteArray)).size + t167.size ≤ 9223372036854775807 then (if ((t166 ++ (⟨#[45]⟩ : ByteArray)) ++ t167).size + 1 ≤ 9223372036854775807 then ((remitterref06_two.f k1 (wrap64 (x0_1 + 1)) 2).bind fun t168 => (if (((t166 ++ (⟨#[45]⟩ : ByteArray)) ++ t167) ++ (⟨#[45]⟩ : ByteArray)).size + t168.size ≤ 9223372036854775807 then (some ((((t166 ++ (⟨#[45]⟩ : ByteArray)) ++ t167) ++ (⟨#[45]⟩ : ByteArray)) ++ t168)) else (none))) else (none)) else (none))) else (none)))) = some r := H
      have A2 := Aside0.mk A20
      clear A20
      by_cases c3 : x0_1 ≥ t164
      · rw [if_pos c3] at H
        have c3b0 : decide (t164 ≤ x0_1) = true := decide_eq_true c3
        clear c3
        replace H := Option.bind_eq_some_iff.mp H
        obtain ⟨t165, A40, H⟩ := H
        replace H : (if (wrap64 (x4_1 + 1)) = 13 then (remitterref06_Text.l0 k1 (wrap64 (x0_1 - t165)) (wrap64 (x3_1 + 1)) 1) else (remitterref06_Text.l0 k1 (wrap64 (x0_1 - t165)) x3_1 (wrap64 (x4_1 + 1)))) = some r := H
        have A4 := Aside0.mk A40
        clear A40
        by_cases c5 : (wrap64 (x4_1 + 1)) = 13
        · rw [if_pos c5] at H
          have c5b0 : ((wrap64 (x4_1 + 1)) == 13) = true := beq_iff_eq.mpr c5
          have c5b1 : ((wrap64 (x4_1 + 1)) != 13) = false := bne_eq_false_iff_eq.mpr c5
          clear c5
          have H' := Aside0.mk H
          clear H
          go_wp2_with (first | ((with_reducible refine gate_callee (f := 28) rfl ?_); refine goesL_ (some 8) rfl rfl Tryd.func28 (by kernel_rfl) rfl #[.int .i64 x3_1, .int .i64 x4_1] rfl (by (try simp only [List.map_toArray, List.map_cons, List.map_nil]); first | done | rfl | (simp only [List.length_drop, List.length_take]; rfl)) ?_; (with_reducible refine (remitterref06_length.calls k1 x3_1 x4_1 t164 _ A2.out).mono ?_); rintro e w' ⟨rfl, ⟨nd, rfl⟩⟩; refine ⟨_, rfl, ?_⟩) | ((with_reducible refine gate_callee (f := 28) rfl ?_); refine goesL_ (some 13) rfl rfl Tryd.func28 (by kernel_rfl) rfl #[.int .i64 x3_1, .int .i64 x4_1] rfl (by (try simp only [List.map_toArray, List.map_cons, List.map_nil]); first | done | rfl | (simp only [List.length_drop, List.length_take]; rfl)) ?_; (with_reducible refine (remitterref06_length.calls k1 x3_1 x4_1 t165 _ A4.out).mono ?_); rintro e w' ⟨rfl, ⟨nd, rfl⟩⟩; refine ⟨_, rfl, ?_⟩))
          go_roundg k1
          case measure => have := HK1.out; omega
          case rel => exact ⟨(wrap64 (x0_1 - t165)), (wrap64 (x3_1 + 1)), (1), (by first | rfl | (simp; done) | (simp [*]; done) | exact congrArg Value.bool (Go.Proofs.YtjemnphmjbodfaaDoor.GLib.not_isEmpty _) | exact congrArg Value.bool (Go.Proofs.YtjemnphmjbodfaaDoor.GLib.not_isEmpty _).symm), (by first | rfl | (simp; done) | (simp [*]; done) | exact congrArg Value.bool (Go.Proofs.YtjemnphmjbodfaaDoor.GLib.not_isEmpty _) | exact congrArg Value.bool (Go.Proofs.YtjemnphmjbodfaaDoor.GLib.not_isEmpty _).symm), (by first | rfl | (simp; done) | (simp [*]; done) | exact congrArg Value.bool (Go.Proofs.YtjemnphmjbodfaaDoor.GLib.not_isEmpty _) | exact congrArg Value.bool (Go.Proofs.YtjemnphmjbodfaaDoor.GLib.not_isEmpty _).symm), H', ⟨by have := HK1.out; omega⟩, ⟨by repeat (first | (with_reducible first | exact HB.out | apply below_alloc | apply pw_below_drewN | apply below_drew1) | exact HB.out)⟩⟩
        · rw [if_neg c5] at H
          have c5b0 : ((wrap64 (x4_1 + 1)) == 13) = false := beq_eq_false_iff_ne.mpr c5
          have c5b1 : ((wrap64 (x4_1 + 1)) != 13) = true := bne_iff_ne.mpr c5
          have H' := Aside0.mk H
          clear H
          go_wp2_with (first | ((with_reducible refine gate_callee (f := 28) rfl ?_); refine goesL_ (some 8) rfl rfl Tryd.func28 (by kernel_rfl) rfl #[.int .i64 x3_1, .int .i64 x4_1] rfl (by (try simp only [List.map_toArray, List.map_cons, List.map_nil]); first | done | rfl | (simp only [List.length_drop, List.length_take]; rfl)) ?_; (with_reducible refine (remitterref06_length.calls k1 x3_1 x4_1 t164 _ A2.out).mono ?_); rintro e w' ⟨rfl, ⟨nd, rfl⟩⟩; refine ⟨_, rfl, ?_⟩) | ((with_reducible refine gate_callee (f := 28) rfl ?_); refine goesL_ (some 13) rfl rfl Tryd.func28 (by kernel_rfl) rfl #[.int .i64 x3_1, .int .i64 x4_1] rfl (by (try simp only [List.map_toArray, List.map_cons, List.map_nil]); first | done | rfl | (simp only [List.length_drop, List.length_take]; rfl)) ?_; (with_reducible refine (remitterref06_length.calls k1 x3_1 x4_1 t165 _ A4.out).mono ?_); rintro e w' ⟨rfl, ⟨nd, rfl⟩⟩; refine ⟨_, rfl, ?_⟩))
          go_roundg k1
          case measure => have := HK1.out; omega
          case rel => exact ⟨(wrap64 (x0_1 - t165)), (x3_1), (wrap64 (x4_1 + 1)), (by first | rfl | (simp; done) | (simp [*]; done) | exact congrArg Value.bool (Go.Proofs.YtjemnphmjbodfaaDoor.GLib.not_isEmpty _) | exact congrArg Value.bool (Go.Proofs.YtjemnphmjbodfaaDoor.GLib.not_isEmpty _).symm), (by first | rfl | (simp; done) | (simp [*]; done) | exact congrArg Value.bool (Go.Proofs.YtjemnphmjbodfaaDoor.GLib.not_isEmpty _) | exact congrArg Value.bool (Go.Proofs.YtjemnphmjbodfaaDoor.GLib.not_isEmpty _).symm), (by first | rfl | (simp; done) | (simp [*]; done) | exact congrArg Value.bool (Go.Proofs.YtjemnphmjbodfaaDoor.GLib.not_isEmpty _) | exact congrArg Value.bool (Go.Proofs.YtjemnphmjbodfaaDoor.GLib.not_isEmpty _).symm), H', ⟨by have := HK1.out; omega⟩, ⟨by repeat (first | (with_reducible first | exact HB.out | apply below_alloc | apply pw_below_drewN | apply below_drew1) | exact HB.out)⟩⟩
      · rw [if_neg c3] at H
        have c3b0 : decide (t164 ≤ x0_1) = false := decide_eq_false c3
        clear c3
        replace H := Option.bind_eq_some_iff.mp H
        obtain ⟨t166, A60, H⟩ := H
        replace H : (if t166.size + 1 ≤ 9223372036854775807 then ((remitterref06_two.f k1 x4_1 2).bind fun t167 => (if (t166 ++ (⟨#[45]⟩ : ByteArray)).size + t167.size ≤ 9223372036854775807 then (if ((t166 ++ (⟨#[45]⟩ : ByteArray)) ++ t167).size + 1 ≤ 9223372036854775807 then ((remitterref06_two.f k1 (wrap64 (x0_1 + 1)) 2).bind fun t168 => (if (((t166 ++ (⟨#[45]⟩ : ByteArray)) ++ t167) ++ (⟨#[45]⟩ : ByteArray)).size + t168.size ≤ 9223372036854775807 then (some ((((t166 ++ (⟨#[45]⟩ : ByteArray)) ++ t167) ++ (⟨#[45]⟩ : ByteArray)) ++ t168)) else (none))) else (none)) else (none))) else (none)) = some r := H
        have A6 := Aside0.mk A60
        clear A60
        by_cases c7 : t166.size + 1 ≤ 9223372036854775807
        · rw [if_pos c7] at H
          have c7b0 := eq_true c7
          have c7b1 : decide (t166.size + 1 ≤ 9223372036854775807) = true := decide_eq_true c7
          try have c7b2 : (9223372036854775807 < t166.size + 1) = False := eq_false (Nat.not_lt.2 c7)
          replace H := Option.bind_eq_some_iff.mp H
          obtain ⟨t167, A80, H⟩ := H
          replace H : (if (t166 ++ (⟨#[45]⟩ : ByteArray)).size + t167.size ≤ 9223372036854775807 then (if ((t166 ++ (⟨#[45]⟩ : ByteArray)) ++ t167).size + 1 ≤ 9223372036854775807 then ((remitterref06_two.f k1 (wrap64 (x0_1 + 1)) 2).bind fun t168 => (if (((t166 ++ (⟨#[45]⟩ : ByteArray)) ++ t167) ++ (⟨#[45]⟩ : ByteArray)).size + t168.size ≤ 9223372036854775807 then (some ((((t166 ++ (⟨#[45]⟩ : ByteArray)) ++ t167) ++ (⟨#[45]⟩ : ByteArray)) ++ t168)) else (none))) else (none)) else (none)) = some r := H
          have A8 := Aside0.mk A80
          clear A80
          by_cases c9 : (t166 ++ (⟨#[45]⟩ : ByteArray)).size + t167.size ≤ 9223372036854775807
          · rw [if_pos c9] at H
            have c9b0 := eq_true c9
            have c9b1 : decide ((t166 ++ (⟨#[45]⟩ : ByteArray)).size + t167.size ≤ 9223372036854775807) = true := decide_eq_true c9
            try have c9b2 : (9223372036854775807 < (t166 ++ (⟨#[45]⟩ : ByteArray)).size + t167.size) = False := eq_false (Nat.not_lt.2 c9)
            try (have c9b7 := c9b2; simp only [ByteArray.size_append, Go.Proofs.YtjemnphmjbodfaaDoor.GLib.size_mk, List.size_toArray, List.length_cons, List.length_nil, Nat.zero_add, Nat.reduceAdd] at c9b7)
            by_cases c10 : ((t166 ++ (⟨#[45]⟩ : ByteArray)) ++ t167).size + 1 ≤ 9223372036854775807
            · rw [if_pos c10] at H
              have c10b0 := eq_true c10
              have c10b1 : decide (((t166 ++ (⟨#[45]⟩ : ByteArray)) ++ t167).size + 1 ≤ 9223372036854775807) = true := decide_eq_true c10
              try have c10b2 : (9223372036854775807 < ((t166 ++ (⟨#[45]⟩ : ByteArray)) ++ t167).size + 1) = False := eq_false (Nat.not_lt.2 c10)
              try (have c10b7 := c10b2; simp only [ByteArray.size_append, Go.Proofs.YtjemnphmjbodfaaDoor.GLib.size_mk, List.size_toArray, List.length_cons, List.length_nil, Nat.zero_add, Nat.reduceAdd] at c10b7)
              replace H := Option.bind_eq_some_iff.mp H
              obtain ⟨t168, A110, H⟩ := H
              replace H : (if (((t166 ++ (⟨#[45]⟩ : ByteArray)) ++ t167) ++ (⟨#[45]⟩ : ByteArray)).size + t168.size ≤ 9223372036854775807 then (some ((((t166 ++ (⟨#[45]⟩ : ByteArray)) ++ t167) ++ (⟨#[45]⟩ : ByteArray)) ++ t168)) else (none)) = some r := H
              have A11 := Aside0.mk A110
              clear A110
              by_cases c12 : (((t166 ++ (⟨#[45]⟩ : ByteArray)) ++ t167) ++ (⟨#[45]⟩ : ByteArray)).size + t168.size ≤ 9223372036854775807
              · rw [if_pos c12] at H
                have c12b0 := eq_true c12
                have c12b1 : decide ((((t166 ++ (⟨#[45]⟩ : ByteArray)) ++ t167) ++ (⟨#[45]⟩ : ByteArray)).size + t168.size ≤ 9223372036854775807) = true := decide_eq_true c12
                try have c12b2 : (9223372036854775807 < (((t166 ++ (⟨#[45]⟩ : ByteArray)) ++ t167) ++ (⟨#[45]⟩ : ByteArray)).size + t168.size) = False := eq_false (Nat.not_lt.2 c12)
                try (have c12b7 := c12b2; simp only [ByteArray.size_append, Go.Proofs.YtjemnphmjbodfaaDoor.GLib.size_mk, List.size_toArray, List.length_cons, List.length_nil, Nat.zero_add, Nat.reduceAdd] at c12b7)
                obtain rfl := Option.some.inj H
                go_wp2_with (first | ((with_reducible refine gate_callee (f := 28) rfl ?_); refine goesL_ (some 8) rfl rfl Tryd.func28 (by kernel_rfl) rfl #[.int .i64 x3_1, .int .i64 x4_1] rfl (by (try simp only [List.map_toArray, List.map_cons, List.map_nil]); first | done | rfl | (simp only [List.length_drop, List.length_take]; rfl)) ?_; (with_reducible refine (remitterref06_length.calls k1 x3_1 x4_1 t164 _ A2.out).mono ?_); rintro e w' ⟨rfl, ⟨nd, rfl⟩⟩; refine ⟨_, rfl, ?_⟩) | ((with_reducible refine gate_callee (f := 29) rfl ?_); refine goesL_ (some 22) rfl rfl Tryd.func29 (by kernel_rfl) rfl #[.int .i64 x3_1, .int .i64 4] rfl (by (try simp only [List.map_toArray, List.map_cons, List.map_nil]); first | done | rfl | (simp only [List.length_drop, List.length_take]; rfl)) ?_; (with_reducible refine (remitterref06_two.calls k1 x3_1 4 t166 _ A6.out).mono ?_); rintro e w13 ⟨rfl, hb⟩; refine ⟨_, rfl, ?_⟩; have n0_ := Aside0.mk (below_step (by repeat (first | (with_reducible first | exact HB.out | apply below_alloc | apply pw_below_drewN | apply below_drew1) | exact HB.out)) hb); clear HB; have HB := n0_; clear n0_; (try clear hb); (try clear hb2); (try clear hk); (try clear hi)) | ((with_reducible refine gate_callee (f := 29) rfl ?_); refine goesL_ (some 25) rfl rfl Tryd.func29 (by kernel_rfl) rfl #[.int .i64 x4_1, .int .i64 2] rfl (by (try simp only [List.map_toArray, List.map_cons, List.map_nil]); first | done | rfl | (simp only [List.length_drop, List.length_take]; rfl)) ?_; (with_reducible refine (remitterref06_two.calls k1 x4_1 2 t167 _ A8.out).mono ?_); rintro e w14 ⟨rfl, hb⟩; refine ⟨_, rfl, ?_⟩; have n0_ := Aside0.mk (below_step (by repeat (first | (with_reducible first | exact HB.out | apply below_alloc | apply pw_below_drewN | apply below_drew1) | exact HB.out)) hb); clear HB; have HB := n0_; clear n0_; (try clear hb); (try clear hb2); (try clear hk); (try clear hi)) | ((with_reducible refine gate_callee (f := 29) rfl ?_); refine goesL_ (some 30) rfl rfl Tryd.func29 (by kernel_rfl) rfl #[.int .i64 (wrap64 (x0_1 + 1)), .int .i64 2] rfl (by (try simp only [List.map_toArray, List.map_cons, List.map_nil]); first | done | rfl | (simp only [List.length_drop, List.length_take]; rfl)) ?_; (with_reducible refine (remitterref06_two.calls k1 (wrap64 (x0_1 + 1)) 2 t168 _ A11.out).mono ?_); rintro e w15 ⟨rfl, hb⟩; refine ⟨_, rfl, ?_⟩; have n0_ := Aside0.mk (below_step (by repeat (first | (with_reducible first | exact HB.out | apply below_alloc | apply pw_below_drewN | apply below_drew1) | exact HB.out)) hb); clear HB; have HB := n0_; clear n0_; (try clear hb); (try clear hb2); (try clear hk); (try clear hi)))
                all_goals (first | (exfalso; simp_all; done) | (exfalso; omega) | (go_ret; exact ⟨by first | rfl | (simp [errW_none, errW_some] <;> rfl) | (simp [*, errW_none, errW_some] <;> rfl), by repeat (first | (with_reducible first | exact HB.out | apply below_alloc | apply pw_below_drewN | apply below_drew1) | exact HB.out)⟩))
              · rw [if_neg c12] at H
                exact absurd H (by simp)
            · rw [if_neg c10] at H
              exact absurd H (by simp)
          · rw [if_neg c9] at H
            exact absurd H (by simp)
        · rw [if_neg c7] at H
          exact absurd H (by simp)

/-! ### remitterlaw06_DateTurns: function 4 -/
def remitterlaw06_DateTurns.j0 : Nat → Int → ByteArray → Bool → Option (Bool)
  | 0, _, _, _ => none
  | k + 1, x3, x4, x64 => if x64 = true then (some false) else (if x3 = 36524 then (if x4.toList = ([50, 48, 55, 57, 45, 49, 50, 45, 51, 49] : List UInt8) then ((remitterlaw06_wakes.f).bind fun t177 => (some t177)) else (some false)) else ((remitterref06_Text.f k (wrap64 (x3 + 1))).bind fun t178 => ((date_Day.f t178).bind fun bt179 => (if bt179.2 = 0 then (if bt179.1 = (wrap64 (x3 + 1)) then (if (Op.bytesLess x4.toList t178.toList) = true then ((remitterlaw06_wakes.f).bind fun t181 => (some t181)) else (some false)) else (some false)) else (some false)))))
def remitterlaw06_DateTurns.f (k : Nat) (a0 : Int) : Option (Bool) := (remitterref06_Text.f k (Int.tmod (wrap64 (a0)) 36525)).bind fun t169 => ((date_ToMT.f t169).bind fun bt170 => ((date_ToXML.f bt170.1).bind fun bt172 => ((date_Day.f t169).bind fun bt174 => (if bt170.2 = 0 then (if bt172.2 = 0 then (if bt174.2 = 0 then (if bt172.1.toList = t169.toList then (if bt174.1 = (Int.tmod (wrap64 (a0)) 36525) then (if (bt170.1.size : Int) = 6 then (if t169.size + 9 ≤ 9223372036854775807 then ((date_CheckMoment.f (t169 ++ (⟨#[84, 48, 48, 58, 48, 48, 58, 48, 48]⟩ : ByteArray))).bind fun t176 => (remitterlaw06_DateTurns.j0 k (Int.tmod (wrap64 (a0)) 36525) t169 (t176 != 0))) else (none)) else (remitterlaw06_DateTurns.j0 k (Int.tmod (wrap64 (a0)) 36525) t169 true)) else (remitterlaw06_DateTurns.j0 k (Int.tmod (wrap64 (a0)) 36525) t169 true)) else (remitterlaw06_DateTurns.j0 k (Int.tmod (wrap64 (a0)) 36525) t169 true)) else (remitterlaw06_DateTurns.j0 k (Int.tmod (wrap64 (a0)) 36525) t169 true)) else (remitterlaw06_DateTurns.j0 k (Int.tmod (wrap64 (a0)) 36525) t169 true)) else (remitterlaw06_DateTurns.j0 k (Int.tmod (wrap64 (a0)) 36525) t169 true)))))
theorem remitterlaw06_DateTurns.mono_l : ∀ k, (∀ y0 y1 y2, LeO (remitterlaw06_DateTurns.j0 k y0 y1 y2) (remitterlaw06_DateTurns.j0 (k + 1) y0 y1 y2))
  | 0 => fun _ _ _ r h => by simp [remitterlaw06_DateTurns.j0] at h
  | k + 1 => by
    have ih0 := remitterlaw06_DateTurns.mono_l k
    · intro y0 y1 y2
      unfold remitterlaw06_DateTurns.j0
      repeat' first
      | (with_reducible exact ih0 _ _ _)
      | (with_reducible exact remitterref06_Text.mono _ _)
      | (with_reducible exact LeO.refl _)
      | (with_reducible exact LeO.none _)
      | (with_reducible refine LeO.ite ?_ ?_)
      | (with_reducible refine LeO.bind ?_ (fun _ => ?_))
      | exact ih0 _ _ _
      | exact remitterref06_Text.mono _ _
      | exact LeO.none _
      | refine LeO.ite ?_ ?_
      | refine LeO.bind ?_ (fun _ => ?_)
theorem remitterlaw06_DateTurns.mono : ∀ a0 k, LeO (remitterlaw06_DateTurns.f k a0) (remitterlaw06_DateTurns.f (k + 1) a0) := by
  intro a0 k
  have ih0 := remitterlaw06_DateTurns.mono_l k
  unfold remitterlaw06_DateTurns.f
  repeat' first
      | (with_reducible exact ih0 _ _ _)
      | (with_reducible exact remitterref06_Text.mono _ _)
      | (with_reducible exact LeO.refl _)
      | (with_reducible exact LeO.none _)
      | (with_reducible refine LeO.ite ?_ ?_)
      | (with_reducible refine LeO.bind ?_ (fun _ => ?_))
      | exact ih0 _ _ _
      | exact remitterref06_Text.mono _ _
      | exact LeO.none _
      | refine LeO.ite ?_ ?_
      | refine LeO.bind ?_ (fun _ => ?_)
set_option maxHeartbeats 8000000 in
set_option maxRecDepth 100000 in
theorem remitterlaw06_DateTurns.calls (k : Nat) (a0 : Int) (r : Bool) (w : World) (h : remitterlaw06_DateTurns.f k a0 = some r) (hG : GW w) :
    Calls Tryd.prog 4 #[.int .u16 a0] w fun e w' => e = .returned (.bool r) ∧ Below w.heap.size w w' := by
  have HG := Aside0.mk hG
  clear hG
  have HB := Aside0.mk (Below.refl w.heap.size w)
  have H : ((remitterref06_Text.f k (Int.tmod (wrap64 (a0)) 36525)).bind fun t169 => ((date_ToMT.f t169).bind fun bt170 => ((date_ToXML.f bt170.1).bind fun bt172 => ((date_Day.f t169).bind fun bt174 => (if bt170.2 = 0 then (if bt172.2 = 0 then (if bt174.2 = 0 then (if bt172.1.toList = t169.toList then (if bt174.1 = (Int.tmod (wrap64 (a0)) 36525) then (if (bt170.1.size : Int) = 6 then (if t169.size + 9 ≤ 9223372036854775807 then ((date_CheckMoment.f (t169 ++ (⟨#[84, 48, 48, 58, 48, 48, 58, 48, 48]⟩ : ByteArray))).bind fun t176 => (remitterlaw06_DateTurns.j0 k (Int.tmod (wrap64 (a0)) 36525) t169 (t176 != 0))) else (none)) else (remitterlaw06_DateTurns.j0 k (Int.tmod (wrap64 (a0)) 36525) t169 true)) else (remitterlaw06_DateTurns.j0 k (Int.tmod (wrap64 (a0)) 36525) t169 true)) else (remitterlaw06_DateTurns.j0 k (Int.tmod (wrap64 (a0)) 36525) t169 true)) else (remitterlaw06_DateTurns.j0 k (Int.tmod (wrap64 (a0)) 36525) t169 true)) else (remitterlaw06_DateTurns.j0 k (Int.tmod (wrap64 (a0)) 36525) t169 true)) else (remitterlaw06_DateTurns.j0 k (Int.tmod (wrap64 (a0)) 36525) t169 true)))))) = some r := h
  clear h
  replace H := Option.bind_eq_some_iff.mp H
  obtain ⟨t169, A20, H⟩ := H
  replace H : ((date_ToMT.f t169).bind fun bt170 => ((date_ToXML.f bt170.1).bind fun bt172 => ((date_Day.f t169).bind fun bt174 => (if bt170.2 = 0 then (if bt172.2 = 0 then (if bt174.2 = 0 then (if bt172.1.toList = t169.toList then (if bt174.1 = (Int.tmod (wrap64 (a0)) 36525) then (if (bt170.1.size : Int) = 6 then (if t169.size + 9 ≤ 9223372036854775807 then ((date_CheckMoment.f (t169 ++ (⟨#[84, 48, 48, 58, 48, 48, 58, 48, 48]⟩ : ByteArray))).bind fun t176 => (remitterlaw06_DateTurns.j0 k (Int.tmod (wrap64 (a0)) 36525) t169 (t176 != 0))) else (none)) else (remitterlaw06_DateTurns.j0 k (Int.tmod (wrap64 (a0)) 36525) t169 true)) else (remitterlaw06_DateTurns.j0 k (Int.tmod (wrap64 (a0)) 36525) t169 true)) else (remitterlaw06_DateTurns.j0 k (Int.tmod (wrap64 (a0)) 36525) t169 true)) else (remitterlaw06_DateTurns.j0 k (Int.tmod (wrap64 (a0)) 36525) t169 true)) else (remitterlaw06_DateTurns.j0 k (Int.tmod (wrap64 (a0)) 36525) t169 true)) else (remitterlaw06_DateTurns.j0 k (Int.tmod (wrap64 (a0)) 36525) t169 true))))) = some r := H
  have A2 := Aside0.mk A20
  clear A20
  replace H := Option.bind_eq_some_iff.mp H
  obtain ⟨⟨t170, t171⟩, A30, H⟩ := H
  replace H : ((date_ToXML.f t170).bind fun bt172 => ((date_Day.f t169).bind fun bt174 => (if t171 = 0 then (if bt172.2 = 0 then (if bt174.2 = 0 then (if bt172.1.toList = t169.toList then (if bt174.1 = (Int.tmod (wrap64 (a0)) 36525) then (if (t170.size : Int) = 6 then (if t169.size + 9 ≤ 9223372036854775807 then ((date_CheckMoment.f (t169 ++ (⟨#[84, 48, 48, 58, 48, 48, 58, 48, 48]⟩ : ByteArray))).bind fun t176 => (remitterlaw06_DateTurns.j0 k (Int.tmod (wrap64 (a0)) 36525) t169 (t176 != 0))) else (none)) else (remitterlaw06_DateTurns.j0 k (Int.tmod (wrap64 (a0)) 36525) t169 true)) else (remitterlaw06_DateTurns.j0 k (Int.tmod (wrap64 (a0)) 36525) t169 true)) else (remitterlaw06_DateTurns.j0 k (Int.tmod (wrap64 (a0)) 36525) t169 true)) else (remitterlaw06_DateTurns.j0 k (Int.tmod (wrap64 (a0)) 36525) t169 true)) else (remitterlaw06_DateTurns.j0 k (Int.tmod (wrap64 (a0)) 36525) t169 true)) else (remitterlaw06_DateTurns.j0 k (Int.tmod (wrap64 (a0)) 36525) t169 true)))) = some r := H
  have A3 := Aside0.mk A30
  clear A30
  replace H := Option.bind_eq_some_iff.mp H
  obtain ⟨⟨t172, t173⟩, A40, H⟩ := H
  replace H : ((date_Day.f t169).bind fun bt174 => (if t171 = 0 then (if t173 = 0 then (if bt174.2 = 0 then (if t172.toList = t169.toList then (if bt174.1 = (Int.tmod (wrap64 (a0)) 36525) then (if (t170.size : Int) = 6 then (if t169.size + 9 ≤ 9223372036854775807 then ((date_CheckMoment.f (t169 ++ (⟨#[84, 48, 48, 58, 48, 48, 58, 48, 48]⟩ : ByteArray))).bind fun t176 => (remitterlaw06_DateTurns.j0 k (Int.tmod (wrap64 (a0)) 36525) t169 (t176 != 0))) else (none)) else (remitterlaw06_DateTurns.j0 k (Int.tmod (wrap64 (a0)) 36525) t169 true)) else (remitterlaw06_DateTurns.j0 k (Int.tmod (wrap64 (a0)) 36525) t169 true)) else (remitterlaw06_DateTurns.j0 k (Int.tmod (wrap64 (a0)) 36525) t169 true)) else (remitterlaw06_DateTurns.j0 k (Int.tmod (wrap64 (a0)) 36525) t169 true)) else (remitterlaw06_DateTurns.j0 k (Int.tmod (wrap64 (a0)) 36525) t169 true)) else (remitterlaw06_DateTurns.j0 k (Int.tmod (wrap64 (a0)) 36525) t169 true))) = some r := H
  have A4 := Aside0.mk A40
  clear A40
  replace H := Option.bind_eq_some_iff.mp H
  obtain ⟨⟨t174, t175⟩, A50, H⟩ := H
  replace H : (if t171 = 0 then (if t173 = 0 then (if t175 = 0 then (if t172.toList = t169.toList then (if t174 = (Int.tmod (wrap64 (a0)) 36525) then (if (t170.size : Int) = 6 then (if t169.size + 9 ≤ 9223372036854775807 then ((date_CheckMoment.f (t169 ++ (⟨#[84, 48, 48, 58, 48, 48, 58, 48, 48]⟩ : ByteArray))).bind fun t176 => (remitterlaw06_DateTurns.j0 k (Int.tmod (wrap64 (a0)) 36525) t169 (t176 != 0))) else (none)) else (remitterlaw06_DateTurns.j0 k (Int.tmod (wrap64 (a0)) 36525) t169 true)) else (remitterlaw06_DateTurns.j0 k (Int.tmod (wrap64 (a0)) 36525) t169 true)) else (remitterlaw06_DateTurns.j0 k (Int.tmod (wrap64 (a0)) 36525) t169 true)) else (remitterlaw06_DateTurns.j0 k (Int.tmod (wrap64 (a0)) 36525) t169 true)) else (remitterlaw06_DateTurns.j0 k (Int.tmod (wrap64 (a0)) 36525) t169 true)) else (remitterlaw06_DateTurns.j0 k (Int.tmod (wrap64 (a0)) 36525) t169 true)) = some r := H
  have A5 := Aside0.mk A50
  clear A50
  have HC6 := Aside0.mk H
  clear H
  go_enter Tryd.func4, Tryd.ntmps4
  go_upto_region 6 with (first | ((with_reducible refine gate_callee (f := 17) rfl ?_); refine goesL_ (some 18) rfl rfl Tryd.func17 (by kernel_rfl) rfl #[.int .i64 (Int.tmod (wrap64 (a0)) 36525)] rfl (by (try simp only [List.map_toArray, List.map_cons, List.map_nil]); first | done | rfl | (simp only [List.length_drop, List.length_take]; rfl)) ?_; (with_reducible refine (remitterref06_Text.calls k (Int.tmod (wrap64 (a0)) 36525) t169 _ A2.out).mono ?_); rintro e w7 ⟨rfl, hb⟩; refine ⟨_, rfl, ?_⟩; have n0_ := Aside0.mk (below_step (by repeat (first | (with_reducible first | exact HB.out | apply below_alloc | apply pw_below_drewN | apply below_drew1) | exact HB.out)) hb); clear HB; have HB := n0_; clear n0_; (try clear hb); (try clear hb2); (try clear hk); (try clear hi)) | ((with_reducible refine gate_callee (f := 8) rfl ?_); refine goesL_ (some 21) rfl rfl Tryd.func8 (by kernel_rfl) rfl #[.string t169] rfl (by (try simp only [List.map_toArray, List.map_cons, List.map_nil]); first | done | rfl | (simp only [List.length_drop, List.length_take]; rfl)) ?_; (with_reducible refine (date_ToMT.calls t169 t170 t171 _ A3.out (GW_below HG.out (by repeat (first | (with_reducible first | exact HB.out | apply below_alloc | apply pw_below_drewN | apply below_drew1) | exact HB.out)))).mono ?_); rintro e w8 ⟨rfl, hb⟩; refine ⟨_, rfl, ?_⟩; have n0_ := Aside0.mk (below_step (by repeat (first | (with_reducible first | exact HB.out | apply below_alloc | apply pw_below_drewN | apply below_drew1) | exact HB.out)) hb); clear HB; have HB := n0_; clear n0_; (try clear hb); (try clear hb2); (try clear hk); (try clear hi)) | ((with_reducible refine gate_callee (f := 7) rfl ?_); refine goesL_ (some 26) rfl rfl Tryd.func7 (by kernel_rfl) rfl #[.string t170] rfl (by (try simp only [List.map_toArray, List.map_cons, List.map_nil]); first | done | rfl | (simp only [List.length_drop, List.length_take]; rfl)) ?_; (with_reducible refine (date_ToXML.calls t170 t172 t173 _ A4.out).mono ?_); rintro e w9 ⟨rfl, hb⟩; refine ⟨_, rfl, ?_⟩; have n0_ := Aside0.mk (below_step (by repeat (first | (with_reducible first | exact HB.out | apply below_alloc | apply pw_below_drewN | apply below_drew1) | exact HB.out)) hb); clear HB; have HB := n0_; clear n0_; (try clear hb); (try clear hb2); (try clear hk); (try clear hi)) | ((with_reducible refine gate_callee (f := 9) rfl ?_); refine goesL_ (some 31) rfl rfl Tryd.func9 (by kernel_rfl) rfl #[.string t169] rfl (by (try simp only [List.map_toArray, List.map_cons, List.map_nil]); first | done | rfl | (simp only [List.length_drop, List.length_take]; rfl)) ?_; (with_reducible refine (date_Day.calls t169 t174 t175 _ A5.out).mono ?_); rintro e w10 ⟨rfl, hb⟩; refine ⟨_, rfl, ?_⟩; have n0_ := Aside0.mk (below_step (by repeat (first | (with_reducible first | exact HB.out | apply below_alloc | apply pw_below_drewN | apply below_drew1) | exact HB.out)) hb); clear HB; have HB := n0_; clear n0_; (try clear hb); (try clear hb2); (try clear hk); (try clear hi)))
  (try simp only [Act.put, List.setIfInBounds_toArray, List.set_cons_zero, List.set_cons_succ])
  go_cut [64] (fun v64 wc => ∃ (kq : Nat) (x64_5 : Bool), v64 = .bool x64_5 ∧ Aside0 (remitterlaw06_DateTurns.j0 kq (Int.tmod (wrap64 (a0)) 36525) t169 x64_5 = some r) ∧ Aside0 (kq ≤ k) ∧ Aside0 (Below w.heap.size w wc))
  case first =>
    have H := HC6.out
    clear HC6
    by_cases c11 : t171 = 0
    · rw [if_pos c11] at H
      have c11b0 : (t171 == 0) = true := beq_iff_eq.mpr c11
      have c11b1 : (t171 != 0) = false := bne_eq_false_iff_eq.mpr c11
      clear c11
      (first | rw [c11b0] | (simp only [i64_w, i32_w]; rw [c11b0]) | skip)
      by_cases c12 : t173 = 0
      · rw [if_pos c12] at H
        have c12b0 : (t173 == 0) = true := beq_iff_eq.mpr c12
        have c12b1 : (t173 != 0) = false := bne_eq_false_iff_eq.mpr c12
        clear c12
        by_cases c13 : t175 = 0
        · rw [if_pos c13] at H
          have c13b0 : (t175 == 0) = true := beq_iff_eq.mpr c13
          have c13b1 : (t175 != 0) = false := bne_eq_false_iff_eq.mpr c13
          clear c13
          by_cases c14 : t172.toList = t169.toList
          · rw [if_pos c14] at H
            have c14b0 : (t172.toList == t169.toList) = true := beq_iff_eq.mpr c14
            have c14b1 : (t172.toList != t169.toList) = false := bne_eq_false_iff_eq.mpr c14
            clear c14
            by_cases c15 : t174 = (Int.tmod (wrap64 (a0)) 36525)
            · rw [if_pos c15] at H
              have c15b0 : (t174 == (Int.tmod (wrap64 (a0)) 36525)) = true := beq_iff_eq.mpr c15
              have c15b1 : (t174 != (Int.tmod (wrap64 (a0)) 36525)) = false := bne_eq_false_iff_eq.mpr c15
              clear c15
              by_cases c16 : (t170.size : Int) = 6
              · rw [if_pos c16] at H
                have c16b0 : ((t170.size : Int) == 6) = true := beq_iff_eq.mpr c16
                have c16b1 : ((t170.size : Int) != 6) = false := bne_eq_false_iff_eq.mpr c16
                clear c16
                by_cases c17 : t169.size + 9 ≤ 9223372036854775807
                · rw [if_pos c17] at H
                  have c17b0 := eq_true c17
                  have c17b1 : decide (t169.size + 9 ≤ 9223372036854775807) = true := decide_eq_true c17
                  try have c17b2 : (9223372036854775807 < t169.size + 9) = False := eq_false (Nat.not_lt.2 c17)
                  replace H := Option.bind_eq_some_iff.mp H
                  obtain ⟨t176, A180, H⟩ := H
                  replace H : (remitterlaw06_DateTurns.j0 k (Int.tmod (wrap64 (a0)) 36525) t169 (t176 != 0)) = some r := H
                  have A18 := Aside0.mk A180
                  clear A180
                  have H' := Aside0.mk H
                  clear H
                  go_wp2_with (first | (go_at_call 15; (with_reducible refine (date_CheckMoment.calls (t169 ++ (⟨#[84, 48, 48, 58, 48, 48, 58, 48, 48]⟩ : ByteArray)) t176 _ A18.out).mono ?_); rintro e w19 ⟨rfl, hb⟩; have n0_ := Aside0.mk (below_step (by repeat (first | (with_reducible first | exact HB.out | apply below_alloc | apply pw_below_drewN | apply below_drew1) | exact HB.out)) hb); clear HB; have HB := n0_; clear n0_; (try clear hb); (try clear hb2); (try clear hk); (try clear hi)))
                  go_meet
                  case rel => exact ⟨_, ((t176 != 0)), (by first | rfl | (simp; done) | (simp [*]; done) | exact congrArg Value.bool (Go.Proofs.YtjemnphmjbodfaaDoor.GLib.not_isEmpty _) | exact congrArg Value.bool (Go.Proofs.YtjemnphmjbodfaaDoor.GLib.not_isEmpty _).symm), H', ⟨by first | omega | exact Nat.le_refl _⟩, ⟨by repeat (first | (with_reducible first | exact HB.out | apply below_alloc | apply pw_below_drewN | apply below_drew1) | exact HB.out)⟩⟩
                · rw [if_neg c17] at H
                  exact absurd H (by simp)
              · rw [if_neg c16] at H
                have c16b0 : ((t170.size : Int) == 6) = false := beq_eq_false_iff_ne.mpr c16
                have c16b1 : ((t170.size : Int) != 6) = true := bne_iff_ne.mpr c16
                have H' := Aside0.mk H
                clear H
                go_wp2
                go_meet
                case rel => exact ⟨_, (true), (by first | rfl | (simp; done) | (simp [*]; done) | exact congrArg Value.bool (Go.Proofs.YtjemnphmjbodfaaDoor.GLib.not_isEmpty _) | exact congrArg Value.bool (Go.Proofs.YtjemnphmjbodfaaDoor.GLib.not_isEmpty _).symm), H', ⟨by first | omega | exact Nat.le_refl _⟩, ⟨by repeat (first | (with_reducible first | exact HB.out | apply below_alloc | apply pw_below_drewN | apply below_drew1) | exact HB.out)⟩⟩
            · rw [if_neg c15] at H
              have c15b0 : (t174 == (Int.tmod (wrap64 (a0)) 36525)) = false := beq_eq_false_iff_ne.mpr c15
              have c15b1 : (t174 != (Int.tmod (wrap64 (a0)) 36525)) = true := bne_iff_ne.mpr c15
              have H' := Aside0.mk H
              clear H
              go_wp2
              go_meet
              case rel => exact ⟨_, (true), (by first | rfl | (simp; done) | (simp [*]; done) | exact congrArg Value.bool (Go.Proofs.YtjemnphmjbodfaaDoor.GLib.not_isEmpty _) | exact congrArg Value.bool (Go.Proofs.YtjemnphmjbodfaaDoor.GLib.not_isEmpty _).symm), H', ⟨by first | omega | exact Nat.le_refl _⟩, ⟨by repeat (first | (with_reducible first | exact HB.out | apply below_alloc | apply pw_below_drewN | apply below_drew1) | exact HB.out)⟩⟩
          · rw [if_neg c14] at H
            have c14b0 : (t172.toList == t169.toList) = false := beq_eq_false_iff_ne.mpr c14
            have c14b1 : (t172.toList != t169.toList) = true := bne_iff_ne.mpr c14
            have H' := Aside0.mk H
            clear H
            go_wp2
            go_meet
            case rel => exact ⟨_, (true), (by first | rfl | (simp; done) | (simp [*]; done) | exact congrArg Value.bool (Go.Proofs.YtjemnphmjbodfaaDoor.GLib.not_isEmpty _) | exact congrArg Value.bool (Go.Proofs.YtjemnphmjbodfaaDoor.GLib.not_isEmpty _).symm), H', ⟨by first | omega | exact Nat.le_refl _⟩, ⟨by repeat (first | (with_reducible first | exact HB.out | apply below_alloc | apply pw_below_drewN | apply below_drew1) | exact HB.out)⟩⟩
        · rw [if_neg c13] at H
          have c13b0 : (t175 == 0) = false := beq_eq_false_iff_ne.mpr c13
          have c13b1 : (t175 != 0) = true := bne_iff_ne.mpr c13
          have H' := Aside0.mk H
          clear H
          go_wp2
          go_meet
          case rel => exact ⟨_, (true), (by first | rfl | (simp; done) | (simp [*]; done) | exact congrArg Value.bool (Go.Proofs.YtjemnphmjbodfaaDoor.GLib.not_isEmpty _) | exact congrArg Value.bool (Go.Proofs.YtjemnphmjbodfaaDoor.GLib.not_isEmpty _).symm), H', ⟨by first | omega | exact Nat.le_refl _⟩, ⟨by repeat (first | (with_reducible first | exact HB.out | apply below_alloc | apply pw_below_drewN | apply below_drew1) | exact HB.out)⟩⟩
      · rw [if_neg c12] at H
        have c12b0 : (t173 == 0) = false := beq_eq_false_iff_ne.mpr c12
        have c12b1 : (t173 != 0) = true := bne_iff_ne.mpr c12
        have H' := Aside0.mk H
        clear H
        go_wp2
        go_meet
        case rel => exact ⟨_, (true), (by first | rfl | (simp; done) | (simp [*]; done) | exact congrArg Value.bool (Go.Proofs.YtjemnphmjbodfaaDoor.GLib.not_isEmpty _) | exact congrArg Value.bool (Go.Proofs.YtjemnphmjbodfaaDoor.GLib.not_isEmpty _).symm), H', ⟨by first | omega | exact Nat.le_refl _⟩, ⟨by repeat (first | (with_reducible first | exact HB.out | apply below_alloc | apply pw_below_drewN | apply below_drew1) | exact HB.out)⟩⟩
    · rw [if_neg c11] at H
      have c11b0 : (t171 == 0) = false := beq_eq_false_iff_ne.mpr c11
      have c11b1 : (t171 != 0) = true := bne_iff_ne.mpr c11
      (first | rw [c11b0] | (simp only [i64_w, i32_w]; rw [c11b0]) | skip)
      have H' := Aside0.mk H
      clear H
      go_wp2
      go_meet
      case rel => exact ⟨_, (true), (by first | rfl | (simp; done) | (simp [*]; done) | exact congrArg Value.bool (Go.Proofs.YtjemnphmjbodfaaDoor.GLib.not_isEmpty _) | exact congrArg Value.bool (Go.Proofs.YtjemnphmjbodfaaDoor.GLib.not_isEmpty _).symm), H', ⟨by first | omega | exact Nat.le_refl _⟩, ⟨by repeat (first | (with_reducible first | exact HB.out | apply below_alloc | apply pw_below_drewN | apply below_drew1) | exact HB.out)⟩⟩
  case rest =>
    clear HC6
    try clear c1
    try clear p2
    try clear c4
    try clear p6
    try clear c7
    try clear c8
    try clear c9
    try clear c11
    try clear c11b0
    try clear c11b1
    try clear c12
    try clear c12b0
    try clear c12b1
    try clear c13
    try clear c13b0
    try clear c13b1
    try clear c14
    try clear c14b0
    try clear c14b1
    try clear c15
    try clear c15b0
    try clear c15b1
    try clear c16
    try clear c16b0
    try clear c16b1
    try clear c17
    try clear c17b0
    try clear c17b1
    try clear c17b2
    obtain ⟨kq, x64_5, rfl, HA, HJ5, HB⟩ := hcut
    cases kq with
    | zero => exact absurd HA.out (by simp [remitterlaw06_DateTurns.j0])
    | succ kj5 =>
      have H := HA.out
      clear HA
      simp only [remitterlaw06_DateTurns.j0] at H
      by_cases c20 : x64_5 = true
      · subst c20
        have H1 : (some false) = some r := by rw [if_pos rfl] at H; exact H
        clear H
        have H := H1
        clear H1
        obtain rfl := Option.some.inj H
        go_wp2
        all_goals (first | (exfalso; simp_all; done) | (exfalso; omega) | (go_ret; exact ⟨by first | rfl | (simp [errW_none, errW_some] <;> rfl) | (simp [*, errW_none, errW_some] <;> rfl), by repeat (first | (with_reducible first | exact HB.out | apply below_alloc | apply pw_below_drewN | apply below_drew1) | exact HB.out)⟩))
      · replace c20 := Bool.eq_false_iff.mpr c20
        subst c20
        have H1 : (if (Int.tmod (wrap64 (a0)) 36525) = 36524 then (if t169.toList = ([50, 48, 55, 57, 45, 49, 50, 45, 51, 49] : List UInt8) then ((remitterlaw06_wakes.f).bind fun t177 => (some t177)) else (some false)) else ((remitterref06_Text.f kj5 (wrap64 ((Int.tmod (wrap64 (a0)) 36525) + 1))).bind fun t178 => ((date_Day.f t178).bind fun bt179 => (if bt179.2 = 0 then (if bt179.1 = (wrap64 ((Int.tmod (wrap64 (a0)) 36525) + 1)) then (if (Op.bytesLess t169.toList t178.toList) = true then ((remitterlaw06_wakes.f).bind fun t181 => (some t181)) else (some false)) else (some false)) else (some false))))) = some r := by rw [if_neg (show ¬ (false = true) by decide)] at H; exact H
        clear H
        have H := H1
        clear H1
        by_cases c21 : (Int.tmod (wrap64 (a0)) 36525) = 36524
        · rw [if_pos c21] at H
          have c21b0 : ((Int.tmod (wrap64 (a0)) 36525) == 36524) = true := beq_iff_eq.mpr c21
          have c21b1 : ((Int.tmod (wrap64 (a0)) 36525) != 36524) = false := bne_eq_false_iff_eq.mpr c21
          clear c21
          by_cases c22 : t169.toList = ([50, 48, 55, 57, 45, 49, 50, 45, 51, 49] : List UInt8)
          · rw [if_pos c22] at H
            have c22b0 : (t169.toList == ([50, 48, 55, 57, 45, 49, 50, 45, 51, 49] : List UInt8)) = true := beq_iff_eq.mpr c22
            have c22b1 : (t169.toList != ([50, 48, 55, 57, 45, 49, 50, 45, 51, 49] : List UInt8)) = false := bne_eq_false_iff_eq.mpr c22
            clear c22
            replace H := Option.bind_eq_some_iff.mp H
            obtain ⟨t177, A230, H⟩ := H
            replace H : (some t177) = some r := H
            have A23 := Aside0.mk A230
            clear A230
            obtain rfl := Option.some.inj H
            go_wp2_with (first | (go_at_call 6; (with_reducible refine (remitterlaw06_wakes.calls  t177 _ A23.out (GW_below HG.out (by repeat (first | (with_reducible first | exact HB.out | apply below_alloc | apply pw_below_drewN | apply below_drew1) | exact HB.out)))).mono ?_); rintro e w24 ⟨rfl, hb⟩; have n0_ := Aside0.mk (below_step (by repeat (first | (with_reducible first | exact HB.out | apply below_alloc | apply pw_below_drewN | apply below_drew1) | exact HB.out)) hb); clear HB; have HB := n0_; clear n0_; (try clear hb); (try clear hb2); (try clear hk); (try clear hi)))
            all_goals (first | (exfalso; simp_all; done) | (exfalso; omega) | (go_ret; exact ⟨by first | rfl | (simp [errW_none, errW_some] <;> rfl) | (simp [*, errW_none, errW_some] <;> rfl), by repeat (first | (with_reducible first | exact HB.out | apply below_alloc | apply pw_below_drewN | apply below_drew1) | exact HB.out)⟩))
          · rw [if_neg c22] at H
            have c22b0 : (t169.toList == ([50, 48, 55, 57, 45, 49, 50, 45, 51, 49] : List UInt8)) = false := beq_eq_false_iff_ne.mpr c22
            have c22b1 : (t169.toList != ([50, 48, 55, 57, 45, 49, 50, 45, 51, 49] : List UInt8)) = true := bne_iff_ne.mpr c22
            obtain rfl := Option.some.inj H
            go_wp2
            all_goals (first | (exfalso; simp_all; done) | (exfalso; omega) | (go_ret; exact ⟨by first | rfl | (simp [errW_none, errW_some] <;> rfl) | (simp [*, errW_none, errW_some] <;> rfl), by repeat (first | (with_reducible first | exact HB.out | apply below_alloc | apply pw_below_drewN | apply below_drew1) | exact HB.out)⟩))
        · rw [if_neg c21] at H
          have c21b0 : ((Int.tmod (wrap64 (a0)) 36525) == 36524) = false := beq_eq_false_iff_ne.mpr c21
          have c21b1 : ((Int.tmod (wrap64 (a0)) 36525) != 36524) = true := bne_iff_ne.mpr c21
          replace H := Option.bind_eq_some_iff.mp H
          obtain ⟨t178, A250, H⟩ := H
          replace H : ((date_Day.f t178).bind fun bt179 => (if bt179.2 = 0 then (if bt179.1 = (wrap64 ((Int.tmod (wrap64 (a0)) 36525) + 1)) then (if (Op.bytesLess t169.toList t178.toList) = true then ((remitterlaw06_wakes.f).bind fun t181 => (some t181)) else (some false)) else (some false)) else (some false))) = some r := H
          have A25 := Aside0.mk A250
          clear A250
          replace H := Option.bind_eq_some_iff.mp H
          obtain ⟨⟨t179, t180⟩, A260, H⟩ := H
          replace H : (if t180 = 0 then (if t179 = (wrap64 ((Int.tmod (wrap64 (a0)) 36525) + 1)) then (if (Op.bytesLess t169.toList t178.toList) = true then ((remitterlaw06_wakes.f).bind fun t181 => (some t181)) else (some false)) else (some false)) else (some false)) = some r := H
          have A26 := Aside0.mk A260
          clear A260
          by_cases c27 : t180 = 0
          · rw [if_pos c27] at H
            have c27b0 : (t180 == 0) = true := beq_iff_eq.mpr c27
            have c27b1 : (t180 != 0) = false := bne_eq_false_iff_eq.mpr c27
            clear c27
            by_cases c28 : t179 = (wrap64 ((Int.tmod (wrap64 (a0)) 36525) + 1))
            · rw [if_pos c28] at H
              have c28b0 : (t179 == (wrap64 ((Int.tmod (wrap64 (a0)) 36525) + 1))) = true := beq_iff_eq.mpr c28
              have c28b1 : (t179 != (wrap64 ((Int.tmod (wrap64 (a0)) 36525) + 1))) = false := bne_eq_false_iff_eq.mpr c28
              clear c28
              by_cases c29 : (Op.bytesLess t169.toList t178.toList) = true
              · rw [if_pos c29] at H
                have c29b0 : (Op.bytesLess t169.toList t178.toList) = true := c29
                clear c29
                replace H := Option.bind_eq_some_iff.mp H
                obtain ⟨t181, A300, H⟩ := H
                replace H : (some t181) = some r := H
                have A30 := Aside0.mk A300
                clear A300
                obtain rfl := Option.some.inj H
                go_wp2_with (first | ((with_reducible refine gate_callee (f := 17) rfl ?_); refine goesL_ (some 74) rfl rfl Tryd.func17 (by kernel_rfl) rfl #[.int .i64 (wrap64 ((Int.tmod (wrap64 (a0)) 36525) + 1))] rfl (by (try simp only [List.map_toArray, List.map_cons, List.map_nil]); first | done | rfl | (simp only [List.length_drop, List.length_take]; rfl)) ?_; (with_reducible refine (remitterref06_Text.calls kj5 (wrap64 ((Int.tmod (wrap64 (a0)) 36525) + 1)) t178 _ A25.out).mono ?_); rintro e w31 ⟨rfl, hb⟩; refine ⟨_, rfl, ?_⟩; have n0_ := Aside0.mk (below_step (by repeat (first | (with_reducible first | exact HB.out | apply below_alloc | apply pw_below_drewN | apply below_drew1) | exact HB.out)) hb); clear HB; have HB := n0_; clear n0_; (try clear hb); (try clear hb2); (try clear hk); (try clear hi)) | ((with_reducible refine gate_callee (f := 9) rfl ?_); refine goesL_ (some 77) rfl rfl Tryd.func9 (by kernel_rfl) rfl #[.string t178] rfl (by (try simp only [List.map_toArray, List.map_cons, List.map_nil]); first | done | rfl | (simp only [List.length_drop, List.length_take]; rfl)) ?_; (with_reducible refine (date_Day.calls t178 t179 t180 _ A26.out).mono ?_); rintro e w32 ⟨rfl, hb⟩; refine ⟨_, rfl, ?_⟩; have n0_ := Aside0.mk (below_step (by repeat (first | (with_reducible first | exact HB.out | apply below_alloc | apply pw_below_drewN | apply below_drew1) | exact HB.out)) hb); clear HB; have HB := n0_; clear n0_; (try clear hb); (try clear hb2); (try clear hk); (try clear hi)) | (go_at_call 6; (with_reducible refine (remitterlaw06_wakes.calls  t181 _ A30.out (GW_below HG.out (by repeat (first | (with_reducible first | exact HB.out | apply below_alloc | apply pw_below_drewN | apply below_drew1) | exact HB.out)))).mono ?_); rintro e w33 ⟨rfl, hb⟩; have n0_ := Aside0.mk (below_step (by repeat (first | (with_reducible first | exact HB.out | apply below_alloc | apply pw_below_drewN | apply below_drew1) | exact HB.out)) hb); clear HB; have HB := n0_; clear n0_; (try clear hb); (try clear hb2); (try clear hk); (try clear hi)))
                all_goals (first | (exfalso; simp_all; done) | (exfalso; omega) | (go_ret; exact ⟨by first | rfl | (simp [errW_none, errW_some] <;> rfl) | (simp [*, errW_none, errW_some] <;> rfl), by repeat (first | (with_reducible first | exact HB.out | apply below_alloc | apply pw_below_drewN | apply below_drew1) | exact HB.out)⟩))
              · rw [if_neg c29] at H
                have c29b0 : (Op.bytesLess t169.toList t178.toList) = false := by simpa using c29
                clear c29
                obtain rfl := Option.some.inj H
                go_wp2_with (first | ((with_reducible refine gate_callee (f := 17) rfl ?_); refine goesL_ (some 74) rfl rfl Tryd.func17 (by kernel_rfl) rfl #[.int .i64 (wrap64 ((Int.tmod (wrap64 (a0)) 36525) + 1))] rfl (by (try simp only [List.map_toArray, List.map_cons, List.map_nil]); first | done | rfl | (simp only [List.length_drop, List.length_take]; rfl)) ?_; (with_reducible refine (remitterref06_Text.calls kj5 (wrap64 ((Int.tmod (wrap64 (a0)) 36525) + 1)) t178 _ A25.out).mono ?_); rintro e w34 ⟨rfl, hb⟩; refine ⟨_, rfl, ?_⟩; have n0_ := Aside0.mk (below_step (by repeat (first | (with_reducible first | exact HB.out | apply below_alloc | apply pw_below_drewN | apply below_drew1) | exact HB.out)) hb); clear HB; have HB := n0_; clear n0_; (try clear hb); (try clear hb2); (try clear hk); (try clear hi)) | ((with_reducible refine gate_callee (f := 9) rfl ?_); refine goesL_ (some 77) rfl rfl Tryd.func9 (by kernel_rfl) rfl #[.string t178] rfl (by (try simp only [List.map_toArray, List.map_cons, List.map_nil]); first | done | rfl | (simp only [List.length_drop, List.length_take]; rfl)) ?_; (with_reducible refine (date_Day.calls t178 t179 t180 _ A26.out).mono ?_); rintro e w35 ⟨rfl, hb⟩; refine ⟨_, rfl, ?_⟩; have n0_ := Aside0.mk (below_step (by repeat (first | (with_reducible first | exact HB.out | apply below_alloc | apply pw_below_drewN | apply below_drew1) | exact HB.out)) hb); clear HB; have HB := n0_; clear n0_; (try clear hb); (try clear hb2); (try clear hk); (try clear hi)))
                all_goals (first | (exfalso; simp_all; done) | (exfalso; omega) | (go_ret; exact ⟨by first | rfl | (simp [errW_none, errW_some] <;> rfl) | (simp [*, errW_none, errW_some] <;> rfl), by repeat (first | (with_reducible first | exact HB.out | apply below_alloc | apply pw_below_drewN | apply below_drew1) | exact HB.out)⟩))
            · rw [if_neg c28] at H
              have c28b0 : (t179 == (wrap64 ((Int.tmod (wrap64 (a0)) 36525) + 1))) = false := beq_eq_false_iff_ne.mpr c28
              have c28b1 : (t179 != (wrap64 ((Int.tmod (wrap64 (a0)) 36525) + 1))) = true := bne_iff_ne.mpr c28
              obtain rfl := Option.some.inj H
              go_wp2_with (first | ((with_reducible refine gate_callee (f := 17) rfl ?_); refine goesL_ (some 74) rfl rfl Tryd.func17 (by kernel_rfl) rfl #[.int .i64 (wrap64 ((Int.tmod (wrap64 (a0)) 36525) + 1))] rfl (by (try simp only [List.map_toArray, List.map_cons, List.map_nil]); first | done | rfl | (simp only [List.length_drop, List.length_take]; rfl)) ?_; (with_reducible refine (remitterref06_Text.calls kj5 (wrap64 ((Int.tmod (wrap64 (a0)) 36525) + 1)) t178 _ A25.out).mono ?_); rintro e w36 ⟨rfl, hb⟩; refine ⟨_, rfl, ?_⟩; have n0_ := Aside0.mk (below_step (by repeat (first | (with_reducible first | exact HB.out | apply below_alloc | apply pw_below_drewN | apply below_drew1) | exact HB.out)) hb); clear HB; have HB := n0_; clear n0_; (try clear hb); (try clear hb2); (try clear hk); (try clear hi)) | ((with_reducible refine gate_callee (f := 9) rfl ?_); refine goesL_ (some 77) rfl rfl Tryd.func9 (by kernel_rfl) rfl #[.string t178] rfl (by (try simp only [List.map_toArray, List.map_cons, List.map_nil]); first | done | rfl | (simp only [List.length_drop, List.length_take]; rfl)) ?_; (with_reducible refine (date_Day.calls t178 t179 t180 _ A26.out).mono ?_); rintro e w37 ⟨rfl, hb⟩; refine ⟨_, rfl, ?_⟩; have n0_ := Aside0.mk (below_step (by repeat (first | (with_reducible first | exact HB.out | apply below_alloc | apply pw_below_drewN | apply below_drew1) | exact HB.out)) hb); clear HB; have HB := n0_; clear n0_; (try clear hb); (try clear hb2); (try clear hk); (try clear hi)))
              all_goals (first | (exfalso; simp_all; done) | (exfalso; omega) | (go_ret; exact ⟨by first | rfl | (simp [errW_none, errW_some] <;> rfl) | (simp [*, errW_none, errW_some] <;> rfl), by repeat (first | (with_reducible first | exact HB.out | apply below_alloc | apply pw_below_drewN | apply below_drew1) | exact HB.out)⟩))
          · rw [if_neg c27] at H
            have c27b0 : (t180 == 0) = false := beq_eq_false_iff_ne.mpr c27
            have c27b1 : (t180 != 0) = true := bne_iff_ne.mpr c27
            obtain rfl := Option.some.inj H
            go_wp2_with (first | ((with_reducible refine gate_callee (f := 17) rfl ?_); refine goesL_ (some 74) rfl rfl Tryd.func17 (by kernel_rfl) rfl #[.int .i64 (wrap64 ((Int.tmod (wrap64 (a0)) 36525) + 1))] rfl (by (try simp only [List.map_toArray, List.map_cons, List.map_nil]); first | done | rfl | (simp only [List.length_drop, List.length_take]; rfl)) ?_; (with_reducible refine (remitterref06_Text.calls kj5 (wrap64 ((Int.tmod (wrap64 (a0)) 36525) + 1)) t178 _ A25.out).mono ?_); rintro e w38 ⟨rfl, hb⟩; refine ⟨_, rfl, ?_⟩; have n0_ := Aside0.mk (below_step (by repeat (first | (with_reducible first | exact HB.out | apply below_alloc | apply pw_below_drewN | apply below_drew1) | exact HB.out)) hb); clear HB; have HB := n0_; clear n0_; (try clear hb); (try clear hb2); (try clear hk); (try clear hi)) | ((with_reducible refine gate_callee (f := 9) rfl ?_); refine goesL_ (some 77) rfl rfl Tryd.func9 (by kernel_rfl) rfl #[.string t178] rfl (by (try simp only [List.map_toArray, List.map_cons, List.map_nil]); first | done | rfl | (simp only [List.length_drop, List.length_take]; rfl)) ?_; (with_reducible refine (date_Day.calls t178 t179 t180 _ A26.out).mono ?_); rintro e w39 ⟨rfl, hb⟩; refine ⟨_, rfl, ?_⟩; have n0_ := Aside0.mk (below_step (by repeat (first | (with_reducible first | exact HB.out | apply below_alloc | apply pw_below_drewN | apply below_drew1) | exact HB.out)) hb); clear HB; have HB := n0_; clear n0_; (try clear hb); (try clear hb2); (try clear hk); (try clear hi)))
            all_goals (first | (exfalso; simp_all; done) | (exfalso; omega) | (go_ret; exact ⟨by first | rfl | (simp [errW_none, errW_some] <;> rfl) | (simp [*, errW_none, errW_some] <;> rfl), by repeat (first | (with_reducible first | exact HB.out | apply below_alloc | apply pw_below_drewN | apply below_drew1) | exact HB.out)⟩))

/-- THE ONE PURE STATEMENT of remitterlaw06_DateTurns: yours. -/
def remitterlaw06_DateTurns.Pure : Prop := ∀ (a0 : Int), (Lit.int .u16 a0).wf = true → ∃ k, remitterlaw06_DateTurns.f k a0 = some true
theorem remitterlaw06_DateTurns.walk (P : remitterlaw06_DateTurns.Pure) (a0 : Int) (w : World) (w0 : (Lit.int .u16 a0).wf = true) (hG : GW w) :
    Calls Tryd.prog 4 #[.int .u16 a0] w fun e w' => e = .returned (.bool true) ∧ Below w.heap.size w w' := by
  obtain ⟨k, h⟩ := P a0 w0
  refine (remitterlaw06_DateTurns.calls k a0 true w h hG).mono ?_
  rintro e w' ⟨rfl, hd⟩
  exact ⟨rfl, hd⟩

/-! ### remitterlaw06_DateOrder: function 5 -/
def remitterlaw06_DateOrder.j0 : Nat → ByteArray → ByteArray → Int → Int → Bool → Option (Bool)
  | 0, _, _, _, _, _ => none
  | k + 1, x0, x1, x5, x7, x31 => if x31 = true then ((date_CheckXML.f x0).bind fun t187 => (if t187 = 0 then ((date_CheckXML.f x1).bind fun t188 => (if t188 = 0 then (some false) else ((remitterlaw06_wakes.f).bind fun t189 => (some t189)))) else ((remitterlaw06_wakes.f).bind fun t190 => (some t190)))) else (if ((decide (x5 < x7)) == (Op.bytesLess x0.toList x1.toList)) = true then (if ((x5 == x7) == (x0.toList == x1.toList)) = true then (if x5 ≥ 0 then (if x5 ≤ 36524 then ((remitterlaw06_wakes.f).bind fun t191 => (some t191)) else (some false)) else (some false)) else (some false)) else (some false))
def remitterlaw06_DateOrder.f (k : Nat) (a0 : ByteArray) (a1 : ByteArray) : Option (Bool) := if (wrap64 ((a0.size : Int) + (a1.size : Int))) > 40 then ((remitterlaw06_wakes.f).bind fun t182 => (some t182)) else ((date_Day.f a0).bind fun bt183 => ((date_Day.f a1).bind fun bt185 => (if bt183.2 = 0 then (remitterlaw06_DateOrder.j0 k a0 a1 bt183.1 bt185.1 (bt185.2 != 0)) else (remitterlaw06_DateOrder.j0 k a0 a1 bt183.1 bt185.1 true))))
theorem remitterlaw06_DateOrder.mono_l : ∀ k, (∀ y0 y1 y2 y3 y4, LeO (remitterlaw06_DateOrder.j0 k y0 y1 y2 y3 y4) (remitterlaw06_DateOrder.j0 (k + 1) y0 y1 y2 y3 y4))
  | 0 => fun _ _ _ _ _ r h => by simp [remitterlaw06_DateOrder.j0] at h
  | k + 1 => by
    have ih0 := remitterlaw06_DateOrder.mono_l k
    · intro y0 y1 y2 y3 y4
      unfold remitterlaw06_DateOrder.j0
      repeat' first
      | (with_reducible exact ih0 _ _ _ _ _)
      | (with_reducible exact LeO.refl _)
      | (with_reducible exact LeO.none _)
      | (with_reducible refine LeO.ite ?_ ?_)
      | (with_reducible refine LeO.bind ?_ (fun _ => ?_))
      | exact ih0 _ _ _ _ _
      | exact LeO.none _
      | refine LeO.ite ?_ ?_
      | refine LeO.bind ?_ (fun _ => ?_)
theorem remitterlaw06_DateOrder.mono : ∀ a0 a1 k, LeO (remitterlaw06_DateOrder.f k a0 a1) (remitterlaw06_DateOrder.f (k + 1) a0 a1) := by
  intro a0 a1 k
  have ih0 := remitterlaw06_DateOrder.mono_l k
  unfold remitterlaw06_DateOrder.f
  repeat' first
      | (with_reducible exact ih0 _ _ _ _ _)
      | (with_reducible exact LeO.refl _)
      | (with_reducible exact LeO.none _)
      | (with_reducible refine LeO.ite ?_ ?_)
      | (with_reducible refine LeO.bind ?_ (fun _ => ?_))
      | exact ih0 _ _ _ _ _
      | exact LeO.none _
      | refine LeO.ite ?_ ?_
      | refine LeO.bind ?_ (fun _ => ?_)
set_option maxHeartbeats 8000000 in
set_option maxRecDepth 100000 in
theorem remitterlaw06_DateOrder.calls (k : Nat) (a0 : ByteArray) (a1 : ByteArray) (r : Bool) (w : World) (h : remitterlaw06_DateOrder.f k a0 a1 = some r) (hG : GW w) :
    Calls Tryd.prog 5 #[.string a0, .string a1] w fun e w' => e = .returned (.bool r) ∧ Below w.heap.size w w' := by
  have HG := Aside0.mk hG
  clear hG
  have HB := Aside0.mk (Below.refl w.heap.size w)
  have H : (if (wrap64 ((a0.size : Int) + (a1.size : Int))) > 40 then ((remitterlaw06_wakes.f).bind fun t182 => (some t182)) else ((date_Day.f a0).bind fun bt183 => ((date_Day.f a1).bind fun bt185 => (if bt183.2 = 0 then (remitterlaw06_DateOrder.j0 k a0 a1 bt183.1 bt185.1 (bt185.2 != 0)) else (remitterlaw06_DateOrder.j0 k a0 a1 bt183.1 bt185.1 true))))) = some r := h
  clear h
  by_cases c3 : (wrap64 ((a0.size : Int) + (a1.size : Int))) > 40
  · rw [if_pos c3] at H
    have c3b0 : decide (40 < (wrap64 ((a0.size : Int) + (a1.size : Int)))) = true := decide_eq_true c3
    clear c3
    replace H := Option.bind_eq_some_iff.mp H
    obtain ⟨t182, A40, H⟩ := H
    replace H : (some t182) = some r := H
    have A4 := Aside0.mk A40
    clear A40
    obtain rfl := Option.some.inj H
    go_enter Tryd.func5, Tryd.ntmps5
    go_wp2_with (first | ((with_reducible refine gate_callee (f := 6) rfl ?_); refine goesL_ (some 15) rfl rfl Tryd.func6 (by kernel_rfl) rfl #[] rfl (by (try simp only [List.map_toArray, List.map_cons, List.map_nil]); first | done | rfl | (simp only [List.length_drop, List.length_take]; rfl)) ?_; (with_reducible refine (remitterlaw06_wakes.calls  t182 _ A4.out (GW_below HG.out (by repeat (first | (with_reducible first | exact HB.out | apply below_alloc | apply pw_below_drewN | apply below_drew1) | exact HB.out)))).mono ?_); rintro e w5 ⟨rfl, hb⟩; refine ⟨_, rfl, ?_⟩; have n0_ := Aside0.mk (below_step (by repeat (first | (with_reducible first | exact HB.out | apply below_alloc | apply pw_below_drewN | apply below_drew1) | exact HB.out)) hb); clear HB; have HB := n0_; clear n0_; (try clear hb); (try clear hb2); (try clear hk); (try clear hi)))
    all_goals (first | (exfalso; simp_all; done) | (exfalso; omega) | (go_ret; exact ⟨by first | rfl | (simp [errW_none, errW_some] <;> rfl) | (simp [*, errW_none, errW_some] <;> rfl), by repeat (first | (with_reducible first | exact HB.out | apply below_alloc | apply pw_below_drewN | apply below_drew1) | exact HB.out)⟩))
  · rw [if_neg c3] at H
    have c3b0 : decide (40 < (wrap64 ((a0.size : Int) + (a1.size : Int)))) = false := decide_eq_false c3
    clear c3
    replace H := Option.bind_eq_some_iff.mp H
    obtain ⟨⟨t183, t184⟩, A60, H⟩ := H
    replace H : ((date_Day.f a1).bind fun bt185 => (if t184 = 0 then (remitterlaw06_DateOrder.j0 k a0 a1 t183 bt185.1 (bt185.2 != 0)) else (remitterlaw06_DateOrder.j0 k a0 a1 t183 bt185.1 true))) = some r := H
    have A6 := Aside0.mk A60
    clear A60
    replace H := Option.bind_eq_some_iff.mp H
    obtain ⟨⟨t185, t186⟩, A70, H⟩ := H
    replace H : (if t184 = 0 then (remitterlaw06_DateOrder.j0 k a0 a1 t183 t185 (t186 != 0)) else (remitterlaw06_DateOrder.j0 k a0 a1 t183 t185 true)) = some r := H
    have A7 := Aside0.mk A70
    clear A70
    have HC8 := Aside0.mk H
    clear H
    go_enter Tryd.func5, Tryd.ntmps5
    go_upto_region 5 with (first | ((with_reducible refine gate_callee (f := 9) rfl ?_); refine goesL_ (some 18) rfl rfl Tryd.func9 (by kernel_rfl) rfl #[.string a0] rfl (by (try simp only [List.map_toArray, List.map_cons, List.map_nil]); first | done | rfl | (simp only [List.length_drop, List.length_take]; rfl)) ?_; (with_reducible refine (date_Day.calls a0 t183 t184 _ A6.out).mono ?_); rintro e w9 ⟨rfl, hb⟩; refine ⟨_, rfl, ?_⟩; have n0_ := Aside0.mk (below_step (by repeat (first | (with_reducible first | exact HB.out | apply below_alloc | apply pw_below_drewN | apply below_drew1) | exact HB.out)) hb); clear HB; have HB := n0_; clear n0_; (try clear hb); (try clear hb2); (try clear hk); (try clear hi)) | ((with_reducible refine gate_callee (f := 9) rfl ?_); refine goesL_ (some 23) rfl rfl Tryd.func9 (by kernel_rfl) rfl #[.string a1] rfl (by (try simp only [List.map_toArray, List.map_cons, List.map_nil]); first | done | rfl | (simp only [List.length_drop, List.length_take]; rfl)) ?_; (with_reducible refine (date_Day.calls a1 t185 t186 _ A7.out).mono ?_); rintro e w10 ⟨rfl, hb⟩; refine ⟨_, rfl, ?_⟩; have n0_ := Aside0.mk (below_step (by repeat (first | (with_reducible first | exact HB.out | apply below_alloc | apply pw_below_drewN | apply below_drew1) | exact HB.out)) hb); clear HB; have HB := n0_; clear n0_; (try clear hb); (try clear hb2); (try clear hk); (try clear hi)))
    (try simp only [Act.put, List.setIfInBounds_toArray, List.set_cons_zero, List.set_cons_succ])
    go_cut [31] (fun v31 wc => ∃ (kq : Nat) (x31_7 : Bool), v31 = .bool x31_7 ∧ Aside0 (remitterlaw06_DateOrder.j0 kq a0 a1 t183 t185 x31_7 = some r) ∧ Aside0 (kq ≤ k) ∧ Aside0 (Below w.heap.size w wc))
    case first =>
      have H := HC8.out
      clear HC8
      by_cases c11 : t184 = 0
      · rw [if_pos c11] at H
        have c11b0 : (t184 == 0) = true := beq_iff_eq.mpr c11
        have c11b1 : (t184 != 0) = false := bne_eq_false_iff_eq.mpr c11
        clear c11
        (first | rw [c11b0] | (simp only [i64_w, i32_w]; rw [c11b0]) | skip)
        have H' := Aside0.mk H
        clear H
        go_wp2
        go_meet
        case rel => exact ⟨_, ((t186 != 0)), (by first | rfl | (simp; done) | (simp [*]; done) | exact congrArg Value.bool (Go.Proofs.YtjemnphmjbodfaaDoor.GLib.not_isEmpty _) | exact congrArg Value.bool (Go.Proofs.YtjemnphmjbodfaaDoor.GLib.not_isEmpty _).symm), H', ⟨by first | omega | exact Nat.le_refl _⟩, ⟨by repeat (first | (with_reducible first | exact HB.out | apply below_alloc | apply pw_below_drewN | apply below_drew1) | exact HB.out)⟩⟩
      · rw [if_neg c11] at H
        have c11b0 : (t184 == 0) = false := beq_eq_false_iff_ne.mpr c11
        have c11b1 : (t184 != 0) = true := bne_iff_ne.mpr c11
        (first | rw [c11b0] | (simp only [i64_w, i32_w]; rw [c11b0]) | skip)
        have H' := Aside0.mk H
        clear H
        go_wp2
        go_meet
        case rel => exact ⟨_, (true), (by first | rfl | (simp; done) | (simp [*]; done) | exact congrArg Value.bool (Go.Proofs.YtjemnphmjbodfaaDoor.GLib.not_isEmpty _) | exact congrArg Value.bool (Go.Proofs.YtjemnphmjbodfaaDoor.GLib.not_isEmpty _).symm), H', ⟨by first | omega | exact Nat.le_refl _⟩, ⟨by repeat (first | (with_reducible first | exact HB.out | apply below_alloc | apply pw_below_drewN | apply below_drew1) | exact HB.out)⟩⟩
    case rest =>
      clear HC8
      try clear c1
      try clear p2
      try clear c3
      try clear c3b0
      try clear c5
      try clear c6
      try clear p6
      try clear c9
      try clear c11
      try clear c11b0
      try clear c11b1
      obtain ⟨kq, x31_7, rfl, HA, HJ7, HB⟩ := hcut
      cases kq with
      | zero => exact absurd HA.out (by simp [remitterlaw06_DateOrder.j0])
      | succ kj7 =>
        have H := HA.out
        clear HA
        simp only [remitterlaw06_DateOrder.j0] at H
        by_cases c12 : x31_7 = true
        · subst c12
          have H1 : ((date_CheckXML.f a0).bind fun t187 => (if t187 = 0 then ((date_CheckXML.f a1).bind fun t188 => (if t188 = 0 then (some false) else ((remitterlaw06_wakes.f).bind fun t189 => (some t189)))) else ((remitterlaw06_wakes.f).bind fun t190 => (some t190)))) = some r := by rw [if_pos rfl] at H; exact H
          clear H
          have H := H1
          clear H1
          replace H := Option.bind_eq_some_iff.mp H
          obtain ⟨t187, A130, H⟩ := H
          replace H : (if t187 = 0 then ((date_CheckXML.f a1).bind fun t188 => (if t188 = 0 then (some false) else ((remitterlaw06_wakes.f).bind fun t189 => (some t189)))) else ((remitterlaw06_wakes.f).bind fun t190 => (some t190))) = some r := H
          have A13 := Aside0.mk A130
          clear A130
          by_cases c14 : t187 = 0
          · rw [if_pos c14] at H
            have c14b0 : (t187 == 0) = true := beq_iff_eq.mpr c14
            have c14b1 : (t187 != 0) = false := bne_eq_false_iff_eq.mpr c14
            clear c14
            replace H := Option.bind_eq_some_iff.mp H
            obtain ⟨t188, A150, H⟩ := H
            replace H : (if t188 = 0 then (some false) else ((remitterlaw06_wakes.f).bind fun t189 => (some t189))) = some r := H
            have A15 := Aside0.mk A150
            clear A150
            by_cases c16 : t188 = 0
            · rw [if_pos c16] at H
              have c16b0 : (t188 == 0) = true := beq_iff_eq.mpr c16
              have c16b1 : (t188 != 0) = false := bne_eq_false_iff_eq.mpr c16
              clear c16
              obtain rfl := Option.some.inj H
              go_wp2_with (first | ((with_reducible refine gate_callee (f := 14) rfl ?_); refine goesL_ (some 33) rfl rfl Tryd.func14 (by kernel_rfl) rfl #[.string a0] rfl (by (try simp only [List.map_toArray, List.map_cons, List.map_nil]); first | done | rfl | (simp only [List.length_drop, List.length_take]; rfl)) ?_; (with_reducible refine (date_CheckXML.calls a0 t187 _ A13.out).mono ?_); rintro e w17 ⟨rfl, hb⟩; refine ⟨_, rfl, ?_⟩; have n0_ := Aside0.mk (below_step (by repeat (first | (with_reducible first | exact HB.out | apply below_alloc | apply pw_below_drewN | apply below_drew1) | exact HB.out)) hb); clear HB; have HB := n0_; clear n0_; (try clear hb); (try clear hb2); (try clear hk); (try clear hi)) | (go_at_call 14; (with_reducible refine (date_CheckXML.calls a1 t188 _ A15.out).mono ?_); rintro e w18 ⟨rfl, hb⟩; have n0_ := Aside0.mk (below_step (by repeat (first | (with_reducible first | exact HB.out | apply below_alloc | apply pw_below_drewN | apply below_drew1) | exact HB.out)) hb); clear HB; have HB := n0_; clear n0_; (try clear hb); (try clear hb2); (try clear hk); (try clear hi)))
              all_goals (first | (exfalso; simp_all; done) | (exfalso; omega) | (go_ret; exact ⟨by first | rfl | (simp [errW_none, errW_some] <;> rfl) | (simp [*, errW_none, errW_some] <;> rfl), by repeat (first | (with_reducible first | exact HB.out | apply below_alloc | apply pw_below_drewN | apply below_drew1) | exact HB.out)⟩))
            · rw [if_neg c16] at H
              have c16b0 : (t188 == 0) = false := beq_eq_false_iff_ne.mpr c16
              have c16b1 : (t188 != 0) = true := bne_iff_ne.mpr c16
              replace H := Option.bind_eq_some_iff.mp H
              obtain ⟨t189, A190, H⟩ := H
              replace H : (some t189) = some r := H
              have A19 := Aside0.mk A190
              clear A190
              obtain rfl := Option.some.inj H
              go_wp2_with (first | ((with_reducible refine gate_callee (f := 14) rfl ?_); refine goesL_ (some 33) rfl rfl Tryd.func14 (by kernel_rfl) rfl #[.string a0] rfl (by (try simp only [List.map_toArray, List.map_cons, List.map_nil]); first | done | rfl | (simp only [List.length_drop, List.length_take]; rfl)) ?_; (with_reducible refine (date_CheckXML.calls a0 t187 _ A13.out).mono ?_); rintro e w20 ⟨rfl, hb⟩; refine ⟨_, rfl, ?_⟩; have n0_ := Aside0.mk (below_step (by repeat (first | (with_reducible first | exact HB.out | apply below_alloc | apply pw_below_drewN | apply below_drew1) | exact HB.out)) hb); clear HB; have HB := n0_; clear n0_; (try clear hb); (try clear hb2); (try clear hk); (try clear hi)) | (go_at_call 14; (with_reducible refine (date_CheckXML.calls a1 t188 _ A15.out).mono ?_); rintro e w21 ⟨rfl, hb⟩; have n0_ := Aside0.mk (below_step (by repeat (first | (with_reducible first | exact HB.out | apply below_alloc | apply pw_below_drewN | apply below_drew1) | exact HB.out)) hb); clear HB; have HB := n0_; clear n0_; (try clear hb); (try clear hb2); (try clear hk); (try clear hi)) | (go_at_call 6; (with_reducible refine (remitterlaw06_wakes.calls  t189 _ A19.out (GW_below HG.out (by repeat (first | (with_reducible first | exact HB.out | apply below_alloc | apply pw_below_drewN | apply below_drew1) | exact HB.out)))).mono ?_); rintro e w22 ⟨rfl, hb⟩; have n0_ := Aside0.mk (below_step (by repeat (first | (with_reducible first | exact HB.out | apply below_alloc | apply pw_below_drewN | apply below_drew1) | exact HB.out)) hb); clear HB; have HB := n0_; clear n0_; (try clear hb); (try clear hb2); (try clear hk); (try clear hi)))
              all_goals (first | (exfalso; simp_all; done) | (exfalso; omega) | (go_ret; exact ⟨by first | rfl | (simp [errW_none, errW_some] <;> rfl) | (simp [*, errW_none, errW_some] <;> rfl), by repeat (first | (with_reducible first | exact HB.out | apply below_alloc | apply pw_below_drewN | apply below_drew1) | exact HB.out)⟩))
          · rw [if_neg c14] at H
            have c14b0 : (t187 == 0) = false := beq_eq_false_iff_ne.mpr c14
            have c14b1 : (t187 != 0) = true := bne_iff_ne.mpr c14
            replace H := Option.bind_eq_some_iff.mp H
            obtain ⟨t190, A230, H⟩ := H
            replace H : (some t190) = some r := H
            have A23 := Aside0.mk A230
            clear A230
            obtain rfl := Option.some.inj H
            go_wp2_with (first | ((with_reducible refine gate_callee (f := 14) rfl ?_); refine goesL_ (some 33) rfl rfl Tryd.func14 (by kernel_rfl) rfl #[.string a0] rfl (by (try simp only [List.map_toArray, List.map_cons, List.map_nil]); first | done | rfl | (simp only [List.length_drop, List.length_take]; rfl)) ?_; (with_reducible refine (date_CheckXML.calls a0 t187 _ A13.out).mono ?_); rintro e w24 ⟨rfl, hb⟩; refine ⟨_, rfl, ?_⟩; have n0_ := Aside0.mk (below_step (by repeat (first | (with_reducible first | exact HB.out | apply below_alloc | apply pw_below_drewN | apply below_drew1) | exact HB.out)) hb); clear HB; have HB := n0_; clear n0_; (try clear hb); (try clear hb2); (try clear hk); (try clear hi)) | (go_at_call 6; (with_reducible refine (remitterlaw06_wakes.calls  t190 _ A23.out (GW_below HG.out (by repeat (first | (with_reducible first | exact HB.out | apply below_alloc | apply pw_below_drewN | apply below_drew1) | exact HB.out)))).mono ?_); rintro e w25 ⟨rfl, hb⟩; have n0_ := Aside0.mk (below_step (by repeat (first | (with_reducible first | exact HB.out | apply below_alloc | apply pw_below_drewN | apply below_drew1) | exact HB.out)) hb); clear HB; have HB := n0_; clear n0_; (try clear hb); (try clear hb2); (try clear hk); (try clear hi)))
            all_goals (first | (exfalso; simp_all; done) | (exfalso; omega) | (go_ret; exact ⟨by first | rfl | (simp [errW_none, errW_some] <;> rfl) | (simp [*, errW_none, errW_some] <;> rfl), by repeat (first | (with_reducible first | exact HB.out | apply below_alloc | apply pw_below_drewN | apply below_drew1) | exact HB.out)⟩))
        · replace c12 := Bool.eq_false_iff.mpr c12
          subst c12
          have H1 : (if ((decide (t183 < t185)) == (Op.bytesLess a0.toList a1.toList)) = true then (if ((t183 == t185) == (a0.toList == a1.toList)) = true then (if t183 ≥ 0 then (if t183 ≤ 36524 then ((remitterlaw06_wakes.f).bind fun t191 => (some t191)) else (some false)) else (some false)) else (some false)) else (some false)) = some r := by rw [if_neg (show ¬ (false = true) by decide)] at H; exact H
          clear H
          have H := H1
          clear H1
          by_cases c26 : ((decide (t183 < t185)) == (Op.bytesLess a0.toList a1.toList)) = true
          · rw [if_pos c26] at H
            have c26b0 : ((decide (t183 < t185)) == (Op.bytesLess a0.toList a1.toList)) = true := c26
            (try (have c26b1 : decide ((decide (t183 < t185)) = (Op.bytesLess a0.toList a1.toList)) = true := by simpa using c26))
            (try (have c26b2 : ((decide (t183 < t185)) == (Op.bytesLess a0.toList a1.toList)) = true := by simpa using c26))
            clear c26
            by_cases c27 : ((t183 == t185) == (a0.toList == a1.toList)) = true
            · rw [if_pos c27] at H
              have c27b0 : ((t183 == t185) == (a0.toList == a1.toList)) = true := c27
              (try (have c27b1 : decide ((t183 == t185) = (a0.toList == a1.toList)) = true := by simpa using c27))
              (try (have c27b2 : ((t183 == t185) == (a0.toList == a1.toList)) = true := by simpa using c27))
              clear c27
              by_cases c28 : t183 ≥ 0
              · rw [if_pos c28] at H
                have c28b0 : decide (0 ≤ t183) = true := decide_eq_true c28
                clear c28
                by_cases c29 : t183 ≤ 36524
                · rw [if_pos c29] at H
                  have c29b0 : decide (t183 ≤ 36524) = true := decide_eq_true c29
                  clear c29
                  replace H := Option.bind_eq_some_iff.mp H
                  obtain ⟨t191, A300, H⟩ := H
                  replace H : (some t191) = some r := H
                  have A30 := Aside0.mk A300
                  clear A300
                  obtain rfl := Option.some.inj H
                  go_wp2_with (first | (go_at_call 6; (with_reducible refine (remitterlaw06_wakes.calls  t191 _ A30.out (GW_below HG.out (by repeat (first | (with_reducible first | exact HB.out | apply below_alloc | apply pw_below_drewN | apply below_drew1) | exact HB.out)))).mono ?_); rintro e w31 ⟨rfl, hb⟩; have n0_ := Aside0.mk (below_step (by repeat (first | (with_reducible first | exact HB.out | apply below_alloc | apply pw_below_drewN | apply below_drew1) | exact HB.out)) hb); clear HB; have HB := n0_; clear n0_; (try clear hb); (try clear hb2); (try clear hk); (try clear hi)))
                  all_goals (first | (exfalso; simp_all; done) | (exfalso; omega) | (go_ret; exact ⟨by first | rfl | (simp [errW_none, errW_some] <;> rfl) | (simp [*, errW_none, errW_some] <;> rfl), by repeat (first | (with_reducible first | exact HB.out | apply below_alloc | apply pw_below_drewN | apply below_drew1) | exact HB.out)⟩))
                · rw [if_neg c29] at H
                  have c29b0 : decide (t183 ≤ 36524) = false := decide_eq_false c29
                  clear c29
                  obtain rfl := Option.some.inj H
                  go_wp2
                  all_goals (first | (exfalso; simp_all; done) | (exfalso; omega) | (go_ret; exact ⟨by first | rfl | (simp [errW_none, errW_some] <;> rfl) | (simp [*, errW_none, errW_some] <;> rfl), by repeat (first | (with_reducible first | exact HB.out | apply below_alloc | apply pw_below_drewN | apply below_drew1) | exact HB.out)⟩))
              · rw [if_neg c28] at H
                have c28b0 : decide (0 ≤ t183) = false := decide_eq_false c28
                clear c28
                obtain rfl := Option.some.inj H
                go_wp2
                all_goals (first | (exfalso; simp_all; done) | (exfalso; omega) | (go_ret; exact ⟨by first | rfl | (simp [errW_none, errW_some] <;> rfl) | (simp [*, errW_none, errW_some] <;> rfl), by repeat (first | (with_reducible first | exact HB.out | apply below_alloc | apply pw_below_drewN | apply below_drew1) | exact HB.out)⟩))
            · rw [if_neg c27] at H
              have c27b0 : ((t183 == t185) == (a0.toList == a1.toList)) = false := by simpa using c27
              (try (have c27b1 : decide ((t183 == t185) = (a0.toList == a1.toList)) = false := by simpa using c27))
              (try (have c27b2 : ((t183 == t185) == (a0.toList == a1.toList)) = false := by simpa using c27))
              (try (have c27b3 : ¬ ((t183 == t185) = (a0.toList == a1.toList)) := by simpa using c27))
              clear c27
              obtain rfl := Option.some.inj H
              go_wp2
              all_goals (first | (exfalso; simp_all; done) | (exfalso; omega) | (go_ret; exact ⟨by first | rfl | (simp [errW_none, errW_some] <;> rfl) | (simp [*, errW_none, errW_some] <;> rfl), by repeat (first | (with_reducible first | exact HB.out | apply below_alloc | apply pw_below_drewN | apply below_drew1) | exact HB.out)⟩))
          · rw [if_neg c26] at H
            have c26b0 : ((decide (t183 < t185)) == (Op.bytesLess a0.toList a1.toList)) = false := by simpa using c26
            (try (have c26b1 : decide ((decide (t183 < t185)) = (Op.bytesLess a0.toList a1.toList)) = false := by simpa using c26))
            (try (have c26b2 : ((decide (t183 < t185)) == (Op.bytesLess a0.toList a1.toList)) = false := by simpa using c26))
            (try (have c26b3 : ¬ ((decide (t183 < t185)) = (Op.bytesLess a0.toList a1.toList)) := by simpa using c26))
            clear c26
            obtain rfl := Option.some.inj H
            go_wp2
            all_goals (first | (exfalso; simp_all; done) | (exfalso; omega) | (go_ret; exact ⟨by first | rfl | (simp [errW_none, errW_some] <;> rfl) | (simp [*, errW_none, errW_some] <;> rfl), by repeat (first | (with_reducible first | exact HB.out | apply below_alloc | apply pw_below_drewN | apply below_drew1) | exact HB.out)⟩))

/-- THE ONE PURE STATEMENT of remitterlaw06_DateOrder: yours. -/
def remitterlaw06_DateOrder.Pure : Prop := ∀ (a0 : ByteArray) (a1 : ByteArray), a0.size ≤ 140737488351232 → a1.size ≤ 140737488351232 → ∃ k, remitterlaw06_DateOrder.f k a0 a1 = some true
theorem remitterlaw06_DateOrder.walk (P : remitterlaw06_DateOrder.Pure) (a0 : ByteArray) (a1 : ByteArray) (w : World) (w0 : a0.size ≤ 140737488351232) (w1 : a1.size ≤ 140737488351232) (hG : GW w) :
    Calls Tryd.prog 5 #[.string a0, .string a1] w fun e w' => e = .returned (.bool true) ∧ Below w.heap.size w w' := by
  obtain ⟨k, h⟩ := P a0 a1 w0 w1
  refine (remitterlaw06_DateOrder.calls k a0 a1 true w h hG).mono ?_
  rintro e w' ⟨rfl, hd⟩
  exact ⟨rfl, hd⟩

end Go.Proofs.YtjemnphmjbodfaaDoor.PAll

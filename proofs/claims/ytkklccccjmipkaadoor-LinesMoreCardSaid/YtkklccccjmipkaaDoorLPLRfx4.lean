-- Made by this session's wip/tools/gprint.py, which runs the kit's print program; some functions' contracts are proved by hand.
import Derived.Test.YtkklccccjmipkaaDoorLPLin0
import Derived.Test.YtkklccccjmipkaaDoorLPLRfx3
namespace Go.Proofs.YtkklccccjmipkaaDoor.PAll
open Go.RowKit Go.Proofs.YtkklccccjmipkaaDoorW.PrintWords Go.Proofs.YtkklccccjmipkaaDoorW.PrintLast Go.Proofs.YtkklccccjmipkaaDoorW.PrintMore
attribute [local go_sem] max2_int min2_int max_two min_two max_three min_three max_four min_four   -- for this text's walks alone
set_option linter.unusedVariables false
set_option linter.unusedSimpArgs false

mutual
def remitterref15_Write.l0 : Nat → List (S69) → ByteArray → Int → Option (ByteArray × Int)
  | 0, _, _, _ => none
  | k + 1, x0, x4, x5 => if x5 < (x0.length : Int) then (if x5 > 0 then (if x4.size + 2 ≤ 9223372036854775807 then (if (x4 ++ (⟨#[13, 10]⟩ : ByteArray)).size + 1 ≤ 9223372036854775807 then (if 0 ≤ x5 then (if ((x4 ++ (⟨#[13, 10]⟩ : ByteArray)) ++ (⟨#[58]⟩ : ByteArray)).size + ((rd_T69 x0 x5).f0).size ≤ 9223372036854775807 then (if (((x4 ++ (⟨#[13, 10]⟩ : ByteArray)) ++ (⟨#[58]⟩ : ByteArray)) ++ ((rd_T69 x0 x5).f0)).size + 1 ≤ 9223372036854775807 then (if ((((x4 ++ (⟨#[13, 10]⟩ : ByteArray)) ++ (⟨#[58]⟩ : ByteArray)) ++ ((rd_T69 x0 x5).f0)) ++ (⟨#[58]⟩ : ByteArray)).size + ((rd_T69 x0 x5).f1).size ≤ 9223372036854775807 then (remitterref15_Write.l0 k x0 (((((x4 ++ (⟨#[13, 10]⟩ : ByteArray)) ++ (⟨#[58]⟩ : ByteArray)) ++ ((rd_T69 x0 x5).f0)) ++ (⟨#[58]⟩ : ByteArray)) ++ ((rd_T69 x0 x5).f1)) (wrap64 (x5 + 1))) else (none)) else (none)) else (none)) else (none)) else (none)) else (none)) else (if x4.size + 1 ≤ 9223372036854775807 then (if 0 ≤ x5 then (if (x4 ++ (⟨#[58]⟩ : ByteArray)).size + ((rd_T69 x0 x5).f0).size ≤ 9223372036854775807 then (if ((x4 ++ (⟨#[58]⟩ : ByteArray)) ++ ((rd_T69 x0 x5).f0)).size + 1 ≤ 9223372036854775807 then (if (((x4 ++ (⟨#[58]⟩ : ByteArray)) ++ ((rd_T69 x0 x5).f0)) ++ (⟨#[58]⟩ : ByteArray)).size + ((rd_T69 x0 x5).f1).size ≤ 9223372036854775807 then (remitterref15_Write.l0 k x0 ((((x4 ++ (⟨#[58]⟩ : ByteArray)) ++ ((rd_T69 x0 x5).f0)) ++ (⟨#[58]⟩ : ByteArray)) ++ ((rd_T69 x0 x5).f1)) (wrap64 (x5 + 1))) else (none)) else (none)) else (none)) else (none)) else (none))) else ((remitterref15_Read.f k x4).bind fun bt131 => (if bt131.2.2 = 0 then (remitterref15_Write.j1 k x0 x4 bt131.1 ((bt131.1.length : Int) != (x0.length : Int))) else (remitterref15_Write.j1 k x0 x4 bt131.1 true)))
def remitterref15_Write.j1 : Nat → List (S69) → ByteArray → List (S69) → Bool → Option (ByteArray × Int)
  | 0, _, _, _, _ => none
  | k + 1, x0, x4, x6, x49 => if x49 = true then (some ((⟨#[]⟩ : ByteArray), 31)) else (remitterref15_Write.l1 k x0 x4 x6 0)
def remitterref15_Write.l1 : Nat → List (S69) → ByteArray → List (S69) → Int → Option (ByteArray × Int)
  | 0, _, _, _, _ => none
  | k + 1, x0, x4, x6, x9 => if x9 < (x0.length : Int) then (if 0 ≤ x9 then (if x9 < (x6.length : Int) then (if ((rd_T69 x6 x9).f0).toList = ((rd_T69 x0 x9).f0).toList then (if ((rd_T69 x6 x9).f1).toList = ((rd_T69 x0 x9).f1).toList then (remitterref15_Write.l1 k x0 x4 x6 (wrap64 (x9 + 1))) else (some ((⟨#[]⟩ : ByteArray), 31))) else (some ((⟨#[]⟩ : ByteArray), 31))) else (none)) else (none)) else (some (x4, 0))
end
def remitterref15_Write.f (k : Nat) (l0 : List (S69)) : Option (ByteArray × Int) := remitterref15_Write.l0 k l0 (⟨#[]⟩ : ByteArray) 0
theorem remitterref15_Write.mono_l : ∀ k, (∀ y0 y1 y2, LeO (remitterref15_Write.l0 k y0 y1 y2) (remitterref15_Write.l0 (k + 1) y0 y1 y2)) ∧ (∀ y0 y1 y2 y3, LeO (remitterref15_Write.j1 k y0 y1 y2 y3) (remitterref15_Write.j1 (k + 1) y0 y1 y2 y3)) ∧ (∀ y0 y1 y2 y3, LeO (remitterref15_Write.l1 k y0 y1 y2 y3) (remitterref15_Write.l1 (k + 1) y0 y1 y2 y3))
  | 0 => ⟨fun _ _ _ r h => by simp [remitterref15_Write.l0] at h, fun _ _ _ _ r h => by simp [remitterref15_Write.j1] at h, fun _ _ _ _ r h => by simp [remitterref15_Write.l1] at h⟩
  | k + 1 => by
    obtain ⟨ih0, ih1, ih2⟩ := remitterref15_Write.mono_l k
    refine ⟨?_, ?_, ?_⟩
    · intro y0 y1 y2
      unfold remitterref15_Write.l0
      repeat' first
      | (with_reducible exact ih0 _ _ _)
      | (with_reducible exact ih1 _ _ _ _)
      | (with_reducible exact ih2 _ _ _ _)
      | (with_reducible exact remitterref15_Read.mono _ _)
      | (with_reducible exact LeO.refl _)
      | (with_reducible exact LeO.none _)
      | (with_reducible refine LeO.ite ?_ ?_)
      | (with_reducible refine LeO.bind ?_ (fun _ => ?_))
      | exact ih0 _ _ _
      | exact ih1 _ _ _ _
      | exact ih2 _ _ _ _
      | exact remitterref15_Read.mono _ _
      | exact LeO.none _
      | refine LeO.ite ?_ ?_
      | refine LeO.bind ?_ (fun _ => ?_)
    · intro y0 y1 y2 y3
      unfold remitterref15_Write.j1
      repeat' first
      | (with_reducible exact ih0 _ _ _)
      | (with_reducible exact ih1 _ _ _ _)
      | (with_reducible exact ih2 _ _ _ _)
      | (with_reducible exact remitterref15_Read.mono _ _)
      | (with_reducible exact LeO.refl _)
      | (with_reducible exact LeO.none _)
      | (with_reducible refine LeO.ite ?_ ?_)
      | (with_reducible refine LeO.bind ?_ (fun _ => ?_))
      | exact ih0 _ _ _
      | exact ih1 _ _ _ _
      | exact ih2 _ _ _ _
      | exact remitterref15_Read.mono _ _
      | exact LeO.none _
      | refine LeO.ite ?_ ?_
      | refine LeO.bind ?_ (fun _ => ?_)
    · intro y0 y1 y2 y3
      unfold remitterref15_Write.l1
      repeat' first
      | (with_reducible exact ih0 _ _ _)
      | (with_reducible exact ih1 _ _ _ _)
      | (with_reducible exact ih2 _ _ _ _)
      | (with_reducible exact remitterref15_Read.mono _ _)
      | (with_reducible exact LeO.refl _)
      | (with_reducible exact LeO.none _)
      | (with_reducible refine LeO.ite ?_ ?_)
      | (with_reducible refine LeO.bind ?_ (fun _ => ?_))
      | exact ih0 _ _ _
      | exact ih1 _ _ _ _
      | exact ih2 _ _ _ _
      | exact remitterref15_Read.mono _ _
      | exact LeO.none _
      | refine LeO.ite ?_ ?_
      | refine LeO.bind ?_ (fun _ => ?_)
theorem remitterref15_Write.mono : ∀ a0 k, LeO (remitterref15_Write.f k a0) (remitterref15_Write.f (k + 1) a0) := by
  intro a0 k
  obtain ⟨ih0, ih1, ih2⟩ := remitterref15_Write.mono_l k
  unfold remitterref15_Write.f
  repeat' first
      | (with_reducible exact ih0 _ _ _)
      | (with_reducible exact ih1 _ _ _ _)
      | (with_reducible exact ih2 _ _ _ _)
      | (with_reducible exact remitterref15_Read.mono _ _)
      | (with_reducible exact LeO.refl _)
      | (with_reducible exact LeO.none _)
      | (with_reducible refine LeO.ite ?_ ?_)
      | (with_reducible refine LeO.bind ?_ (fun _ => ?_))
      | exact ih0 _ _ _
      | exact ih1 _ _ _ _
      | exact ih2 _ _ _ _
      | exact remitterref15_Read.mono _ _
      | exact LeO.none _
      | refine LeO.ite ?_ ?_
      | refine LeO.bind ?_ (fun _ => ?_)
set_option maxHeartbeats 8000000 in
set_option maxRecDepth 100000 in
theorem remitterref15_Write.calls (k : Nat) (A0 : Option Addr) (c0 : Nat) (l0 : List (S69)) (r1 : ByteArray) (r2 : Int) (w : World) (hr0 : Kd.C k69 w A0 l0.length l0) (hc0 : l0.length ≤ c0) (h : remitterref15_Write.f k l0 = some (r1, r2)) :
    Calls Tryd.prog 37 #[.slice A0 l0.length c0] w fun e w' => e = .returned (.tuple #[.string r1, .int .i64 r2]) ∧ Below w.heap.size w w' := by
  have HR0 := Aside0.mk hr0
  have HC0 := Aside0.mk hc0
  clear hr0 hc0
  have HB := Aside0.mk (Below.refl w.heap.size w)
  have H : (remitterref15_Write.l0 k l0 (⟨#[]⟩ : ByteArray) 0) = some (r1, r2) := h
  clear h
  have H' := Aside0.mk H
  clear H
  go_enter Tryd.func37, Tryd.ntmps37
  go_wp2
  repeat (go_quiet (fail); try go_wp2)
  go_loopg [4, 5] k (fun kq v4 v5 w' => ∃ (x4_1 : ByteArray) (x5_1 : Int), v4 = .string x4_1 ∧ v5 = .int .i64 x5_1 ∧ Aside0 (remitterref15_Write.l0 kq l0 x4_1 x5_1 = some (r1, r2)) ∧ Aside0 (kq ≤ k) ∧ Aside0 (Below w.heap.size w w'))
  case atStart => exact ⟨((⟨#[]⟩ : ByteArray)), (0), (by first | rfl | (simp; done) | (simp [*]; done) | exact congrArg Value.bool (Go.Proofs.YtkklccccjmipkaaDoor.GLib.not_isEmpty _) | exact congrArg Value.bool (Go.Proofs.YtkklccccjmipkaaDoor.GLib.not_isEmpty _).symm), (by first | rfl | (simp; done) | (simp [*]; done) | exact congrArg Value.bool (Go.Proofs.YtkklccccjmipkaaDoor.GLib.not_isEmpty _) | exact congrArg Value.bool (Go.Proofs.YtkklccccjmipkaaDoor.GLib.not_isEmpty _).symm), H', ⟨Nat.le_refl _⟩, ⟨by repeat (first | (with_reducible first | exact HB.out | apply below_alloc | apply pw_below_drewN | apply below_drew1) | exact HB.out)⟩⟩
  case round =>
    clear H'
    obtain ⟨x4_1, x5_1, rfl, rfl, HA, HK1, HB⟩ := hrel
    cases gk with
    | zero => exact absurd HA.out (by simp [remitterref15_Write.l0])
    | succ k1 =>
      have H := HA.out
      clear HA
      simp only [remitterref15_Write.l0] at H
      by_cases c2 : x5_1 < (l0.length : Int)
      · rw [if_pos c2] at H
        have c2b0 : decide (x5_1 < (l0.length : Int)) = true := decide_eq_true c2
        clear c2
        by_cases c3 : x5_1 > 0
        · rw [if_pos c3] at H
          have c3b0 : decide (0 < x5_1) = true := decide_eq_true c3
          clear c3
          by_cases c4 : x4_1.size + 2 ≤ 9223372036854775807
          · rw [if_pos c4] at H
            have c4b0 := eq_true c4
            have c4b1 : decide (x4_1.size + 2 ≤ 9223372036854775807) = true := decide_eq_true c4
            try have c4b2 : (9223372036854775807 < x4_1.size + 2) = False := eq_false (Nat.not_lt.2 c4)
            by_cases c5 : (x4_1 ++ (⟨#[13, 10]⟩ : ByteArray)).size + 1 ≤ 9223372036854775807
            · rw [if_pos c5] at H
              have c5b0 := eq_true c5
              have c5b1 : decide ((x4_1 ++ (⟨#[13, 10]⟩ : ByteArray)).size + 1 ≤ 9223372036854775807) = true := decide_eq_true c5
              try have c5b2 : (9223372036854775807 < (x4_1 ++ (⟨#[13, 10]⟩ : ByteArray)).size + 1) = False := eq_false (Nat.not_lt.2 c5)
              try (have c5b7 := c5b2; simp only [ByteArray.size_append, Go.Proofs.YtkklccccjmipkaaDoor.GLib.size_mk, List.size_toArray, List.length_cons, List.length_nil, Nat.zero_add, Nat.reduceAdd] at c5b7)
              by_cases c6 : 0 ≤ x5_1
              · rw [if_pos c6] at H
                have c6b0 : decide (0 ≤ x5_1) = true := decide_eq_true c6
                clear c6
                by_cases c7 : ((x4_1 ++ (⟨#[13, 10]⟩ : ByteArray)) ++ (⟨#[58]⟩ : ByteArray)).size + ((rd_T69 l0 x5_1).f0).size ≤ 9223372036854775807
                · rw [if_pos c7] at H
                  have c7b0 := eq_true c7
                  have c7b1 : decide (((x4_1 ++ (⟨#[13, 10]⟩ : ByteArray)) ++ (⟨#[58]⟩ : ByteArray)).size + ((rd_T69 l0 x5_1).f0).size ≤ 9223372036854775807) = true := decide_eq_true c7
                  try have c7b2 : (9223372036854775807 < ((x4_1 ++ (⟨#[13, 10]⟩ : ByteArray)) ++ (⟨#[58]⟩ : ByteArray)).size + ((rd_T69 l0 x5_1).f0).size) = False := eq_false (Nat.not_lt.2 c7)
                  try (have c7b7 := c7b2; simp only [ByteArray.size_append, Go.Proofs.YtkklccccjmipkaaDoor.GLib.size_mk, List.size_toArray, List.length_cons, List.length_nil, Nat.zero_add, Nat.reduceAdd] at c7b7)
                  by_cases c8 : (((x4_1 ++ (⟨#[13, 10]⟩ : ByteArray)) ++ (⟨#[58]⟩ : ByteArray)) ++ ((rd_T69 l0 x5_1).f0)).size + 1 ≤ 9223372036854775807
                  · rw [if_pos c8] at H
                    have c8b0 := eq_true c8
                    have c8b1 : decide ((((x4_1 ++ (⟨#[13, 10]⟩ : ByteArray)) ++ (⟨#[58]⟩ : ByteArray)) ++ ((rd_T69 l0 x5_1).f0)).size + 1 ≤ 9223372036854775807) = true := decide_eq_true c8
                    try have c8b2 : (9223372036854775807 < (((x4_1 ++ (⟨#[13, 10]⟩ : ByteArray)) ++ (⟨#[58]⟩ : ByteArray)) ++ ((rd_T69 l0 x5_1).f0)).size + 1) = False := eq_false (Nat.not_lt.2 c8)
                    try (have c8b7 := c8b2; simp only [ByteArray.size_append, Go.Proofs.YtkklccccjmipkaaDoor.GLib.size_mk, List.size_toArray, List.length_cons, List.length_nil, Nat.zero_add, Nat.reduceAdd] at c8b7)
                    by_cases c9 : ((((x4_1 ++ (⟨#[13, 10]⟩ : ByteArray)) ++ (⟨#[58]⟩ : ByteArray)) ++ ((rd_T69 l0 x5_1).f0)) ++ (⟨#[58]⟩ : ByteArray)).size + ((rd_T69 l0 x5_1).f1).size ≤ 9223372036854775807
                    · rw [if_pos c9] at H
                      have c9b0 := eq_true c9
                      have c9b1 : decide (((((x4_1 ++ (⟨#[13, 10]⟩ : ByteArray)) ++ (⟨#[58]⟩ : ByteArray)) ++ ((rd_T69 l0 x5_1).f0)) ++ (⟨#[58]⟩ : ByteArray)).size + ((rd_T69 l0 x5_1).f1).size ≤ 9223372036854775807) = true := decide_eq_true c9
                      try have c9b2 : (9223372036854775807 < ((((x4_1 ++ (⟨#[13, 10]⟩ : ByteArray)) ++ (⟨#[58]⟩ : ByteArray)) ++ ((rd_T69 l0 x5_1).f0)) ++ (⟨#[58]⟩ : ByteArray)).size + ((rd_T69 l0 x5_1).f1).size) = False := eq_false (Nat.not_lt.2 c9)
                      try (have c9b7 := c9b2; simp only [ByteArray.size_append, Go.Proofs.YtkklccccjmipkaaDoor.GLib.size_mk, List.size_toArray, List.length_cons, List.length_nil, Nat.zero_add, Nat.reduceAdd] at c9b7)
                      have H' := Aside0.mk H
                      clear H
                      have p127 : 0 ≤ (x5_1 : Int) := of_decide_eq_true (by first | (with_reducible assumption) | assumption)
                      have q127 : x5_1 < (l0.length : Int) := of_decide_eq_true (by first | (with_reducible assumption) | assumption)
                      obtain ⟨ad127, e127, hx127_0, hx127_1, hx127_2⟩ := at_T69 HR0.out x5_1 p127 q127
                      cases e127
                      replace hx127_0 := (HB.out.cell (World.block_lt_of_cell? w _ hx127_0)).trans hx127_0
                      replace hx127_1 := (HB.out.cell (World.block_lt_of_cell? w _ hx127_1)).trans hx127_1
                      replace hx127_2 := (HB.out.cell (World.block_lt_of_cell? w _ hx127_2)).trans hx127_2
                      replace p127 := eq_true p127
                      replace q127 := eq_true q127
                      have p128 : 0 ≤ (x5_1 : Int) := of_decide_eq_true (by first | (with_reducible assumption) | assumption)
                      have q128 : x5_1 < (l0.length : Int) := of_decide_eq_true (by first | (with_reducible assumption) | assumption)
                      obtain ⟨ad128, e128, hx128_0, hx128_1, hx128_2⟩ := at_T69 HR0.out x5_1 p128 q128
                      obtain rfl : ad127 = ad128 := (by injection e128)
                      replace hx128_0 := (HB.out.cell (World.block_lt_of_cell? w _ hx128_0)).trans hx128_0
                      replace hx128_1 := (HB.out.cell (World.block_lt_of_cell? w _ hx128_1)).trans hx128_1
                      replace hx128_2 := (HB.out.cell (World.block_lt_of_cell? w _ hx128_2)).trans hx128_2
                      replace p128 := eq_true p128
                      replace q128 := eq_true q128
                      go_wp2
                      repeat (go_quiet (fail); try go_wp2)
                      go_roundg k1
                      case measure => have := HK1.out; omega
                      case rel => exact ⟨(((((x4_1 ++ (⟨#[13, 10]⟩ : ByteArray)) ++ (⟨#[58]⟩ : ByteArray)) ++ ((rd_T69 l0 x5_1).f0)) ++ (⟨#[58]⟩ : ByteArray)) ++ ((rd_T69 l0 x5_1).f1)), (wrap64 (x5_1 + 1)), (by first | rfl | (simp; done) | (simp [*]; done) | exact congrArg Value.bool (Go.Proofs.YtkklccccjmipkaaDoor.GLib.not_isEmpty _) | exact congrArg Value.bool (Go.Proofs.YtkklccccjmipkaaDoor.GLib.not_isEmpty _).symm), (by first | rfl | (simp; done) | (simp [*]; done) | exact congrArg Value.bool (Go.Proofs.YtkklccccjmipkaaDoor.GLib.not_isEmpty _) | exact congrArg Value.bool (Go.Proofs.YtkklccccjmipkaaDoor.GLib.not_isEmpty _).symm), H', ⟨by have := HK1.out; omega⟩, ⟨by repeat (first | (with_reducible first | exact HB.out | apply below_alloc | apply pw_below_drewN | apply below_drew1) | exact HB.out)⟩⟩
                    · rw [if_neg c9] at H
                      exact absurd H (by simp)
                  · rw [if_neg c8] at H
                    exact absurd H (by simp)
                · rw [if_neg c7] at H
                  exact absurd H (by simp)
              · rw [if_neg c6] at H
                exact absurd H (by simp)
            · rw [if_neg c5] at H
              exact absurd H (by simp)
          · rw [if_neg c4] at H
            exact absurd H (by simp)
        · rw [if_neg c3] at H
          have c3b0 : decide (0 < x5_1) = false := decide_eq_false c3
          clear c3
          by_cases c10 : x4_1.size + 1 ≤ 9223372036854775807
          · rw [if_pos c10] at H
            have c10b0 := eq_true c10
            have c10b1 : decide (x4_1.size + 1 ≤ 9223372036854775807) = true := decide_eq_true c10
            try have c10b2 : (9223372036854775807 < x4_1.size + 1) = False := eq_false (Nat.not_lt.2 c10)
            by_cases c11 : 0 ≤ x5_1
            · rw [if_pos c11] at H
              have c11b0 : decide (0 ≤ x5_1) = true := decide_eq_true c11
              clear c11
              by_cases c12 : (x4_1 ++ (⟨#[58]⟩ : ByteArray)).size + ((rd_T69 l0 x5_1).f0).size ≤ 9223372036854775807
              · rw [if_pos c12] at H
                have c12b0 := eq_true c12
                have c12b1 : decide ((x4_1 ++ (⟨#[58]⟩ : ByteArray)).size + ((rd_T69 l0 x5_1).f0).size ≤ 9223372036854775807) = true := decide_eq_true c12
                try have c12b2 : (9223372036854775807 < (x4_1 ++ (⟨#[58]⟩ : ByteArray)).size + ((rd_T69 l0 x5_1).f0).size) = False := eq_false (Nat.not_lt.2 c12)
                try (have c12b7 := c12b2; simp only [ByteArray.size_append, Go.Proofs.YtkklccccjmipkaaDoor.GLib.size_mk, List.size_toArray, List.length_cons, List.length_nil, Nat.zero_add, Nat.reduceAdd] at c12b7)
                by_cases c13 : ((x4_1 ++ (⟨#[58]⟩ : ByteArray)) ++ ((rd_T69 l0 x5_1).f0)).size + 1 ≤ 9223372036854775807
                · rw [if_pos c13] at H
                  have c13b0 := eq_true c13
                  have c13b1 : decide (((x4_1 ++ (⟨#[58]⟩ : ByteArray)) ++ ((rd_T69 l0 x5_1).f0)).size + 1 ≤ 9223372036854775807) = true := decide_eq_true c13
                  try have c13b2 : (9223372036854775807 < ((x4_1 ++ (⟨#[58]⟩ : ByteArray)) ++ ((rd_T69 l0 x5_1).f0)).size + 1) = False := eq_false (Nat.not_lt.2 c13)
                  try (have c13b7 := c13b2; simp only [ByteArray.size_append, Go.Proofs.YtkklccccjmipkaaDoor.GLib.size_mk, List.size_toArray, List.length_cons, List.length_nil, Nat.zero_add, Nat.reduceAdd] at c13b7)
                  by_cases c14 : (((x4_1 ++ (⟨#[58]⟩ : ByteArray)) ++ ((rd_T69 l0 x5_1).f0)) ++ (⟨#[58]⟩ : ByteArray)).size + ((rd_T69 l0 x5_1).f1).size ≤ 9223372036854775807
                  · rw [if_pos c14] at H
                    have c14b0 := eq_true c14
                    have c14b1 : decide ((((x4_1 ++ (⟨#[58]⟩ : ByteArray)) ++ ((rd_T69 l0 x5_1).f0)) ++ (⟨#[58]⟩ : ByteArray)).size + ((rd_T69 l0 x5_1).f1).size ≤ 9223372036854775807) = true := decide_eq_true c14
                    try have c14b2 : (9223372036854775807 < (((x4_1 ++ (⟨#[58]⟩ : ByteArray)) ++ ((rd_T69 l0 x5_1).f0)) ++ (⟨#[58]⟩ : ByteArray)).size + ((rd_T69 l0 x5_1).f1).size) = False := eq_false (Nat.not_lt.2 c14)
                    try (have c14b7 := c14b2; simp only [ByteArray.size_append, Go.Proofs.YtkklccccjmipkaaDoor.GLib.size_mk, List.size_toArray, List.length_cons, List.length_nil, Nat.zero_add, Nat.reduceAdd] at c14b7)
                    have H' := Aside0.mk H
                    clear H
                    have p129 : 0 ≤ (x5_1 : Int) := of_decide_eq_true (by first | (with_reducible assumption) | assumption)
                    have q129 : x5_1 < (l0.length : Int) := of_decide_eq_true (by first | (with_reducible assumption) | assumption)
                    obtain ⟨ad129, e129, hx129_0, hx129_1, hx129_2⟩ := at_T69 HR0.out x5_1 p129 q129
                    cases e129
                    replace hx129_0 := (HB.out.cell (World.block_lt_of_cell? w _ hx129_0)).trans hx129_0
                    replace hx129_1 := (HB.out.cell (World.block_lt_of_cell? w _ hx129_1)).trans hx129_1
                    replace hx129_2 := (HB.out.cell (World.block_lt_of_cell? w _ hx129_2)).trans hx129_2
                    replace p129 := eq_true p129
                    replace q129 := eq_true q129
                    have p130 : 0 ≤ (x5_1 : Int) := of_decide_eq_true (by first | (with_reducible assumption) | assumption)
                    have q130 : x5_1 < (l0.length : Int) := of_decide_eq_true (by first | (with_reducible assumption) | assumption)
                    obtain ⟨ad130, e130, hx130_0, hx130_1, hx130_2⟩ := at_T69 HR0.out x5_1 p130 q130
                    obtain rfl : ad129 = ad130 := (by injection e130)
                    replace hx130_0 := (HB.out.cell (World.block_lt_of_cell? w _ hx130_0)).trans hx130_0
                    replace hx130_1 := (HB.out.cell (World.block_lt_of_cell? w _ hx130_1)).trans hx130_1
                    replace hx130_2 := (HB.out.cell (World.block_lt_of_cell? w _ hx130_2)).trans hx130_2
                    replace p130 := eq_true p130
                    replace q130 := eq_true q130
                    go_wp2
                    repeat (go_quiet (fail); try go_wp2)
                    go_roundg k1
                    case measure => have := HK1.out; omega
                    case rel => exact ⟨((((x4_1 ++ (⟨#[58]⟩ : ByteArray)) ++ ((rd_T69 l0 x5_1).f0)) ++ (⟨#[58]⟩ : ByteArray)) ++ ((rd_T69 l0 x5_1).f1)), (wrap64 (x5_1 + 1)), (by first | rfl | (simp; done) | (simp [*]; done) | exact congrArg Value.bool (Go.Proofs.YtkklccccjmipkaaDoor.GLib.not_isEmpty _) | exact congrArg Value.bool (Go.Proofs.YtkklccccjmipkaaDoor.GLib.not_isEmpty _).symm), (by first | rfl | (simp; done) | (simp [*]; done) | exact congrArg Value.bool (Go.Proofs.YtkklccccjmipkaaDoor.GLib.not_isEmpty _) | exact congrArg Value.bool (Go.Proofs.YtkklccccjmipkaaDoor.GLib.not_isEmpty _).symm), H', ⟨by have := HK1.out; omega⟩, ⟨by repeat (first | (with_reducible first | exact HB.out | apply below_alloc | apply pw_below_drewN | apply below_drew1) | exact HB.out)⟩⟩
                  · rw [if_neg c14] at H
                    exact absurd H (by simp)
                · rw [if_neg c13] at H
                  exact absurd H (by simp)
              · rw [if_neg c12] at H
                exact absurd H (by simp)
            · rw [if_neg c11] at H
              exact absurd H (by simp)
          · rw [if_neg c10] at H
            exact absurd H (by simp)
      · rw [if_neg c2] at H
        have c2b0 : decide (x5_1 < (l0.length : Int)) = false := decide_eq_false c2
        clear c2
        replace H := Option.bind_eq_some_iff.mp H
        obtain ⟨⟨t131, t132, t133⟩, A150, H⟩ := H
        replace H : (if t133 = 0 then (remitterref15_Write.j1 k1 l0 x4_1 t131 ((t131.length : Int) != (l0.length : Int))) else (remitterref15_Write.j1 k1 l0 x4_1 t131 true)) = some (r1, r2) := H
        have A15 := Aside0.mk A150
        clear A150
        have HC16 := Aside0.mk H
        clear H
        go_upto_region 9 with (first | (go_at_call 32; (with_reducible refine (remitterref15_Read.calls k1 x4_1 t131 t132 t133 _ A15.out).mono ?_); rintro e w17 ⟨v134, rfl, ho0, hb⟩; have n0_ := Aside0.mk (Kd.R_lower ho0 (below_size (by repeat (first | (with_reducible first | exact HB.out | apply below_alloc | apply pw_below_drewN | apply below_drew1) | exact HB.out)))); have n1_ := Aside0.mk (below_step (by repeat (first | (with_reducible first | exact HB.out | apply below_alloc | apply pw_below_drewN | apply below_drew1) | exact HB.out)) hb); clear HB; have HO135 := n0_; have HB := n1_; clear n0_ n1_; (try clear hb); (try clear hb2); (try clear hk); (try clear hi); (try clear ho0)))
        repeat (go_quiet (first | (go_at_call 32; (with_reducible refine (remitterref15_Read.calls k1 x4_1 t131 t132 t133 _ A15.out).mono ?_); rintro e w17 ⟨v134, rfl, ho0, hb⟩; have n0_ := Aside0.mk (Kd.R_lower ho0 (below_size (by repeat (first | (with_reducible first | exact HB.out | apply below_alloc | apply pw_below_drewN | apply below_drew1) | exact HB.out)))); have n1_ := Aside0.mk (below_step (by repeat (first | (with_reducible first | exact HB.out | apply below_alloc | apply pw_below_drewN | apply below_drew1) | exact HB.out)) hb); clear HB; have HO135 := n0_; have HB := n1_; clear n0_ n1_; (try clear hb); (try clear hb2); (try clear hk); (try clear hi); (try clear ho0))); go_upto_region 9 with (first | (go_at_call 32; (with_reducible refine (remitterref15_Read.calls k1 x4_1 t131 t132 t133 _ A15.out).mono ?_); rintro e w17 ⟨v134, rfl, ho0, hb⟩; have n0_ := Aside0.mk (Kd.R_lower ho0 (below_size (by repeat (first | (with_reducible first | exact HB.out | apply below_alloc | apply pw_below_drewN | apply below_drew1) | exact HB.out)))); have n1_ := Aside0.mk (below_step (by repeat (first | (with_reducible first | exact HB.out | apply below_alloc | apply pw_below_drewN | apply below_drew1) | exact HB.out)) hb); clear HB; have HO135 := n0_; have HB := n1_; clear n0_ n1_; (try clear hb); (try clear hb2); (try clear hk); (try clear hi); (try clear ho0))))
        (try simp only [Act.put, List.setIfInBounds_toArray, List.set_cons_zero, List.set_cons_succ])
        go_cut [49] (fun v49 wc => ∃ (kq : Nat) (x49_15 : Bool), v49 = .bool x49_15 ∧ Aside0 (remitterref15_Write.j1 kq l0 x4_1 t131 x49_15 = some (r1, r2)) ∧ Aside0 (kq ≤ k1) ∧ Aside0 (Kd.R k69 69 wc w.heap.size (fun _ => True) v134 t131) ∧ Aside0 (Below w.heap.size w wc))
        case first =>
          have H := HC16.out
          clear HC16
          by_cases c18 : t133 = 0
          · rw [if_pos c18] at H
            have c18b0 : (t133 == 0) = true := beq_iff_eq.mpr c18
            have c18b1 : (t133 != 0) = false := bne_eq_false_iff_eq.mpr c18
            clear c18
            (first | rw [c18b0] | (simp only [i64_w, i32_w]; rw [c18b0]) | skip)
            have H' := Aside0.mk H
            clear H
            obtain ⟨Ao19, co19, eo19⟩ := Kd.R_slice HO135.out
            subst eo19
            go_wp2
            repeat (go_quiet (fail); try go_wp2)
            go_meet
            case rel => exact ⟨_, (((t131.length : Int) != (l0.length : Int))), (by first | rfl | (simp; done) | (simp [*]; done) | exact congrArg Value.bool (Go.Proofs.YtkklccccjmipkaaDoor.GLib.not_isEmpty _) | exact congrArg Value.bool (Go.Proofs.YtkklccccjmipkaaDoor.GLib.not_isEmpty _).symm), H', ⟨by have := HK1.out; first | omega | exact Nat.le_refl _⟩, ⟨by (with_reducible repeat (first | apply Kd.R_alloc | apply Kd.R_drewN | apply Kd.R_drew)); exact HO135.out⟩, ⟨by repeat (first | (with_reducible first | exact HB.out | apply below_alloc | apply pw_below_drewN | apply below_drew1) | exact HB.out)⟩⟩
          · rw [if_neg c18] at H
            have c18b0 : (t133 == 0) = false := beq_eq_false_iff_ne.mpr c18
            have c18b1 : (t133 != 0) = true := bne_iff_ne.mpr c18
            (first | rw [c18b0] | (simp only [i64_w, i32_w]; rw [c18b0]) | skip)
            have H' := Aside0.mk H
            clear H
            go_wp2
            repeat (go_quiet (fail); try go_wp2)
            go_meet
            case rel => exact ⟨_, (true), (by first | rfl | (simp; done) | (simp [*]; done) | exact congrArg Value.bool (Go.Proofs.YtkklccccjmipkaaDoor.GLib.not_isEmpty _) | exact congrArg Value.bool (Go.Proofs.YtkklccccjmipkaaDoor.GLib.not_isEmpty _).symm), H', ⟨by have := HK1.out; first | omega | exact Nat.le_refl _⟩, ⟨by (with_reducible repeat (first | apply Kd.R_alloc | apply Kd.R_drewN | apply Kd.R_drew)); exact HO135.out⟩, ⟨by repeat (first | (with_reducible first | exact HB.out | apply below_alloc | apply pw_below_drewN | apply below_drew1) | exact HB.out)⟩⟩
        case rest =>
          clear HC16
          try clear c1
          try clear p1
          try clear q1
          try clear hx1
          try clear c2
          try clear c2b0
          try clear p2
          try clear c3
          try clear c3b0
          try clear c4
          try clear c4b0
          try clear c4b1
          try clear c4b2
          try clear c5
          try clear c5b0
          try clear c5b1
          try clear c5b2
          try clear c6
          try clear c6b0
          try clear p6
          try clear c7
          try clear c7b0
          try clear c7b1
          try clear c7b2
          try clear c8
          try clear c8b0
          try clear c8b1
          try clear c8b2
          try clear c9
          try clear c9b0
          try clear c9b1
          try clear c9b2
          try clear c10
          try clear c10b0
          try clear c10b1
          try clear c10b2
          try clear c11
          try clear c11b0
          try clear c12
          try clear c12b0
          try clear c12b1
          try clear c12b2
          try clear p12
          try clear q12
          try clear hx12
          try clear c13
          try clear c13b0
          try clear c13b1
          try clear c13b2
          try clear p13
          try clear q13
          try clear hx13
          try clear c14
          try clear c14b0
          try clear c14b1
          try clear c14b2
          try clear c18
          try clear c18b0
          try clear c18b1
          try clear hx127_0
          try clear hx127_1
          try clear hx127_2
          try clear hx128_0
          try clear hx128_1
          try clear hx128_2
          try clear hx129_0
          try clear hx129_1
          try clear hx129_2
          try clear hx130_0
          try clear hx130_1
          try clear hx130_2
          try clear p127
          try clear p128
          try clear p129
          try clear p130
          try clear q127
          try clear q128
          try clear q129
          try clear q130
          obtain ⟨kq, x49_15, rfl, HA, HJ15, HO_6, HB⟩ := hcut
          cases kq with
          | zero => exact absurd HA.out (by simp [remitterref15_Write.j1])
          | succ kj15 =>
            have H := HA.out
            clear HA
            simp only [remitterref15_Write.j1] at H
            by_cases c20 : x49_15 = true
            · subst c20
              have H1 : (some ((⟨#[]⟩ : ByteArray), 31)) = some (r1, r2) := by rw [if_pos rfl] at H; exact H
              clear H
              have H := H1
              clear H1
              simp only [Option.some.injEq, Prod.mk.injEq] at H
              obtain ⟨rfl, rfl⟩ := H
              go_wp2
              repeat (go_quiet (fail); try go_wp2)
              all_goals (first | (exfalso; simp_all; done) | (exfalso; omega) | (go_ret2; exact ⟨by first | rfl | (simp [errW_none, errW_some] <;> rfl) | (simp [*, errW_none, errW_some] <;> rfl), by repeat (first | (with_reducible first | exact HB.out | apply below_alloc | apply pw_below_drewN | apply below_drew1) | exact HB.out)⟩))
            · replace c20 := Bool.eq_false_iff.mpr c20
              subst c20
              have H1 : (remitterref15_Write.l1 kj15 l0 x4_1 t131 0) = some (r1, r2) := by rw [if_neg (show ¬ (false = true) by decide)] at H; exact H
              clear H
              have H := H1
              clear H1
              have H' := Aside0.mk H
              clear H
              go_wp2
              repeat (go_quiet (fail); try go_wp2)
              go_loopg [9] kj15 (fun kq v9 w' => ∃ (x9_3 : Int), v9 = .int .i64 x9_3 ∧ Aside0 (remitterref15_Write.l1 kq l0 x4_1 t131 x9_3 = some (r1, r2)) ∧ Aside0 (kq ≤ kj15) ∧ Aside0 (Kd.R k69 69 w' w.heap.size (fun _ => True) v134 t131) ∧ Aside0 (Below w.heap.size w w'))
              case atStart => exact ⟨(0), (by first | rfl | (simp; done) | (simp [*]; done) | exact congrArg Value.bool (Go.Proofs.YtkklccccjmipkaaDoor.GLib.not_isEmpty _) | exact congrArg Value.bool (Go.Proofs.YtkklccccjmipkaaDoor.GLib.not_isEmpty _).symm), H', ⟨Nat.le_refl _⟩, ⟨by (with_reducible repeat (first | apply Kd.R_alloc | apply Kd.R_drewN | apply Kd.R_drew)); exact HO_6.out⟩, ⟨by repeat (first | (with_reducible first | exact HB.out | apply below_alloc | apply pw_below_drewN | apply below_drew1) | exact HB.out)⟩⟩
              case round =>
                clear H'
                try clear c1
                try clear p1
                try clear q1
                try clear hx1
                try clear c2
                try clear c2b0
                try clear p2
                try clear c3
                try clear c3b0
                try clear c4
                try clear c4b0
                try clear c4b1
                try clear c4b2
                try clear c5
                try clear c5b0
                try clear c5b1
                try clear c5b2
                try clear c6
                try clear c6b0
                try clear p6
                try clear c7
                try clear c7b0
                try clear c7b1
                try clear c7b2
                try clear c8
                try clear c8b0
                try clear c8b1
                try clear c8b2
                try clear c9
                try clear c9b0
                try clear c9b1
                try clear c9b2
                try clear c10
                try clear c10b0
                try clear c10b1
                try clear c10b2
                try clear c11
                try clear c11b0
                try clear c12
                try clear c12b0
                try clear c12b1
                try clear c12b2
                try clear p12
                try clear q12
                try clear hx12
                try clear c13
                try clear c13b0
                try clear c13b1
                try clear c13b2
                try clear p13
                try clear q13
                try clear hx13
                try clear c14
                try clear c14b0
                try clear c14b1
                try clear c14b2
                try clear c18
                try clear c18b0
                try clear c18b1
                try clear c20
                try clear hx127_0
                try clear hx127_1
                try clear hx127_2
                try clear hx128_0
                try clear hx128_1
                try clear hx128_2
                try clear hx129_0
                try clear hx129_1
                try clear hx129_2
                try clear hx130_0
                try clear hx130_1
                try clear hx130_2
                try clear p1
                try clear p12
                try clear p127
                try clear p128
                try clear p129
                try clear p13
                try clear p130
                try clear p2
                try clear p6
                try clear q1
                try clear q12
                try clear q127
                try clear q128
                try clear q129
                try clear q13
                try clear q130
                obtain ⟨x9_3, rfl, HA, HK3, HO_6, HB⟩ := hrel
                cases gk with
                | zero => exact absurd HA.out (by simp [remitterref15_Write.l1])
                | succ k3 =>
                  have H := HA.out
                  clear HA
                  simp only [remitterref15_Write.l1] at H
                  by_cases c21 : x9_3 < (l0.length : Int)
                  · rw [if_pos c21] at H
                    have c21b0 : decide (x9_3 < (l0.length : Int)) = true := decide_eq_true c21
                    clear c21
                    by_cases c22 : 0 ≤ x9_3
                    · rw [if_pos c22] at H
                      have c22b0 : decide (0 ≤ x9_3) = true := decide_eq_true c22
                      clear c22
                      by_cases c23 : x9_3 < (t131.length : Int)
                      · rw [if_pos c23] at H
                        have c23b0 : decide (x9_3 < (t131.length : Int)) = true := decide_eq_true c23
                        clear c23
                        by_cases c24 : ((rd_T69 t131 x9_3).f0).toList = ((rd_T69 l0 x9_3).f0).toList
                        · rw [if_pos c24] at H
                          have c24b0 : (((rd_T69 t131 x9_3).f0).toList == ((rd_T69 l0 x9_3).f0).toList) = true := beq_iff_eq.mpr c24
                          have c24b1 : (((rd_T69 t131 x9_3).f0).toList != ((rd_T69 l0 x9_3).f0).toList) = false := bne_eq_false_iff_eq.mpr c24
                          clear c24
                          by_cases c25 : ((rd_T69 t131 x9_3).f1).toList = ((rd_T69 l0 x9_3).f1).toList
                          · rw [if_pos c25] at H
                            have c25b0 : (((rd_T69 t131 x9_3).f1).toList == ((rd_T69 l0 x9_3).f1).toList) = true := beq_iff_eq.mpr c25
                            have c25b1 : (((rd_T69 t131 x9_3).f1).toList != ((rd_T69 l0 x9_3).f1).toList) = false := bne_eq_false_iff_eq.mpr c25
                            clear c25
                            have H' := Aside0.mk H
                            clear H
                            obtain ⟨Ao26, co26, eo26⟩ := Kd.R_slice HO_6.out
                            subst eo26
                            have p136 : 0 ≤ (x9_3 : Int) := of_decide_eq_true (by first | (with_reducible assumption) | assumption)
                            have q136 : x9_3 < (t131.length : Int) := of_decide_eq_true (by first | (with_reducible assumption) | assumption)
                            obtain ⟨ad136, e136, hx136_0, hx136_1, hx136_2⟩ := at_T69 (Kd.R_reads' HO_6.out).2.2 x9_3 p136 q136
                            cases e136
                            replace p136 := eq_true p136
                            replace q136 := eq_true q136
                            have p137 : 0 ≤ (x9_3 : Int) := of_decide_eq_true (by first | (with_reducible assumption) | assumption)
                            have q137 : x9_3 < (l0.length : Int) := of_decide_eq_true (by first | (with_reducible assumption) | assumption)
                            obtain ⟨ad137, e137, hx137_0, hx137_1, hx137_2⟩ := at_T69 HR0.out x9_3 p137 q137
                            cases e137
                            replace hx137_0 := (HB.out.cell (World.block_lt_of_cell? w _ hx137_0)).trans hx137_0
                            replace hx137_1 := (HB.out.cell (World.block_lt_of_cell? w _ hx137_1)).trans hx137_1
                            replace hx137_2 := (HB.out.cell (World.block_lt_of_cell? w _ hx137_2)).trans hx137_2
                            replace p137 := eq_true p137
                            replace q137 := eq_true q137
                            have p138 : 0 ≤ (x9_3 : Int) := of_decide_eq_true (by first | (with_reducible assumption) | assumption)
                            have q138 : x9_3 < (t131.length : Int) := of_decide_eq_true (by first | (with_reducible assumption) | assumption)
                            obtain ⟨ad138, e138, hx138_0, hx138_1, hx138_2⟩ := at_T69 (Kd.R_reads' HO_6.out).2.2 x9_3 p138 q138
                            obtain rfl : ad136 = ad138 := (by injection e138)
                            replace p138 := eq_true p138
                            replace q138 := eq_true q138
                            have p139 : 0 ≤ (x9_3 : Int) := of_decide_eq_true (by first | (with_reducible assumption) | assumption)
                            have q139 : x9_3 < (l0.length : Int) := of_decide_eq_true (by first | (with_reducible assumption) | assumption)
                            obtain ⟨ad139, e139, hx139_0, hx139_1, hx139_2⟩ := at_T69 HR0.out x9_3 p139 q139
                            obtain rfl : ad137 = ad139 := (by injection e139)
                            replace hx139_0 := (HB.out.cell (World.block_lt_of_cell? w _ hx139_0)).trans hx139_0
                            replace hx139_1 := (HB.out.cell (World.block_lt_of_cell? w _ hx139_1)).trans hx139_1
                            replace hx139_2 := (HB.out.cell (World.block_lt_of_cell? w _ hx139_2)).trans hx139_2
                            replace p139 := eq_true p139
                            replace q139 := eq_true q139
                            go_wp2
                            repeat (go_quiet (fail); try go_wp2)
                            go_roundg k3
                            case measure => have := HK1.out; have := HJ15.out; have := HK3.out; omega
                            case rel => exact ⟨(wrap64 (x9_3 + 1)), (by first | rfl | (simp; done) | (simp [*]; done) | exact congrArg Value.bool (Go.Proofs.YtkklccccjmipkaaDoor.GLib.not_isEmpty _) | exact congrArg Value.bool (Go.Proofs.YtkklccccjmipkaaDoor.GLib.not_isEmpty _).symm), H', ⟨by have := HK1.out; have := HJ15.out; have := HK3.out; omega⟩, ⟨by (with_reducible repeat (first | apply Kd.R_alloc | apply Kd.R_drewN | apply Kd.R_drew)); exact HO_6.out⟩, ⟨by repeat (first | (with_reducible first | exact HB.out | apply below_alloc | apply pw_below_drewN | apply below_drew1) | exact HB.out)⟩⟩
                          · rw [if_neg c25] at H
                            have c25b0 : (((rd_T69 t131 x9_3).f1).toList == ((rd_T69 l0 x9_3).f1).toList) = false := beq_eq_false_iff_ne.mpr c25
                            have c25b1 : (((rd_T69 t131 x9_3).f1).toList != ((rd_T69 l0 x9_3).f1).toList) = true := bne_iff_ne.mpr c25
                            simp only [Option.some.injEq, Prod.mk.injEq] at H
                            obtain ⟨rfl, rfl⟩ := H
                            obtain ⟨Ao27, co27, eo27⟩ := Kd.R_slice HO_6.out
                            subst eo27
                            have p136 : 0 ≤ (x9_3 : Int) := of_decide_eq_true (by first | (with_reducible assumption) | assumption)
                            have q136 : x9_3 < (t131.length : Int) := of_decide_eq_true (by first | (with_reducible assumption) | assumption)
                            obtain ⟨ad136, e136, hx136_0, hx136_1, hx136_2⟩ := at_T69 (Kd.R_reads' HO_6.out).2.2 x9_3 p136 q136
                            cases e136
                            replace p136 := eq_true p136
                            replace q136 := eq_true q136
                            have p137 : 0 ≤ (x9_3 : Int) := of_decide_eq_true (by first | (with_reducible assumption) | assumption)
                            have q137 : x9_3 < (l0.length : Int) := of_decide_eq_true (by first | (with_reducible assumption) | assumption)
                            obtain ⟨ad137, e137, hx137_0, hx137_1, hx137_2⟩ := at_T69 HR0.out x9_3 p137 q137
                            cases e137
                            replace hx137_0 := (HB.out.cell (World.block_lt_of_cell? w _ hx137_0)).trans hx137_0
                            replace hx137_1 := (HB.out.cell (World.block_lt_of_cell? w _ hx137_1)).trans hx137_1
                            replace hx137_2 := (HB.out.cell (World.block_lt_of_cell? w _ hx137_2)).trans hx137_2
                            replace p137 := eq_true p137
                            replace q137 := eq_true q137
                            have p138 : 0 ≤ (x9_3 : Int) := of_decide_eq_true (by first | (with_reducible assumption) | assumption)
                            have q138 : x9_3 < (t131.length : Int) := of_decide_eq_true (by first | (with_reducible assumption) | assumption)
                            obtain ⟨ad138, e138, hx138_0, hx138_1, hx138_2⟩ := at_T69 (Kd.R_reads' HO_6.out).2.2 x9_3 p138 q138
                            obtain rfl : ad136 = ad138 := (by injection e138)
                            replace p138 := eq_true p138
                            replace q138 := eq_true q138
                            have p139 : 0 ≤ (x9_3 : Int) := of_decide_eq_true (by first | (with_reducible assumption) | assumption)
                            have q139 : x9_3 < (l0.length : Int) := of_decide_eq_true (by first | (with_reducible assumption) | assumption)
                            obtain ⟨ad139, e139, hx139_0, hx139_1, hx139_2⟩ := at_T69 HR0.out x9_3 p139 q139
                            obtain rfl : ad137 = ad139 := (by injection e139)
                            replace hx139_0 := (HB.out.cell (World.block_lt_of_cell? w _ hx139_0)).trans hx139_0
                            replace hx139_1 := (HB.out.cell (World.block_lt_of_cell? w _ hx139_1)).trans hx139_1
                            replace hx139_2 := (HB.out.cell (World.block_lt_of_cell? w _ hx139_2)).trans hx139_2
                            replace p139 := eq_true p139
                            replace q139 := eq_true q139
                            go_wp2
                            repeat (go_quiet (fail); try go_wp2)
                            all_goals (first | (exfalso; simp_all; done) | (exfalso; omega) | (go_ret2; exact ⟨by first | rfl | (simp [errW_none, errW_some] <;> rfl) | (simp [*, errW_none, errW_some] <;> rfl), by repeat (first | (with_reducible first | exact HB.out | apply below_alloc | apply pw_below_drewN | apply below_drew1) | exact HB.out)⟩))
                        · rw [if_neg c24] at H
                          have c24b0 : (((rd_T69 t131 x9_3).f0).toList == ((rd_T69 l0 x9_3).f0).toList) = false := beq_eq_false_iff_ne.mpr c24
                          have c24b1 : (((rd_T69 t131 x9_3).f0).toList != ((rd_T69 l0 x9_3).f0).toList) = true := bne_iff_ne.mpr c24
                          simp only [Option.some.injEq, Prod.mk.injEq] at H
                          obtain ⟨rfl, rfl⟩ := H
                          obtain ⟨Ao28, co28, eo28⟩ := Kd.R_slice HO_6.out
                          subst eo28
                          have p136 : 0 ≤ (x9_3 : Int) := of_decide_eq_true (by first | (with_reducible assumption) | assumption)
                          have q136 : x9_3 < (t131.length : Int) := of_decide_eq_true (by first | (with_reducible assumption) | assumption)
                          obtain ⟨ad136, e136, hx136_0, hx136_1, hx136_2⟩ := at_T69 (Kd.R_reads' HO_6.out).2.2 x9_3 p136 q136
                          cases e136
                          replace p136 := eq_true p136
                          replace q136 := eq_true q136
                          have p137 : 0 ≤ (x9_3 : Int) := of_decide_eq_true (by first | (with_reducible assumption) | assumption)
                          have q137 : x9_3 < (l0.length : Int) := of_decide_eq_true (by first | (with_reducible assumption) | assumption)
                          obtain ⟨ad137, e137, hx137_0, hx137_1, hx137_2⟩ := at_T69 HR0.out x9_3 p137 q137
                          cases e137
                          replace hx137_0 := (HB.out.cell (World.block_lt_of_cell? w _ hx137_0)).trans hx137_0
                          replace hx137_1 := (HB.out.cell (World.block_lt_of_cell? w _ hx137_1)).trans hx137_1
                          replace hx137_2 := (HB.out.cell (World.block_lt_of_cell? w _ hx137_2)).trans hx137_2
                          replace p137 := eq_true p137
                          replace q137 := eq_true q137
                          go_wp2
                          repeat (go_quiet (fail); try go_wp2)
                          all_goals (first | (exfalso; simp_all; done) | (exfalso; omega) | (go_ret2; exact ⟨by first | rfl | (simp [errW_none, errW_some] <;> rfl) | (simp [*, errW_none, errW_some] <;> rfl), by repeat (first | (with_reducible first | exact HB.out | apply below_alloc | apply pw_below_drewN | apply below_drew1) | exact HB.out)⟩))
                      · rw [if_neg c23] at H
                        exact absurd H (by simp)
                    · rw [if_neg c22] at H
                      exact absurd H (by simp)
                  · rw [if_neg c21] at H
                    have c21b0 : decide (x9_3 < (l0.length : Int)) = false := decide_eq_false c21
                    clear c21
                    simp only [Option.some.injEq, Prod.mk.injEq] at H
                    obtain ⟨rfl, rfl⟩ := H
                    go_wp2
                    repeat (go_quiet (fail); try go_wp2)
                    all_goals (first | (exfalso; simp_all; done) | (exfalso; omega) | (go_ret2; exact ⟨by first | rfl | (simp [errW_none, errW_some] <;> rfl) | (simp [*, errW_none, errW_some] <;> rfl), by repeat (first | (with_reducible first | exact HB.out | apply below_alloc | apply pw_below_drewN | apply below_drew1) | exact HB.out)⟩))

end Go.Proofs.YtkklccccjmipkaaDoor.PAll

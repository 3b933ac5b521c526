-- Made by this session's wip/tools/gprint.py, which runs the kit's print program; some functions' contracts are proved by hand.
import Derived.Test.YtjemnphmjbodfaaPAllx0
import Derived.Test.YtjemnphmjbodfaaPAllx5
namespace Go.Proofs.Ytjemnphmjbodfaa.PAll
open Go.RowKit Go.Proofs.YtjemnphmjbodfaaW.PrintWords Go.Proofs.YtjemnphmjbodfaaW.PrintLast Go.Proofs.YtjemnphmjbodfaaW.PrintMore
attribute [local go_sem] max2_int min2_int max_two min_two max_three min_three max_four min_four   -- for this text's walks alone
set_option linter.unusedVariables false
set_option linter.unusedSimpArgs false

/-! ### remitterref05_Fold: function 27 -/
mutual
def remitterref05_Fold.l0 : Nat → ByteArray → Int → Int → ByteArray → List ByteArray → Int → Bool → ByteArray → Int → Option (List ByteArray × Int)
  | 0, _, _, _, _, _, _, _, _, _ => none
  | k + 1, x0, x1, x2, x8, x9, x10, x11, x12, x13 => if x13 < (x8.size : Int) then (remitterref05_Fold.j1 k x0 x1 x2 x8 x9 x10 x11 x12 x13 (decide ((x9.length : Int) < x2))) else (remitterref05_Fold.j1 k x0 x1 x2 x8 x9 x10 x11 x12 x13 false)
def remitterref05_Fold.j1 : Nat → ByteArray → Int → Int → ByteArray → List ByteArray → Int → Bool → ByteArray → Int → Bool → Option (List ByteArray × Int)
  | 0, _, _, _, _, _, _, _, _, _, _ => none
  | k + 1, x0, x1, x2, x8, x9, x10, x11, x12, x13, x26 => if x26 = true then (if 0 ≤ x13 then (if x13 ≤ (wrap64 (x13 + 1)) then (if (wrap64 (x13 + 1)) ≤ (x8.size : Int) then (if x12.toList = ([] : List UInt8) then (if (x8.extract (x13 : Int).toNat ((wrap64 (x13 + 1)) : Int).toNat).toList = ([58] : List UInt8) then (remitterref05_Fold.j2 k x0 x1 x2 x8 x9 x10 x11 x12 x13 (x8.extract (x13 : Int).toNat ((wrap64 (x13 + 1)) : Int).toNat) true) else (remitterref05_Fold.j2 k x0 x1 x2 x8 x9 x10 x11 x12 x13 (x8.extract (x13 : Int).toNat ((wrap64 (x13 + 1)) : Int).toNat) ((x8.extract (x13 : Int).toNat ((wrap64 (x13 + 1)) : Int).toNat).toList == ([45] : List UInt8)))) else (remitterref05_Fold.j2 k x0 x1 x2 x8 x9 x10 x11 x12 x13 (x8.extract (x13 : Int).toNat ((wrap64 (x13 + 1)) : Int).toNat) false)) else (none)) else (none)) else (none)) else (if x12.toList = ([] : List UInt8) then (some (x9, x10)) else (if x9.length < 8796093022208 then (some ((x9 ++ [x12]), x10)) else (none)))
def remitterref05_Fold.j2 : Nat → ByteArray → Int → Int → ByteArray → List ByteArray → Int → Bool → ByteArray → Int → ByteArray → Bool → Option (List ByteArray × Int)
  | 0, _, _, _, _, _, _, _, _, _, _, _ => none
  | k + 1, x0, x1, x2, x8, x9, x10, x11, x12, x13, x14, x43 => if x43 = true then (remitterref05_Fold.j3 k x0 x1 x2 x8 x9 x10 x11 x12 x13 (⟨#[46]⟩ : ByteArray)) else (remitterref05_Fold.j3 k x0 x1 x2 x8 x9 x10 x11 x12 x13 x14)
def remitterref05_Fold.j3 : Nat → ByteArray → Int → Int → ByteArray → List ByteArray → Int → Bool → ByteArray → Int → ByteArray → Option (List ByteArray × Int)
  | 0, _, _, _, _, _, _, _, _, _, _ => none
  | k + 1, x0, x1, x2, x8, x9, x10, x11, x12, x13, x14 => if x11 = true then (if x13 < (x0.size : Int) then (if 0 ≤ x13 then (if x13 ≤ (wrap64 (x13 + 1)) then (if (wrap64 (x13 + 1)) ≤ (x0.size : Int) then (remitterref05_Fold.j4 k x0 x1 x2 x8 x9 x10 ((x0.extract (x13 : Int).toNat ((wrap64 (x13 + 1)) : Int).toNat).toList == x14.toList) x12 x13 x14) else (none)) else (none)) else (none)) else (remitterref05_Fold.j4 k x0 x1 x2 x8 x9 x10 false x12 x13 x14)) else (remitterref05_Fold.j4 k x0 x1 x2 x8 x9 x10 false x12 x13 x14)
def remitterref05_Fold.j4 : Nat → ByteArray → Int → Int → ByteArray → List ByteArray → Int → Bool → ByteArray → Int → ByteArray → Option (List ByteArray × Int)
  | 0, _, _, _, _, _, _, _, _, _, _ => none
  | k + 1, x0, x1, x2, x8, x9, x10, x11, x12, x13, x14 => if x11 = true then (if x12.size + x14.size ≤ 9223372036854775807 then (if ((x12 ++ x14).size : Int) = x1 then (if x9.length < 8796093022208 then (remitterref05_Fold.l0 k x0 x1 x2 x8 (x9 ++ [x12 ++ x14]) (wrap64 (x10 + 1)) x11 (⟨#[]⟩ : ByteArray) (wrap64 (x13 + 1))) else (none)) else (remitterref05_Fold.l0 k x0 x1 x2 x8 x9 (wrap64 (x10 + 1)) x11 (x12 ++ x14) (wrap64 (x13 + 1)))) else (none)) else (if x12.size + x14.size ≤ 9223372036854775807 then (if ((x12 ++ x14).size : Int) = x1 then (if x9.length < 8796093022208 then (remitterref05_Fold.l0 k x0 x1 x2 x8 (x9 ++ [x12 ++ x14]) x10 x11 (⟨#[]⟩ : ByteArray) (wrap64 (x13 + 1))) else (none)) else (remitterref05_Fold.l0 k x0 x1 x2 x8 x9 x10 x11 (x12 ++ x14) (wrap64 (x13 + 1)))) else (none))
end
def remitterref05_Fold.f (k : Nat) (a0 : ByteArray) (a1 : Int) (a2 : Int) : Option (List ByteArray × Int) := (remitterref05_Substitute.f k a0).bind fun t208 => (remitterref05_Fold.l0 k a0 a1 a2 t208 ([] : List ByteArray) 0 true (⟨#[]⟩ : ByteArray) 0)
theorem remitterref05_Fold.mono_l : ∀ k, (∀ y0 y1 y2 y3 y4 y5 y6 y7 y8, LeO (remitterref05_Fold.l0 k y0 y1 y2 y3 y4 y5 y6 y7 y8) (remitterref05_Fold.l0 (k + 1) y0 y1 y2 y3 y4 y5 y6 y7 y8)) ∧ (∀ y0 y1 y2 y3 y4 y5 y6 y7 y8 y9, LeO (remitterref05_Fold.j1 k y0 y1 y2 y3 y4 y5 y6 y7 y8 y9) (remitterref05_Fold.j1 (k + 1) y0 y1 y2 y3 y4 y5 y6 y7 y8 y9)) ∧ (∀ y0 y1 y2 y3 y4 y5 y6 y7 y8 y9 y10, LeO (remitterref05_Fold.j2 k y0 y1 y2 y3 y4 y5 y6 y7 y8 y9 y10) (remitterref05_Fold.j2 (k + 1) y0 y1 y2 y3 y4 y5 y6 y7 y8 y9 y10)) ∧ (∀ y0 y1 y2 y3 y4 y5 y6 y7 y8 y9, LeO (remitterref05_Fold.j3 k y0 y1 y2 y3 y4 y5 y6 y7 y8 y9) (remitterref05_Fold.j3 (k + 1) y0 y1 y2 y3 y4 y5 y6 y7 y8 y9)) ∧ (∀ y0 y1 y2 y3 y4 y5 y6 y7 y8 y9, LeO (remitterref05_Fold.j4 k y0 y1 y2 y3 y4 y5 y6 y7 y8 y9) (remitterref05_Fold.j4 (k + 1) y0 y1 y2 y3 y4 y5 y6 y7 y8 y9))
  | 0 => ⟨fun _ _ _ _ _ _ _ _ _ r h => by simp [remitterref05_Fold.l0] at h, fun _ _ _ _ _ _ _ _ _ _ r h => by simp [remitterref05_Fold.j1] at h, fun _ _ _ _ _ _ _ _ _ _ _ r h => by simp [remitterref05_Fold.j2] at h, fun _ _ _ _ _ _ _ _ _ _ r h => by simp [remitterref05_Fold.j3] at h, fun _ _ _ _ _ _ _ _ _ _ r h => by simp [remitterref05_Fold.j4] at h⟩
  | k + 1 => by
    obtain ⟨ih0, ih1, ih2, ih3, ih4⟩ := remitterref05_Fold.mono_l k
    refine ⟨?_, ?_, ?_, ?_, ?_⟩
    · intro y0 y1 y2 y3 y4 y5 y6 y7 y8
      unfold remitterref05_Fold.l0
      repeat' first
      | (with_reducible exact ih0 _ _ _ _ _ _ _ _ _)
      | (with_reducible exact ih1 _ _ _ _ _ _ _ _ _ _)
      | (with_reducible exact ih2 _ _ _ _ _ _ _ _ _ _ _)
      | (with_reducible exact ih3 _ _ _ _ _ _ _ _ _ _)
      | (with_reducible exact ih4 _ _ _ _ _ _ _ _ _ _)
      | (with_reducible exact remitterref05_Substitute.mono _ _)
      | (with_reducible exact LeO.refl _)
      | (with_reducible exact LeO.none _)
      | (with_reducible refine LeO.ite ?_ ?_)
      | (with_reducible refine LeO.bind ?_ (fun _ => ?_))
      | exact ih0 _ _ _ _ _ _ _ _ _
      | exact ih1 _ _ _ _ _ _ _ _ _ _
      | exact ih2 _ _ _ _ _ _ _ _ _ _ _
      | exact ih3 _ _ _ _ _ _ _ _ _ _
      | exact ih4 _ _ _ _ _ _ _ _ _ _
      | exact remitterref05_Substitute.mono _ _
      | exact LeO.none _
      | refine LeO.ite ?_ ?_
      | refine LeO.bind ?_ (fun _ => ?_)
    · intro y0 y1 y2 y3 y4 y5 y6 y7 y8 y9
      unfold remitterref05_Fold.j1
      repeat' first
      | (with_reducible exact ih0 _ _ _ _ _ _ _ _ _)
      | (with_reducible exact ih1 _ _ _ _ _ _ _ _ _ _)
      | (with_reducible exact ih2 _ _ _ _ _ _ _ _ _ _ _)
      | (with_reducible exact ih3 _ _ _ _ _ _ _ _ _ _)
      | (with_reducible exact ih4 _ _ _ _ _ _ _ _ _ _)
      | (with_reducible exact remitterref05_Substitute.mono _ _)
      | (with_reducible exact LeO.refl _)
      | (with_reducible exact LeO.none _)
      | (with_reducible refine LeO.ite ?_ ?_)
      | (with_reducible refine LeO.bind ?_ (fun _ => ?_))
      | exact ih0 _ _ _ _ _ _ _ _ _
      | exact ih1 _ _ _ _ _ _ _ _ _ _
      | exact ih2 _ _ _ _ _ _ _ _ _ _ _
      | exact ih3 _ _ _ _ _ _ _ _ _ _
      | exact ih4 _ _ _ _ _ _ _ _ _ _
      | exact remitterref05_Substitute.mono _ _
      | exact LeO.none _
      | refine LeO.ite ?_ ?_
      | refine LeO.bind ?_ (fun _ => ?_)
    · intro y0 y1 y2 y3 y4 y5 y6 y7 y8 y9 y10
      unfold remitterref05_Fold.j2
      repeat' first
      | (with_reducible exact ih0 _ _ _ _ _ _ _ _ _)
      | (with_reducible exact ih1 _ _ _ _ _ _ _ _ _ _)
      | (with_reducible exact ih2 _ _ _ _ _ _ _ _ _ _ _)
      | (with_reducible exact ih3 _ _ _ _ _ _ _ _ _ _)
      | (with_reducible exact ih4 _ _ _ _ _ _ _ _ _ _)
      | (with_reducible exact remitterref05_Substitute.mono _ _)
      | (with_reducible exact LeO.refl _)
      | (with_reducible exact LeO.none _)
      | (with_reducible refine LeO.ite ?_ ?_)
      | (with_reducible refine LeO.bind ?_ (fun _ => ?_))
      | exact ih0 _ _ _ _ _ _ _ _ _
      | exact ih1 _ _ _ _ _ _ _ _ _ _
      | exact ih2 _ _ _ _ _ _ _ _ _ _ _
      | exact ih3 _ _ _ _ _ _ _ _ _ _
      | exact ih4 _ _ _ _ _ _ _ _ _ _
      | exact remitterref05_Substitute.mono _ _
      | exact LeO.none _
      | refine LeO.ite ?_ ?_
      | refine LeO.bind ?_ (fun _ => ?_)
    · intro y0 y1 y2 y3 y4 y5 y6 y7 y8 y9
      unfold remitterref05_Fold.j3
      repeat' first
      | (with_reducible exact ih0 _ _ _ _ _ _ _ _ _)
      | (with_reducible exact ih1 _ _ _ _ _ _ _ _ _ _)
      | (with_reducible exact ih2 _ _ _ _ _ _ _ _ _ _ _)
      | (with_reducible exact ih3 _ _ _ _ _ _ _ _ _ _)
      | (with_reducible exact ih4 _ _ _ _ _ _ _ _ _ _)
      | (with_reducible exact remitterref05_Substitute.mono _ _)
      | (with_reducible exact LeO.refl _)
      | (with_reducible exact LeO.none _)
      | (with_reducible refine LeO.ite ?_ ?_)
      | (with_reducible refine LeO.bind ?_ (fun _ => ?_))
      | exact ih0 _ _ _ _ _ _ _ _ _
      | exact ih1 _ _ _ _ _ _ _ _ _ _
      | exact ih2 _ _ _ _ _ _ _ _ _ _ _
      | exact ih3 _ _ _ _ _ _ _ _ _ _
      | exact ih4 _ _ _ _ _ _ _ _ _ _
      | exact remitterref05_Substitute.mono _ _
      | exact LeO.none _
      | refine LeO.ite ?_ ?_
      | refine LeO.bind ?_ (fun _ => ?_)
    · intro y0 y1 y2 y3 y4 y5 y6 y7 y8 y9
      unfold remitterref05_Fold.j4
      repeat' first
      | (with_reducible exact ih0 _ _ _ _ _ _ _ _ _)
      | (with_reducible exact ih1 _ _ _ _ _ _ _ _ _ _)
      | (with_reducible exact ih2 _ _ _ _ _ _ _ _ _ _ _)
      | (with_reducible exact ih3 _ _ _ _ _ _ _ _ _ _)
      | (with_reducible exact ih4 _ _ _ _ _ _ _ _ _ _)
      | (with_reducible exact remitterref05_Substitute.mono _ _)
      | (with_reducible exact LeO.refl _)
      | (with_reducible exact LeO.none _)
      | (with_reducible refine LeO.ite ?_ ?_)
      | (with_reducible refine LeO.bind ?_ (fun _ => ?_))
      | exact ih0 _ _ _ _ _ _ _ _ _
      | exact ih1 _ _ _ _ _ _ _ _ _ _
      | exact ih2 _ _ _ _ _ _ _ _ _ _ _
      | exact ih3 _ _ _ _ _ _ _ _ _ _
      | exact ih4 _ _ _ _ _ _ _ _ _ _
      | exact remitterref05_Substitute.mono _ _
      | exact LeO.none _
      | refine LeO.ite ?_ ?_
      | refine LeO.bind ?_ (fun _ => ?_)
theorem remitterref05_Fold.mono : ∀ a0 a1 a2 k, LeO (remitterref05_Fold.f k a0 a1 a2) (remitterref05_Fold.f (k + 1) a0 a1 a2) := by
  intro a0 a1 a2 k
  obtain ⟨ih0, ih1, ih2, ih3, ih4⟩ := remitterref05_Fold.mono_l k
  unfold remitterref05_Fold.f
  repeat' first
      | (with_reducible exact ih0 _ _ _ _ _ _ _ _ _)
      | (with_reducible exact ih1 _ _ _ _ _ _ _ _ _ _)
      | (with_reducible exact ih2 _ _ _ _ _ _ _ _ _ _ _)
      | (with_reducible exact ih3 _ _ _ _ _ _ _ _ _ _)
      | (with_reducible exact ih4 _ _ _ _ _ _ _ _ _ _)
      | (with_reducible exact remitterref05_Substitute.mono _ _)
      | (with_reducible exact LeO.refl _)
      | (with_reducible exact LeO.none _)
      | (with_reducible refine LeO.ite ?_ ?_)
      | (with_reducible refine LeO.bind ?_ (fun _ => ?_))
      | exact ih0 _ _ _ _ _ _ _ _ _
      | exact ih1 _ _ _ _ _ _ _ _ _ _
      | exact ih2 _ _ _ _ _ _ _ _ _ _ _
      | exact ih3 _ _ _ _ _ _ _ _ _ _
      | exact ih4 _ _ _ _ _ _ _ _ _ _
      | exact remitterref05_Substitute.mono _ _
      | exact LeO.none _
      | refine LeO.ite ?_ ?_
      | refine LeO.bind ?_ (fun _ => ?_)
set_option maxHeartbeats 8000000 in
set_option maxRecDepth 100000 in
theorem remitterref05_Fold.calls (k : Nat) (a0 : ByteArray) (a1 : Int) (a2 : Int) (r1 : List ByteArray) (r2 : Int) (w : World) (h : remitterref05_Fold.f k a0 a1 a2 = some (r1, r2)) :
    Calls Try.prog 27 #[.string a0, .int .i64 a1, .int .i64 a2] w fun e w' => ∃ v0_ : Value, e = .returned (.tuple #[v0_, .int .i64 r2]) ∧ Kd.R Kd.string 9 w' w.heap.size (fun _ => True) v0_ r1 ∧ Below w.heap.size w w' := by
  have HB := Aside0.mk (Below.refl w.heap.size w)
  have H : ((remitterref05_Substitute.f k a0).bind fun t208 => (remitterref05_Fold.l0 k a0 a1 a2 t208 ([] : List ByteArray) 0 true (⟨#[]⟩ : ByteArray) 0)) = some (r1, r2) := h
  clear h
  replace H := Option.bind_eq_some_iff.mp H
  obtain ⟨t208, A40, H⟩ := H
  replace H : (remitterref05_Fold.l0 k a0 a1 a2 t208 ([] : List ByteArray) 0 true (⟨#[]⟩ : ByteArray) 0) = some (r1, r2) := H
  have A4 := Aside0.mk A40
  clear A40
  have H' := Aside0.mk H
  clear H
  go_enter Try.func27, Try.ntmps27
  go_wp2_with (first | ((with_reducible refine gate_callee (f := 23) rfl ?_); refine goesL_ (some 16) rfl rfl Try.func23 (by kernel_rfl) rfl #[.string a0] rfl (by (try simp only [List.map_toArray, List.map_cons, List.map_nil]); first | done | rfl | (simp only [List.length_drop, List.length_take]; rfl)) ?_; (with_reducible refine (remitterref05_Substitute.calls k a0 t208 _ A4.out).mono ?_); rintro e w5 ⟨rfl, hb⟩; refine ⟨_, rfl, ?_⟩; have n0_ := Aside0.mk (below_step (by repeat (first | (with_reducible first | exact HB.out | apply below_alloc | apply pw_below_drewN | apply below_drew1) | exact HB.out)) hb); clear HB; have HB := n0_; clear n0_; (try clear hb); (try clear hb2); (try clear hk); (try clear hi)))
  go_loopg [9, 10, 11, 12, 13] k (fun kq v9 v10 v11 v12 v13 w' => ∃ (x9_1 : List ByteArray) (x10_1 : Int) (x11_1 : Bool) (x12_1 : ByteArray) (x13_1 : Int), v10 = .int .i64 x10_1 ∧ v11 = .bool x11_1 ∧ v12 = .string x12_1 ∧ v13 = .int .i64 x13_1 ∧ Aside0 (remitterref05_Fold.l0 kq a0 a1 a2 t208 x9_1 x10_1 x11_1 x12_1 x13_1 = some (r1, r2)) ∧ Aside0 (kq ≤ k) ∧ Aside0 (Kd.R Kd.string 9 w' w.heap.size (fun _ => True) v9 x9_1) ∧ Aside0 (Below w.heap.size w w'))
  case atStart => exact ⟨(([] : List ByteArray)), (0), (true), ((⟨#[]⟩ : ByteArray)), (0), (by first | rfl | (simp; done) | (simp [*]; done) | exact congrArg Value.bool (Go.Proofs.Ytjemnphmjbodfaa.GLib.not_isEmpty _) | exact congrArg Value.bool (Go.Proofs.Ytjemnphmjbodfaa.GLib.not_isEmpty _).symm), (by first | rfl | (simp; done) | (simp [*]; done) | exact congrArg Value.bool (Go.Proofs.Ytjemnphmjbodfaa.GLib.not_isEmpty _) | exact congrArg Value.bool (Go.Proofs.Ytjemnphmjbodfaa.GLib.not_isEmpty _).symm), (by first | rfl | (simp; done) | (simp [*]; done) | exact congrArg Value.bool (Go.Proofs.Ytjemnphmjbodfaa.GLib.not_isEmpty _) | exact congrArg Value.bool (Go.Proofs.Ytjemnphmjbodfaa.GLib.not_isEmpty _).symm), (by first | rfl | (simp; done) | (simp [*]; done) | exact congrArg Value.bool (Go.Proofs.Ytjemnphmjbodfaa.GLib.not_isEmpty _) | exact congrArg Value.bool (Go.Proofs.Ytjemnphmjbodfaa.GLib.not_isEmpty _).symm), H', ⟨Nat.le_refl _⟩, ⟨by first | exact Kd.R_nil _ _ _ _ _ | exact Kd.N_nil _ _ _ _ _ | exact Kd.V_nil _ _ _ _ _ | exact Kd.Q_nil _ _ _ _ _ | exact Kd.S_nil _ _ _ _ _⟩, ⟨by repeat (first | (with_reducible first | exact HB.out | apply below_alloc | apply pw_below_drewN | apply below_drew1) | exact HB.out)⟩⟩
  case round =>
    clear H'
    try clear c2
    try clear p2
    obtain ⟨x9_1, x10_1, x11_1, x12_1, x13_1, rfl, rfl, rfl, rfl, HA, HK1, HO_9, HB⟩ := hrel
    cases gk with
    | zero => exact absurd HA.out (by simp [remitterref05_Fold.l0])
    | succ k1 =>
      have H := HA.out
      clear HA
      simp only [remitterref05_Fold.l0] at H
      have HC6 := Aside0.mk H
      clear H
      go_upto_region 7 with (fail)
      go_cut [26] (fun v26 wc => ∃ (kq : Nat) (x26_5 : Bool), v26 = .bool x26_5 ∧ Aside0 (remitterref05_Fold.j1 kq a0 a1 a2 t208 x9_1 x10_1 x11_1 x12_1 x13_1 x26_5 = some (r1, r2)) ∧ Aside0 (kq ≤ k1) ∧ Aside0 (Kd.R Kd.string 9 wc w.heap.size (fun _ => True) u9 x9_1) ∧ Aside0 (Below w.heap.size w wc))
      case first =>
        have H := HC6.out
        clear HC6
        by_cases c7 : x13_1 < (t208.size : Int)
        · rw [if_pos c7] at H
          have c7b0 : decide (x13_1 < (t208.size : Int)) = true := decide_eq_true c7
          clear c7
          (first | rw [c7b0] | (simp only [i64_w, i32_w]; rw [c7b0]) | skip)
          have H' := Aside0.mk H
          clear H
          obtain ⟨Ao8, co8, eo8⟩ := Kd.R_slice HO_9.out
          subst eo8
          go_wp2
          go_meet
          case rel => exact ⟨_, (decide ((x9_1.length : Int) < a2)), (by first | rfl | (simp; done) | (simp [*]; done) | exact congrArg Value.bool (Go.Proofs.Ytjemnphmjbodfaa.GLib.not_isEmpty _) | exact congrArg Value.bool (Go.Proofs.Ytjemnphmjbodfaa.GLib.not_isEmpty _).symm), H', ⟨by have := HK1.out; first | omega | exact Nat.le_refl _⟩, ⟨by (with_reducible repeat (first | apply Kd.R_alloc | apply Kd.R_drewN | apply Kd.R_drew)); exact HO_9.out⟩, ⟨by repeat (first | (with_reducible first | exact HB.out | apply below_alloc | apply pw_below_drewN | apply below_drew1) | exact HB.out)⟩⟩
        · rw [if_neg c7] at H
          have c7b0 : decide (x13_1 < (t208.size : Int)) = false := decide_eq_false c7
          clear c7
          (first | rw [c7b0] | (simp only [i64_w, i32_w]; rw [c7b0]) | skip)
          have H' := Aside0.mk H
          clear H
          go_wp2
          go_meet
          case rel => exact ⟨_, (false), (by first | rfl | (simp; done) | (simp [*]; done) | exact congrArg Value.bool (Go.Proofs.Ytjemnphmjbodfaa.GLib.not_isEmpty _) | exact congrArg Value.bool (Go.Proofs.Ytjemnphmjbodfaa.GLib.not_isEmpty _).symm), H', ⟨by have := HK1.out; first | omega | exact Nat.le_refl _⟩, ⟨by (with_reducible repeat (first | apply Kd.R_alloc | apply Kd.R_drewN | apply Kd.R_drew)); exact HO_9.out⟩, ⟨by repeat (first | (with_reducible first | exact HB.out | apply below_alloc | apply pw_below_drewN | apply below_drew1) | exact HB.out)⟩⟩
      case rest =>
        clear HC6
        try clear c2
        try clear p2
        try clear c7
        try clear c7b0
        try clear p2
        obtain ⟨kq, x26_5, rfl, HA, HJ5, HO_9, HB⟩ := hcut
        cases kq with
        | zero => exact absurd HA.out (by simp [remitterref05_Fold.j1])
        | succ kj5 =>
          have H := HA.out
          clear HA
          simp only [remitterref05_Fold.j1] at H
          by_cases c9 : x26_5 = true
          · subst c9
            have H1 : (if 0 ≤ x13_1 then (if x13_1 ≤ (wrap64 (x13_1 + 1)) then (if (wrap64 (x13_1 + 1)) ≤ (t208.size : Int) then (if x12_1.toList = ([] : List UInt8) then (if (t208.extract (x13_1 : Int).toNat ((wrap64 (x13_1 + 1)) : Int).toNat).toList = ([58] : List UInt8) then (remitterref05_Fold.j2 kj5 a0 a1 a2 t208 x9_1 x10_1 x11_1 x12_1 x13_1 (t208.extract (x13_1 : Int).toNat ((wrap64 (x13_1 + 1)) : Int).toNat) true) else (remitterref05_Fold.j2 kj5 a0 a1 a2 t208 x9_1 x10_1 x11_1 x12_1 x13_1 (t208.extract (x13_1 : Int).toNat ((wrap64 (x13_1 + 1)) : Int).toNat) ((t208.extract (x13_1 : Int).toNat ((wrap64 (x13_1 + 1)) : Int).toNat).toList == ([45] : List UInt8)))) else (remitterref05_Fold.j2 kj5 a0 a1 a2 t208 x9_1 x10_1 x11_1 x12_1 x13_1 (t208.extract (x13_1 : Int).toNat ((wrap64 (x13_1 + 1)) : Int).toNat) false)) else (none)) else (none)) else (none)) = some (r1, r2) := by rw [if_pos rfl] at H; exact H
            clear H
            have H := H1
            clear H1
            by_cases c10 : 0 ≤ x13_1
            · rw [if_pos c10] at H
              have c10b0 := eq_true c10
              have c10b1 : decide (0 ≤ x13_1) = true := decide_eq_true c10
              clear c10
              by_cases c11 : x13_1 ≤ (wrap64 (x13_1 + 1))
              · rw [if_pos c11] at H
                have c11b0 := eq_true c11
                have c11b1 : decide (x13_1 ≤ (wrap64 (x13_1 + 1))) = true := decide_eq_true c11
                by_cases c12 : (wrap64 (x13_1 + 1)) ≤ (t208.size : Int)
                · rw [if_pos c12] at H
                  have c12b0 := eq_true c12
                  have c12b1 : decide ((wrap64 (x13_1 + 1)) ≤ (t208.size : Int)) = true := decide_eq_true c12
                  have HC13 := Aside0.mk H
                  clear H
                  go_upto_region 10 with (fail)
                  go_cut [43] (fun v43 wc => ∃ (kq : Nat) (x43_12 : Bool), v43 = .bool x43_12 ∧ Aside0 (remitterref05_Fold.j2 kq a0 a1 a2 t208 x9_1 x10_1 x11_1 x12_1 x13_1 (t208.extract (x13_1 : Int).toNat ((wrap64 (x13_1 + 1)) : Int).toNat) x43_12 = some (r1, r2)) ∧ Aside0 (kq ≤ kj5) ∧ Aside0 (Kd.R Kd.string 9 wc w.heap.size (fun _ => True) u9 x9_1) ∧ Aside0 (Below w.heap.size w wc))
                  case first =>
                    have H := HC13.out
                    clear HC13
                    by_cases c14 : x12_1.toList = ([] : List UInt8)
                    · rw [if_pos c14] at H
                      have c14b0 : (x12_1.toList == ([] : List UInt8)) = true := beq_iff_eq.mpr c14
                      have c14b1 : (x12_1.toList != ([] : List UInt8)) = false := bne_eq_false_iff_eq.mpr c14
                      clear c14
                      (first | rw [c14b0] | (simp only [i64_w, i32_w]; rw [c14b0]) | skip)
                      by_cases c15 : (t208.extract (x13_1 : Int).toNat ((wrap64 (x13_1 + 1)) : Int).toNat).toList = ([58] : List UInt8)
                      · rw [if_pos c15] at H
                        have c15b0 : ((t208.extract (x13_1 : Int).toNat ((wrap64 (x13_1 + 1)) : Int).toNat).toList == ([58] : List UInt8)) = true := beq_iff_eq.mpr c15
                        have c15b1 : ((t208.extract (x13_1 : Int).toNat ((wrap64 (x13_1 + 1)) : Int).toNat).toList != ([58] : List UInt8)) = false := bne_eq_false_iff_eq.mpr c15
                        clear c15
                        have H' := Aside0.mk H
                        clear H
                        go_wp2
                        go_meet
                        case rel => exact ⟨_, (true), (by first | rfl | (simp; done) | (simp [*]; done) | exact congrArg Value.bool (Go.Proofs.Ytjemnphmjbodfaa.GLib.not_isEmpty _) | exact congrArg Value.bool (Go.Proofs.Ytjemnphmjbodfaa.GLib.not_isEmpty _).symm), H', ⟨by have := HK1.out; have := HJ5.out; first | omega | exact Nat.le_refl _⟩, ⟨by (with_reducible repeat (first | apply Kd.R_alloc | apply Kd.R_drewN | apply Kd.R_drew)); exact HO_9.out⟩, ⟨by repeat (first | (with_reducible first | exact HB.out | apply below_alloc | apply pw_below_drewN | apply below_drew1) | exact HB.out)⟩⟩
                      · rw [if_neg c15] at H
                        have c15b0 : ((t208.extract (x13_1 : Int).toNat ((wrap64 (x13_1 + 1)) : Int).toNat).toList == ([58] : List UInt8)) = false := beq_eq_false_iff_ne.mpr c15
                        have c15b1 : ((t208.extract (x13_1 : Int).toNat ((wrap64 (x13_1 + 1)) : Int).toNat).toList != ([58] : List UInt8)) = true := bne_iff_ne.mpr c15
                        have H' := Aside0.mk H
                        clear H
                        go_wp2
                        go_meet
                        case rel => exact ⟨_, (((t208.extract (x13_1 : Int).toNat ((wrap64 (x13_1 + 1)) : Int).toNat).toList == ([45] : List UInt8))), (by first | rfl | (simp; done) | (simp [*]; done) | exact congrArg Value.bool (Go.Proofs.Ytjemnphmjbodfaa.GLib.not_isEmpty _) | exact congrArg Value.bool (Go.Proofs.Ytjemnphmjbodfaa.GLib.not_isEmpty _).symm), H', ⟨by have := HK1.out; have := HJ5.out; first | omega | exact Nat.le_refl _⟩, ⟨by (with_reducible repeat (first | apply Kd.R_alloc | apply Kd.R_drewN | apply Kd.R_drew)); exact HO_9.out⟩, ⟨by repeat (first | (with_reducible first | exact HB.out | apply below_alloc | apply pw_below_drewN | apply below_drew1) | exact HB.out)⟩⟩
                    · rw [if_neg c14] at H
                      have c14b0 : (x12_1.toList == ([] : List UInt8)) = false := beq_eq_false_iff_ne.mpr c14
                      have c14b1 : (x12_1.toList != ([] : List UInt8)) = true := bne_iff_ne.mpr c14
                      (first | rw [c14b0] | (simp only [i64_w, i32_w]; rw [c14b0]) | skip)
                      have H' := Aside0.mk H
                      clear H
                      go_wp2
                      go_meet
                      case rel => exact ⟨_, (false), (by first | rfl | (simp; done) | (simp [*]; done) | exact congrArg Value.bool (Go.Proofs.Ytjemnphmjbodfaa.GLib.not_isEmpty _) | exact congrArg Value.bool (Go.Proofs.Ytjemnphmjbodfaa.GLib.not_isEmpty _).symm), H', ⟨by have := HK1.out; have := HJ5.out; first | omega | exact Nat.le_refl _⟩, ⟨by (with_reducible repeat (first | apply Kd.R_alloc | apply Kd.R_drewN | apply Kd.R_drew)); exact HO_9.out⟩, ⟨by repeat (first | (with_reducible first | exact HB.out | apply below_alloc | apply pw_below_drewN | apply below_drew1) | exact HB.out)⟩⟩
                  case rest =>
                    clear HC13
                    try clear c1
                    try clear c2
                    try clear p2
                    try clear p6
                    try clear c7
                    try clear c7b0
                    try clear c9
                    try clear c10
                    try clear c10b0
                    try clear c10b1
                    try clear c11
                    try clear c11b0
                    try clear c11b1
                    try clear c12
                    try clear c12b0
                    try clear c12b1
                    try clear c14
                    try clear c14b0
                    try clear c14b1
                    try clear c15
                    try clear c15b0
                    try clear c15b1
                    try clear p2
                    obtain ⟨kq, x43_12, rfl, HA, HJ12, HO_9, HB⟩ := hcut
                    cases kq with
                    | zero => exact absurd HA.out (by simp [remitterref05_Fold.j2])
                    | succ kj12 =>
                      have H := HA.out
                      clear HA
                      simp only [remitterref05_Fold.j2] at H
                      have HC16 := Aside0.mk H
                      clear H
                      go_upto_if 43 with (fail)
                      go_cut [14] (fun v14 wc => ∃ (kq : Nat) (x14_15 : ByteArray), v14 = .string x14_15 ∧ Aside0 (remitterref05_Fold.j3 kq a0 a1 a2 t208 x9_1 x10_1 x11_1 x12_1 x13_1 x14_15 = some (r1, r2)) ∧ Aside0 (kq ≤ kj12) ∧ Aside0 (Kd.R Kd.string 9 wc w.heap.size (fun _ => True) u9 x9_1) ∧ Aside0 (Below w.heap.size w wc))
                      case first =>
                        have H := HC16.out
                        clear HC16
                        by_cases c17 : x43_12 = true
                        · subst c17
                          have H1 : (remitterref05_Fold.j3 kj12 a0 a1 a2 t208 x9_1 x10_1 x11_1 x12_1 x13_1 (⟨#[46]⟩ : ByteArray)) = some (r1, r2) := by rw [if_pos rfl] at H; exact H
                          clear H
                          have H := H1
                          clear H1
                          have H' := Aside0.mk H
                          clear H
                          go_wp2
                          go_meet
                          case rel => exact ⟨_, ((⟨#[46]⟩ : ByteArray)), (by first | rfl | (simp; done) | (simp [*]; done) | exact congrArg Value.bool (Go.Proofs.Ytjemnphmjbodfaa.GLib.not_isEmpty _) | exact congrArg Value.bool (Go.Proofs.Ytjemnphmjbodfaa.GLib.not_isEmpty _).symm), H', ⟨by have := HK1.out; have := HJ5.out; have := HJ12.out; first | omega | exact Nat.le_refl _⟩, ⟨by (with_reducible repeat (first | apply Kd.R_alloc | apply Kd.R_drewN | apply Kd.R_drew)); exact HO_9.out⟩, ⟨by repeat (first | (with_reducible first | exact HB.out | apply below_alloc | apply pw_below_drewN | apply below_drew1) | exact HB.out)⟩⟩
                        · replace c17 := Bool.eq_false_iff.mpr c17
                          subst c17
                          have H1 : (remitterref05_Fold.j3 kj12 a0 a1 a2 t208 x9_1 x10_1 x11_1 x12_1 x13_1 (t208.extract (x13_1 : Int).toNat ((wrap64 (x13_1 + 1)) : Int).toNat)) = some (r1, r2) := by rw [if_neg (show ¬ (false = true) by decide)] at H; exact H
                          clear H
                          have H := H1
                          clear H1
                          have H' := Aside0.mk H
                          clear H
                          go_wp2
                          go_meet
                          case rel => exact ⟨_, ((t208.extract (x13_1 : Int).toNat ((wrap64 (x13_1 + 1)) : Int).toNat)), (by first | rfl | (simp; done) | (simp [*]; done) | exact congrArg Value.bool (Go.Proofs.Ytjemnphmjbodfaa.GLib.not_isEmpty _) | exact congrArg Value.bool (Go.Proofs.Ytjemnphmjbodfaa.GLib.not_isEmpty _).symm), H', ⟨by have := HK1.out; have := HJ5.out; have := HJ12.out; first | omega | exact Nat.le_refl _⟩, ⟨by (with_reducible repeat (first | apply Kd.R_alloc | apply Kd.R_drewN | apply Kd.R_drew)); exact HO_9.out⟩, ⟨by repeat (first | (with_reducible first | exact HB.out | apply below_alloc | apply pw_below_drewN | apply below_drew1) | exact HB.out)⟩⟩
                      case rest =>
                        clear HC16
                        try clear c1
                        try clear c2
                        try clear p2
                        try clear p6
                        try clear c7
                        try clear c7b0
                        try clear c9
                        try clear c10
                        try clear c10b0
                        try clear c10b1
                        try clear c11
                        try clear c11b0
                        try clear c11b1
                        try clear c12
                        try clear c12b0
                        try clear c12b1
                        try clear c14
                        try clear c14b0
                        try clear c14b1
                        try clear c15
                        try clear c15b0
                        try clear c15b1
                        try clear c17
                        try clear p2
                        try clear p6
                        obtain ⟨kq, x14_15, rfl, HA, HJ15, HO_9, HB⟩ := hcut
                        cases kq with
                        | zero => exact absurd HA.out (by simp [remitterref05_Fold.j3])
                        | succ kj15 =>
                          have H := HA.out
                          clear HA
                          simp only [remitterref05_Fold.j3] at H
                          have HC18 := Aside0.mk H
                          clear H
                          go_upto_region 12 with (fail)
                          go_cut [11] (fun v11 wc => ∃ (kq : Nat) (x11_17 : Bool), v11 = .bool x11_17 ∧ Aside0 (remitterref05_Fold.j4 kq a0 a1 a2 t208 x9_1 x10_1 x11_17 x12_1 x13_1 x14_15 = some (r1, r2)) ∧ Aside0 (kq ≤ kj15) ∧ Aside0 (Kd.R Kd.string 9 wc w.heap.size (fun _ => True) u9 x9_1) ∧ Aside0 (Below w.heap.size w wc))
                          case first =>
                            have H := HC18.out
                            clear HC18
                            by_cases c19 : x11_1 = true
                            · subst c19
                              have H1 : (if x13_1 < (a0.size : Int) then (if 0 ≤ x13_1 then (if x13_1 ≤ (wrap64 (x13_1 + 1)) then (if (wrap64 (x13_1 + 1)) ≤ (a0.size : Int) then (remitterref05_Fold.j4 kj15 a0 a1 a2 t208 x9_1 x10_1 ((a0.extract (x13_1 : Int).toNat ((wrap64 (x13_1 + 1)) : Int).toNat).toList == x14_15.toList) x12_1 x13_1 x14_15) else (none)) else (none)) else (none)) else (remitterref05_Fold.j4 kj15 a0 a1 a2 t208 x9_1 x10_1 false x12_1 x13_1 x14_15)) = some (r1, r2) := by rw [if_pos rfl] at H; exact H
                              clear H
                              have H := H1
                              clear H1
                              by_cases c20 : x13_1 < (a0.size : Int)
                              · rw [if_pos c20] at H
                                have c20b0 : decide (x13_1 < (a0.size : Int)) = true := decide_eq_true c20
                                clear c20
                                (first | rw [c20b0] | (simp only [i64_w, i32_w]; rw [c20b0]) | skip)
                                by_cases c21 : 0 ≤ x13_1
                                · rw [if_pos c21] at H
                                  have c21b0 := eq_true c21
                                  have c21b1 : decide (0 ≤ x13_1) = true := decide_eq_true c21
                                  clear c21
                                  by_cases c22 : x13_1 ≤ (wrap64 (x13_1 + 1))
                                  · rw [if_pos c22] at H
                                    have c22b0 := eq_true c22
                                    have c22b1 : decide (x13_1 ≤ (wrap64 (x13_1 + 1))) = true := decide_eq_true c22
                                    by_cases c23 : (wrap64 (x13_1 + 1)) ≤ (a0.size : Int)
                                    · rw [if_pos c23] at H
                                      have c23b0 := eq_true c23
                                      have c23b1 : decide ((wrap64 (x13_1 + 1)) ≤ (a0.size : Int)) = true := decide_eq_true c23
                                      have H' := Aside0.mk H
                                      clear H
                                      go_wp2
                                      go_meet
                                      case rel => exact ⟨_, (((a0.extract (x13_1 : Int).toNat ((wrap64 (x13_1 + 1)) : Int).toNat).toList == x14_15.toList)), (by first | rfl | (simp; done) | (simp [*]; done) | exact congrArg Value.bool (Go.Proofs.Ytjemnphmjbodfaa.GLib.not_isEmpty _) | exact congrArg Value.bool (Go.Proofs.Ytjemnphmjbodfaa.GLib.not_isEmpty _).symm), H', ⟨by have := HK1.out; have := HJ5.out; have := HJ12.out; have := HJ15.out; first | omega | exact Nat.le_refl _⟩, ⟨by (with_reducible repeat (first | apply Kd.R_alloc | apply Kd.R_drewN | apply Kd.R_drew)); exact HO_9.out⟩, ⟨by repeat (first | (with_reducible first | exact HB.out | apply below_alloc | apply pw_below_drewN | apply below_drew1) | exact HB.out)⟩⟩
                                    · rw [if_neg c23] at H
                                      exact absurd H (by simp)
                                  · rw [if_neg c22] at H
                                    exact absurd H (by simp)
                                · rw [if_neg c21] at H
                                  exact absurd H (by simp)
                              · rw [if_neg c20] at H
                                have c20b0 : decide (x13_1 < (a0.size : Int)) = false := decide_eq_false c20
                                clear c20
                                (first | rw [c20b0] | (simp only [i64_w, i32_w]; rw [c20b0]) | skip)
                                have H' := Aside0.mk H
                                clear H
                                go_wp2
                                go_meet
                                case rel => exact ⟨_, (false), (by first | rfl | (simp; done) | (simp [*]; done) | exact congrArg Value.bool (Go.Proofs.Ytjemnphmjbodfaa.GLib.not_isEmpty _) | exact congrArg Value.bool (Go.Proofs.Ytjemnphmjbodfaa.GLib.not_isEmpty _).symm), H', ⟨by have := HK1.out; have := HJ5.out; have := HJ12.out; have := HJ15.out; first | omega | exact Nat.le_refl _⟩, ⟨by (with_reducible repeat (first | apply Kd.R_alloc | apply Kd.R_drewN | apply Kd.R_drew)); exact HO_9.out⟩, ⟨by repeat (first | (with_reducible first | exact HB.out | apply below_alloc | apply pw_below_drewN | apply below_drew1) | exact HB.out)⟩⟩
                            · replace c19 := Bool.eq_false_iff.mpr c19
                              subst c19
                              have H1 : (remitterref05_Fold.j4 kj15 a0 a1 a2 t208 x9_1 x10_1 false x12_1 x13_1 x14_15) = some (r1, r2) := by rw [if_neg (show ¬ (false = true) by decide)] at H; exact H
                              clear H
                              have H := H1
                              clear H1
                              have H' := Aside0.mk H
                              clear H
                              go_wp2
                              go_meet
                              case rel => exact ⟨_, (false), (by first | rfl | (simp; done) | (simp [*]; done) | exact congrArg Value.bool (Go.Proofs.Ytjemnphmjbodfaa.GLib.not_isEmpty _) | exact congrArg Value.bool (Go.Proofs.Ytjemnphmjbodfaa.GLib.not_isEmpty _).symm), H', ⟨by have := HK1.out; have := HJ5.out; have := HJ12.out; have := HJ15.out; first | omega | exact Nat.le_refl _⟩, ⟨by (with_reducible repeat (first | apply Kd.R_alloc | apply Kd.R_drewN | apply Kd.R_drew)); exact HO_9.out⟩, ⟨by repeat (first | (with_reducible first | exact HB.out | apply below_alloc | apply pw_below_drewN | apply below_drew1) | exact HB.out)⟩⟩
                          case rest =>
                            clear HC18
                            try clear c1
                            try clear c2
                            try clear p2
                            try clear p6
                            try clear c7
                            try clear c7b0
                            try clear c9
                            try clear c10
                            try clear c10b0
                            try clear c10b1
                            try clear c11
                            try clear c11b0
                            try clear c11b1
                            try clear c12
                            try clear c12b0
                            try clear c12b1
                            try clear c14
                            try clear c14b0
                            try clear c14b1
                            try clear c15
                            try clear c15b0
                            try clear c15b1
                            try clear c17
                            try clear c19
                            try clear c20
                            try clear c20b0
                            try clear c21
                            try clear c21b0
                            try clear c21b1
                            try clear c22
                            try clear c22b0
                            try clear c22b1
                            try clear c23
                            try clear c23b0
                            try clear c23b1
                            try clear p2
                            try clear p6
                            obtain ⟨kq, x11_17, rfl, HA, HJ17, HO_9, HB⟩ := hcut
                            cases kq with
                            | zero => exact absurd HA.out (by simp [remitterref05_Fold.j4])
                            | succ kj17 =>
                              have H := HA.out
                              clear HA
                              simp only [remitterref05_Fold.j4] at H
                              by_cases c24 : x11_17 = true
                              · subst c24
                                have H1 : (if x12_1.size + x14_15.size ≤ 9223372036854775807 then (if ((x12_1 ++ x14_15).size : Int) = a1 then (if x9_1.length < 8796093022208 then (remitterref05_Fold.l0 kj17 a0 a1 a2 t208 (x9_1 ++ [x12_1 ++ x14_15]) (wrap64 (x10_1 + 1)) true (⟨#[]⟩ : ByteArray) (wrap64 (x13_1 + 1))) else (none)) else (remitterref05_Fold.l0 kj17 a0 a1 a2 t208 x9_1 (wrap64 (x10_1 + 1)) true (x12_1 ++ x14_15) (wrap64 (x13_1 + 1)))) else (none)) = some (r1, r2) := by rw [if_pos rfl] at H; exact H
                                clear H
                                have H := H1
                                clear H1
                                by_cases c25 : x12_1.size + x14_15.size ≤ 9223372036854775807
                                · rw [if_pos c25] at H
                                  have c25b0 := eq_true c25
                                  have c25b1 : decide (x12_1.size + x14_15.size ≤ 9223372036854775807) = true := decide_eq_true c25
                                  try have c25b2 : (9223372036854775807 < x12_1.size + x14_15.size) = False := eq_false (Nat.not_lt.2 c25)
                                  by_cases c26 : ((x12_1 ++ x14_15).size : Int) = a1
                                  · rw [if_pos c26] at H
                                    have c26b0 : (((x12_1 ++ x14_15).size : Int) == a1) = true := beq_iff_eq.mpr c26
                                    try have c26b8 : ((x12_1.size : Int) + (x14_15.size : Int) == a1) = true := by (have cq_ := c26b0; rw [ByteArray.size_append, Int.natCast_add] at cq_; exact cq_)
                                    have c26b1 : (((x12_1 ++ x14_15).size : Int) != a1) = false := bne_eq_false_iff_eq.mpr c26
                                    try have c26b9 : ((x12_1.size : Int) + (x14_15.size : Int) != a1) = false := by (have cq_ := c26b1; rw [ByteArray.size_append, Int.natCast_add] at cq_; exact cq_)
                                    clear c26
                                    by_cases c27 : x9_1.length < 8796093022208
                                    · rw [if_pos c27] at H
                                      have LMc27 := Aside0.mk c27
                                      clear c27
                                      obtain ⟨y212, hy212⟩ : ∃ y_ : List ByteArray, y_ = (x9_1 ++ [x12_1 ++ x14_15]) := ⟨_, rfl⟩
                                      replace H : (remitterref05_Fold.l0 kj17 a0 a1 a2 t208 y212 (wrap64 (x10_1 + 1)) true (⟨#[]⟩ : ByteArray) (wrap64 (x13_1 + 1))) = some (r1, r2) := by first | (rw [hy212]; with_reducible exact H) | (have H2_ := (Option.bind_some _ _).symm.trans H; rw [hy212]; with_reducible exact H2_) | (have H2_ := (Option.bind_some _ _).symm.trans H; with_reducible exact H2_) | with_reducible exact H | (rw [hy212]; exact H) | exact H
                                      have Ny212 := Aside0.mk hy212
                                      clear hy212
                                      have H' := Aside0.mk H
                                      clear H
                                      go_wp2_with (first | ((with_reducible refine gate_builtin (b := .append) (xs := #[.tmp 70, .tmp 72]) rfl ?_); (try (refine gate_guard (by rfl) ?_; dsimp only)); at_builtin; refine Kd.R_append Kd.string (w0 := w) w.heap.size rfl (.tmp 70) (.tmp 72) 35 9 (.string ⟨#[]⟩) 16 rfl Try.underlying35 info9 rfl (by decide) (by omega) u9 x9_1 (x12_1 ++ x14_15) [.string (x12_1 ++ x14_15)] (fun _ => True) (fun _ => False) rfl rfl ?aP (fun _ hk => hk.elim) ?aF ?aO ?aB ?aS ?aL ?_; (case aP => exact rfl); (case aB => exact (by repeat (first | (with_reducible first | exact HB.out | apply below_alloc | apply pw_below_drewN | apply below_drew1) | exact HB.out))); (case aF => exact (fun _ _ => trivial)); (case aO => exact (by (with_reducible repeat (first | apply Kd.R_alloc | apply Kd.R_drewN | apply Kd.R_drew)); exact HO_9.out)); (case aS => exact (below_size (by repeat (first | (with_reducible first | exact HB.out | apply below_alloc | apply pw_below_drewN | apply below_drew1) | exact HB.out)))); (case aL => have := LMc27.out; omega); intro v213 w28 ho hb hg hat; rw [← Ny212.out] at ho; have n0_ := Aside0.mk (hb); have n1_ := Aside0.mk (ho); clear HB; clear HO_9; have HB := n0_; have HO214 := n1_; clear n0_ n1_; clear ho hb hg hat))
                                      go_roundg kj17
                                      case measure => have := HK1.out; have := HJ5.out; have := HJ12.out; have := HJ15.out; have := HJ17.out; omega
                                      case rel => exact ⟨(y212), (wrap64 (x10_1 + 1)), (true), ((⟨#[]⟩ : ByteArray)), (wrap64 (x13_1 + 1)), (by first | rfl | (simp; done) | (simp [*]; done) | exact congrArg Value.bool (Go.Proofs.Ytjemnphmjbodfaa.GLib.not_isEmpty _) | exact congrArg Value.bool (Go.Proofs.Ytjemnphmjbodfaa.GLib.not_isEmpty _).symm), (by first | rfl | (simp; done) | (simp [*]; done) | exact congrArg Value.bool (Go.Proofs.Ytjemnphmjbodfaa.GLib.not_isEmpty _) | exact congrArg Value.bool (Go.Proofs.Ytjemnphmjbodfaa.GLib.not_isEmpty _).symm), (by first | rfl | (simp; done) | (simp [*]; done) | exact congrArg Value.bool (Go.Proofs.Ytjemnphmjbodfaa.GLib.not_isEmpty _) | exact congrArg Value.bool (Go.Proofs.Ytjemnphmjbodfaa.GLib.not_isEmpty _).symm), (by first | rfl | (simp; done) | (simp [*]; done) | exact congrArg Value.bool (Go.Proofs.Ytjemnphmjbodfaa.GLib.not_isEmpty _) | exact congrArg Value.bool (Go.Proofs.Ytjemnphmjbodfaa.GLib.not_isEmpty _).symm), H', ⟨by have := HK1.out; have := HJ5.out; have := HJ12.out; have := HJ15.out; have := HJ17.out; omega⟩, ⟨by (with_reducible repeat (first | apply Kd.R_alloc | apply Kd.R_drewN | apply Kd.R_drew)); exact HO214.out⟩, ⟨by repeat (first | (with_reducible first | exact HB.out | apply below_alloc | apply pw_below_drewN | apply below_drew1) | exact HB.out)⟩⟩
                                    · rw [if_neg c27] at H
                                      exact absurd H (by simp)
                                  · rw [if_neg c26] at H
                                    have c26b0 : (((x12_1 ++ x14_15).size : Int) == a1) = false := beq_eq_false_iff_ne.mpr c26
                                    try have c26b8 : ((x12_1.size : Int) + (x14_15.size : Int) == a1) = false := by (have cq_ := c26b0; rw [ByteArray.size_append, Int.natCast_add] at cq_; exact cq_)
                                    have c26b1 : (((x12_1 ++ x14_15).size : Int) != a1) = true := bne_iff_ne.mpr c26
                                    try have c26b9 : ((x12_1.size : Int) + (x14_15.size : Int) != a1) = true := by (have cq_ := c26b1; rw [ByteArray.size_append, Int.natCast_add] at cq_; exact cq_)
                                    have H' := Aside0.mk H
                                    clear H
                                    go_wp2
                                    go_roundg kj17
                                    case measure => have := HK1.out; have := HJ5.out; have := HJ12.out; have := HJ15.out; have := HJ17.out; omega
                                    case rel => exact ⟨(x9_1), (wrap64 (x10_1 + 1)), (true), (x12_1 ++ x14_15), (wrap64 (x13_1 + 1)), (by first | rfl | (simp; done) | (simp [*]; done) | exact congrArg Value.bool (Go.Proofs.Ytjemnphmjbodfaa.GLib.not_isEmpty _) | exact congrArg Value.bool (Go.Proofs.Ytjemnphmjbodfaa.GLib.not_isEmpty _).symm), (by first | rfl | (simp; done) | (simp [*]; done) | exact congrArg Value.bool (Go.Proofs.Ytjemnphmjbodfaa.GLib.not_isEmpty _) | exact congrArg Value.bool (Go.Proofs.Ytjemnphmjbodfaa.GLib.not_isEmpty _).symm), (by first | rfl | (simp; done) | (simp [*]; done) | exact congrArg Value.bool (Go.Proofs.Ytjemnphmjbodfaa.GLib.not_isEmpty _) | exact congrArg Value.bool (Go.Proofs.Ytjemnphmjbodfaa.GLib.not_isEmpty _).symm), (by first | rfl | (simp; done) | (simp [*]; done) | exact congrArg Value.bool (Go.Proofs.Ytjemnphmjbodfaa.GLib.not_isEmpty _) | exact congrArg Value.bool (Go.Proofs.Ytjemnphmjbodfaa.GLib.not_isEmpty _).symm), H', ⟨by have := HK1.out; have := HJ5.out; have := HJ12.out; have := HJ15.out; have := HJ17.out; omega⟩, ⟨by (with_reducible repeat (first | apply Kd.R_alloc | apply Kd.R_drewN | apply Kd.R_drew)); exact HO_9.out⟩, ⟨by repeat (first | (with_reducible first | exact HB.out | apply below_alloc | apply pw_below_drewN | apply below_drew1) | exact HB.out)⟩⟩
                                · rw [if_neg c25] at H
                                  exact absurd H (by simp)
                              · replace c24 := Bool.eq_false_iff.mpr c24
                                subst c24
                                have H1 : (if x12_1.size + x14_15.size ≤ 9223372036854775807 then (if ((x12_1 ++ x14_15).size : Int) = a1 then (if x9_1.length < 8796093022208 then (remitterref05_Fold.l0 kj17 a0 a1 a2 t208 (x9_1 ++ [x12_1 ++ x14_15]) x10_1 false (⟨#[]⟩ : ByteArray) (wrap64 (x13_1 + 1))) else (none)) else (remitterref05_Fold.l0 kj17 a0 a1 a2 t208 x9_1 x10_1 false (x12_1 ++ x14_15) (wrap64 (x13_1 + 1)))) else (none)) = some (r1, r2) := by rw [if_neg (show ¬ (false = true) by decide)] at H; exact H
                                clear H
                                have H := H1
                                clear H1
                                by_cases c29 : x12_1.size + x14_15.size ≤ 9223372036854775807
                                · rw [if_pos c29] at H
                                  have c29b0 := eq_true c29
                                  have c29b1 : decide (x12_1.size + x14_15.size ≤ 9223372036854775807) = true := decide_eq_true c29
                                  try have c29b2 : (9223372036854775807 < x12_1.size + x14_15.size) = False := eq_false (Nat.not_lt.2 c29)
                                  by_cases c30 : ((x12_1 ++ x14_15).size : Int) = a1
                                  · rw [if_pos c30] at H
                                    have c30b0 : (((x12_1 ++ x14_15).size : Int) == a1) = true := beq_iff_eq.mpr c30
                                    try have c30b8 : ((x12_1.size : Int) + (x14_15.size : Int) == a1) = true := by (have cq_ := c30b0; rw [ByteArray.size_append, Int.natCast_add] at cq_; exact cq_)
                                    have c30b1 : (((x12_1 ++ x14_15).size : Int) != a1) = false := bne_eq_false_iff_eq.mpr c30
                                    try have c30b9 : ((x12_1.size : Int) + (x14_15.size : Int) != a1) = false := by (have cq_ := c30b1; rw [ByteArray.size_append, Int.natCast_add] at cq_; exact cq_)
                                    clear c30
                                    by_cases c31 : x9_1.length < 8796093022208
                                    · rw [if_pos c31] at H
                                      have LMc31 := Aside0.mk c31
                                      clear c31
                                      obtain ⟨y215, hy215⟩ : ∃ y_ : List ByteArray, y_ = (x9_1 ++ [x12_1 ++ x14_15]) := ⟨_, rfl⟩
                                      replace H : (remitterref05_Fold.l0 kj17 a0 a1 a2 t208 y215 x10_1 false (⟨#[]⟩ : ByteArray) (wrap64 (x13_1 + 1))) = some (r1, r2) := by first | (rw [hy215]; with_reducible exact H) | (have H2_ := (Option.bind_some _ _).symm.trans H; rw [hy215]; with_reducible exact H2_) | (have H2_ := (Option.bind_some _ _).symm.trans H; with_reducible exact H2_) | with_reducible exact H | (rw [hy215]; exact H) | exact H
                                      have Ny215 := Aside0.mk hy215
                                      clear hy215
                                      have H' := Aside0.mk H
                                      clear H
                                      go_wp2_with (first | ((with_reducible refine gate_builtin (b := .append) (xs := #[.tmp 70, .tmp 72]) rfl ?_); (try (refine gate_guard (by rfl) ?_; dsimp only)); at_builtin; refine Kd.R_append Kd.string (w0 := w) w.heap.size rfl (.tmp 70) (.tmp 72) 35 9 (.string ⟨#[]⟩) 16 rfl Try.underlying35 info9 rfl (by decide) (by omega) u9 x9_1 (x12_1 ++ x14_15) [.string (x12_1 ++ x14_15)] (fun _ => True) (fun _ => False) rfl rfl ?aP (fun _ hk => hk.elim) ?aF ?aO ?aB ?aS ?aL ?_; (case aP => exact rfl); (case aB => exact (by repeat (first | (with_reducible first | exact HB.out | apply below_alloc | apply pw_below_drewN | apply below_drew1) | exact HB.out))); (case aF => exact (fun _ _ => trivial)); (case aO => exact (by (with_reducible repeat (first | apply Kd.R_alloc | apply Kd.R_drewN | apply Kd.R_drew)); exact HO_9.out)); (case aS => exact (below_size (by repeat (first | (with_reducible first | exact HB.out | apply below_alloc | apply pw_below_drewN | apply below_drew1) | exact HB.out)))); (case aL => have := LMc31.out; omega); intro v216 w32 ho hb hg hat; rw [← Ny215.out] at ho; have n0_ := Aside0.mk (hb); have n1_ := Aside0.mk (ho); clear HB; clear HO_9; have HB := n0_; have HO217 := n1_; clear n0_ n1_; clear ho hb hg hat))
                                      go_roundg kj17
                                      case measure => have := HK1.out; have := HJ5.out; have := HJ12.out; have := HJ15.out; have := HJ17.out; omega
                                      case rel => exact ⟨(y215), (x10_1), (false), ((⟨#[]⟩ : ByteArray)), (wrap64 (x13_1 + 1)), (by first | rfl | (simp; done) | (simp [*]; done) | exact congrArg Value.bool (Go.Proofs.Ytjemnphmjbodfaa.GLib.not_isEmpty _) | exact congrArg Value.bool (Go.Proofs.Ytjemnphmjbodfaa.GLib.not_isEmpty _).symm), (by first | rfl | (simp; done) | (simp [*]; done) | exact congrArg Value.bool (Go.Proofs.Ytjemnphmjbodfaa.GLib.not_isEmpty _) | exact congrArg Value.bool (Go.Proofs.Ytjemnphmjbodfaa.GLib.not_isEmpty _).symm), (by first | rfl | (simp; done) | (simp [*]; done) | exact congrArg Value.bool (Go.Proofs.Ytjemnphmjbodfaa.GLib.not_isEmpty _) | exact congrArg Value.bool (Go.Proofs.Ytjemnphmjbodfaa.GLib.not_isEmpty _).symm), (by first | rfl | (simp; done) | (simp [*]; done) | exact congrArg Value.bool (Go.Proofs.Ytjemnphmjbodfaa.GLib.not_isEmpty _) | exact congrArg Value.bool (Go.Proofs.Ytjemnphmjbodfaa.GLib.not_isEmpty _).symm), H', ⟨by have := HK1.out; have := HJ5.out; have := HJ12.out; have := HJ15.out; have := HJ17.out; omega⟩, ⟨by (with_reducible repeat (first | apply Kd.R_alloc | apply Kd.R_drewN | apply Kd.R_drew)); exact HO217.out⟩, ⟨by repeat (first | (with_reducible first | exact HB.out | apply below_alloc | apply pw_below_drewN | apply below_drew1) | exact HB.out)⟩⟩
                                    · rw [if_neg c31] at H
                                      exact absurd H (by simp)
                                  · rw [if_neg c30] at H
                                    have c30b0 : (((x12_1 ++ x14_15).size : Int) == a1) = false := beq_eq_false_iff_ne.mpr c30
                                    try have c30b8 : ((x12_1.size : Int) + (x14_15.size : Int) == a1) = false := by (have cq_ := c30b0; rw [ByteArray.size_append, Int.natCast_add] at cq_; exact cq_)
                                    have c30b1 : (((x12_1 ++ x14_15).size : Int) != a1) = true := bne_iff_ne.mpr c30
                                    try have c30b9 : ((x12_1.size : Int) + (x14_15.size : Int) != a1) = true := by (have cq_ := c30b1; rw [ByteArray.size_append, Int.natCast_add] at cq_; exact cq_)
                                    have H' := Aside0.mk H
                                    clear H
                                    go_wp2
                                    go_roundg kj17
                                    case measure => have := HK1.out; have := HJ5.out; have := HJ12.out; have := HJ15.out; have := HJ17.out; omega
                                    case rel => exact ⟨(x9_1), (x10_1), (false), (x12_1 ++ x14_15), (wrap64 (x13_1 + 1)), (by first | rfl | (simp; done) | (simp [*]; done) | exact congrArg Value.bool (Go.Proofs.Ytjemnphmjbodfaa.GLib.not_isEmpty _) | exact congrArg Value.bool (Go.Proofs.Ytjemnphmjbodfaa.GLib.not_isEmpty _).symm), (by first | rfl | (simp; done) | (simp [*]; done) | exact congrArg Value.bool (Go.Proofs.Ytjemnphmjbodfaa.GLib.not_isEmpty _) | exact congrArg Value.bool (Go.Proofs.Ytjemnphmjbodfaa.GLib.not_isEmpty _).symm), (by first | rfl | (simp; done) | (simp [*]; done) | exact congrArg Value.bool (Go.Proofs.Ytjemnphmjbodfaa.GLib.not_isEmpty _) | exact congrArg Value.bool (Go.Proofs.Ytjemnphmjbodfaa.GLib.not_isEmpty _).symm), (by first | rfl | (simp; done) | (simp [*]; done) | exact congrArg Value.bool (Go.Proofs.Ytjemnphmjbodfaa.GLib.not_isEmpty _) | exact congrArg Value.bool (Go.Proofs.Ytjemnphmjbodfaa.GLib.not_isEmpty _).symm), H', ⟨by have := HK1.out; have := HJ5.out; have := HJ12.out; have := HJ15.out; have := HJ17.out; omega⟩, ⟨by (with_reducible repeat (first | apply Kd.R_alloc | apply Kd.R_drewN | apply Kd.R_drew)); exact HO_9.out⟩, ⟨by repeat (first | (with_reducible first | exact HB.out | apply below_alloc | apply pw_below_drewN | apply below_drew1) | exact HB.out)⟩⟩
                                · rw [if_neg c29] at H
                                  exact absurd H (by simp)
                · rw [if_neg c12] at H
                  exact absurd H (by simp)
              · rw [if_neg c11] at H
                exact absurd H (by simp)
            · rw [if_neg c10] at H
              exact absurd H (by simp)
          · replace c9 := Bool.eq_false_iff.mpr c9
            subst c9
            have H1 : (if x12_1.toList = ([] : List UInt8) then (some (x9_1, x10_1)) else (if x9_1.length < 8796093022208 then (some ((x9_1 ++ [x12_1]), x10_1)) else (none))) = some (r1, r2) := by rw [if_neg (show ¬ (false = true) by decide)] at H; exact H
            clear H
            have H := H1
            clear H1
            by_cases c33 : x12_1.toList = ([] : List UInt8)
            · rw [if_pos c33] at H
              have c33b0 : (x12_1.toList == ([] : List UInt8)) = true := beq_iff_eq.mpr c33
              have c33b1 : (x12_1.toList != ([] : List UInt8)) = false := bne_eq_false_iff_eq.mpr c33
              clear c33
              simp only [Option.some.injEq, Prod.mk.injEq] at H
              obtain ⟨rfl, rfl⟩ := H
              go_wp2
              go_ret2
              exact ⟨_, by first | rfl | (simp [errW_none, errW_some] <;> rfl) | (simp [*, errW_none, errW_some] <;> rfl), by (with_reducible repeat (first | apply Kd.R_alloc | apply Kd.R_drewN | apply Kd.R_drew)); exact HO_9.out, by repeat (first | (with_reducible first | exact HB.out | apply below_alloc | apply pw_below_drewN | apply below_drew1) | exact HB.out)⟩
            · rw [if_neg c33] at H
              have c33b0 : (x12_1.toList == ([] : List UInt8)) = false := beq_eq_false_iff_ne.mpr c33
              have c33b1 : (x12_1.toList != ([] : List UInt8)) = true := bne_iff_ne.mpr c33
              by_cases c34 : x9_1.length < 8796093022208
              · rw [if_pos c34] at H
                have LMc34 := Aside0.mk c34
                clear c34
                obtain ⟨y209, hy209⟩ : ∃ y_ : List ByteArray, y_ = (x9_1 ++ [x12_1]) := ⟨_, rfl⟩
                replace H : (some (y209, x10_1)) = some (r1, r2) := by first | (rw [hy209]; with_reducible exact H) | (have H2_ := (Option.bind_some _ _).symm.trans H; rw [hy209]; with_reducible exact H2_) | (have H2_ := (Option.bind_some _ _).symm.trans H; with_reducible exact H2_) | with_reducible exact H | (rw [hy209]; exact H) | exact H
                have Ny209 := Aside0.mk hy209
                clear hy209
                simp only [Option.some.injEq, Prod.mk.injEq] at H
                obtain ⟨rfl, rfl⟩ := H
                go_wp2_with (first | ((with_reducible refine gate_builtin (b := .append) (xs := #[.tmp 76, .tmp 78]) rfl ?_); (try (refine gate_guard (by rfl) ?_; dsimp only)); at_builtin; refine Kd.R_append Kd.string (w0 := w) w.heap.size rfl (.tmp 76) (.tmp 78) 35 9 (.string ⟨#[]⟩) 16 rfl Try.underlying35 info9 rfl (by decide) (by omega) u9 x9_1 x12_1 [.string x12_1] (fun _ => True) (fun _ => False) rfl rfl ?aP (fun _ hk => hk.elim) ?aF ?aO ?aB ?aS ?aL ?_; (case aP => exact rfl); (case aB => exact (by repeat (first | (with_reducible first | exact HB.out | apply below_alloc | apply pw_below_drewN | apply below_drew1) | exact HB.out))); (case aF => exact (fun _ _ => trivial)); (case aO => exact (by (with_reducible repeat (first | apply Kd.R_alloc | apply Kd.R_drewN | apply Kd.R_drew)); exact HO_9.out)); (case aS => exact (below_size (by repeat (first | (with_reducible first | exact HB.out | apply below_alloc | apply pw_below_drewN | apply below_drew1) | exact HB.out)))); (case aL => have := LMc34.out; omega); intro v210 w35 ho hb hg hat; rw [← Ny209.out] at ho; have n0_ := Aside0.mk (hb); have n1_ := Aside0.mk (ho); clear HB; clear HO_9; have HB := n0_; have HO211 := n1_; clear n0_ n1_; clear ho hb hg hat))
                go_ret2
                exact ⟨_, by first | rfl | (simp [errW_none, errW_some] <;> rfl) | (simp [*, errW_none, errW_some] <;> rfl), by (with_reducible repeat (first | apply Kd.R_alloc | apply Kd.R_drewN | apply Kd.R_drew)); exact HO211.out, by repeat (first | (with_reducible first | exact HB.out | apply below_alloc | apply pw_below_drewN | apply below_drew1) | exact HB.out)⟩
              · rw [if_neg c34] at H
                exact absurd H (by simp)

end Go.Proofs.Ytjemnphmjbodfaa.PAll

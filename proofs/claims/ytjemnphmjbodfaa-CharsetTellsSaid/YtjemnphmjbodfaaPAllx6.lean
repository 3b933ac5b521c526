-- Made by this session's wip/tools/gprint.py, which runs the kit's print program; some functions' contracts are proved by hand.
import Derived.Test.YtjemnphmjbodfaaPAllx0
import Derived.Test.YtjemnphmjbodfaaPAllx4
import Derived.Test.YtjemnphmjbodfaaPAllx5
import Derived.Test.YtjemnphmjbodfaaGCheck
import Derived.Test.YtjemnphmjbodfaaGSubst
import Derived.Test.YtjemnphmjbodfaaGJoin
namespace Go.Proofs.Ytjemnphmjbodfaa.PAll
open Go.RowKit Go.Proofs.YtjemnphmjbodfaaW.PrintWords Go.Proofs.YtjemnphmjbodfaaW.PrintLast Go.Proofs.YtjemnphmjbodfaaW.PrintMore
attribute [local go_sem] max2_int min2_int max_two min_two max_three min_three max_four min_four   -- for this text's walks alone
set_option linter.unusedVariables false
set_option linter.unusedSimpArgs false

/-! ### remitterlaw05_CharsetTells: function 6 -/
mutual
def remitterlaw05_CharsetTells.j0 : Nat → Int → ByteArray → Int → Int → Bool → Option (Bool)
  | 0, _, _, _, _, _ => none
  | k + 1, x0, x1, x5, x6, x36 => if x36 = true then (some false) else (if x0 = 88 then (remitterlaw05_CharsetTells.j1 k x0 x1 x5 x6 false) else (if x0 = 89 then (remitterlaw05_CharsetTells.j1 k x0 x1 x5 x6 false) else (remitterlaw05_CharsetTells.j1 k x0 x1 x5 x6 (x0 != 90))))
def remitterlaw05_CharsetTells.j1 : Nat → Int → ByteArray → Int → Int → Bool → Option (Bool)
  | 0, _, _, _, _, _ => none
  | k + 1, x0, x1, x5, x6, x46 => if x46 = true then (if x6 = 1 then (if x5 = 0 then ((remitterlaw05_wakes.f).bind fun t202 => (some t202)) else (some false)) else (some false)) else (remitterlaw05_CharsetTells.l0 k x0 x1 x5 x6 0)
def remitterlaw05_CharsetTells.l0 : Nat → Int → ByteArray → Int → Int → Int → Option (Bool)
  | 0, _, _, _, _, _ => none
  | k + 1, x0, x1, x5, x6, x7 => if x7 < (x1.size : Int) then (if 0 ≤ x7 then ((remitterref05_In.f k x0 (bt x1 x7)).bind fun t203 => (if t203 = true then (remitterlaw05_CharsetTells.l0 k x0 x1 x5 x6 (wrap64 (x7 + 1))) else (if x5 = x7 then (if ((x6 == 0) == (x7 == (x1.size : Int))) = true then (if x6 = 0 then ((remitterlaw05_wakes.f).bind fun t204 => (some t204)) else (if x6 = 15 then ((remitterlaw05_wakes.f).bind fun t205 => (some t205)) else (some false))) else (some false)) else (some false)))) else (none)) else (if x5 = x7 then (if ((x6 == 0) == (x7 == (x1.size : Int))) = true then (if x6 = 0 then ((remitterlaw05_wakes.f).bind fun t206 => (some t206)) else (if x6 = 15 then ((remitterlaw05_wakes.f).bind fun t207 => (some t207)) else (some false))) else (some false)) else (some false))
end
def remitterlaw05_CharsetTells.f (k : Nat) (a0 : Int) (a1 : ByteArray) : Option (Bool) := if (a1.size : Int) > 2000 then ((remitterlaw05_wakes.f).bind fun t192 => (some t192)) else ((charset_Check.f a0 a1).bind fun bt193 => ((charset_Substitute.f a1).bind fun t195 => ((remitterref05_Substitute.f k a1).bind fun t196 => (if t195.toList = t196.toList then ((charset_Join.f (([a1, (⟨#[]⟩ : ByteArray), a1] : List ByteArray))).bind fun t200 => (if a1.size + a1.size ≤ 9223372036854775807 then (if t200.toList = (a1 ++ a1).toList then ((charset_Join.f ([] : List ByteArray)).bind fun t201 => (remitterlaw05_CharsetTells.j0 k a0 a1 bt193.1 bt193.2 (t201.toList != ([] : List UInt8)))) else (remitterlaw05_CharsetTells.j0 k a0 a1 bt193.1 bt193.2 true)) else (none))) else (remitterlaw05_CharsetTells.j0 k a0 a1 bt193.1 bt193.2 true)))))
theorem remitterlaw05_CharsetTells.mono_l : ∀ k, (∀ y0 y1 y2 y3 y4, LeO (remitterlaw05_CharsetTells.j0 k y0 y1 y2 y3 y4) (remitterlaw05_CharsetTells.j0 (k + 1) y0 y1 y2 y3 y4)) ∧ (∀ y0 y1 y2 y3 y4, LeO (remitterlaw05_CharsetTells.j1 k y0 y1 y2 y3 y4) (remitterlaw05_CharsetTells.j1 (k + 1) y0 y1 y2 y3 y4)) ∧ (∀ y0 y1 y2 y3 y4, LeO (remitterlaw05_CharsetTells.l0 k y0 y1 y2 y3 y4) (remitterlaw05_CharsetTells.l0 (k + 1) y0 y1 y2 y3 y4))
  | 0 => ⟨fun _ _ _ _ _ r h => by simp [remitterlaw05_CharsetTells.j0] at h, fun _ _ _ _ _ r h => by simp [remitterlaw05_CharsetTells.j1] at h, fun _ _ _ _ _ r h => by simp [remitterlaw05_CharsetTells.l0] at h⟩
  | k + 1 => by
    obtain ⟨ih0, ih1, ih2⟩ := remitterlaw05_CharsetTells.mono_l k
    refine ⟨?_, ?_, ?_⟩
    · intro y0 y1 y2 y3 y4
      unfold remitterlaw05_CharsetTells.j0
      repeat' first
      | (with_reducible exact ih0 _ _ _ _ _)
      | (with_reducible exact ih1 _ _ _ _ _)
      | (with_reducible exact ih2 _ _ _ _ _)
      | (with_reducible exact remitterref05_In.mono _ _ _)
      | (with_reducible exact remitterref05_Substitute.mono _ _)
      | (with_reducible exact LeO.refl _)
      | (with_reducible exact LeO.none _)
      | (with_reducible refine LeO.ite ?_ ?_)
      | (with_reducible refine LeO.bind ?_ (fun _ => ?_))
      | exact ih0 _ _ _ _ _
      | exact ih1 _ _ _ _ _
      | exact ih2 _ _ _ _ _
      | exact remitterref05_In.mono _ _ _
      | exact remitterref05_Substitute.mono _ _
      | exact LeO.none _
      | refine LeO.ite ?_ ?_
      | refine LeO.bind ?_ (fun _ => ?_)
    · intro y0 y1 y2 y3 y4
      unfold remitterlaw05_CharsetTells.j1
      repeat' first
      | (with_reducible exact ih0 _ _ _ _ _)
      | (with_reducible exact ih1 _ _ _ _ _)
      | (with_reducible exact ih2 _ _ _ _ _)
      | (with_reducible exact remitterref05_In.mono _ _ _)
      | (with_reducible exact remitterref05_Substitute.mono _ _)
      | (with_reducible exact LeO.refl _)
      | (with_reducible exact LeO.none _)
      | (with_reducible refine LeO.ite ?_ ?_)
      | (with_reducible refine LeO.bind ?_ (fun _ => ?_))
      | exact ih0 _ _ _ _ _
      | exact ih1 _ _ _ _ _
      | exact ih2 _ _ _ _ _
      | exact remitterref05_In.mono _ _ _
      | exact remitterref05_Substitute.mono _ _
      | exact LeO.none _
      | refine LeO.ite ?_ ?_
      | refine LeO.bind ?_ (fun _ => ?_)
    · intro y0 y1 y2 y3 y4
      unfold remitterlaw05_CharsetTells.l0
      repeat' first
      | (with_reducible exact ih0 _ _ _ _ _)
      | (with_reducible exact ih1 _ _ _ _ _)
      | (with_reducible exact ih2 _ _ _ _ _)
      | (with_reducible exact remitterref05_In.mono _ _ _)
      | (with_reducible exact remitterref05_Substitute.mono _ _)
      | (with_reducible exact LeO.refl _)
      | (with_reducible exact LeO.none _)
      | (with_reducible refine LeO.ite ?_ ?_)
      | (with_reducible refine LeO.bind ?_ (fun _ => ?_))
      | exact ih0 _ _ _ _ _
      | exact ih1 _ _ _ _ _
      | exact ih2 _ _ _ _ _
      | exact remitterref05_In.mono _ _ _
      | exact remitterref05_Substitute.mono _ _
      | exact LeO.none _
      | refine LeO.ite ?_ ?_
      | refine LeO.bind ?_ (fun _ => ?_)
theorem remitterlaw05_CharsetTells.mono : ∀ a0 a1 k, LeO (remitterlaw05_CharsetTells.f k a0 a1) (remitterlaw05_CharsetTells.f (k + 1) a0 a1) := by
  intro a0 a1 k
  obtain ⟨ih0, ih1, ih2⟩ := remitterlaw05_CharsetTells.mono_l k
  unfold remitterlaw05_CharsetTells.f
  repeat' first
      | (with_reducible exact ih0 _ _ _ _ _)
      | (with_reducible exact ih1 _ _ _ _ _)
      | (with_reducible exact ih2 _ _ _ _ _)
      | (with_reducible exact remitterref05_In.mono _ _ _)
      | (with_reducible exact remitterref05_Substitute.mono _ _)
      | (with_reducible exact LeO.refl _)
      | (with_reducible exact LeO.none _)
      | (with_reducible refine LeO.ite ?_ ?_)
      | (with_reducible refine LeO.bind ?_ (fun _ => ?_))
      | exact ih0 _ _ _ _ _
      | exact ih1 _ _ _ _ _
      | exact ih2 _ _ _ _ _
      | exact remitterref05_In.mono _ _ _
      | exact remitterref05_Substitute.mono _ _
      | exact LeO.none _
      | refine LeO.ite ?_ ?_
      | refine LeO.bind ?_ (fun _ => ?_)
set_option maxHeartbeats 8000000 in
set_option maxRecDepth 100000 in
theorem remitterlaw05_CharsetTells.calls (k : Nat) (a0 : Int) (a1 : ByteArray) (r : Bool) (w : World) (h : remitterlaw05_CharsetTells.f k a0 a1 = some r) :
    Calls Try.prog 6 #[.int .u8 a0, .string a1] w fun e w' => e = .returned (.bool r) ∧ Below w.heap.size w w' := by
  have HB := Aside0.mk (Below.refl w.heap.size w)
  have H : (if (a1.size : Int) > 2000 then ((remitterlaw05_wakes.f).bind fun t192 => (some t192)) else ((charset_Check.f a0 a1).bind fun bt193 => ((charset_Substitute.f a1).bind fun t195 => ((remitterref05_Substitute.f k a1).bind fun t196 => (if t195.toList = t196.toList then ((charset_Join.f (([a1, (⟨#[]⟩ : ByteArray), a1] : List ByteArray))).bind fun t200 => (if a1.size + a1.size ≤ 9223372036854775807 then (if t200.toList = (a1 ++ a1).toList then ((charset_Join.f ([] : List ByteArray)).bind fun t201 => (remitterlaw05_CharsetTells.j0 k a0 a1 bt193.1 bt193.2 (t201.toList != ([] : List UInt8)))) else (remitterlaw05_CharsetTells.j0 k a0 a1 bt193.1 bt193.2 true)) else (none))) else (remitterlaw05_CharsetTells.j0 k a0 a1 bt193.1 bt193.2 true)))))) = some r := h
  clear h
  by_cases c3 : (a1.size : Int) > 2000
  · rw [if_pos c3] at H
    have c3b0 : decide (2000 < (a1.size : Int)) = true := decide_eq_true c3
    have c3b1 : decide (2000 < a1.size) = true := decide_eq_true (by omega)
    clear c3
    replace H := Option.bind_eq_some_iff.mp H
    obtain ⟨t192, A40, H⟩ := H
    replace H : (some t192) = some r := H
    have A4 := Aside0.mk A40
    clear A40
    obtain rfl := Option.some.inj H
    go_enter Try.func6, Try.ntmps6
    go_wp2_with (first | ((with_reducible refine gate_callee (f := 20) rfl ?_); refine goesL_ (some 11) rfl rfl Try.func20 (by kernel_rfl) rfl #[] rfl (by (try simp only [List.map_toArray, List.map_cons, List.map_nil]); first | done | rfl | (simp only [List.length_drop, List.length_take]; rfl)) ?_; (with_reducible refine (remitterlaw05_wakes.calls  t192 _ A4.out).mono ?_); rintro e w5 ⟨rfl, hb⟩; refine ⟨_, rfl, ?_⟩; have n0_ := Aside0.mk (below_step (by repeat (first | (with_reducible first | exact HB.out | apply below_alloc | apply pw_below_drewN | apply below_drew1) | exact HB.out)) hb); clear HB; have HB := n0_; clear n0_; (try clear hb); (try clear hb2); (try clear hk); (try clear hi)))
    all_goals (first | (exfalso; simp_all; done) | (exfalso; omega) | (go_ret; exact ⟨by first | rfl | (simp [errW_none, errW_some] <;> rfl) | (simp [*, errW_none, errW_some] <;> rfl), by repeat (first | (with_reducible first | exact HB.out | apply below_alloc | apply pw_below_drewN | apply below_drew1) | exact HB.out)⟩))
  · rw [if_neg c3] at H
    have c3b0 : decide (2000 < (a1.size : Int)) = false := decide_eq_false c3
    have c3b1 : decide (2000 < a1.size) = false := decide_eq_false (by omega)
    clear c3
    replace H := Option.bind_eq_some_iff.mp H
    obtain ⟨⟨t193, t194⟩, A60, H⟩ := H
    replace H : ((charset_Substitute.f a1).bind fun t195 => ((remitterref05_Substitute.f k a1).bind fun t196 => (if t195.toList = t196.toList then ((charset_Join.f (([a1, (⟨#[]⟩ : ByteArray), a1] : List ByteArray))).bind fun t200 => (if a1.size + a1.size ≤ 9223372036854775807 then (if t200.toList = (a1 ++ a1).toList then ((charset_Join.f ([] : List ByteArray)).bind fun t201 => (remitterlaw05_CharsetTells.j0 k a0 a1 t193 t194 (t201.toList != ([] : List UInt8)))) else (remitterlaw05_CharsetTells.j0 k a0 a1 t193 t194 true)) else (none))) else (remitterlaw05_CharsetTells.j0 k a0 a1 t193 t194 true)))) = some r := H
    have A6 := Aside0.mk A60
    clear A60
    have HC7 := Aside0.mk H
    clear H
    go_enter Try.func6, Try.ntmps6
    go_upto_region 4 with (first | ((with_reducible refine gate_callee (f := 21) rfl ?_); refine goesL_ (some 15) rfl rfl Try.func21 (by kernel_rfl) rfl #[.int .u8 a0, .string a1] rfl (by (try simp only [List.map_toArray, List.map_cons, List.map_nil]); first | done | rfl | (simp only [List.length_drop, List.length_take]; rfl)) ?_; (with_reducible refine (charset_Check.calls a0 a1 t193 t194 _ A6.out).mono ?_); rintro e w8 ⟨rfl, hb⟩; refine ⟨_, rfl, ?_⟩; have n0_ := Aside0.mk (below_step (by repeat (first | (with_reducible first | exact HB.out | apply below_alloc | apply pw_below_drewN | apply below_drew1) | exact HB.out)) hb); clear HB; have HB := n0_; clear n0_; (try clear hb); (try clear hb2); (try clear hk); (try clear hi)))
    (try simp only [Act.put, List.setIfInBounds_toArray, List.set_cons_zero, List.set_cons_succ])
    go_cut [36] (fun v36 wc => ∃ (kq : Nat) (x36_6 : Bool), v36 = .bool x36_6 ∧ Aside0 (remitterlaw05_CharsetTells.j0 kq a0 a1 t193 t194 x36_6 = some r) ∧ Aside0 (kq ≤ k) ∧ Aside0 (Below w.heap.size w wc))
    case first =>
      have H := HC7.out
      clear HC7
      replace H := Option.bind_eq_some_iff.mp H
      obtain ⟨t195, A90, H⟩ := H
      replace H : ((remitterref05_Substitute.f k a1).bind fun t196 => (if t195.toList = t196.toList then ((charset_Join.f (([a1, (⟨#[]⟩ : ByteArray), a1] : List ByteArray))).bind fun t200 => (if a1.size + a1.size ≤ 9223372036854775807 then (if t200.toList = (a1 ++ a1).toList then ((charset_Join.f ([] : List ByteArray)).bind fun t201 => (remitterlaw05_CharsetTells.j0 k a0 a1 t193 t194 (t201.toList != ([] : List UInt8)))) else (remitterlaw05_CharsetTells.j0 k a0 a1 t193 t194 true)) else (none))) else (remitterlaw05_CharsetTells.j0 k a0 a1 t193 t194 true))) = some r := H
      have A9 := Aside0.mk A90
      clear A90
      replace H := Option.bind_eq_some_iff.mp H
      obtain ⟨t196, A100, H⟩ := H
      replace H : (if t195.toList = t196.toList then ((charset_Join.f (([a1, (⟨#[]⟩ : ByteArray), a1] : List ByteArray))).bind fun t200 => (if a1.size + a1.size ≤ 9223372036854775807 then (if t200.toList = (a1 ++ a1).toList then ((charset_Join.f ([] : List ByteArray)).bind fun t201 => (remitterlaw05_CharsetTells.j0 k a0 a1 t193 t194 (t201.toList != ([] : List UInt8)))) else (remitterlaw05_CharsetTells.j0 k a0 a1 t193 t194 true)) else (none))) else (remitterlaw05_CharsetTells.j0 k a0 a1 t193 t194 true)) = some r := H
      have A10 := Aside0.mk A100
      clear A100
      by_cases c11 : t195.toList = t196.toList
      · rw [if_pos c11] at H
        have c11b0 : (t195.toList == t196.toList) = true := beq_iff_eq.mpr c11
        have c11b1 : (t195.toList != t196.toList) = false := bne_eq_false_iff_eq.mpr c11
        clear c11
        (first | rw [c11b0] | (simp only [i64_w, i32_w]; rw [c11b0]) | skip)
        obtain ⟨y197, hy197⟩ : ∃ y_ : List ByteArray, y_ = (([a1, (⟨#[]⟩ : ByteArray), a1] : List ByteArray)) := ⟨_, rfl⟩
        replace H : ((charset_Join.f y197).bind fun t200 => (if a1.size + a1.size ≤ 9223372036854775807 then (if t200.toList = (a1 ++ a1).toList then ((charset_Join.f ([] : List ByteArray)).bind fun t201 => (remitterlaw05_CharsetTells.j0 k a0 a1 t193 t194 (t201.toList != ([] : List UInt8)))) else (remitterlaw05_CharsetTells.j0 k a0 a1 t193 t194 true)) else (none))) = some r := by first | (rw [hy197]; with_reducible exact H) | (have H2_ := (Option.bind_some _ _).symm.trans H; rw [hy197]; with_reducible exact H2_) | (have H2_ := (Option.bind_some _ _).symm.trans H; with_reducible exact H2_) | with_reducible exact H | (rw [hy197]; exact H) | exact H
        have Ny197 := Aside0.mk hy197
        clear hy197
        replace H := Option.bind_eq_some_iff.mp H
        obtain ⟨t200, A120, H⟩ := H
        replace H : (if a1.size + a1.size ≤ 9223372036854775807 then (if t200.toList = (a1 ++ a1).toList then ((charset_Join.f ([] : List ByteArray)).bind fun t201 => (remitterlaw05_CharsetTells.j0 k a0 a1 t193 t194 (t201.toList != ([] : List UInt8)))) else (remitterlaw05_CharsetTells.j0 k a0 a1 t193 t194 true)) else (none)) = some r := H
        have A12 := Aside0.mk A120
        clear A120
        by_cases c13 : a1.size + a1.size ≤ 9223372036854775807
        · rw [if_pos c13] at H
          have c13b0 := eq_true c13
          have c13b1 : decide (a1.size + a1.size ≤ 9223372036854775807) = true := decide_eq_true c13
          try have c13b2 : (9223372036854775807 < a1.size + a1.size) = False := eq_false (Nat.not_lt.2 c13)
          by_cases c14 : t200.toList = (a1 ++ a1).toList
          · rw [if_pos c14] at H
            have c14b0 : (t200.toList == (a1 ++ a1).toList) = true := beq_iff_eq.mpr c14
            have c14b1 : (t200.toList != (a1 ++ a1).toList) = false := bne_eq_false_iff_eq.mpr c14
            clear c14
            replace H := Option.bind_eq_some_iff.mp H
            obtain ⟨t201, A150, H⟩ := H
            replace H : (remitterlaw05_CharsetTells.j0 k a0 a1 t193 t194 (t201.toList != ([] : List UInt8))) = some r := H
            have A15 := Aside0.mk A150
            clear A150
            have H' := Aside0.mk H
            clear H
            go_wp2_with (first | ((with_reducible refine gate_callee (f := 22) rfl ?_); refine goesL_ (some 19) rfl rfl Try.func22 (by kernel_rfl) rfl #[.string a1] rfl (by (try simp only [List.map_toArray, List.map_cons, List.map_nil]); first | done | rfl | (simp only [List.length_drop, List.length_take]; rfl)) ?_; (with_reducible refine (charset_Substitute.calls a1 t195 _ A9.out).mono ?_); rintro e w16 ⟨rfl, hb⟩; refine ⟨_, rfl, ?_⟩; have n0_ := Aside0.mk (below_step (by repeat (first | (with_reducible first | exact HB.out | apply below_alloc | apply pw_below_drewN | apply below_drew1) | exact HB.out)) hb); clear HB; have HB := n0_; clear n0_; (try clear hb); (try clear hb2); (try clear hk); (try clear hi)) | ((with_reducible refine gate_callee (f := 23) rfl ?_); refine goesL_ (some 21) rfl rfl Try.func23 (by kernel_rfl) rfl #[.string a1] rfl (by (try simp only [List.map_toArray, List.map_cons, List.map_nil]); first | done | rfl | (simp only [List.length_drop, List.length_take]; rfl)) ?_; (with_reducible refine (remitterref05_Substitute.calls k a1 t196 _ A10.out).mono ?_); rintro e w17 ⟨rfl, hb⟩; refine ⟨_, rfl, ?_⟩; have n0_ := Aside0.mk (below_step (by repeat (first | (with_reducible first | exact HB.out | apply below_alloc | apply pw_below_drewN | apply below_drew1) | exact HB.out)) hb); clear HB; have HB := n0_; clear n0_; (try clear hb); (try clear hb2); (try clear hk); (try clear hi)) | ((with_reducible refine gate_dst (N := 26) rfl ?_); (try (refine gate_guard (by rfl) ?_; dsimp only)); refine Kd.R_lit Kd.string _ 9 ?hg (N := 26) ?hd (xs := ([a1, (⟨#[]⟩ : ByteArray), a1] : List ByteArray)) (inner := [.string a1, .string (⟨#[]⟩ : ByteArray), .string a1]) (ok := fun _ => True) (okp := fun _ => True) ?hr ?hp (fun _ hk => hk) trivial (Below.refl _ _) (Nat.le_refl _) (by simp) ?_; (case hd => rfl); (case hg => rfl); (case hr => first | (go_simp; done) | (go_simp; rfl)); (case hp => exact (Reps.one (show Kd.M Kd.string _ _ _ a1 [.string a1] from rfl) (Reps.one (show Kd.M Kd.string _ _ _ (⟨#[]⟩ : ByteArray) [.string (⟨#[]⟩ : ByteArray)] from rfl) (Reps.one (show Kd.M Kd.string _ _ _ a1 [.string a1] from rfl) (Reps.none _ _))))); intro v198 w18 ho19 hb hg_ hnew_; clear hg_ hnew_; (first | rw [← Ny197.out] at ho19 | (simp only [Int.reduceToNat] at ho19; rw [← Ny197.out] at ho19)); have n0_ := Aside0.mk (Kd.R_lower ho19 (below_size (by repeat (first | (with_reducible first | exact HB.out | apply below_alloc | apply pw_below_drewN | apply below_drew1) | exact HB.out)))); have n1_ := Aside0.mk (below_step (by repeat (first | (with_reducible first | exact HB.out | apply below_alloc | apply pw_below_drewN | apply below_drew1) | exact HB.out)) hb); clear HB; have HO199 := n0_; have HB := n1_; clear n0_ n1_; clear hb ho19; obtain ⟨Ao20, co20, eo20⟩ := Kd.R_slice HO199.out; subst eo20) | (go_at_call 24; (with_reducible refine (charset_Join.calls _ _ y197 t200 _ ?side1 ?side2 A12.out).mono ?_); (case side1 => repeat (first | exact (Kd.R_reads' HO199.out).2.2 | (with_reducible refine Kd.C_alloc ?_ _) | (with_reducible refine Kd.C_drewN ?_ _) | (with_reducible refine Kd.C_drew ?_))); (case side2 => exact (Kd.R_reads' HO199.out).2.1); rintro e w21 ⟨rfl, hb⟩; have n0_ := Aside0.mk (Kd.R_below (by (with_reducible repeat (first | apply Kd.R_alloc | apply Kd.R_drewN | apply Kd.R_drew)); exact HO199.out) hb); have n1_ := Aside0.mk (below_step (by repeat (first | (with_reducible first | exact HB.out | apply below_alloc | apply pw_below_drewN | apply below_drew1) | exact HB.out)) hb); clear HO199; clear HB; have HO199 := n0_; have HB := n1_; clear n0_ n1_; (try clear hb); (try clear hb2); (try clear hk); (try clear hi)) | (go_at_call 24; (refine (charset_Join.calls _ _ ([] : List ByteArray) t201 _ ?side1 ?side2 A15.out).mono ?_); (case side1 => exact Kd.C_nil _ _); (case side2 => exact Nat.le_refl _); rintro e w22 ⟨rfl, hb⟩; have n0_ := Aside0.mk (Kd.R_below (by (with_reducible repeat (first | apply Kd.R_alloc | apply Kd.R_drewN | apply Kd.R_drew)); exact HO199.out) hb); have n1_ := Aside0.mk (below_step (by repeat (first | (with_reducible first | exact HB.out | apply below_alloc | apply pw_below_drewN | apply below_drew1) | exact HB.out)) hb); clear HO199; clear HB; have HO199 := n0_; have HB := n1_; clear n0_ n1_; (try clear hb); (try clear hb2); (try clear hk); (try clear hi)))
            go_meet
            case rel => exact ⟨_, ((t201.toList != ([] : List UInt8))), (by first | rfl | (simp; done) | (simp [*]; done) | exact congrArg Value.bool (Go.Proofs.Ytjemnphmjbodfaa.GLib.not_isEmpty _) | exact congrArg Value.bool (Go.Proofs.Ytjemnphmjbodfaa.GLib.not_isEmpty _).symm), H', ⟨by first | omega | exact Nat.le_refl _⟩, ⟨by repeat (first | (with_reducible first | exact HB.out | apply below_alloc | apply pw_below_drewN | apply below_drew1) | exact HB.out)⟩⟩
          · rw [if_neg c14] at H
            have c14b0 : (t200.toList == (a1 ++ a1).toList) = false := beq_eq_false_iff_ne.mpr c14
            have c14b1 : (t200.toList != (a1 ++ a1).toList) = true := bne_iff_ne.mpr c14
            have H' := Aside0.mk H
            clear H
            go_wp2_with (first | ((with_reducible refine gate_callee (f := 22) rfl ?_); refine goesL_ (some 19) rfl rfl Try.func22 (by kernel_rfl) rfl #[.string a1] rfl (by (try simp only [List.map_toArray, List.map_cons, List.map_nil]); first | done | rfl | (simp only [List.length_drop, List.length_take]; rfl)) ?_; (with_reducible refine (charset_Substitute.calls a1 t195 _ A9.out).mono ?_); rintro e w23 ⟨rfl, hb⟩; refine ⟨_, rfl, ?_⟩; have n0_ := Aside0.mk (below_step (by repeat (first | (with_reducible first | exact HB.out | apply below_alloc | apply pw_below_drewN | apply below_drew1) | exact HB.out)) hb); clear HB; have HB := n0_; clear n0_; (try clear hb); (try clear hb2); (try clear hk); (try clear hi)) | ((with_reducible refine gate_callee (f := 23) rfl ?_); refine goesL_ (some 21) rfl rfl Try.func23 (by kernel_rfl) rfl #[.string a1] rfl (by (try simp only [List.map_toArray, List.map_cons, List.map_nil]); first | done | rfl | (simp only [List.length_drop, List.length_take]; rfl)) ?_; (with_reducible refine (remitterref05_Substitute.calls k a1 t196 _ A10.out).mono ?_); rintro e w24 ⟨rfl, hb⟩; refine ⟨_, rfl, ?_⟩; have n0_ := Aside0.mk (below_step (by repeat (first | (with_reducible first | exact HB.out | apply below_alloc | apply pw_below_drewN | apply below_drew1) | exact HB.out)) hb); clear HB; have HB := n0_; clear n0_; (try clear hb); (try clear hb2); (try clear hk); (try clear hi)) | ((with_reducible refine gate_dst (N := 26) rfl ?_); (try (refine gate_guard (by rfl) ?_; dsimp only)); refine Kd.R_lit Kd.string _ 9 ?hg (N := 26) ?hd (xs := ([a1, (⟨#[]⟩ : ByteArray), a1] : List ByteArray)) (inner := [.string a1, .string (⟨#[]⟩ : ByteArray), .string a1]) (ok := fun _ => True) (okp := fun _ => True) ?hr ?hp (fun _ hk => hk) trivial (Below.refl _ _) (Nat.le_refl _) (by simp) ?_; (case hd => rfl); (case hg => rfl); (case hr => first | (go_simp; done) | (go_simp; rfl)); (case hp => exact (Reps.one (show Kd.M Kd.string _ _ _ a1 [.string a1] from rfl) (Reps.one (show Kd.M Kd.string _ _ _ (⟨#[]⟩ : ByteArray) [.string (⟨#[]⟩ : ByteArray)] from rfl) (Reps.one (show Kd.M Kd.string _ _ _ a1 [.string a1] from rfl) (Reps.none _ _))))); intro v198 w25 ho26 hb hg_ hnew_; clear hg_ hnew_; (first | rw [← Ny197.out] at ho26 | (simp only [Int.reduceToNat] at ho26; rw [← Ny197.out] at ho26)); have n0_ := Aside0.mk (Kd.R_lower ho26 (below_size (by repeat (first | (with_reducible first | exact HB.out | apply below_alloc | apply pw_below_drewN | apply below_drew1) | exact HB.out)))); have n1_ := Aside0.mk (below_step (by repeat (first | (with_reducible first | exact HB.out | apply below_alloc | apply pw_below_drewN | apply below_drew1) | exact HB.out)) hb); clear HB; have HO199 := n0_; have HB := n1_; clear n0_ n1_; clear hb ho26; obtain ⟨Ao27, co27, eo27⟩ := Kd.R_slice HO199.out; subst eo27) | (go_at_call 24; (with_reducible refine (charset_Join.calls _ _ y197 t200 _ ?side1 ?side2 A12.out).mono ?_); (case side1 => repeat (first | exact (Kd.R_reads' HO199.out).2.2 | (with_reducible refine Kd.C_alloc ?_ _) | (with_reducible refine Kd.C_drewN ?_ _) | (with_reducible refine Kd.C_drew ?_))); (case side2 => exact (Kd.R_reads' HO199.out).2.1); rintro e w28 ⟨rfl, hb⟩; have n0_ := Aside0.mk (Kd.R_below (by (with_reducible repeat (first | apply Kd.R_alloc | apply Kd.R_drewN | apply Kd.R_drew)); exact HO199.out) hb); have n1_ := Aside0.mk (below_step (by repeat (first | (with_reducible first | exact HB.out | apply below_alloc | apply pw_below_drewN | apply below_drew1) | exact HB.out)) hb); clear HO199; clear HB; have HO199 := n0_; have HB := n1_; clear n0_ n1_; (try clear hb); (try clear hb2); (try clear hk); (try clear hi)))
            go_meet
            case rel => exact ⟨_, (true), (by first | rfl | (simp; done) | (simp [*]; done) | exact congrArg Value.bool (Go.Proofs.Ytjemnphmjbodfaa.GLib.not_isEmpty _) | exact congrArg Value.bool (Go.Proofs.Ytjemnphmjbodfaa.GLib.not_isEmpty _).symm), H', ⟨by first | omega | exact Nat.le_refl _⟩, ⟨by repeat (first | (with_reducible first | exact HB.out | apply below_alloc | apply pw_below_drewN | apply below_drew1) | exact HB.out)⟩⟩
        · rw [if_neg c13] at H
          exact absurd H (by simp)
      · rw [if_neg c11] at H
        have c11b0 : (t195.toList == t196.toList) = false := beq_eq_false_iff_ne.mpr c11
        have c11b1 : (t195.toList != t196.toList) = true := bne_iff_ne.mpr c11
        (first | rw [c11b0] | (simp only [i64_w, i32_w]; rw [c11b0]) | skip)
        have H' := Aside0.mk H
        clear H
        go_wp2_with (first | ((with_reducible refine gate_callee (f := 22) rfl ?_); refine goesL_ (some 19) rfl rfl Try.func22 (by kernel_rfl) rfl #[.string a1] rfl (by (try simp only [List.map_toArray, List.map_cons, List.map_nil]); first | done | rfl | (simp only [List.length_drop, List.length_take]; rfl)) ?_; (with_reducible refine (charset_Substitute.calls a1 t195 _ A9.out).mono ?_); rintro e w29 ⟨rfl, hb⟩; refine ⟨_, rfl, ?_⟩; have n0_ := Aside0.mk (below_step (by repeat (first | (with_reducible first | exact HB.out | apply below_alloc | apply pw_below_drewN | apply below_drew1) | exact HB.out)) hb); clear HB; have HB := n0_; clear n0_; (try clear hb); (try clear hb2); (try clear hk); (try clear hi)) | ((with_reducible refine gate_callee (f := 23) rfl ?_); refine goesL_ (some 21) rfl rfl Try.func23 (by kernel_rfl) rfl #[.string a1] rfl (by (try simp only [List.map_toArray, List.map_cons, List.map_nil]); first | done | rfl | (simp only [List.length_drop, List.length_take]; rfl)) ?_; (with_reducible refine (remitterref05_Substitute.calls k a1 t196 _ A10.out).mono ?_); rintro e w30 ⟨rfl, hb⟩; refine ⟨_, rfl, ?_⟩; have n0_ := Aside0.mk (below_step (by repeat (first | (with_reducible first | exact HB.out | apply below_alloc | apply pw_below_drewN | apply below_drew1) | exact HB.out)) hb); clear HB; have HB := n0_; clear n0_; (try clear hb); (try clear hb2); (try clear hk); (try clear hi)))
        go_meet
        case rel => exact ⟨_, (true), (by first | rfl | (simp; done) | (simp [*]; done) | exact congrArg Value.bool (Go.Proofs.Ytjemnphmjbodfaa.GLib.not_isEmpty _) | exact congrArg Value.bool (Go.Proofs.Ytjemnphmjbodfaa.GLib.not_isEmpty _).symm), H', ⟨by first | omega | exact Nat.le_refl _⟩, ⟨by repeat (first | (with_reducible first | exact HB.out | apply below_alloc | apply pw_below_drewN | apply below_drew1) | exact HB.out)⟩⟩
    case rest =>
      clear HC7
      try clear c1
      try clear c2
      try clear p2
      try clear c3
      try clear c3b0
      try clear c3b1
      try clear c6
      try clear c11
      try clear c11b0
      try clear c11b1
      try clear c13
      try clear c13b0
      try clear c13b1
      try clear c13b2
      try clear c14
      try clear c14b0
      try clear c14b1
      try clear c20
      try clear c21
      try clear c22
      try clear c23
      obtain ⟨kq, x36_6, rfl, HA, HJ6, HB⟩ := hcut
      cases kq with
      | zero => exact absurd HA.out (by simp [remitterlaw05_CharsetTells.j0])
      | succ kj6 =>
        have H := HA.out
        clear HA
        simp only [remitterlaw05_CharsetTells.j0] at H
        by_cases c31 : x36_6 = true
        · subst c31
          have H1 : (some false) = some r := by rw [if_pos rfl] at H; exact H
          clear H
          have H := H1
          clear H1
          obtain rfl := Option.some.inj H
          go_wp2
          all_goals (first | (exfalso; simp_all; done) | (exfalso; omega) | (go_ret; exact ⟨by first | rfl | (simp [errW_none, errW_some] <;> rfl) | (simp [*, errW_none, errW_some] <;> rfl), by repeat (first | (with_reducible first | exact HB.out | apply below_alloc | apply pw_below_drewN | apply below_drew1) | exact HB.out)⟩))
        · replace c31 := Bool.eq_false_iff.mpr c31
          subst c31
          have H1 : (if a0 = 88 then (remitterlaw05_CharsetTells.j1 kj6 a0 a1 t193 t194 false) else (if a0 = 89 then (remitterlaw05_CharsetTells.j1 kj6 a0 a1 t193 t194 false) else (remitterlaw05_CharsetTells.j1 kj6 a0 a1 t193 t194 (a0 != 90)))) = some r := by rw [if_neg (show ¬ (false = true) by decide)] at H; exact H
          clear H
          have H := H1
          clear H1
          have HC32 := Aside0.mk H
          clear H
          go_upto_region 6 with (fail)
          go_cut [46] (fun v46 wc => ∃ (kq : Nat) (x46_31 : Bool), v46 = .bool x46_31 ∧ Aside0 (remitterlaw05_CharsetTells.j1 kq a0 a1 t193 t194 x46_31 = some r) ∧ Aside0 (kq ≤ kj6) ∧ Aside0 (Below w.heap.size w wc))
          case first =>
            have H := HC32.out
            clear HC32
            by_cases c33 : a0 = 88
            · rw [if_pos c33] at H
              have c33b0 : (a0 == 88) = true := beq_iff_eq.mpr c33
              have c33b1 : (a0 != 88) = false := bne_eq_false_iff_eq.mpr c33
              clear c33
              (first | rw [c33b0] | (simp only [i64_w, i32_w]; rw [c33b0]) | skip)
              have H' := Aside0.mk H
              clear H
              go_wp2
              go_meet
              case rel => exact ⟨_, (false), (by first | rfl | (simp; done) | (simp [*]; done) | exact congrArg Value.bool (Go.Proofs.Ytjemnphmjbodfaa.GLib.not_isEmpty _) | exact congrArg Value.bool (Go.Proofs.Ytjemnphmjbodfaa.GLib.not_isEmpty _).symm), H', ⟨by have := HJ6.out; first | omega | exact Nat.le_refl _⟩, ⟨by repeat (first | (with_reducible first | exact HB.out | apply below_alloc | apply pw_below_drewN | apply below_drew1) | exact HB.out)⟩⟩
            · rw [if_neg c33] at H
              have c33b0 : (a0 == 88) = false := beq_eq_false_iff_ne.mpr c33
              have c33b1 : (a0 != 88) = true := bne_iff_ne.mpr c33
              (first | rw [c33b0] | (simp only [i64_w, i32_w]; rw [c33b0]) | skip)
              by_cases c34 : a0 = 89
              · rw [if_pos c34] at H
                have c34b0 : (a0 == 89) = true := beq_iff_eq.mpr c34
                have c34b1 : (a0 != 89) = false := bne_eq_false_iff_eq.mpr c34
                clear c34
                have H' := Aside0.mk H
                clear H
                go_wp2
                go_meet
                case rel => exact ⟨_, (false), (by first | rfl | (simp; done) | (simp [*]; done) | exact congrArg Value.bool (Go.Proofs.Ytjemnphmjbodfaa.GLib.not_isEmpty _) | exact congrArg Value.bool (Go.Proofs.Ytjemnphmjbodfaa.GLib.not_isEmpty _).symm), H', ⟨by have := HJ6.out; first | omega | exact Nat.le_refl _⟩, ⟨by repeat (first | (with_reducible first | exact HB.out | apply below_alloc | apply pw_below_drewN | apply below_drew1) | exact HB.out)⟩⟩
              · rw [if_neg c34] at H
                have c34b0 : (a0 == 89) = false := beq_eq_false_iff_ne.mpr c34
                have c34b1 : (a0 != 89) = true := bne_iff_ne.mpr c34
                have H' := Aside0.mk H
                clear H
                go_wp2
                go_meet
                case rel => exact ⟨_, ((a0 != 90)), (by first | rfl | (simp; done) | (simp [*]; done) | exact congrArg Value.bool (Go.Proofs.Ytjemnphmjbodfaa.GLib.not_isEmpty _) | exact congrArg Value.bool (Go.Proofs.Ytjemnphmjbodfaa.GLib.not_isEmpty _).symm), H', ⟨by have := HJ6.out; first | omega | exact Nat.le_refl _⟩, ⟨by repeat (first | (with_reducible first | exact HB.out | apply below_alloc | apply pw_below_drewN | apply below_drew1) | exact HB.out)⟩⟩
          case rest =>
            clear HC32
            try clear c1
            try clear c2
            try clear p2
            try clear c3
            try clear c3b0
            try clear c3b1
            try clear c6
            try clear c11
            try clear c11b0
            try clear c11b1
            try clear c13
            try clear c13b0
            try clear c13b1
            try clear c13b2
            try clear c14
            try clear c14b0
            try clear c14b1
            try clear c20
            try clear c21
            try clear c22
            try clear c23
            try clear c31
            try clear c33
            try clear c33b0
            try clear c33b1
            try clear c34
            try clear c34b0
            try clear c34b1
            try clear p2
            obtain ⟨kq, x46_31, rfl, HA, HJ31, HB⟩ := hcut
            cases kq with
            | zero => exact absurd HA.out (by simp [remitterlaw05_CharsetTells.j1])
            | succ kj31 =>
              have H := HA.out
              clear HA
              simp only [remitterlaw05_CharsetTells.j1] at H
              by_cases c35 : x46_31 = true
              · subst c35
                have H1 : (if t194 = 1 then (if t193 = 0 then ((remitterlaw05_wakes.f).bind fun t202 => (some t202)) else (some false)) else (some false)) = some r := by rw [if_pos rfl] at H; exact H
                clear H
                have H := H1
                clear H1
                by_cases c36 : t194 = 1
                · rw [if_pos c36] at H
                  have c36b0 : (t194 == 1) = true := beq_iff_eq.mpr c36
                  have c36b1 : (t194 != 1) = false := bne_eq_false_iff_eq.mpr c36
                  clear c36
                  by_cases c37 : t193 = 0
                  · rw [if_pos c37] at H
                    have c37b0 : (t193 == 0) = true := beq_iff_eq.mpr c37
                    have c37b1 : (t193 != 0) = false := bne_eq_false_iff_eq.mpr c37
                    clear c37
                    replace H := Option.bind_eq_some_iff.mp H
                    obtain ⟨t202, A380, H⟩ := H
                    replace H : (some t202) = some r := H
                    have A38 := Aside0.mk A380
                    clear A380
                    obtain rfl := Option.some.inj H
                    go_wp2_with (first | (go_at_call 20; (with_reducible refine (remitterlaw05_wakes.calls  t202 _ A38.out).mono ?_); rintro e w39 ⟨rfl, hb⟩; have n0_ := Aside0.mk (below_step (by repeat (first | (with_reducible first | exact HB.out | apply below_alloc | apply pw_below_drewN | apply below_drew1) | exact HB.out)) hb); clear HB; have HB := n0_; clear n0_; (try clear hb); (try clear hb2); (try clear hk); (try clear hi)))
                    all_goals (first | (exfalso; simp_all; done) | (exfalso; omega) | (go_ret; exact ⟨by first | rfl | (simp [errW_none, errW_some] <;> rfl) | (simp [*, errW_none, errW_some] <;> rfl), by repeat (first | (with_reducible first | exact HB.out | apply below_alloc | apply pw_below_drewN | apply below_drew1) | exact HB.out)⟩))
                  · rw [if_neg c37] at H
                    have c37b0 : (t193 == 0) = false := beq_eq_false_iff_ne.mpr c37
                    have c37b1 : (t193 != 0) = true := bne_iff_ne.mpr c37
                    obtain rfl := Option.some.inj H
                    go_wp2
                    all_goals (first | (exfalso; simp_all; done) | (exfalso; omega) | (go_ret; exact ⟨by first | rfl | (simp [errW_none, errW_some] <;> rfl) | (simp [*, errW_none, errW_some] <;> rfl), by repeat (first | (with_reducible first | exact HB.out | apply below_alloc | apply pw_below_drewN | apply below_drew1) | exact HB.out)⟩))
                · rw [if_neg c36] at H
                  have c36b0 : (t194 == 1) = false := beq_eq_false_iff_ne.mpr c36
                  have c36b1 : (t194 != 1) = true := bne_iff_ne.mpr c36
                  obtain rfl := Option.some.inj H
                  go_wp2
                  all_goals (first | (exfalso; simp_all; done) | (exfalso; omega) | (go_ret; exact ⟨by first | rfl | (simp [errW_none, errW_some] <;> rfl) | (simp [*, errW_none, errW_some] <;> rfl), by repeat (first | (with_reducible first | exact HB.out | apply below_alloc | apply pw_below_drewN | apply below_drew1) | exact HB.out)⟩))
              · replace c35 := Bool.eq_false_iff.mpr c35
                subst c35
                have H1 : (remitterlaw05_CharsetTells.l0 kj31 a0 a1 t193 t194 0) = some r := by rw [if_neg (show ¬ (false = true) by decide)] at H; exact H
                clear H
                have H := H1
                clear H1
                have H' := Aside0.mk H
                clear H
                go_wp2
                go_loopg [7] kj31 (fun kq v7 w' => ∃ (x7_3 : Int), v7 = .int .i64 x7_3 ∧ Aside0 (remitterlaw05_CharsetTells.l0 kq a0 a1 t193 t194 x7_3 = some r) ∧ Aside0 (kq ≤ kj31) ∧ Aside0 (Below w.heap.size w w'))
                case atStart => exact ⟨(0), (by first | rfl | (simp; done) | (simp [*]; done) | exact congrArg Value.bool (Go.Proofs.Ytjemnphmjbodfaa.GLib.not_isEmpty _) | exact congrArg Value.bool (Go.Proofs.Ytjemnphmjbodfaa.GLib.not_isEmpty _).symm), H', ⟨Nat.le_refl _⟩, ⟨by repeat (first | (with_reducible first | exact HB.out | apply below_alloc | apply pw_below_drewN | apply below_drew1) | exact HB.out)⟩⟩
                case round =>
                  clear H'
                  try clear c1
                  try clear c2
                  try clear p2
                  try clear c3
                  try clear c3b0
                  try clear c3b1
                  try clear c6
                  try clear c11
                  try clear c11b0
                  try clear c11b1
                  try clear c13
                  try clear c13b0
                  try clear c13b1
                  try clear c13b2
                  try clear c14
                  try clear c14b0
                  try clear c14b1
                  try clear c20
                  try clear c21
                  try clear c22
                  try clear c23
                  try clear c31
                  try clear c33
                  try clear c33b0
                  try clear c33b1
                  try clear c34
                  try clear c34b0
                  try clear c34b1
                  try clear c35
                  try clear c36
                  try clear c36b0
                  try clear c36b1
                  try clear c37
                  try clear c37b0
                  try clear c37b1
                  try clear p2
                  obtain ⟨x7_3, rfl, HA, HK3, HB⟩ := hrel
                  cases gk with
                  | zero => exact absurd HA.out (by simp [remitterlaw05_CharsetTells.l0])
                  | succ k3 =>
                    have H := HA.out
                    clear HA
                    simp only [remitterlaw05_CharsetTells.l0] at H
                    by_cases c40 : x7_3 < (a1.size : Int)
                    · rw [if_pos c40] at H
                      have c40b0 : decide (x7_3 < (a1.size : Int)) = true := decide_eq_true c40
                      clear c40
                      by_cases c41 : 0 ≤ x7_3
                      · rw [if_pos c41] at H
                        have c41b0 : decide (0 ≤ x7_3) = true := decide_eq_true c41
                        clear c41
                        replace H := Option.bind_eq_some_iff.mp H
                        obtain ⟨t203, A430, H⟩ := H
                        replace H : (if t203 = true then (remitterlaw05_CharsetTells.l0 k3 a0 a1 t193 t194 (wrap64 (x7_3 + 1))) else (if t193 = x7_3 then (if ((t194 == 0) == (x7_3 == (a1.size : Int))) = true then (if t194 = 0 then ((remitterlaw05_wakes.f).bind fun t204 => (some t204)) else (if t194 = 15 then ((remitterlaw05_wakes.f).bind fun t205 => (some t205)) else (some false))) else (some false)) else (some false))) = some r := H
                        have A43 := Aside0.mk A430
                        clear A430
                        by_cases c44 : t203 = true
                        · subst c44
                          have H1 : (remitterlaw05_CharsetTells.l0 k3 a0 a1 t193 t194 (wrap64 (x7_3 + 1))) = some r := by rw [if_pos rfl] at H; exact H
                          clear H
                          have H := H1
                          clear H1
                          have H' := Aside0.mk H
                          clear H
                          have p42 : 0 ≤ (x7_3 : Int) := of_decide_eq_true (by first | (with_reducible assumption) | assumption)
                          have q42 : x7_3 < (a1.size : Int) := of_decide_eq_true (by first | (with_reducible assumption) | assumption)
                          have hx42 := bt_at a1 x7_3
                          replace p42 := eq_true p42
                          replace q42 := eq_true q42
                          go_wp2_with (first | (go_at_call 25; (with_reducible refine (remitterref05_In.calls k3 a0 (bt a1 x7_3) true _ A43.out).mono ?_); rintro e w' ⟨rfl, ⟨nd, rfl⟩⟩))
                          go_roundg k3
                          case measure => have := HJ6.out; have := HJ31.out; have := HK3.out; omega
                          case rel => exact ⟨(wrap64 (x7_3 + 1)), (by first | rfl | (simp; done) | (simp [*]; done) | exact congrArg Value.bool (Go.Proofs.Ytjemnphmjbodfaa.GLib.not_isEmpty _) | exact congrArg Value.bool (Go.Proofs.Ytjemnphmjbodfaa.GLib.not_isEmpty _).symm), H', ⟨by have := HJ6.out; have := HJ31.out; have := HK3.out; omega⟩, ⟨by repeat (first | (with_reducible first | exact HB.out | apply below_alloc | apply pw_below_drewN | apply below_drew1) | exact HB.out)⟩⟩
                        · replace c44 := Bool.eq_false_iff.mpr c44
                          subst c44
                          have H1 : (if t193 = x7_3 then (if ((t194 == 0) == (x7_3 == (a1.size : Int))) = true then (if t194 = 0 then ((remitterlaw05_wakes.f).bind fun t204 => (some t204)) else (if t194 = 15 then ((remitterlaw05_wakes.f).bind fun t205 => (some t205)) else (some false))) else (some false)) else (some false)) = some r := by rw [if_neg (show ¬ (false = true) by decide)] at H; exact H
                          clear H
                          have H := H1
                          clear H1
                          by_cases c45 : t193 = x7_3
                          · rw [if_pos c45] at H
                            have c45b0 : (t193 == x7_3) = true := beq_iff_eq.mpr c45
                            have c45b1 : (t193 != x7_3) = false := bne_eq_false_iff_eq.mpr c45
                            clear c45
                            by_cases c46 : ((t194 == 0) == (x7_3 == (a1.size : Int))) = true
                            · rw [if_pos c46] at H
                              have c46b0 : ((t194 == 0) == (x7_3 == (a1.size : Int))) = true := c46
                              (try (have c46b1 : decide ((t194 == 0) = (x7_3 == (a1.size : Int))) = true := by simpa using c46))
                              (try (have c46b2 : ((t194 == 0) == (x7_3 == (a1.size : Int))) = true := by simpa using c46))
                              clear c46
                              by_cases c47 : t194 = 0
                              · rw [if_pos c47] at H
                                have c47b0 : (t194 == 0) = true := beq_iff_eq.mpr c47
                                have c47b1 : (t194 != 0) = false := bne_eq_false_iff_eq.mpr c47
                                clear c47
                                replace H := Option.bind_eq_some_iff.mp H
                                obtain ⟨t204, A480, H⟩ := H
                                replace H : (some t204) = some r := H
                                have A48 := Aside0.mk A480
                                clear A480
                                obtain rfl := Option.some.inj H
                                have p42 : 0 ≤ (x7_3 : Int) := of_decide_eq_true (by first | (with_reducible assumption) | assumption)
                                have q42 : x7_3 < (a1.size : Int) := of_decide_eq_true (by first | (with_reducible assumption) | assumption)
                                have hx42 := bt_at a1 x7_3
                                replace p42 := eq_true p42
                                replace q42 := eq_true q42
                                go_wp2_with (first | (go_at_call 25; (with_reducible refine (remitterref05_In.calls k3 a0 (bt a1 x7_3) false _ A43.out).mono ?_); rintro e w' ⟨rfl, ⟨nd, rfl⟩⟩) | (go_at_call 20; (with_reducible refine (remitterlaw05_wakes.calls  t204 _ A48.out).mono ?_); rintro e w49 ⟨rfl, hb⟩; have n0_ := Aside0.mk (below_step (by repeat (first | (with_reducible first | exact HB.out | apply below_alloc | apply pw_below_drewN | apply below_drew1) | exact HB.out)) hb); clear HB; have HB := n0_; clear n0_; (try clear hb); (try clear hb2); (try clear hk); (try clear hi)))
                                all_goals (first | (exfalso; have hq_ := c46b0; rw [c47b0] at hq_; first | (have hz_ : (x7_3 == (a1.size : Int)) = false := beq_eq_false_iff_ne.2 (by assumption); rw [hz_] at hq_; exact absurd hq_ (by decide)) | (have hz_ : (x7_3 == (a1.size : Int)) = true := beq_iff_eq.2 (by assumption); rw [hz_] at hq_; exact absurd hq_ (by decide))) | (exfalso; simp_all; done) | (exfalso; omega) | (go_ret; exact ⟨by first | rfl | (simp [errW_none, errW_some] <;> rfl) | (simp [*, errW_none, errW_some] <;> rfl), by repeat (first | (with_reducible first | exact HB.out | apply below_alloc | apply pw_below_drewN | apply below_drew1) | exact HB.out)⟩))
                              · rw [if_neg c47] at H
                                have c47b0 : (t194 == 0) = false := beq_eq_false_iff_ne.mpr c47
                                have c47b1 : (t194 != 0) = true := bne_iff_ne.mpr c47
                                by_cases c50 : t194 = 15
                                · rw [if_pos c50] at H
                                  have c50b0 : (t194 == 15) = true := beq_iff_eq.mpr c50
                                  have c50b1 : (t194 != 15) = false := bne_eq_false_iff_eq.mpr c50
                                  clear c50
                                  replace H := Option.bind_eq_some_iff.mp H
                                  obtain ⟨t205, A510, H⟩ := H
                                  replace H : (some t205) = some r := H
                                  have A51 := Aside0.mk A510
                                  clear A510
                                  obtain rfl := Option.some.inj H
                                  have p42 : 0 ≤ (x7_3 : Int) := of_decide_eq_true (by first | (with_reducible assumption) | assumption)
                                  have q42 : x7_3 < (a1.size : Int) := of_decide_eq_true (by first | (with_reducible assumption) | assumption)
                                  have hx42 := bt_at a1 x7_3
                                  replace p42 := eq_true p42
                                  replace q42 := eq_true q42
                                  go_wp2_with (first | (go_at_call 25; (with_reducible refine (remitterref05_In.calls k3 a0 (bt a1 x7_3) false _ A43.out).mono ?_); rintro e w' ⟨rfl, ⟨nd, rfl⟩⟩) | (go_at_call 20; (with_reducible refine (remitterlaw05_wakes.calls  t205 _ A51.out).mono ?_); rintro e w52 ⟨rfl, hb⟩; have n0_ := Aside0.mk (below_step (by repeat (first | (with_reducible first | exact HB.out | apply below_alloc | apply pw_below_drewN | apply below_drew1) | exact HB.out)) hb); clear HB; have HB := n0_; clear n0_; (try clear hb); (try clear hb2); (try clear hk); (try clear hi)))
                                  all_goals (first | (exfalso; have hq_ := c46b0; rw [c47b0] at hq_; first | (have hz_ : (x7_3 == (a1.size : Int)) = false := beq_eq_false_iff_ne.2 (by assumption); rw [hz_] at hq_; exact absurd hq_ (by decide)) | (have hz_ : (x7_3 == (a1.size : Int)) = true := beq_iff_eq.2 (by assumption); rw [hz_] at hq_; exact absurd hq_ (by decide))) | (exfalso; simp_all; done) | (exfalso; omega) | (go_ret; exact ⟨by first | rfl | (simp [errW_none, errW_some] <;> rfl) | (simp [*, errW_none, errW_some] <;> rfl), by repeat (first | (with_reducible first | exact HB.out | apply below_alloc | apply pw_below_drewN | apply below_drew1) | exact HB.out)⟩))
                                · rw [if_neg c50] at H
                                  have c50b0 : (t194 == 15) = false := beq_eq_false_iff_ne.mpr c50
                                  have c50b1 : (t194 != 15) = true := bne_iff_ne.mpr c50
                                  obtain rfl := Option.some.inj H
                                  have p42 : 0 ≤ (x7_3 : Int) := of_decide_eq_true (by first | (with_reducible assumption) | assumption)
                                  have q42 : x7_3 < (a1.size : Int) := of_decide_eq_true (by first | (with_reducible assumption) | assumption)
                                  have hx42 := bt_at a1 x7_3
                                  replace p42 := eq_true p42
                                  replace q42 := eq_true q42
                                  go_wp2_with (first | (go_at_call 25; (with_reducible refine (remitterref05_In.calls k3 a0 (bt a1 x7_3) false _ A43.out).mono ?_); rintro e w' ⟨rfl, ⟨nd, rfl⟩⟩))
                                  all_goals (first | (exfalso; have hq_ := c46b0; rw [c47b0] at hq_; first | (have hz_ : (x7_3 == (a1.size : Int)) = false := beq_eq_false_iff_ne.2 (by assumption); rw [hz_] at hq_; exact absurd hq_ (by decide)) | (have hz_ : (x7_3 == (a1.size : Int)) = true := beq_iff_eq.2 (by assumption); rw [hz_] at hq_; exact absurd hq_ (by decide))) | (exfalso; simp_all; done) | (exfalso; omega) | (go_ret; exact ⟨by first | rfl | (simp [errW_none, errW_some] <;> rfl) | (simp [*, errW_none, errW_some] <;> rfl), by repeat (first | (with_reducible first | exact HB.out | apply below_alloc | apply pw_below_drewN | apply below_drew1) | exact HB.out)⟩))
                            · rw [if_neg c46] at H
                              have c46b0 : ((t194 == 0) == (x7_3 == (a1.size : Int))) = false := by simpa using c46
                              (try (have c46b1 : decide ((t194 == 0) = (x7_3 == (a1.size : Int))) = false := by simpa using c46))
                              (try (have c46b2 : ((t194 == 0) == (x7_3 == (a1.size : Int))) = false := by simpa using c46))
                              (try (have c46b3 : ¬ ((t194 == 0) = (x7_3 == (a1.size : Int))) := by simpa using c46))
                              clear c46
                              obtain rfl := Option.some.inj H
                              have p42 : 0 ≤ (x7_3 : Int) := of_decide_eq_true (by first | (with_reducible assumption) | assumption)
                              have q42 : x7_3 < (a1.size : Int) := of_decide_eq_true (by first | (with_reducible assumption) | assumption)
                              have hx42 := bt_at a1 x7_3
                              replace p42 := eq_true p42
                              replace q42 := eq_true q42
                              go_wp2_with (first | (go_at_call 25; (with_reducible refine (remitterref05_In.calls k3 a0 (bt a1 x7_3) false _ A43.out).mono ?_); rintro e w' ⟨rfl, ⟨nd, rfl⟩⟩))
                              all_goals (first | (exfalso; have hq_ := c46b0; rw [c47b0] at hq_; first | (have hz_ : (x7_3 == (a1.size : Int)) = false := beq_eq_false_iff_ne.2 (by assumption); rw [hz_] at hq_; exact absurd hq_ (by decide)) | (have hz_ : (x7_3 == (a1.size : Int)) = true := beq_iff_eq.2 (by assumption); rw [hz_] at hq_; exact absurd hq_ (by decide))) | (exfalso; simp_all; done) | (exfalso; omega) | (go_ret; exact ⟨by first | rfl | (simp [errW_none, errW_some] <;> rfl) | (simp [*, errW_none, errW_some] <;> rfl), by repeat (first | (with_reducible first | exact HB.out | apply below_alloc | apply pw_below_drewN | apply below_drew1) | exact HB.out)⟩))
                          · rw [if_neg c45] at H
                            have c45b0 : (t193 == x7_3) = false := beq_eq_false_iff_ne.mpr c45
                            have c45b1 : (t193 != x7_3) = true := bne_iff_ne.mpr c45
                            obtain rfl := Option.some.inj H
                            have p42 : 0 ≤ (x7_3 : Int) := of_decide_eq_true (by first | (with_reducible assumption) | assumption)
                            have q42 : x7_3 < (a1.size : Int) := of_decide_eq_true (by first | (with_reducible assumption) | assumption)
                            have hx42 := bt_at a1 x7_3
                            replace p42 := eq_true p42
                            replace q42 := eq_true q42
                            go_wp2_with (first | (go_at_call 25; (with_reducible refine (remitterref05_In.calls k3 a0 (bt a1 x7_3) false _ A43.out).mono ?_); rintro e w' ⟨rfl, ⟨nd, rfl⟩⟩))
                            all_goals (first | (exfalso; have hq_ := c46b0; rw [c47b0] at hq_; first | (have hz_ : (x7_3 == (a1.size : Int)) = false := beq_eq_false_iff_ne.2 (by assumption); rw [hz_] at hq_; exact absurd hq_ (by decide)) | (have hz_ : (x7_3 == (a1.size : Int)) = true := beq_iff_eq.2 (by assumption); rw [hz_] at hq_; exact absurd hq_ (by decide))) | (exfalso; simp_all; done) | (exfalso; omega) | (go_ret; exact ⟨by first | rfl | (simp [errW_none, errW_some] <;> rfl) | (simp [*, errW_none, errW_some] <;> rfl), by repeat (first | (with_reducible first | exact HB.out | apply below_alloc | apply pw_below_drewN | apply below_drew1) | exact HB.out)⟩))
                      · rw [if_neg c41] at H
                        exact absurd H (by simp)
                    · rw [if_neg c40] at H
                      have c40b0 : decide (x7_3 < (a1.size : Int)) = false := decide_eq_false c40
                      clear c40
                      by_cases c53 : t193 = x7_3
                      · rw [if_pos c53] at H
                        have c53b0 : (t193 == x7_3) = true := beq_iff_eq.mpr c53
                        have c53b1 : (t193 != x7_3) = false := bne_eq_false_iff_eq.mpr c53
                        clear c53
                        by_cases c54 : ((t194 == 0) == (x7_3 == (a1.size : Int))) = true
                        · rw [if_pos c54] at H
                          have c54b0 : ((t194 == 0) == (x7_3 == (a1.size : Int))) = true := c54
                          (try (have c54b1 : decide ((t194 == 0) = (x7_3 == (a1.size : Int))) = true := by simpa using c54))
                          (try (have c54b2 : ((t194 == 0) == (x7_3 == (a1.size : Int))) = true := by simpa using c54))
                          clear c54
                          by_cases c55 : t194 = 0
                          · rw [if_pos c55] at H
                            have c55b0 : (t194 == 0) = true := beq_iff_eq.mpr c55
                            have c55b1 : (t194 != 0) = false := bne_eq_false_iff_eq.mpr c55
                            clear c55
                            replace H := Option.bind_eq_some_iff.mp H
                            obtain ⟨t206, A560, H⟩ := H
                            replace H : (some t206) = some r := H
                            have A56 := Aside0.mk A560
                            clear A560
                            obtain rfl := Option.some.inj H
                            go_wp2_with (first | (go_at_call 20; (with_reducible refine (remitterlaw05_wakes.calls  t206 _ A56.out).mono ?_); rintro e w57 ⟨rfl, hb⟩; have n0_ := Aside0.mk (below_step (by repeat (first | (with_reducible first | exact HB.out | apply below_alloc | apply pw_below_drewN | apply below_drew1) | exact HB.out)) hb); clear HB; have HB := n0_; clear n0_; (try clear hb); (try clear hb2); (try clear hk); (try clear hi)))
                            all_goals (first | (exfalso; have hq_ := c54b0; rw [c55b0] at hq_; first | (have hz_ : (x7_3 == (a1.size : Int)) = false := beq_eq_false_iff_ne.2 (by assumption); rw [hz_] at hq_; exact absurd hq_ (by decide)) | (have hz_ : (x7_3 == (a1.size : Int)) = true := beq_iff_eq.2 (by assumption); rw [hz_] at hq_; exact absurd hq_ (by decide))) | (exfalso; simp_all; done) | (exfalso; omega) | (go_ret; exact ⟨by first | rfl | (simp [errW_none, errW_some] <;> rfl) | (simp [*, errW_none, errW_some] <;> rfl), by repeat (first | (with_reducible first | exact HB.out | apply below_alloc | apply pw_below_drewN | apply below_drew1) | exact HB.out)⟩))
                          · rw [if_neg c55] at H
                            have c55b0 : (t194 == 0) = false := beq_eq_false_iff_ne.mpr c55
                            have c55b1 : (t194 != 0) = true := bne_iff_ne.mpr c55
                            by_cases c58 : t194 = 15
                            · rw [if_pos c58] at H
                              have c58b0 : (t194 == 15) = true := beq_iff_eq.mpr c58
                              have c58b1 : (t194 != 15) = false := bne_eq_false_iff_eq.mpr c58
                              clear c58
                              replace H := Option.bind_eq_some_iff.mp H
                              obtain ⟨t207, A590, H⟩ := H
                              replace H : (some t207) = some r := H
                              have A59 := Aside0.mk A590
                              clear A590
                              obtain rfl := Option.some.inj H
                              go_wp2_with (first | (go_at_call 20; (with_reducible refine (remitterlaw05_wakes.calls  t207 _ A59.out).mono ?_); rintro e w60 ⟨rfl, hb⟩; have n0_ := Aside0.mk (below_step (by repeat (first | (with_reducible first | exact HB.out | apply below_alloc | apply pw_below_drewN | apply below_drew1) | exact HB.out)) hb); clear HB; have HB := n0_; clear n0_; (try clear hb); (try clear hb2); (try clear hk); (try clear hi)))
                              all_goals (first | (exfalso; have hq_ := c54b0; rw [c55b0] at hq_; first | (have hz_ : (x7_3 == (a1.size : Int)) = false := beq_eq_false_iff_ne.2 (by assumption); rw [hz_] at hq_; exact absurd hq_ (by decide)) | (have hz_ : (x7_3 == (a1.size : Int)) = true := beq_iff_eq.2 (by assumption); rw [hz_] at hq_; exact absurd hq_ (by decide))) | (exfalso; simp_all; done) | (exfalso; omega) | (go_ret; exact ⟨by first | rfl | (simp [errW_none, errW_some] <;> rfl) | (simp [*, errW_none, errW_some] <;> rfl), by repeat (first | (with_reducible first | exact HB.out | apply below_alloc | apply pw_below_drewN | apply below_drew1) | exact HB.out)⟩))
                            · rw [if_neg c58] at H
                              have c58b0 : (t194 == 15) = false := beq_eq_false_iff_ne.mpr c58
                              have c58b1 : (t194 != 15) = true := bne_iff_ne.mpr c58
                              obtain rfl := Option.some.inj H
                              go_wp2
                              all_goals (first | (exfalso; have hq_ := c54b0; rw [c55b0] at hq_; first | (have hz_ : (x7_3 == (a1.size : Int)) = false := beq_eq_false_iff_ne.2 (by assumption); rw [hz_] at hq_; exact absurd hq_ (by decide)) | (have hz_ : (x7_3 == (a1.size : Int)) = true := beq_iff_eq.2 (by assumption); rw [hz_] at hq_; exact absurd hq_ (by decide))) | (exfalso; simp_all; done) | (exfalso; omega) | (go_ret; exact ⟨by first | rfl | (simp [errW_none, errW_some] <;> rfl) | (simp [*, errW_none, errW_some] <;> rfl), by repeat (first | (with_reducible first | exact HB.out | apply below_alloc | apply pw_below_drewN | apply below_drew1) | exact HB.out)⟩))
                        · rw [if_neg c54] at H
                          have c54b0 : ((t194 == 0) == (x7_3 == (a1.size : Int))) = false := by simpa using c54
                          (try (have c54b1 : decide ((t194 == 0) = (x7_3 == (a1.size : Int))) = false := by simpa using c54))
                          (try (have c54b2 : ((t194 == 0) == (x7_3 == (a1.size : Int))) = false := by simpa using c54))
                          (try (have c54b3 : ¬ ((t194 == 0) = (x7_3 == (a1.size : Int))) := by simpa using c54))
                          clear c54
                          obtain rfl := Option.some.inj H
                          go_wp2
                          all_goals (first | (exfalso; have hq_ := c54b0; rw [c55b0] at hq_; first | (have hz_ : (x7_3 == (a1.size : Int)) = false := beq_eq_false_iff_ne.2 (by assumption); rw [hz_] at hq_; exact absurd hq_ (by decide)) | (have hz_ : (x7_3 == (a1.size : Int)) = true := beq_iff_eq.2 (by assumption); rw [hz_] at hq_; exact absurd hq_ (by decide))) | (exfalso; simp_all; done) | (exfalso; omega) | (go_ret; exact ⟨by first | rfl | (simp [errW_none, errW_some] <;> rfl) | (simp [*, errW_none, errW_some] <;> rfl), by repeat (first | (with_reducible first | exact HB.out | apply below_alloc | apply pw_below_drewN | apply below_drew1) | exact HB.out)⟩))
                      · rw [if_neg c53] at H
                        have c53b0 : (t193 == x7_3) = false := beq_eq_false_iff_ne.mpr c53
                        have c53b1 : (t193 != x7_3) = true := bne_iff_ne.mpr c53
                        obtain rfl := Option.some.inj H
                        go_wp2
                        all_goals (first | (exfalso; have hq_ := c54b0; rw [c55b0] at hq_; first | (have hz_ : (x7_3 == (a1.size : Int)) = false := beq_eq_false_iff_ne.2 (by assumption); rw [hz_] at hq_; exact absurd hq_ (by decide)) | (have hz_ : (x7_3 == (a1.size : Int)) = true := beq_iff_eq.2 (by assumption); rw [hz_] at hq_; exact absurd hq_ (by decide))) | (exfalso; simp_all; done) | (exfalso; omega) | (go_ret; exact ⟨by first | rfl | (simp [errW_none, errW_some] <;> rfl) | (simp [*, errW_none, errW_some] <;> rfl), by repeat (first | (with_reducible first | exact HB.out | apply below_alloc | apply pw_below_drewN | apply below_drew1) | exact HB.out)⟩))

/-- THE ONE PURE STATEMENT of remitterlaw05_CharsetTells: yours. -/
def remitterlaw05_CharsetTells.Pure : Prop := ∀ (a0 : Int) (a1 : ByteArray), (Lit.int .u8 a0).wf = true → a1.size ≤ 140737488351232 → ∃ k, remitterlaw05_CharsetTells.f k a0 a1 = some true
theorem remitterlaw05_CharsetTells.walk (P : remitterlaw05_CharsetTells.Pure) (a0 : Int) (a1 : ByteArray) (w : World) (w0 : (Lit.int .u8 a0).wf = true) (w1 : a1.size ≤ 140737488351232) :
    Calls Try.prog 6 #[.int .u8 a0, .string a1] w fun e w' => e = .returned (.bool true) ∧ Below w.heap.size w w' := by
  obtain ⟨k, h⟩ := P a0 a1 w0 w1
  refine (remitterlaw05_CharsetTells.calls k a0 a1 true w h).mono ?_
  rintro e w' ⟨rfl, hd⟩
  exact ⟨rfl, hd⟩

end Go.Proofs.Ytjemnphmjbodfaa.PAll

-- Made by this session's wip/tools/gprint.py, which runs the kit's print program; some functions' contracts are proved by hand.
import Derived.Test.YtjemnphmjbodfaaDoorPAllx0
import Derived.Test.YtjemnphmjbodfaaDoorPAllx2
import Derived.Test.YtjemnphmjbodfaaDoorPAllx3
import Derived.Test.YtjemnphmjbodfaaDoorPAllx4
import Derived.Test.YtjemnphmjbodfaaDoorPAllx5
import Derived.Test.YtjemnphmjbodfaaDoorGToXML
import Derived.Test.YtjemnphmjbodfaaDoorGMoment
import Derived.Test.YtjemnphmjbodfaaDoorGDay
namespace Go.Proofs.YtjemnphmjbodfaaDoor.PAll
open Go.RowKit Go.Proofs.YtjemnphmjbodfaaDoorW.PrintWords Go.Proofs.YtjemnphmjbodfaaDoorW.PrintLast Go.Proofs.YtjemnphmjbodfaaDoorW.PrintMore
attribute [local go_sem] max2_int min2_int max_two min_two max_three min_three max_four min_four   -- for this text's walks alone
set_option linter.unusedVariables false
set_option linter.unusedSimpArgs false

/-! ### remitterlaw06_DateTells: function 3 -/
mutual
def remitterlaw06_DateTells.j0 : Nat → ByteArray → Int → ByteArray → Int → Int → Int → Int → Int → Bool → Option (Bool)
  | 0, _, _, _, _, _, _, _, _, _ => none
  | k + 1, x3, x4, x5, x6, x7, x8, x9, x10, x55 => if x55 = true then (some false) else ((remitterref06_Say.f (decide (x9 ≥ 0))).bind fun t152 => (if x4 = t152 then ((remitterref06_Say.f (decide (x10 ≥ 0))).bind fun t153 => (if x6 = t153 then (remitterlaw06_DateTells.j1 k x3 x5 x7 x9 x10 (x8 != x6)) else (remitterlaw06_DateTells.j1 k x3 x5 x7 x9 x10 true))) else (remitterlaw06_DateTells.j1 k x3 x5 x7 x9 x10 true)))
def remitterlaw06_DateTells.j1 : Nat → ByteArray → ByteArray → Int → Int → Int → Bool → Option (Bool)
  | 0, _, _, _, _, _, _ => none
  | k + 1, x3, x5, x7, x9, x10, x72 => if x72 = true then (some false) else (if x9 < 0 then (if x3.toList = ([] : List UInt8) then (if x10 < 0 then (if x5.toList = ([] : List UInt8) then (remitterlaw06_DateTells.j2 k x3 x5 x7 x9 x10 (x7 != 0)) else (remitterlaw06_DateTells.j2 k x3 x5 x7 x9 x10 true)) else (remitterlaw06_DateTells.j2 k x3 x5 x7 x9 x10 false)) else (remitterlaw06_DateTells.j2 k x3 x5 x7 x9 x10 true)) else (if x10 < 0 then (if x5.toList = ([] : List UInt8) then (remitterlaw06_DateTells.j2 k x3 x5 x7 x9 x10 (x7 != 0)) else (remitterlaw06_DateTells.j2 k x3 x5 x7 x9 x10 true)) else (remitterlaw06_DateTells.j2 k x3 x5 x7 x9 x10 false)))
def remitterlaw06_DateTells.j2 : Nat → ByteArray → ByteArray → Int → Int → Int → Bool → Option (Bool)
  | 0, _, _, _, _, _, _ => none
  | k + 1, x3, x5, x7, x9, x10, x90 => if x90 = true then (some false) else (if x9 < 0 then (if x10 < 0 then ((remitterlaw06_wakes.f).bind fun t154 => (some t154)) else ((remitterref06_MT.f k x5).bind fun t155 => (if t155 = x10 then (if x7 = x10 then ((remitterlaw06_wakes.f).bind fun t156 => (some t156)) else (some false)) else (some false)))) else ((remitterref06_XML.f k x3).bind fun t157 => (if t157 = x9 then (if x10 < 0 then ((remitterlaw06_wakes.f).bind fun t158 => (some t158)) else ((remitterref06_MT.f k x5).bind fun t159 => (if t159 = x10 then (if x7 = x10 then ((remitterlaw06_wakes.f).bind fun t160 => (some t160)) else (some false)) else (some false)))) else (some false))))
end
def remitterlaw06_DateTells.f (k : Nat) (a0 : ByteArray) : Option (Bool) := if (a0.size : Int) > 100 then ((remitterlaw06_wakes.f).bind fun t136 => (some t136)) else ((date_ToXML.f a0).bind fun bt137 => ((date_ToMT.f a0).bind fun bt139 => ((date_Day.f a0).bind fun bt141 => ((remitterref06_MT.f k a0).bind fun t143 => ((remitterref06_XML.f k a0).bind fun t144 => ((date_CheckMT.f a0).bind fun t145 => ((remitterref06_Say.f (decide (t143 ≥ 0))).bind fun t146 => (if t145 = t146 then ((date_CheckXML.f a0).bind fun t147 => ((remitterref06_Say.f (decide (t144 ≥ 0))).bind fun t148 => (if t147 = t148 then ((date_CheckMoment.f a0).bind fun t149 => ((remitterref06_Moment.f k a0).bind fun t150 => ((remitterref06_Say.f t150).bind fun t151 => (remitterlaw06_DateTells.j0 k bt137.1 bt137.2 bt139.1 bt139.2 bt141.1 bt141.2 t143 t144 (t149 != t151))))) else (remitterlaw06_DateTells.j0 k bt137.1 bt137.2 bt139.1 bt139.2 bt141.1 bt141.2 t143 t144 true)))) else (remitterlaw06_DateTells.j0 k bt137.1 bt137.2 bt139.1 bt139.2 bt141.1 bt141.2 t143 t144 true)))))))))
theorem remitterlaw06_DateTells.mono_l : ∀ k, (∀ y0 y1 y2 y3 y4 y5 y6 y7 y8, LeO (remitterlaw06_DateTells.j0 k y0 y1 y2 y3 y4 y5 y6 y7 y8) (remitterlaw06_DateTells.j0 (k + 1) y0 y1 y2 y3 y4 y5 y6 y7 y8)) ∧ (∀ y0 y1 y2 y3 y4 y5, LeO (remitterlaw06_DateTells.j1 k y0 y1 y2 y3 y4 y5) (remitterlaw06_DateTells.j1 (k + 1) y0 y1 y2 y3 y4 y5)) ∧ (∀ y0 y1 y2 y3 y4 y5, LeO (remitterlaw06_DateTells.j2 k y0 y1 y2 y3 y4 y5) (remitterlaw06_DateTells.j2 (k + 1) y0 y1 y2 y3 y4 y5))
  | 0 => ⟨fun _ _ _ _ _ _ _ _ _ r h => by simp [remitterlaw06_DateTells.j0] at h, fun _ _ _ _ _ _ r h => by simp [remitterlaw06_DateTells.j1] at h, fun _ _ _ _ _ _ r h => by simp [remitterlaw06_DateTells.j2] at h⟩
  | k + 1 => by
    obtain ⟨ih0, ih1, ih2⟩ := remitterlaw06_DateTells.mono_l k
    refine ⟨?_, ?_, ?_⟩
    · intro y0 y1 y2 y3 y4 y5 y6 y7 y8
      unfold remitterlaw06_DateTells.j0
      repeat' first
      | (with_reducible exact ih0 _ _ _ _ _ _ _ _ _)
      | (with_reducible exact ih1 _ _ _ _ _ _)
      | (with_reducible exact ih2 _ _ _ _ _ _)
      | (with_reducible exact remitterref06_MT.mono _ _)
      | (with_reducible exact remitterref06_Moment.mono _ _)
      | (with_reducible exact remitterref06_XML.mono _ _)
      | (with_reducible exact LeO.refl _)
      | (with_reducible exact LeO.none _)
      | (with_reducible refine LeO.ite ?_ ?_)
      | (with_reducible refine LeO.bind ?_ (fun _ => ?_))
      | exact ih0 _ _ _ _ _ _ _ _ _
      | exact ih1 _ _ _ _ _ _
      | exact ih2 _ _ _ _ _ _
      | exact remitterref06_MT.mono _ _
      | exact remitterref06_Moment.mono _ _
      | exact remitterref06_XML.mono _ _
      | exact LeO.none _
      | refine LeO.ite ?_ ?_
      | refine LeO.bind ?_ (fun _ => ?_)
    · intro y0 y1 y2 y3 y4 y5
      unfold remitterlaw06_DateTells.j1
      repeat' first
      | (with_reducible exact ih0 _ _ _ _ _ _ _ _ _)
      | (with_reducible exact ih1 _ _ _ _ _ _)
      | (with_reducible exact ih2 _ _ _ _ _ _)
      | (with_reducible exact remitterref06_MT.mono _ _)
      | (with_reducible exact remitterref06_Moment.mono _ _)
      | (with_reducible exact remitterref06_XML.mono _ _)
      | (with_reducible exact LeO.refl _)
      | (with_reducible exact LeO.none _)
      | (with_reducible refine LeO.ite ?_ ?_)
      | (with_reducible refine LeO.bind ?_ (fun _ => ?_))
      | exact ih0 _ _ _ _ _ _ _ _ _
      | exact ih1 _ _ _ _ _ _
      | exact ih2 _ _ _ _ _ _
      | exact remitterref06_MT.mono _ _
      | exact remitterref06_Moment.mono _ _
      | exact remitterref06_XML.mono _ _
      | exact LeO.none _
      | refine LeO.ite ?_ ?_
      | refine LeO.bind ?_ (fun _ => ?_)
    · intro y0 y1 y2 y3 y4 y5
      unfold remitterlaw06_DateTells.j2
      repeat' first
      | (with_reducible exact ih0 _ _ _ _ _ _ _ _ _)
      | (with_reducible exact ih1 _ _ _ _ _ _)
      | (with_reducible exact ih2 _ _ _ _ _ _)
      | (with_reducible exact remitterref06_MT.mono _ _)
      | (with_reducible exact remitterref06_Moment.mono _ _)
      | (with_reducible exact remitterref06_XML.mono _ _)
      | (with_reducible exact LeO.refl _)
      | (with_reducible exact LeO.none _)
      | (with_reducible refine LeO.ite ?_ ?_)
      | (with_reducible refine LeO.bind ?_ (fun _ => ?_))
      | exact ih0 _ _ _ _ _ _ _ _ _
      | exact ih1 _ _ _ _ _ _
      | exact ih2 _ _ _ _ _ _
      | exact remitterref06_MT.mono _ _
      | exact remitterref06_Moment.mono _ _
      | exact remitterref06_XML.mono _ _
      | exact LeO.none _
      | refine LeO.ite ?_ ?_
      | refine LeO.bind ?_ (fun _ => ?_)
theorem remitterlaw06_DateTells.mono : ∀ a0 k, LeO (remitterlaw06_DateTells.f k a0) (remitterlaw06_DateTells.f (k + 1) a0) := by
  intro a0 k
  obtain ⟨ih0, ih1, ih2⟩ := remitterlaw06_DateTells.mono_l k
  unfold remitterlaw06_DateTells.f
  repeat' first
      | (with_reducible exact ih0 _ _ _ _ _ _ _ _ _)
      | (with_reducible exact ih1 _ _ _ _ _ _)
      | (with_reducible exact ih2 _ _ _ _ _ _)
      | (with_reducible exact remitterref06_MT.mono _ _)
      | (with_reducible exact remitterref06_Moment.mono _ _)
      | (with_reducible exact remitterref06_XML.mono _ _)
      | (with_reducible exact LeO.refl _)
      | (with_reducible exact LeO.none _)
      | (with_reducible refine LeO.ite ?_ ?_)
      | (with_reducible refine LeO.bind ?_ (fun _ => ?_))
      | exact ih0 _ _ _ _ _ _ _ _ _
      | exact ih1 _ _ _ _ _ _
      | exact ih2 _ _ _ _ _ _
      | exact remitterref06_MT.mono _ _
      | exact remitterref06_Moment.mono _ _
      | exact remitterref06_XML.mono _ _
      | exact LeO.none _
      | refine LeO.ite ?_ ?_
      | refine LeO.bind ?_ (fun _ => ?_)
set_option maxHeartbeats 8000000 in
set_option maxRecDepth 100000 in
theorem remitterlaw06_DateTells.calls (k : Nat) (a0 : ByteArray) (r : Bool) (w : World) (h : remitterlaw06_DateTells.f k a0 = some r) (hG : GW w) :
    Calls Tryd.prog 3 #[.string a0] w fun e w' => e = .returned (.bool r) ∧ Below w.heap.size w w' := by
  have HG := Aside0.mk hG
  clear hG
  have HB := Aside0.mk (Below.refl w.heap.size w)
  have H : (if (a0.size : Int) > 100 then ((remitterlaw06_wakes.f).bind fun t136 => (some t136)) else ((date_ToXML.f a0).bind fun bt137 => ((date_ToMT.f a0).bind fun bt139 => ((date_Day.f a0).bind fun bt141 => ((remitterref06_MT.f k a0).bind fun t143 => ((remitterref06_XML.f k a0).bind fun t144 => ((date_CheckMT.f a0).bind fun t145 => ((remitterref06_Say.f (decide (t143 ≥ 0))).bind fun t146 => (if t145 = t146 then ((date_CheckXML.f a0).bind fun t147 => ((remitterref06_Say.f (decide (t144 ≥ 0))).bind fun t148 => (if t147 = t148 then ((date_CheckMoment.f a0).bind fun t149 => ((remitterref06_Moment.f k a0).bind fun t150 => ((remitterref06_Say.f t150).bind fun t151 => (remitterlaw06_DateTells.j0 k bt137.1 bt137.2 bt139.1 bt139.2 bt141.1 bt141.2 t143 t144 (t149 != t151))))) else (remitterlaw06_DateTells.j0 k bt137.1 bt137.2 bt139.1 bt139.2 bt141.1 bt141.2 t143 t144 true)))) else (remitterlaw06_DateTells.j0 k bt137.1 bt137.2 bt139.1 bt139.2 bt141.1 bt141.2 t143 t144 true)))))))))) = some r := h
  clear h
  by_cases c2 : (a0.size : Int) > 100
  · rw [if_pos c2] at H
    have c2b0 : decide (100 < (a0.size : Int)) = true := decide_eq_true c2
    have c2b1 : decide (100 < a0.size) = true := decide_eq_true (by omega)
    clear c2
    replace H := Option.bind_eq_some_iff.mp H
    obtain ⟨t136, A30, H⟩ := H
    replace H : (some t136) = some r := H
    have A3 := Aside0.mk A30
    clear A30
    obtain rfl := Option.some.inj H
    go_enter Tryd.func3, Tryd.ntmps3
    go_wp2_with (first | ((with_reducible refine gate_callee (f := 6) rfl ?_); refine goesL_ (some 14) rfl rfl Tryd.func6 (by kernel_rfl) rfl #[] rfl (by (try simp only [List.map_toArray, List.map_cons, List.map_nil]); first | done | rfl | (simp only [List.length_drop, List.length_take]; rfl)) ?_; (with_reducible refine (remitterlaw06_wakes.calls  t136 _ A3.out (GW_below HG.out (by repeat (first | (with_reducible first | exact HB.out | apply below_alloc | apply pw_below_drewN | apply below_drew1) | exact HB.out)))).mono ?_); rintro e w4 ⟨rfl, hb⟩; refine ⟨_, rfl, ?_⟩; have n0_ := Aside0.mk (below_step (by repeat (first | (with_reducible first | exact HB.out | apply below_alloc | apply pw_below_drewN | apply below_drew1) | exact HB.out)) hb); clear HB; have HB := n0_; clear n0_; (try clear hb); (try clear hb2); (try clear hk); (try clear hi)))
    all_goals (first | (exfalso; simp_all; done) | (exfalso; omega) | (go_ret; exact ⟨by first | rfl | (simp [errW_none, errW_some] <;> rfl) | (simp [*, errW_none, errW_some] <;> rfl), by repeat (first | (with_reducible first | exact HB.out | apply below_alloc | apply pw_below_drewN | apply below_drew1) | exact HB.out)⟩))
  · rw [if_neg c2] at H
    have c2b0 : decide (100 < (a0.size : Int)) = false := decide_eq_false c2
    have c2b1 : decide (100 < a0.size) = false := decide_eq_false (by omega)
    clear c2
    replace H := Option.bind_eq_some_iff.mp H
    obtain ⟨⟨t137, t138⟩, A50, H⟩ := H
    replace H : ((date_ToMT.f a0).bind fun bt139 => ((date_Day.f a0).bind fun bt141 => ((remitterref06_MT.f k a0).bind fun t143 => ((remitterref06_XML.f k a0).bind fun t144 => ((date_CheckMT.f a0).bind fun t145 => ((remitterref06_Say.f (decide (t143 ≥ 0))).bind fun t146 => (if t145 = t146 then ((date_CheckXML.f a0).bind fun t147 => ((remitterref06_Say.f (decide (t144 ≥ 0))).bind fun t148 => (if t147 = t148 then ((date_CheckMoment.f a0).bind fun t149 => ((remitterref06_Moment.f k a0).bind fun t150 => ((remitterref06_Say.f t150).bind fun t151 => (remitterlaw06_DateTells.j0 k t137 t138 bt139.1 bt139.2 bt141.1 bt141.2 t143 t144 (t149 != t151))))) else (remitterlaw06_DateTells.j0 k t137 t138 bt139.1 bt139.2 bt141.1 bt141.2 t143 t144 true)))) else (remitterlaw06_DateTells.j0 k t137 t138 bt139.1 bt139.2 bt141.1 bt141.2 t143 t144 true)))))))) = some r := H
    have A5 := Aside0.mk A50
    clear A50
    replace H := Option.bind_eq_some_iff.mp H
    obtain ⟨⟨t139, t140⟩, A60, H⟩ := H
    replace H : ((date_Day.f a0).bind fun bt141 => ((remitterref06_MT.f k a0).bind fun t143 => ((remitterref06_XML.f k a0).bind fun t144 => ((date_CheckMT.f a0).bind fun t145 => ((remitterref06_Say.f (decide (t143 ≥ 0))).bind fun t146 => (if t145 = t146 then ((date_CheckXML.f a0).bind fun t147 => ((remitterref06_Say.f (decide (t144 ≥ 0))).bind fun t148 => (if t147 = t148 then ((date_CheckMoment.f a0).bind fun t149 => ((remitterref06_Moment.f k a0).bind fun t150 => ((remitterref06_Say.f t150).bind fun t151 => (remitterlaw06_DateTells.j0 k t137 t138 t139 t140 bt141.1 bt141.2 t143 t144 (t149 != t151))))) else (remitterlaw06_DateTells.j0 k t137 t138 t139 t140 bt141.1 bt141.2 t143 t144 true)))) else (remitterlaw06_DateTells.j0 k t137 t138 t139 t140 bt141.1 bt141.2 t143 t144 true))))))) = some r := H
    have A6 := Aside0.mk A60
    clear A60
    replace H := Option.bind_eq_some_iff.mp H
    obtain ⟨⟨t141, t142⟩, A70, H⟩ := H
    replace H : ((remitterref06_MT.f k a0).bind fun t143 => ((remitterref06_XML.f k a0).bind fun t144 => ((date_CheckMT.f a0).bind fun t145 => ((remitterref06_Say.f (decide (t143 ≥ 0))).bind fun t146 => (if t145 = t146 then ((date_CheckXML.f a0).bind fun t147 => ((remitterref06_Say.f (decide (t144 ≥ 0))).bind fun t148 => (if t147 = t148 then ((date_CheckMoment.f a0).bind fun t149 => ((remitterref06_Moment.f k a0).bind fun t150 => ((remitterref06_Say.f t150).bind fun t151 => (remitterlaw06_DateTells.j0 k t137 t138 t139 t140 t141 t142 t143 t144 (t149 != t151))))) else (remitterlaw06_DateTells.j0 k t137 t138 t139 t140 t141 t142 t143 t144 true)))) else (remitterlaw06_DateTells.j0 k t137 t138 t139 t140 t141 t142 t143 t144 true)))))) = some r := H
    have A7 := Aside0.mk A70
    clear A70
    replace H := Option.bind_eq_some_iff.mp H
    obtain ⟨t143, A80, H⟩ := H
    replace H : ((remitterref06_XML.f k a0).bind fun t144 => ((date_CheckMT.f a0).bind fun t145 => ((remitterref06_Say.f (decide (t143 ≥ 0))).bind fun t146 => (if t145 = t146 then ((date_CheckXML.f a0).bind fun t147 => ((remitterref06_Say.f (decide (t144 ≥ 0))).bind fun t148 => (if t147 = t148 then ((date_CheckMoment.f a0).bind fun t149 => ((remitterref06_Moment.f k a0).bind fun t150 => ((remitterref06_Say.f t150).bind fun t151 => (remitterlaw06_DateTells.j0 k t137 t138 t139 t140 t141 t142 t143 t144 (t149 != t151))))) else (remitterlaw06_DateTells.j0 k t137 t138 t139 t140 t141 t142 t143 t144 true)))) else (remitterlaw06_DateTells.j0 k t137 t138 t139 t140 t141 t142 t143 t144 true))))) = some r := H
    have A8 := Aside0.mk A80
    clear A80
    replace H := Option.bind_eq_some_iff.mp H
    obtain ⟨t144, A90, H⟩ := H
    replace H : ((date_CheckMT.f a0).bind fun t145 => ((remitterref06_Say.f (decide (t143 ≥ 0))).bind fun t146 => (if t145 = t146 then ((date_CheckXML.f a0).bind fun t147 => ((remitterref06_Say.f (decide (t144 ≥ 0))).bind fun t148 => (if t147 = t148 then ((date_CheckMoment.f a0).bind fun t149 => ((remitterref06_Moment.f k a0).bind fun t150 => ((remitterref06_Say.f t150).bind fun t151 => (remitterlaw06_DateTells.j0 k t137 t138 t139 t140 t141 t142 t143 t144 (t149 != t151))))) else (remitterlaw06_DateTells.j0 k t137 t138 t139 t140 t141 t142 t143 t144 true)))) else (remitterlaw06_DateTells.j0 k t137 t138 t139 t140 t141 t142 t143 t144 true)))) = some r := H
    have A9 := Aside0.mk A90
    clear A90
    have HC10 := Aside0.mk H
    clear H
    go_enter Tryd.func3, Tryd.ntmps3
    go_upto_region 7 with (first | ((with_reducible refine gate_callee (f := 7) rfl ?_); refine goesL_ (some 17) rfl rfl Tryd.func7 (by kernel_rfl) rfl #[.string a0] rfl (by (try simp only [List.map_toArray, List.map_cons, List.map_nil]); first | done | rfl | (simp only [List.length_drop, List.length_take]; rfl)) ?_; (with_reducible refine (date_ToXML.calls a0 t137 t138 _ A5.out).mono ?_); rintro e w11 ⟨rfl, hb⟩; refine ⟨_, rfl, ?_⟩; have n0_ := Aside0.mk (below_step (by repeat (first | (with_reducible first | exact HB.out | apply below_alloc | apply pw_below_drewN | apply below_drew1) | exact HB.out)) hb); clear HB; have HB := n0_; clear n0_; (try clear hb); (try clear hb2); (try clear hk); (try clear hi)) | ((with_reducible refine gate_callee (f := 8) rfl ?_); refine goesL_ (some 22) rfl rfl Tryd.func8 (by kernel_rfl) rfl #[.string a0] rfl (by (try simp only [List.map_toArray, List.map_cons, List.map_nil]); first | done | rfl | (simp only [List.length_drop, List.length_take]; rfl)) ?_; (with_reducible refine (date_ToMT.calls a0 t139 t140 _ A6.out (GW_below HG.out (by repeat (first | (with_reducible first | exact HB.out | apply below_alloc | apply pw_below_drewN | apply below_drew1) | exact HB.out)))).mono ?_); rintro e w12 ⟨rfl, hb⟩; refine ⟨_, rfl, ?_⟩; have n0_ := Aside0.mk (below_step (by repeat (first | (with_reducible first | exact HB.out | apply below_alloc | apply pw_below_drewN | apply below_drew1) | exact HB.out)) hb); clear HB; have HB := n0_; clear n0_; (try clear hb); (try clear hb2); (try clear hk); (try clear hi)) | ((with_reducible refine gate_callee (f := 9) rfl ?_); refine goesL_ (some 27) rfl rfl Tryd.func9 (by kernel_rfl) rfl #[.string a0] rfl (by (try simp only [List.map_toArray, List.map_cons, List.map_nil]); first | done | rfl | (simp only [List.length_drop, List.length_take]; rfl)) ?_; (with_reducible refine (date_Day.calls a0 t141 t142 _ A7.out).mono ?_); rintro e w13 ⟨rfl, hb⟩; refine ⟨_, rfl, ?_⟩; have n0_ := Aside0.mk (below_step (by repeat (first | (with_reducible first | exact HB.out | apply below_alloc | apply pw_below_drewN | apply below_drew1) | exact HB.out)) hb); clear HB; have HB := n0_; clear n0_; (try clear hb); (try clear hb2); (try clear hk); (try clear hi)) | ((with_reducible refine gate_callee (f := 10) rfl ?_); refine goesL_ (some 31) rfl rfl Tryd.func10 (by kernel_rfl) rfl #[.string a0] rfl (by (try simp only [List.map_toArray, List.map_cons, List.map_nil]); first | done | rfl | (simp only [List.length_drop, List.length_take]; rfl)) ?_; (with_reducible refine (remitterref06_MT.calls k a0 t143 _ A8.out).mono ?_); rintro e w' ⟨rfl, ⟨nd, rfl⟩⟩; refine ⟨_, rfl, ?_⟩) | ((with_reducible refine gate_callee (f := 11) rfl ?_); refine goesL_ (some 33) rfl rfl Tryd.func11 (by kernel_rfl) rfl #[.string a0] rfl (by (try simp only [List.map_toArray, List.map_cons, List.map_nil]); first | done | rfl | (simp only [List.length_drop, List.length_take]; rfl)) ?_; (with_reducible refine (remitterref06_XML.calls k a0 t144 _ A9.out).mono ?_); rintro e w' ⟨rfl, ⟨nd, rfl⟩⟩; refine ⟨_, rfl, ?_⟩))
    (try simp only [Act.put, List.setIfInBounds_toArray, List.set_cons_zero, List.set_cons_succ])
    go_cut [55] (fun v55 wc => ∃ (kq : Nat) (x55_9 : Bool), v55 = .bool x55_9 ∧ Aside0 (remitterlaw06_DateTells.j0 kq t137 t138 t139 t140 t141 t142 t143 t144 x55_9 = some r) ∧ Aside0 (kq ≤ k) ∧ Aside0 (Below w.heap.size w wc))
    case first =>
      have H := HC10.out
      clear HC10
      replace H := Option.bind_eq_some_iff.mp H
      obtain ⟨t145, A140, H⟩ := H
      replace H : ((remitterref06_Say.f (decide (t143 ≥ 0))).bind fun t146 => (if t145 = t146 then ((date_CheckXML.f a0).bind fun t147 => ((remitterref06_Say.f (decide (t144 ≥ 0))).bind fun t148 => (if t147 = t148 then ((date_CheckMoment.f a0).bind fun t149 => ((remitterref06_Moment.f k a0).bind fun t150 => ((remitterref06_Say.f t150).bind fun t151 => (remitterlaw06_DateTells.j0 k t137 t138 t139 t140 t141 t142 t143 t144 (t149 != t151))))) else (remitterlaw06_DateTells.j0 k t137 t138 t139 t140 t141 t142 t143 t144 true)))) else (remitterlaw06_DateTells.j0 k t137 t138 t139 t140 t141 t142 t143 t144 true))) = some r := H
      have A14 := Aside0.mk A140
      clear A140
      replace H := Option.bind_eq_some_iff.mp H
      obtain ⟨t146, A150, H⟩ := H
      replace H : (if t145 = t146 then ((date_CheckXML.f a0).bind fun t147 => ((remitterref06_Say.f (decide (t144 ≥ 0))).bind fun t148 => (if t147 = t148 then ((date_CheckMoment.f a0).bind fun t149 => ((remitterref06_Moment.f k a0).bind fun t150 => ((remitterref06_Say.f t150).bind fun t151 => (remitterlaw06_DateTells.j0 k t137 t138 t139 t140 t141 t142 t143 t144 (t149 != t151))))) else (remitterlaw06_DateTells.j0 k t137 t138 t139 t140 t141 t142 t143 t144 true)))) else (remitterlaw06_DateTells.j0 k t137 t138 t139 t140 t141 t142 t143 t144 true)) = some r := H
      have A15 := Aside0.mk A150
      clear A150
      by_cases c16 : t145 = t146
      · rw [if_pos c16] at H
        have c16b0 : (t145 == t146) = true := beq_iff_eq.mpr c16
        have c16b1 : (t145 != t146) = false := bne_eq_false_iff_eq.mpr c16
        clear c16
        (first | rw [c16b0] | (simp only [i64_w, i32_w]; rw [c16b0]) | skip)
        replace H := Option.bind_eq_some_iff.mp H
        obtain ⟨t147, A170, H⟩ := H
        replace H : ((remitterref06_Say.f (decide (t144 ≥ 0))).bind fun t148 => (if t147 = t148 then ((date_CheckMoment.f a0).bind fun t149 => ((remitterref06_Moment.f k a0).bind fun t150 => ((remitterref06_Say.f t150).bind fun t151 => (remitterlaw06_DateTells.j0 k t137 t138 t139 t140 t141 t142 t143 t144 (t149 != t151))))) else (remitterlaw06_DateTells.j0 k t137 t138 t139 t140 t141 t142 t143 t144 true))) = some r := H
        have A17 := Aside0.mk A170
        clear A170
        replace H := Option.bind_eq_some_iff.mp H
        obtain ⟨t148, A180, H⟩ := H
        replace H : (if t147 = t148 then ((date_CheckMoment.f a0).bind fun t149 => ((remitterref06_Moment.f k a0).bind fun t150 => ((remitterref06_Say.f t150).bind fun t151 => (remitterlaw06_DateTells.j0 k t137 t138 t139 t140 t141 t142 t143 t144 (t149 != t151))))) else (remitterlaw06_DateTells.j0 k t137 t138 t139 t140 t141 t142 t143 t144 true)) = some r := H
        have A18 := Aside0.mk A180
        clear A180
        by_cases c19 : t147 = t148
        · rw [if_pos c19] at H
          have c19b0 : (t147 == t148) = true := beq_iff_eq.mpr c19
          have c19b1 : (t147 != t148) = false := bne_eq_false_iff_eq.mpr c19
          clear c19
          replace H := Option.bind_eq_some_iff.mp H
          obtain ⟨t149, A200, H⟩ := H
          replace H : ((remitterref06_Moment.f k a0).bind fun t150 => ((remitterref06_Say.f t150).bind fun t151 => (remitterlaw06_DateTells.j0 k t137 t138 t139 t140 t141 t142 t143 t144 (t149 != t151)))) = some r := H
          have A20 := Aside0.mk A200
          clear A200
          replace H := Option.bind_eq_some_iff.mp H
          obtain ⟨t150, A210, H⟩ := H
          replace H : ((remitterref06_Say.f t150).bind fun t151 => (remitterlaw06_DateTells.j0 k t137 t138 t139 t140 t141 t142 t143 t144 (t149 != t151))) = some r := H
          have A21 := Aside0.mk A210
          clear A210
          replace H := Option.bind_eq_some_iff.mp H
          obtain ⟨t151, A220, H⟩ := H
          replace H : (remitterlaw06_DateTells.j0 k t137 t138 t139 t140 t141 t142 t143 t144 (t149 != t151)) = some r := H
          have A22 := Aside0.mk A220
          clear A220
          have H' := Aside0.mk H
          clear H
          go_wp2_with (first | ((with_reducible refine gate_callee (f := 12) rfl ?_); refine goesL_ (some 35) rfl rfl Tryd.func12 (by kernel_rfl) rfl #[.string a0] rfl (by (try simp only [List.map_toArray, List.map_cons, List.map_nil]); first | done | rfl | (simp only [List.length_drop, List.length_take]; rfl)) ?_; (with_reducible refine (date_CheckMT.calls a0 t145 _ A14.out).mono ?_); rintro e w23 ⟨rfl, hb⟩; refine ⟨_, rfl, ?_⟩; have n0_ := Aside0.mk (below_step (by repeat (first | (with_reducible first | exact HB.out | apply below_alloc | apply pw_below_drewN | apply below_drew1) | exact HB.out)) hb); clear HB; have HB := n0_; clear n0_; (try clear hb); (try clear hb2); (try clear hk); (try clear hi)) | ((with_reducible refine gate_callee (f := 13) rfl ?_); refine goesL_ (some 38) rfl rfl Tryd.func13 (by kernel_rfl) rfl #[.bool (decide (t143 ≥ 0))] rfl (by (try simp only [List.map_toArray, List.map_cons, List.map_nil]); first | done | rfl | (simp only [List.length_drop, List.length_take]; rfl)) ?_; (with_reducible refine (remitterref06_Say.calls (decide (t143 ≥ 0)) t146 _ A15.out).mono ?_); rintro e w' ⟨rfl, ⟨nd, rfl⟩⟩; refine ⟨_, rfl, ?_⟩) | (go_at_call 14; (with_reducible refine (date_CheckXML.calls a0 t147 _ A17.out).mono ?_); rintro e w24 ⟨rfl, hb⟩; have n0_ := Aside0.mk (below_step (by repeat (first | (with_reducible first | exact HB.out | apply below_alloc | apply pw_below_drewN | apply below_drew1) | exact HB.out)) hb); clear HB; have HB := n0_; clear n0_; (try clear hb); (try clear hb2); (try clear hk); (try clear hi)) | (go_at_call 13; (with_reducible refine (remitterref06_Say.calls (decide (t144 ≥ 0)) t148 _ A18.out).mono ?_); rintro e w' ⟨rfl, ⟨nd, rfl⟩⟩) | (go_at_call 15; (with_reducible refine (date_CheckMoment.calls a0 t149 _ A20.out).mono ?_); rintro e w25 ⟨rfl, hb⟩; have n0_ := Aside0.mk (below_step (by repeat (first | (with_reducible first | exact HB.out | apply below_alloc | apply pw_below_drewN | apply below_drew1) | exact HB.out)) hb); clear HB; have HB := n0_; clear n0_; (try clear hb); (try clear hb2); (try clear hk); (try clear hi)) | (go_at_call 16; (with_reducible refine (remitterref06_Moment.calls k a0 t150 _ A21.out).mono ?_); rintro e w' ⟨rfl, ⟨nd, rfl⟩⟩) | (go_at_call 13; (with_reducible refine (remitterref06_Say.calls t150 t151 _ A22.out).mono ?_); rintro e w' ⟨rfl, ⟨nd, rfl⟩⟩))
          go_meet
          case rel => exact ⟨_, ((t149 != t151)), (by first | rfl | (simp; done) | (simp [*]; done) | exact congrArg Value.bool (Go.Proofs.YtjemnphmjbodfaaDoor.GLib.not_isEmpty _) | exact congrArg Value.bool (Go.Proofs.YtjemnphmjbodfaaDoor.GLib.not_isEmpty _).symm), H', ⟨by first | omega | exact Nat.le_refl _⟩, ⟨by repeat (first | (with_reducible first | exact HB.out | apply below_alloc | apply pw_below_drewN | apply below_drew1) | exact HB.out)⟩⟩
        · rw [if_neg c19] at H
          have c19b0 : (t147 == t148) = false := beq_eq_false_iff_ne.mpr c19
          have c19b1 : (t147 != t148) = true := bne_iff_ne.mpr c19
          have H' := Aside0.mk H
          clear H
          go_wp2_with (first | ((with_reducible refine gate_callee (f := 12) rfl ?_); refine goesL_ (some 35) rfl rfl Tryd.func12 (by kernel_rfl) rfl #[.string a0] rfl (by (try simp only [List.map_toArray, List.map_cons, List.map_nil]); first | done | rfl | (simp only [List.length_drop, List.length_take]; rfl)) ?_; (with_reducible refine (date_CheckMT.calls a0 t145 _ A14.out).mono ?_); rintro e w26 ⟨rfl, hb⟩; refine ⟨_, rfl, ?_⟩; have n0_ := Aside0.mk (below_step (by repeat (first | (with_reducible first | exact HB.out | apply below_alloc | apply pw_below_drewN | apply below_drew1) | exact HB.out)) hb); clear HB; have HB := n0_; clear n0_; (try clear hb); (try clear hb2); (try clear hk); (try clear hi)) | ((with_reducible refine gate_callee (f := 13) rfl ?_); refine goesL_ (some 38) rfl rfl Tryd.func13 (by kernel_rfl) rfl #[.bool (decide (t143 ≥ 0))] rfl (by (try simp only [List.map_toArray, List.map_cons, List.map_nil]); first | done | rfl | (simp only [List.length_drop, List.length_take]; rfl)) ?_; (with_reducible refine (remitterref06_Say.calls (decide (t143 ≥ 0)) t146 _ A15.out).mono ?_); rintro e w' ⟨rfl, ⟨nd, rfl⟩⟩; refine ⟨_, rfl, ?_⟩) | (go_at_call 14; (with_reducible refine (date_CheckXML.calls a0 t147 _ A17.out).mono ?_); rintro e w27 ⟨rfl, hb⟩; have n0_ := Aside0.mk (below_step (by repeat (first | (with_reducible first | exact HB.out | apply below_alloc | apply pw_below_drewN | apply below_drew1) | exact HB.out)) hb); clear HB; have HB := n0_; clear n0_; (try clear hb); (try clear hb2); (try clear hk); (try clear hi)) | (go_at_call 13; (with_reducible refine (remitterref06_Say.calls (decide (t144 ≥ 0)) t148 _ A18.out).mono ?_); rintro e w' ⟨rfl, ⟨nd, rfl⟩⟩))
          go_meet
          case rel => exact ⟨_, (true), (by first | rfl | (simp; done) | (simp [*]; done) | exact congrArg Value.bool (Go.Proofs.YtjemnphmjbodfaaDoor.GLib.not_isEmpty _) | exact congrArg Value.bool (Go.Proofs.YtjemnphmjbodfaaDoor.GLib.not_isEmpty _).symm), H', ⟨by first | omega | exact Nat.le_refl _⟩, ⟨by repeat (first | (with_reducible first | exact HB.out | apply below_alloc | apply pw_below_drewN | apply below_drew1) | exact HB.out)⟩⟩
      · rw [if_neg c16] at H
        have c16b0 : (t145 == t146) = false := beq_eq_false_iff_ne.mpr c16
        have c16b1 : (t145 != t146) = true := bne_iff_ne.mpr c16
        (first | rw [c16b0] | (simp only [i64_w, i32_w]; rw [c16b0]) | skip)
        have H' := Aside0.mk H
        clear H
        go_wp2_with (first | ((with_reducible refine gate_callee (f := 12) rfl ?_); refine goesL_ (some 35) rfl rfl Tryd.func12 (by kernel_rfl) rfl #[.string a0] rfl (by (try simp only [List.map_toArray, List.map_cons, List.map_nil]); first | done | rfl | (simp only [List.length_drop, List.length_take]; rfl)) ?_; (with_reducible refine (date_CheckMT.calls a0 t145 _ A14.out).mono ?_); rintro e w28 ⟨rfl, hb⟩; refine ⟨_, rfl, ?_⟩; have n0_ := Aside0.mk (below_step (by repeat (first | (with_reducible first | exact HB.out | apply below_alloc | apply pw_below_drewN | apply below_drew1) | exact HB.out)) hb); clear HB; have HB := n0_; clear n0_; (try clear hb); (try clear hb2); (try clear hk); (try clear hi)) | ((with_reducible refine gate_callee (f := 13) rfl ?_); refine goesL_ (some 38) rfl rfl Tryd.func13 (by kernel_rfl) rfl #[.bool (decide (t143 ≥ 0))] rfl (by (try simp only [List.map_toArray, List.map_cons, List.map_nil]); first | done | rfl | (simp only [List.length_drop, List.length_take]; rfl)) ?_; (with_reducible refine (remitterref06_Say.calls (decide (t143 ≥ 0)) t146 _ A15.out).mono ?_); rintro e w' ⟨rfl, ⟨nd, rfl⟩⟩; refine ⟨_, rfl, ?_⟩))
        go_meet
        case rel => exact ⟨_, (true), (by first | rfl | (simp; done) | (simp [*]; done) | exact congrArg Value.bool (Go.Proofs.YtjemnphmjbodfaaDoor.GLib.not_isEmpty _) | exact congrArg Value.bool (Go.Proofs.YtjemnphmjbodfaaDoor.GLib.not_isEmpty _).symm), H', ⟨by first | omega | exact Nat.le_refl _⟩, ⟨by repeat (first | (with_reducible first | exact HB.out | apply below_alloc | apply pw_below_drewN | apply below_drew1) | exact HB.out)⟩⟩
    case rest =>
      clear HC10
      try clear c1
      try clear c2
      try clear c2b0
      try clear c2b1
      try clear p2
      try clear c3
      try clear c6
      try clear c7
      try clear c8
      try clear c9
      try clear c10
      try clear c11
      try clear c12
      try clear c13
      try clear c16
      try clear c16b0
      try clear c16b1
      try clear c19
      try clear c19b0
      try clear c19b1
      obtain ⟨kq, x55_9, rfl, HA, HJ9, HB⟩ := hcut
      cases kq with
      | zero => exact absurd HA.out (by simp [remitterlaw06_DateTells.j0])
      | succ kj9 =>
        have H := HA.out
        clear HA
        simp only [remitterlaw06_DateTells.j0] at H
        by_cases c29 : x55_9 = true
        · subst c29
          have H1 : (some false) = some r := by rw [if_pos rfl] at H; exact H
          clear H
          have H := H1
          clear H1
          obtain rfl := Option.some.inj H
          go_wp2
          all_goals (first | (exfalso; simp_all; done) | (exfalso; omega) | (go_ret; exact ⟨by first | rfl | (simp [errW_none, errW_some] <;> rfl) | (simp [*, errW_none, errW_some] <;> rfl), by repeat (first | (with_reducible first | exact HB.out | apply below_alloc | apply pw_below_drewN | apply below_drew1) | exact HB.out)⟩))
        · replace c29 := Bool.eq_false_iff.mpr c29
          subst c29
          have H1 : ((remitterref06_Say.f (decide (t143 ≥ 0))).bind fun t152 => (if t138 = t152 then ((remitterref06_Say.f (decide (t144 ≥ 0))).bind fun t153 => (if t140 = t153 then (remitterlaw06_DateTells.j1 kj9 t137 t139 t141 t143 t144 (t142 != t140)) else (remitterlaw06_DateTells.j1 kj9 t137 t139 t141 t143 t144 true))) else (remitterlaw06_DateTells.j1 kj9 t137 t139 t141 t143 t144 true))) = some r := by rw [if_neg (show ¬ (false = true) by decide)] at H; exact H
          clear H
          have H := H1
          clear H1
          have HC30 := Aside0.mk H
          clear H
          go_upto_region 9 with (fail)
          go_cut [72] (fun v72 wc => ∃ (kq : Nat) (x72_29 : Bool), v72 = .bool x72_29 ∧ Aside0 (remitterlaw06_DateTells.j1 kq t137 t139 t141 t143 t144 x72_29 = some r) ∧ Aside0 (kq ≤ kj9) ∧ Aside0 (Below w.heap.size w wc))
          case first =>
            have H := HC30.out
            clear HC30
            replace H := Option.bind_eq_some_iff.mp H
            obtain ⟨t152, A310, H⟩ := H
            replace H : (if t138 = t152 then ((remitterref06_Say.f (decide (t144 ≥ 0))).bind fun t153 => (if t140 = t153 then (remitterlaw06_DateTells.j1 kj9 t137 t139 t141 t143 t144 (t142 != t140)) else (remitterlaw06_DateTells.j1 kj9 t137 t139 t141 t143 t144 true))) else (remitterlaw06_DateTells.j1 kj9 t137 t139 t141 t143 t144 true)) = some r := H
            have A31 := Aside0.mk A310
            clear A310
            by_cases c32 : t138 = t152
            · rw [if_pos c32] at H
              have c32b0 : (t138 == t152) = true := beq_iff_eq.mpr c32
              have c32b1 : (t138 != t152) = false := bne_eq_false_iff_eq.mpr c32
              clear c32
              (first | rw [c32b0] | (simp only [i64_w, i32_w]; rw [c32b0]) | skip)
              replace H := Option.bind_eq_some_iff.mp H
              obtain ⟨t153, A330, H⟩ := H
              replace H : (if t140 = t153 then (remitterlaw06_DateTells.j1 kj9 t137 t139 t141 t143 t144 (t142 != t140)) else (remitterlaw06_DateTells.j1 kj9 t137 t139 t141 t143 t144 true)) = some r := H
              have A33 := Aside0.mk A330
              clear A330
              by_cases c34 : t140 = t153
              · rw [if_pos c34] at H
                have c34b0 : (t140 == t153) = true := beq_iff_eq.mpr c34
                have c34b1 : (t140 != t153) = false := bne_eq_false_iff_eq.mpr c34
                clear c34
                have H' := Aside0.mk H
                clear H
                go_wp2_with (first | ((with_reducible refine gate_callee (f := 13) rfl ?_); refine goesL_ (some 59) rfl rfl Tryd.func13 (by kernel_rfl) rfl #[.bool (decide (t143 ≥ 0))] rfl (by (try simp only [List.map_toArray, List.map_cons, List.map_nil]); first | done | rfl | (simp only [List.length_drop, List.length_take]; rfl)) ?_; (with_reducible refine (remitterref06_Say.calls (decide (t143 ≥ 0)) t152 _ A31.out).mono ?_); rintro e w' ⟨rfl, ⟨nd, rfl⟩⟩; refine ⟨_, rfl, ?_⟩) | (go_at_call 13; (with_reducible refine (remitterref06_Say.calls (decide (t144 ≥ 0)) t153 _ A33.out).mono ?_); rintro e w' ⟨rfl, ⟨nd, rfl⟩⟩))
                go_meet
                case rel => exact ⟨_, ((t142 != t140)), (by first | rfl | (simp; done) | (simp [*]; done) | exact congrArg Value.bool (Go.Proofs.YtjemnphmjbodfaaDoor.GLib.not_isEmpty _) | exact congrArg Value.bool (Go.Proofs.YtjemnphmjbodfaaDoor.GLib.not_isEmpty _).symm), H', ⟨by have := HJ9.out; first | omega | exact Nat.le_refl _⟩, ⟨by repeat (first | (with_reducible first | exact HB.out | apply below_alloc | apply pw_below_drewN | apply below_drew1) | exact HB.out)⟩⟩
              · rw [if_neg c34] at H
                have c34b0 : (t140 == t153) = false := beq_eq_false_iff_ne.mpr c34
                have c34b1 : (t140 != t153) = true := bne_iff_ne.mpr c34
                have H' := Aside0.mk H
                clear H
                go_wp2_with (first | ((with_reducible refine gate_callee (f := 13) rfl ?_); refine goesL_ (some 59) rfl rfl Tryd.func13 (by kernel_rfl) rfl #[.bool (decide (t143 ≥ 0))] rfl (by (try simp only [List.map_toArray, List.map_cons, List.map_nil]); first | done | rfl | (simp only [List.length_drop, List.length_take]; rfl)) ?_; (with_reducible refine (remitterref06_Say.calls (decide (t143 ≥ 0)) t152 _ A31.out).mono ?_); rintro e w' ⟨rfl, ⟨nd, rfl⟩⟩; refine ⟨_, rfl, ?_⟩) | (go_at_call 13; (with_reducible refine (remitterref06_Say.calls (decide (t144 ≥ 0)) t153 _ A33.out).mono ?_); rintro e w' ⟨rfl, ⟨nd, rfl⟩⟩))
                go_meet
                case rel => exact ⟨_, (true), (by first | rfl | (simp; done) | (simp [*]; done) | exact congrArg Value.bool (Go.Proofs.YtjemnphmjbodfaaDoor.GLib.not_isEmpty _) | exact congrArg Value.bool (Go.Proofs.YtjemnphmjbodfaaDoor.GLib.not_isEmpty _).symm), H', ⟨by have := HJ9.out; first | omega | exact Nat.le_refl _⟩, ⟨by repeat (first | (with_reducible first | exact HB.out | apply below_alloc | apply pw_below_drewN | apply below_drew1) | exact HB.out)⟩⟩
            · rw [if_neg c32] at H
              have c32b0 : (t138 == t152) = false := beq_eq_false_iff_ne.mpr c32
              have c32b1 : (t138 != t152) = true := bne_iff_ne.mpr c32
              (first | rw [c32b0] | (simp only [i64_w, i32_w]; rw [c32b0]) | skip)
              have H' := Aside0.mk H
              clear H
              go_wp2_with (first | ((with_reducible refine gate_callee (f := 13) rfl ?_); refine goesL_ (some 59) rfl rfl Tryd.func13 (by kernel_rfl) rfl #[.bool (decide (t143 ≥ 0))] rfl (by (try simp only [List.map_toArray, List.map_cons, List.map_nil]); first | done | rfl | (simp only [List.length_drop, List.length_take]; rfl)) ?_; (with_reducible refine (remitterref06_Say.calls (decide (t143 ≥ 0)) t152 _ A31.out).mono ?_); rintro e w' ⟨rfl, ⟨nd, rfl⟩⟩; refine ⟨_, rfl, ?_⟩))
              go_meet
              case rel => exact ⟨_, (true), (by first | rfl | (simp; done) | (simp [*]; done) | exact congrArg Value.bool (Go.Proofs.YtjemnphmjbodfaaDoor.GLib.not_isEmpty _) | exact congrArg Value.bool (Go.Proofs.YtjemnphmjbodfaaDoor.GLib.not_isEmpty _).symm), H', ⟨by have := HJ9.out; first | omega | exact Nat.le_refl _⟩, ⟨by repeat (first | (with_reducible first | exact HB.out | apply below_alloc | apply pw_below_drewN | apply below_drew1) | exact HB.out)⟩⟩
          case rest =>
            clear HC30
            try clear c1
            try clear c2
            try clear c2b0
            try clear c2b1
            try clear p2
            try clear c3
            try clear c6
            try clear c7
            try clear c8
            try clear c9
            try clear c10
            try clear c11
            try clear c12
            try clear c13
            try clear c16
            try clear c16b0
            try clear c16b1
            try clear c19
            try clear c19b0
            try clear c19b1
            try clear c29
            try clear c32
            try clear c32b0
            try clear c32b1
            try clear c34
            try clear c34b0
            try clear c34b1
            try clear p2
            obtain ⟨kq, x72_29, rfl, HA, HJ29, HB⟩ := hcut
            cases kq with
            | zero => exact absurd HA.out (by simp [remitterlaw06_DateTells.j1])
            | succ kj29 =>
              have H := HA.out
              clear HA
              simp only [remitterlaw06_DateTells.j1] at H
              by_cases c35 : x72_29 = true
              · subst c35
                have H1 : (some false) = some r := by rw [if_pos rfl] at H; exact H
                clear H
                have H := H1
                clear H1
                obtain rfl := Option.some.inj H
                go_wp2
                all_goals (first | (exfalso; simp_all; done) | (exfalso; omega) | (go_ret; exact ⟨by first | rfl | (simp [errW_none, errW_some] <;> rfl) | (simp [*, errW_none, errW_some] <;> rfl), by repeat (first | (with_reducible first | exact HB.out | apply below_alloc | apply pw_below_drewN | apply below_drew1) | exact HB.out)⟩))
              · replace c35 := Bool.eq_false_iff.mpr c35
                subst c35
                have H1 : (if t143 < 0 then (if t137.toList = ([] : List UInt8) then (if t144 < 0 then (if t139.toList = ([] : List UInt8) then (remitterlaw06_DateTells.j2 kj29 t137 t139 t141 t143 t144 (t141 != 0)) else (remitterlaw06_DateTells.j2 kj29 t137 t139 t141 t143 t144 true)) else (remitterlaw06_DateTells.j2 kj29 t137 t139 t141 t143 t144 false)) else (remitterlaw06_DateTells.j2 kj29 t137 t139 t141 t143 t144 true)) else (if t144 < 0 then (if t139.toList = ([] : List UInt8) then (remitterlaw06_DateTells.j2 kj29 t137 t139 t141 t143 t144 (t141 != 0)) else (remitterlaw06_DateTells.j2 kj29 t137 t139 t141 t143 t144 true)) else (remitterlaw06_DateTells.j2 kj29 t137 t139 t141 t143 t144 false))) = some r := by rw [if_neg (show ¬ (false = true) by decide)] at H; exact H
                clear H
                have H := H1
                clear H1
                have HC36 := Aside0.mk H
                clear H
                go_upto_region 11 with (fail)
                go_cut [90] (fun v90 wc => ∃ (kq : Nat) (x90_35 : Bool), v90 = .bool x90_35 ∧ Aside0 (remitterlaw06_DateTells.j2 kq t137 t139 t141 t143 t144 x90_35 = some r) ∧ Aside0 (kq ≤ kj29) ∧ Aside0 (Below w.heap.size w wc))
                case first =>
                  have H := HC36.out
                  clear HC36
                  by_cases c37 : t143 < 0
                  · rw [if_pos c37] at H
                    have c37b0 : decide (t143 < 0) = true := decide_eq_true c37
                    clear c37
                    (first | rw [c37b0] | (simp only [i64_w, i32_w]; rw [c37b0]) | skip)
                    by_cases c38 : t137.toList = ([] : List UInt8)
                    · rw [if_pos c38] at H
                      have c38b0 : (t137.toList == ([] : List UInt8)) = true := beq_iff_eq.mpr c38
                      have c38b1 : (t137.toList != ([] : List UInt8)) = false := bne_eq_false_iff_eq.mpr c38
                      clear c38
                      by_cases c39 : t144 < 0
                      · rw [if_pos c39] at H
                        have c39b0 : decide (t144 < 0) = true := decide_eq_true c39
                        clear c39
                        by_cases c40 : t139.toList = ([] : List UInt8)
                        · rw [if_pos c40] at H
                          have c40b0 : (t139.toList == ([] : List UInt8)) = true := beq_iff_eq.mpr c40
                          have c40b1 : (t139.toList != ([] : List UInt8)) = false := bne_eq_false_iff_eq.mpr c40
                          clear c40
                          have H' := Aside0.mk H
                          clear H
                          go_wp2
                          go_meet
                          case rel => exact ⟨_, ((t141 != 0)), (by first | rfl | (simp; done) | (simp [*]; done) | exact congrArg Value.bool (Go.Proofs.YtjemnphmjbodfaaDoor.GLib.not_isEmpty _) | exact congrArg Value.bool (Go.Proofs.YtjemnphmjbodfaaDoor.GLib.not_isEmpty _).symm), H', ⟨by have := HJ9.out; have := HJ29.out; first | omega | exact Nat.le_refl _⟩, ⟨by repeat (first | (with_reducible first | exact HB.out | apply below_alloc | apply pw_below_drewN | apply below_drew1) | exact HB.out)⟩⟩
                        · rw [if_neg c40] at H
                          have c40b0 : (t139.toList == ([] : List UInt8)) = false := beq_eq_false_iff_ne.mpr c40
                          have c40b1 : (t139.toList != ([] : List UInt8)) = true := bne_iff_ne.mpr c40
                          have H' := Aside0.mk H
                          clear H
                          go_wp2
                          go_meet
                          case rel => exact ⟨_, (true), (by first | rfl | (simp; done) | (simp [*]; done) | exact congrArg Value.bool (Go.Proofs.YtjemnphmjbodfaaDoor.GLib.not_isEmpty _) | exact congrArg Value.bool (Go.Proofs.YtjemnphmjbodfaaDoor.GLib.not_isEmpty _).symm), H', ⟨by have := HJ9.out; have := HJ29.out; first | omega | exact Nat.le_refl _⟩, ⟨by repeat (first | (with_reducible first | exact HB.out | apply below_alloc | apply pw_below_drewN | apply below_drew1) | exact HB.out)⟩⟩
                      · rw [if_neg c39] at H
                        have c39b0 : decide (t144 < 0) = false := decide_eq_false c39
                        clear c39
                        have H' := Aside0.mk H
                        clear H
                        go_wp2
                        go_meet
                        case rel => exact ⟨_, (false), (by first | rfl | (simp; done) | (simp [*]; done) | exact congrArg Value.bool (Go.Proofs.YtjemnphmjbodfaaDoor.GLib.not_isEmpty _) | exact congrArg Value.bool (Go.Proofs.YtjemnphmjbodfaaDoor.GLib.not_isEmpty _).symm), H', ⟨by have := HJ9.out; have := HJ29.out; first | omega | exact Nat.le_refl _⟩, ⟨by repeat (first | (with_reducible first | exact HB.out | apply below_alloc | apply pw_below_drewN | apply below_drew1) | exact HB.out)⟩⟩
                    · rw [if_neg c38] at H
                      have c38b0 : (t137.toList == ([] : List UInt8)) = false := beq_eq_false_iff_ne.mpr c38
                      have c38b1 : (t137.toList != ([] : List UInt8)) = true := bne_iff_ne.mpr c38
                      have H' := Aside0.mk H
                      clear H
                      go_wp2
                      go_meet
                      case rel => exact ⟨_, (true), (by first | rfl | (simp; done) | (simp [*]; done) | exact congrArg Value.bool (Go.Proofs.YtjemnphmjbodfaaDoor.GLib.not_isEmpty _) | exact congrArg Value.bool (Go.Proofs.YtjemnphmjbodfaaDoor.GLib.not_isEmpty _).symm), H', ⟨by have := HJ9.out; have := HJ29.out; first | omega | exact Nat.le_refl _⟩, ⟨by repeat (first | (with_reducible first | exact HB.out | apply below_alloc | apply pw_below_drewN | apply below_drew1) | exact HB.out)⟩⟩
                  · rw [if_neg c37] at H
                    have c37b0 : decide (t143 < 0) = false := decide_eq_false c37
                    clear c37
                    (first | rw [c37b0] | (simp only [i64_w, i32_w]; rw [c37b0]) | skip)
                    by_cases c41 : t144 < 0
                    · rw [if_pos c41] at H
                      have c41b0 : decide (t144 < 0) = true := decide_eq_true c41
                      clear c41
                      by_cases c42 : t139.toList = ([] : List UInt8)
                      · rw [if_pos c42] at H
                        have c42b0 : (t139.toList == ([] : List UInt8)) = true := beq_iff_eq.mpr c42
                        have c42b1 : (t139.toList != ([] : List UInt8)) = false := bne_eq_false_iff_eq.mpr c42
                        clear c42
                        have H' := Aside0.mk H
                        clear H
                        go_wp2
                        go_meet
                        case rel => exact ⟨_, ((t141 != 0)), (by first | rfl | (simp; done) | (simp [*]; done) | exact congrArg Value.bool (Go.Proofs.YtjemnphmjbodfaaDoor.GLib.not_isEmpty _) | exact congrArg Value.bool (Go.Proofs.YtjemnphmjbodfaaDoor.GLib.not_isEmpty _).symm), H', ⟨by have := HJ9.out; have := HJ29.out; first | omega | exact Nat.le_refl _⟩, ⟨by repeat (first | (with_reducible first | exact HB.out | apply below_alloc | apply pw_below_drewN | apply below_drew1) | exact HB.out)⟩⟩
                      · rw [if_neg c42] at H
                        have c42b0 : (t139.toList == ([] : List UInt8)) = false := beq_eq_false_iff_ne.mpr c42
                        have c42b1 : (t139.toList != ([] : List UInt8)) = true := bne_iff_ne.mpr c42
                        have H' := Aside0.mk H
                        clear H
                        go_wp2
                        go_meet
                        case rel => exact ⟨_, (true), (by first | rfl | (simp; done) | (simp [*]; done) | exact congrArg Value.bool (Go.Proofs.YtjemnphmjbodfaaDoor.GLib.not_isEmpty _) | exact congrArg Value.bool (Go.Proofs.YtjemnphmjbodfaaDoor.GLib.not_isEmpty _).symm), H', ⟨by have := HJ9.out; have := HJ29.out; first | omega | exact Nat.le_refl _⟩, ⟨by repeat (first | (with_reducible first | exact HB.out | apply below_alloc | apply pw_below_drewN | apply below_drew1) | exact HB.out)⟩⟩
                    · rw [if_neg c41] at H
                      have c41b0 : decide (t144 < 0) = false := decide_eq_false c41
                      clear c41
                      have H' := Aside0.mk H
                      clear H
                      go_wp2
                      go_meet
                      case rel => exact ⟨_, (false), (by first | rfl | (simp; done) | (simp [*]; done) | exact congrArg Value.bool (Go.Proofs.YtjemnphmjbodfaaDoor.GLib.not_isEmpty _) | exact congrArg Value.bool (Go.Proofs.YtjemnphmjbodfaaDoor.GLib.not_isEmpty _).symm), H', ⟨by have := HJ9.out; have := HJ29.out; first | omega | exact Nat.le_refl _⟩, ⟨by repeat (first | (with_reducible first | exact HB.out | apply below_alloc | apply pw_below_drewN | apply below_drew1) | exact HB.out)⟩⟩
                case rest =>
                  clear HC36
                  try clear c1
                  try clear c2
                  try clear c2b0
                  try clear c2b1
                  try clear p2
                  try clear c3
                  try clear c4
                  try clear c6
                  try clear c7
                  try clear c8
                  try clear c9
                  try clear c10
                  try clear c11
                  try clear c12
                  try clear c13
                  try clear c16
                  try clear c16b0
                  try clear c16b1
                  try clear c19
                  try clear c19b0
                  try clear c19b1
                  try clear c29
                  try clear c32
                  try clear c32b0
                  try clear c32b1
                  try clear c34
                  try clear c34b0
                  try clear c34b1
                  try clear c35
                  try clear c37
                  try clear c37b0
                  try clear c38
                  try clear c38b0
                  try clear c38b1
                  try clear c39
                  try clear c39b0
                  try clear c40
                  try clear c40b0
                  try clear c40b1
                  try clear c41
                  try clear c41b0
                  try clear c42
                  try clear c42b0
                  try clear c42b1
                  try clear p2
                  obtain ⟨kq, x90_35, rfl, HA, HJ35, HB⟩ := hcut
                  cases kq with
                  | zero => exact absurd HA.out (by simp [remitterlaw06_DateTells.j2])
                  | succ kj35 =>
                    have H := HA.out
                    clear HA
                    simp only [remitterlaw06_DateTells.j2] at H
                    by_cases c43 : x90_35 = true
                    · subst c43
                      have H1 : (some false) = some r := by rw [if_pos rfl] at H; exact H
                      clear H
                      have H := H1
                      clear H1
                      obtain rfl := Option.some.inj H
                      go_wp2
                      all_goals (first | (exfalso; simp_all; done) | (exfalso; omega) | (go_ret; exact ⟨by first | rfl | (simp [errW_none, errW_some] <;> rfl) | (simp [*, errW_none, errW_some] <;> rfl), by repeat (first | (with_reducible first | exact HB.out | apply below_alloc | apply pw_below_drewN | apply below_drew1) | exact HB.out)⟩))
                    · replace c43 := Bool.eq_false_iff.mpr c43
                      subst c43
                      have H1 : (if t143 < 0 then (if t144 < 0 then ((remitterlaw06_wakes.f).bind fun t154 => (some t154)) else ((remitterref06_MT.f kj35 t139).bind fun t155 => (if t155 = t144 then (if t141 = t144 then ((remitterlaw06_wakes.f).bind fun t156 => (some t156)) else (some false)) else (some false)))) else ((remitterref06_XML.f kj35 t137).bind fun t157 => (if t157 = t143 then (if t144 < 0 then ((remitterlaw06_wakes.f).bind fun t158 => (some t158)) else ((remitterref06_MT.f kj35 t139).bind fun t159 => (if t159 = t144 then (if t141 = t144 then ((remitterlaw06_wakes.f).bind fun t160 => (some t160)) else (some false)) else (some false)))) else (some false)))) = some r := by rw [if_neg (show ¬ (false = true) by decide)] at H; exact H
                      clear H
                      have H := H1
                      clear H1
                      by_cases c44 : t143 < 0
                      · rw [if_pos c44] at H
                        have c44b0 : decide (t143 < 0) = true := decide_eq_true c44
                        clear c44
                        by_cases c45 : t144 < 0
                        · rw [if_pos c45] at H
                          have c45b0 : decide (t144 < 0) = true := decide_eq_true c45
                          clear c45
                          replace H := Option.bind_eq_some_iff.mp H
                          obtain ⟨t154, A460, H⟩ := H
                          replace H : (some t154) = some r := H
                          have A46 := Aside0.mk A460
                          clear A460
                          obtain rfl := Option.some.inj H
                          go_wp2_with (first | (go_at_call 6; (with_reducible refine (remitterlaw06_wakes.calls  t154 _ A46.out (GW_below HG.out (by repeat (first | (with_reducible first | exact HB.out | apply below_alloc | apply pw_below_drewN | apply below_drew1) | exact HB.out)))).mono ?_); rintro e w47 ⟨rfl, hb⟩; have n0_ := Aside0.mk (below_step (by repeat (first | (with_reducible first | exact HB.out | apply below_alloc | apply pw_below_drewN | apply below_drew1) | exact HB.out)) hb); clear HB; have HB := n0_; clear n0_; (try clear hb); (try clear hb2); (try clear hk); (try clear hi)))
                          all_goals (first | (exfalso; simp_all; done) | (exfalso; omega) | (go_ret; exact ⟨by first | rfl | (simp [errW_none, errW_some] <;> rfl) | (simp [*, errW_none, errW_some] <;> rfl), by repeat (first | (with_reducible first | exact HB.out | apply below_alloc | apply pw_below_drewN | apply below_drew1) | exact HB.out)⟩))
                        · rw [if_neg c45] at H
                          have c45b0 : decide (t144 < 0) = false := decide_eq_false c45
                          clear c45
                          replace H := Option.bind_eq_some_iff.mp H
                          obtain ⟨t155, A480, H⟩ := H
                          replace H : (if t155 = t144 then (if t141 = t144 then ((remitterlaw06_wakes.f).bind fun t156 => (some t156)) else (some false)) else (some false)) = some r := H
                          have A48 := Aside0.mk A480
                          clear A480
                          by_cases c49 : t155 = t144
                          · rw [if_pos c49] at H
                            have c49b0 : (t155 == t144) = true := beq_iff_eq.mpr c49
                            have c49b1 : (t155 != t144) = false := bne_eq_false_iff_eq.mpr c49
                            clear c49
                            by_cases c50 : t141 = t144
                            · rw [if_pos c50] at H
                              have c50b0 : (t141 == t144) = true := beq_iff_eq.mpr c50
                              have c50b1 : (t141 != t144) = false := bne_eq_false_iff_eq.mpr c50
                              clear c50
                              replace H := Option.bind_eq_some_iff.mp H
                              obtain ⟨t156, A510, H⟩ := H
                              replace H : (some t156) = some r := H
                              have A51 := Aside0.mk A510
                              clear A510
                              obtain rfl := Option.some.inj H
                              go_wp2_with (first | (go_at_call 10; (with_reducible refine (remitterref06_MT.calls kj35 t139 t155 _ A48.out).mono ?_); rintro e w' ⟨rfl, ⟨nd, rfl⟩⟩) | (go_at_call 6; (with_reducible refine (remitterlaw06_wakes.calls  t156 _ A51.out (GW_below HG.out (by repeat (first | (with_reducible first | exact HB.out | apply below_alloc | apply pw_below_drewN | apply below_drew1) | exact HB.out)))).mono ?_); rintro e w52 ⟨rfl, hb⟩; have n0_ := Aside0.mk (below_step (by repeat (first | (with_reducible first | exact HB.out | apply below_alloc | apply pw_below_drewN | apply below_drew1) | exact HB.out)) hb); clear HB; have HB := n0_; clear n0_; (try clear hb); (try clear hb2); (try clear hk); (try clear hi)))
                              all_goals (first | (exfalso; simp_all; done) | (exfalso; omega) | (go_ret; exact ⟨by first | rfl | (simp [errW_none, errW_some] <;> rfl) | (simp [*, errW_none, errW_some] <;> rfl), by repeat (first | (with_reducible first | exact HB.out | apply below_alloc | apply pw_below_drewN | apply below_drew1) | exact HB.out)⟩))
                            · rw [if_neg c50] at H
                              have c50b0 : (t141 == t144) = false := beq_eq_false_iff_ne.mpr c50
                              have c50b1 : (t141 != t144) = true := bne_iff_ne.mpr c50
                              obtain rfl := Option.some.inj H
                              go_wp2_with (first | (go_at_call 10; (with_reducible refine (remitterref06_MT.calls kj35 t139 t155 _ A48.out).mono ?_); rintro e w' ⟨rfl, ⟨nd, rfl⟩⟩))
                              all_goals (first | (exfalso; simp_all; done) | (exfalso; omega) | (go_ret; exact ⟨by first | rfl | (simp [errW_none, errW_some] <;> rfl) | (simp [*, errW_none, errW_some] <;> rfl), by repeat (first | (with_reducible first | exact HB.out | apply below_alloc | apply pw_below_drewN | apply below_drew1) | exact HB.out)⟩))
                          · rw [if_neg c49] at H
                            have c49b0 : (t155 == t144) = false := beq_eq_false_iff_ne.mpr c49
                            have c49b1 : (t155 != t144) = true := bne_iff_ne.mpr c49
                            obtain rfl := Option.some.inj H
                            go_wp2_with (first | (go_at_call 10; (with_reducible refine (remitterref06_MT.calls kj35 t139 t155 _ A48.out).mono ?_); rintro e w' ⟨rfl, ⟨nd, rfl⟩⟩))
                            all_goals (first | (exfalso; simp_all; done) | (exfalso; omega) | (go_ret; exact ⟨by first | rfl | (simp [errW_none, errW_some] <;> rfl) | (simp [*, errW_none, errW_some] <;> rfl), by repeat (first | (with_reducible first | exact HB.out | apply below_alloc | apply pw_below_drewN | apply below_drew1) | exact HB.out)⟩))
                      · rw [if_neg c44] at H
                        have c44b0 : decide (t143 < 0) = false := decide_eq_false c44
                        clear c44
                        replace H := Option.bind_eq_some_iff.mp H
                        obtain ⟨t157, A530, H⟩ := H
                        replace H : (if t157 = t143 then (if t144 < 0 then ((remitterlaw06_wakes.f).bind fun t158 => (some t158)) else ((remitterref06_MT.f kj35 t139).bind fun t159 => (if t159 = t144 then (if t141 = t144 then ((remitterlaw06_wakes.f).bind fun t160 => (some t160)) else (some false)) else (some false)))) else (some false)) = some r := H
                        have A53 := Aside0.mk A530
                        clear A530
                        by_cases c54 : t157 = t143
                        · rw [if_pos c54] at H
                          have c54b0 : (t157 == t143) = true := beq_iff_eq.mpr c54
                          have c54b1 : (t157 != t143) = false := bne_eq_false_iff_eq.mpr c54
                          clear c54
                          by_cases c55 : t144 < 0
                          · rw [if_pos c55] at H
                            have c55b0 : decide (t144 < 0) = true := decide_eq_true c55
                            clear c55
                            replace H := Option.bind_eq_some_iff.mp H
                            obtain ⟨t158, A560, H⟩ := H
                            replace H : (some t158) = some r := H
                            have A56 := Aside0.mk A560
                            clear A560
                            obtain rfl := Option.some.inj H
                            go_wp2_with (first | (go_at_call 11; (with_reducible refine (remitterref06_XML.calls kj35 t137 t157 _ A53.out).mono ?_); rintro e w' ⟨rfl, ⟨nd, rfl⟩⟩) | (go_at_call 6; (with_reducible refine (remitterlaw06_wakes.calls  t158 _ A56.out (GW_below HG.out (by repeat (first | (with_reducible first | exact HB.out | apply below_alloc | apply pw_below_drewN | apply below_drew1) | exact HB.out)))).mono ?_); rintro e w57 ⟨rfl, hb⟩; have n0_ := Aside0.mk (below_step (by repeat (first | (with_reducible first | exact HB.out | apply below_alloc | apply pw_below_drewN | apply below_drew1) | exact HB.out)) hb); clear HB; have HB := n0_; clear n0_; (try clear hb); (try clear hb2); (try clear hk); (try clear hi)))
                            all_goals (first | (exfalso; simp_all; done) | (exfalso; omega) | (go_ret; exact ⟨by first | rfl | (simp [errW_none, errW_some] <;> rfl) | (simp [*, errW_none, errW_some] <;> rfl), by repeat (first | (with_reducible first | exact HB.out | apply below_alloc | apply pw_below_drewN | apply below_drew1) | exact HB.out)⟩))
                          · rw [if_neg c55] at H
                            have c55b0 : decide (t144 < 0) = false := decide_eq_false c55
                            clear c55
                            replace H := Option.bind_eq_some_iff.mp H
                            obtain ⟨t159, A580, H⟩ := H
                            replace H : (if t159 = t144 then (if t141 = t144 then ((remitterlaw06_wakes.f).bind fun t160 => (some t160)) else (some false)) else (some false)) = some r := H
                            have A58 := Aside0.mk A580
                            clear A580
                            by_cases c59 : t159 = t144
                            · rw [if_pos c59] at H
                              have c59b0 : (t159 == t144) = true := beq_iff_eq.mpr c59
                              have c59b1 : (t159 != t144) = false := bne_eq_false_iff_eq.mpr c59
                              clear c59
                              by_cases c60 : t141 = t144
                              · rw [if_pos c60] at H
                                have c60b0 : (t141 == t144) = true := beq_iff_eq.mpr c60
                                have c60b1 : (t141 != t144) = false := bne_eq_false_iff_eq.mpr c60
                                clear c60
                                replace H := Option.bind_eq_some_iff.mp H
                                obtain ⟨t160, A610, H⟩ := H
                                replace H : (some t160) = some r := H
                                have A61 := Aside0.mk A610
                                clear A610
                                obtain rfl := Option.some.inj H
                                go_wp2_with (first | (go_at_call 11; (with_reducible refine (remitterref06_XML.calls kj35 t137 t157 _ A53.out).mono ?_); rintro e w' ⟨rfl, ⟨nd, rfl⟩⟩) | (go_at_call 10; (with_reducible refine (remitterref06_MT.calls kj35 t139 t159 _ A58.out).mono ?_); rintro e w' ⟨rfl, ⟨nd, rfl⟩⟩) | (go_at_call 6; (with_reducible refine (remitterlaw06_wakes.calls  t160 _ A61.out (GW_below HG.out (by repeat (first | (with_reducible first | exact HB.out | apply below_alloc | apply pw_below_drewN | apply below_drew1) | exact HB.out)))).mono ?_); rintro e w62 ⟨rfl, hb⟩; have n0_ := Aside0.mk (below_step (by repeat (first | (with_reducible first | exact HB.out | apply below_alloc | apply pw_below_drewN | apply below_drew1) | exact HB.out)) hb); clear HB; have HB := n0_; clear n0_; (try clear hb); (try clear hb2); (try clear hk); (try clear hi)))
                                all_goals (first | (exfalso; simp_all; done) | (exfalso; omega) | (go_ret; exact ⟨by first | rfl | (simp [errW_none, errW_some] <;> rfl) | (simp [*, errW_none, errW_some] <;> rfl), by repeat (first | (with_reducible first | exact HB.out | apply below_alloc | apply pw_below_drewN | apply below_drew1) | exact HB.out)⟩))
                              · rw [if_neg c60] at H
                                have c60b0 : (t141 == t144) = false := beq_eq_false_iff_ne.mpr c60
                                have c60b1 : (t141 != t144) = true := bne_iff_ne.mpr c60
                                obtain rfl := Option.some.inj H
                                go_wp2_with (first | (go_at_call 11; (with_reducible refine (remitterref06_XML.calls kj35 t137 t157 _ A53.out).mono ?_); rintro e w' ⟨rfl, ⟨nd, rfl⟩⟩) | (go_at_call 10; (with_reducible refine (remitterref06_MT.calls kj35 t139 t159 _ A58.out).mono ?_); rintro e w' ⟨rfl, ⟨nd, rfl⟩⟩))
                                all_goals (first | (exfalso; simp_all; done) | (exfalso; omega) | (go_ret; exact ⟨by first | rfl | (simp [errW_none, errW_some] <;> rfl) | (simp [*, errW_none, errW_some] <;> rfl), by repeat (first | (with_reducible first | exact HB.out | apply below_alloc | apply pw_below_drewN | apply below_drew1) | exact HB.out)⟩))
                            · rw [if_neg c59] at H
                              have c59b0 : (t159 == t144) = false := beq_eq_false_iff_ne.mpr c59
                              have c59b1 : (t159 != t144) = true := bne_iff_ne.mpr c59
                              obtain rfl := Option.some.inj H
                              go_wp2_with (first | (go_at_call 11; (with_reducible refine (remitterref06_XML.calls kj35 t137 t157 _ A53.out).mono ?_); rintro e w' ⟨rfl, ⟨nd, rfl⟩⟩) | (go_at_call 10; (with_reducible refine (remitterref06_MT.calls kj35 t139 t159 _ A58.out).mono ?_); rintro e w' ⟨rfl, ⟨nd, rfl⟩⟩))
                              all_goals (first | (exfalso; simp_all; done) | (exfalso; omega) | (go_ret; exact ⟨by first | rfl | (simp [errW_none, errW_some] <;> rfl) | (simp [*, errW_none, errW_some] <;> rfl), by repeat (first | (with_reducible first | exact HB.out | apply below_alloc | apply pw_below_drewN | apply below_drew1) | exact HB.out)⟩))
                        · rw [if_neg c54] at H
                          have c54b0 : (t157 == t143) = false := beq_eq_false_iff_ne.mpr c54
                          have c54b1 : (t157 != t143) = true := bne_iff_ne.mpr c54
                          obtain rfl := Option.some.inj H
                          go_wp2_with (first | (go_at_call 11; (with_reducible refine (remitterref06_XML.calls kj35 t137 t157 _ A53.out).mono ?_); rintro e w' ⟨rfl, ⟨nd, rfl⟩⟩))
                          all_goals (first | (exfalso; simp_all; done) | (exfalso; omega) | (go_ret; exact ⟨by first | rfl | (simp [errW_none, errW_some] <;> rfl) | (simp [*, errW_none, errW_some] <;> rfl), by repeat (first | (with_reducible first | exact HB.out | apply below_alloc | apply pw_below_drewN | apply below_drew1) | exact HB.out)⟩))

/-- THE ONE PURE STATEMENT of remitterlaw06_DateTells: yours. -/
def remitterlaw06_DateTells.Pure : Prop := ∀ (a0 : ByteArray), a0.size ≤ 140737488351232 → ∃ k, remitterlaw06_DateTells.f k a0 = some true
theorem remitterlaw06_DateTells.walk (P : remitterlaw06_DateTells.Pure) (a0 : ByteArray) (w : World) (w0 : a0.size ≤ 140737488351232) (hG : GW w) :
    Calls Tryd.prog 3 #[.string a0] w fun e w' => e = .returned (.bool true) ∧ Below w.heap.size w w' := by
  obtain ⟨k, h⟩ := P a0 w0
  refine (remitterlaw06_DateTells.calls k a0 true w h hG).mono ?_
  rintro e w' ⟨rfl, hd⟩
  exact ⟨rfl, hd⟩

/-! ### remitterref06_two: function 29 -/
def remitterref06_two.l0 : Nat → Int → Int → ByteArray → Int → Option (ByteArray)
  | 0, _, _, _, _ => none
  | k + 1, x0, x1, x5, x6 => if x6 < x1 then ((some (([(wrap64 (48 + (Int.tmod x0 10))) % 256] : List Int) : List Int)).bind fun y161 => (if (strOfNums y161).size + x5.size ≤ 9223372036854775807 then (remitterref06_two.l0 k (wrap64 (Int.tdiv x0 10)) x1 ((strOfNums y161) ++ x5) (wrap64 (x6 + 1))) else (none))) else (some x5)
def remitterref06_two.f (k : Nat) (a0 : Int) (a1 : Int) : Option (ByteArray) := remitterref06_two.l0 k a0 a1 (⟨#[]⟩ : ByteArray) 0
theorem remitterref06_two.mono_l : ∀ k, (∀ y0 y1 y2 y3, LeO (remitterref06_two.l0 k y0 y1 y2 y3) (remitterref06_two.l0 (k + 1) y0 y1 y2 y3))
  | 0 => fun _ _ _ _ r h => by simp [remitterref06_two.l0] at h
  | k + 1 => by
    have ih0 := remitterref06_two.mono_l k
    · intro y0 y1 y2 y3
      unfold remitterref06_two.l0
      repeat' first
      | (with_reducible exact ih0 _ _ _ _)
      | (with_reducible exact LeO.refl _)
      | (with_reducible exact LeO.none _)
      | (with_reducible refine LeO.ite ?_ ?_)
      | (with_reducible refine LeO.bind ?_ (fun _ => ?_))
      | exact ih0 _ _ _ _
      | exact LeO.none _
      | refine LeO.ite ?_ ?_
      | refine LeO.bind ?_ (fun _ => ?_)
theorem remitterref06_two.mono : ∀ a0 a1 k, LeO (remitterref06_two.f k a0 a1) (remitterref06_two.f (k + 1) a0 a1) := by
  intro a0 a1 k
  have ih0 := remitterref06_two.mono_l k
  unfold remitterref06_two.f
  repeat' first
      | (with_reducible exact ih0 _ _ _ _)
      | (with_reducible exact LeO.refl _)
      | (with_reducible exact LeO.none _)
      | (with_reducible refine LeO.ite ?_ ?_)
      | (with_reducible refine LeO.bind ?_ (fun _ => ?_))
      | exact ih0 _ _ _ _
      | exact LeO.none _
      | refine LeO.ite ?_ ?_
      | refine LeO.bind ?_ (fun _ => ?_)
set_option maxHeartbeats 8000000 in
set_option maxRecDepth 100000 in
theorem remitterref06_two.calls (k : Nat) (a0 : Int) (a1 : Int) (r : ByteArray) (w : World) (h : remitterref06_two.f k a0 a1 = some r) :
    Calls Tryd.prog 29 #[.int .i64 a0, .int .i64 a1] w fun e w' => e = .returned (.string r) ∧ Below w.heap.size w w' := by
  have HB := Aside0.mk (Below.refl w.heap.size w)
  have H : (remitterref06_two.l0 k a0 a1 (⟨#[]⟩ : ByteArray) 0) = some r := h
  clear h
  have H' := Aside0.mk H
  clear H
  go_enter Tryd.func29, Tryd.ntmps29
  go_wp2
  go_loopg [0, 5, 6] k (fun kq v0 v5 v6 w' => ∃ (x0_1 : Int) (x5_1 : ByteArray) (x6_1 : Int), v0 = .int .i64 x0_1 ∧ v5 = .string x5_1 ∧ v6 = .int .i64 x6_1 ∧ Aside0 (remitterref06_two.l0 kq x0_1 a1 x5_1 x6_1 = some r) ∧ Aside0 (kq ≤ k) ∧ Aside0 (Below w.heap.size w w'))
  case atStart => exact ⟨(a0), ((⟨#[]⟩ : ByteArray)), (0), (by first | rfl | (simp; done) | (simp [*]; done) | exact congrArg Value.bool (Go.Proofs.YtjemnphmjbodfaaDoor.GLib.not_isEmpty _) | exact congrArg Value.bool (Go.Proofs.YtjemnphmjbodfaaDoor.GLib.not_isEmpty _).symm), (by first | rfl | (simp; done) | (simp [*]; done) | exact congrArg Value.bool (Go.Proofs.YtjemnphmjbodfaaDoor.GLib.not_isEmpty _) | exact congrArg Value.bool (Go.Proofs.YtjemnphmjbodfaaDoor.GLib.not_isEmpty _).symm), (by first | rfl | (simp; done) | (simp [*]; done) | exact congrArg Value.bool (Go.Proofs.YtjemnphmjbodfaaDoor.GLib.not_isEmpty _) | exact congrArg Value.bool (Go.Proofs.YtjemnphmjbodfaaDoor.GLib.not_isEmpty _).symm), H', ⟨Nat.le_refl _⟩, ⟨by repeat (first | (with_reducible first | exact HB.out | apply below_alloc | apply pw_below_drewN | apply below_drew1) | exact HB.out)⟩⟩
  case round =>
    clear H'
    try clear c2
    try clear p2
    obtain ⟨x0_1, x5_1, x6_1, rfl, rfl, rfl, HA, HK1, HB⟩ := hrel
    cases gk with
    | zero => exact absurd HA.out (by simp [remitterref06_two.l0])
    | succ k1 =>
      have H := HA.out
      clear HA
      simp only [remitterref06_two.l0] at H
      by_cases c3 : x6_1 < a1
      · rw [if_pos c3] at H
        have c3b0 : decide (x6_1 < a1) = true := decide_eq_true c3
        clear c3
        obtain ⟨y161, hy161⟩ : ∃ y_ : List Int, y_ = (([(wrap64 (48 + (Int.tmod x0_1 10))) % 256] : List Int)) := ⟨_, rfl⟩
        replace H : (if (strOfNums y161).size + x5_1.size ≤ 9223372036854775807 then (remitterref06_two.l0 k1 (wrap64 (Int.tdiv x0_1 10)) a1 ((strOfNums y161) ++ x5_1) (wrap64 (x6_1 + 1))) else (none)) = some r := by first | (rw [hy161]; with_reducible exact H) | (have H2_ := (Option.bind_some _ _).symm.trans H; rw [hy161]; with_reducible exact H2_) | (have H2_ := (Option.bind_some _ _).symm.trans H; with_reducible exact H2_) | with_reducible exact H | (rw [hy161]; exact H) | exact H
        have Ny161 := Aside0.mk hy161
        clear hy161
        by_cases c4 : (strOfNums y161).size + x5_1.size ≤ 9223372036854775807
        · rw [if_pos c4] at H
          have c4b0 := eq_true c4
          have c4b1 : decide ((strOfNums y161).size + x5_1.size ≤ 9223372036854775807) = true := decide_eq_true c4
          try have c4b2 : (9223372036854775807 < (strOfNums y161).size + x5_1.size) = False := eq_false (Nat.not_lt.2 c4)
          have H' := Aside0.mk H
          clear H
          go_wp2_with (first | ((with_reducible refine gate_dst (N := 16) rfl ?_); refine Kd.R_lit (Kd.int .u8) _ 5 ?hg (N := 16) ?hd (xs := ([(wrap64 (48 + (Int.tmod x0_1 10))) % 256] : List Int)) (inner := [.int .u8 ((wrap64 (48 + (Int.tmod x0_1 10))) % 256)]) (ok := fun _ => True) (okp := fun _ => True) ?hr ?hp (fun _ hk => hk) trivial (Below.refl _ _) (Nat.le_refl _) (by simp) ?_; (case hd => rfl); (case hg => rfl); (case hr => first | (go_simp; done) | (go_simp; rfl)); (case hp => exact (Reps.one (show Kd.M (Kd.int .u8) _ _ _ ((wrap64 (48 + (Int.tmod x0_1 10))) % 256) [.int .u8 ((wrap64 (48 + (Int.tmod x0_1 10))) % 256)] from rfl) (Reps.none _ _))); intro v162 w5 ho6 hb hg_ hnew_; clear hg_ hnew_; (first | rw [← Ny161.out] at ho6 | (simp only [Int.reduceToNat] at ho6; rw [← Ny161.out] at ho6)); have n0_ := Aside0.mk (Kd.R_lower ho6 (below_size (by repeat (first | (with_reducible first | exact HB.out | apply below_alloc | apply pw_below_drewN | apply below_drew1) | exact HB.out)))); have n1_ := Aside0.mk (below_step (by repeat (first | (with_reducible first | exact HB.out | apply below_alloc | apply pw_below_drewN | apply below_drew1) | exact HB.out)) hb); clear HB; have HO163 := n0_; have HB := n1_; clear n0_ n1_; clear hb ho6; have hcv7 := own_string (P := Tryd.prog) Tryd.underlying49 Tryd.underlying5 Tryd.underlying9 (Kd.own_of_R HO163.out)))
          go_roundg k1
          case measure => have := HK1.out; omega
          case rel => exact ⟨(wrap64 (Int.tdiv x0_1 10)), ((strOfNums y161) ++ x5_1), (wrap64 (x6_1 + 1)), (by first | rfl | (simp; done) | (simp [*]; done) | exact congrArg Value.bool (Go.Proofs.YtjemnphmjbodfaaDoor.GLib.not_isEmpty _) | exact congrArg Value.bool (Go.Proofs.YtjemnphmjbodfaaDoor.GLib.not_isEmpty _).symm), (by first | rfl | (simp; done) | (simp [*]; done) | exact congrArg Value.bool (Go.Proofs.YtjemnphmjbodfaaDoor.GLib.not_isEmpty _) | exact congrArg Value.bool (Go.Proofs.YtjemnphmjbodfaaDoor.GLib.not_isEmpty _).symm), (by first | rfl | (simp; done) | (simp [*]; done) | exact congrArg Value.bool (Go.Proofs.YtjemnphmjbodfaaDoor.GLib.not_isEmpty _) | exact congrArg Value.bool (Go.Proofs.YtjemnphmjbodfaaDoor.GLib.not_isEmpty _).symm), H', ⟨by have := HK1.out; omega⟩, ⟨by repeat (first | (with_reducible first | exact HB.out | apply below_alloc | apply pw_below_drewN | apply below_drew1) | exact HB.out)⟩⟩
        · rw [if_neg c4] at H
          exact absurd H (by simp)
      · rw [if_neg c3] at H
        have c3b0 : decide (x6_1 < a1) = false := decide_eq_false c3
        clear c3
        obtain rfl := Option.some.inj H
        go_wp2
        all_goals (first | (exfalso; simp_all; done) | (exfalso; omega) | (go_ret; exact ⟨by first | rfl | (simp [errW_none, errW_some] <;> rfl) | (simp [*, errW_none, errW_some] <;> rfl), by repeat (first | (with_reducible first | exact HB.out | apply below_alloc | apply pw_below_drewN | apply below_drew1) | exact HB.out)⟩))

end Go.Proofs.YtjemnphmjbodfaaDoor.PAll

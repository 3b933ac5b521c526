-- Made by this session's wip/tools/gprint.py, which runs the kit's print program; some functions' contracts are proved by hand.
import Derived.Test.YtjblihfgpbnhbaaDoorPAllx0
import Derived.Test.YtjblihfgpbnhbaaDoorPAllx1
import Derived.Test.YtjblihfgpbnhbaaDoorPAllx2
import Derived.Test.YtjblihfgpbnhbaaDoorPAllx3
import Derived.Test.YtjblihfgpbnhbaaDoorGCmp
namespace Go.Proofs.YtjblihfgpbnhbaaDoor.PAll
open Go.RowKit Go.Proofs.YtjblihfgpbnhbaaDoorW.PrintWords Go.Proofs.YtjblihfgpbnhbaaDoorW.PrintLast Go.Proofs.YtjblihfgpbnhbaaDoorW.PrintMore
attribute [local go_sem] max2_int min2_int max_two min_two max_three min_three max_four min_four   -- for this text's walks alone
set_option linter.unusedVariables false
set_option linter.unusedSimpArgs false

/-! ### remitterlaw03_IbanMakes: function 4 -/
def remitterlaw03_IbanMakes.j0 : Nat → ByteArray → ByteArray → ByteArray → Int → Int → Bool → Option (Bool)
  | 0, _, _, _, _, _, _ => none
  | k + 1, x0, x1, x5, x6, x7, x49 => if x49 = true then (if x5.toList = ([] : List UInt8) then (if x6 = 13 then ((remitterlaw03_wakes.f k).bind fun t154 => (some t154)) else (some false)) else (some false)) else (if x6 = 0 then (if (x5.size : Int) = x7 then (if 0 ≤ 2 then (if 2 ≤ (x5.size : Int) then (if (x5.extract 0 2).toList = x0.toList then (if 4 ≤ (x5.size : Int) then (if (x5.extract 4 x5.size).toList = x1.toList then ((remitterref03_Check.f k x5).bind fun t155 => (if t155 = 0 then (if 2 ≤ 4 then (if ((Op.bytesLess ((x5.extract 2 4).toList) ([48, 50] : List UInt8)) = true) then (some false) else (if ((Op.bytesLess ([57, 56] : List UInt8) ((x5.extract 2 4).toList)) = true) then (some false) else ((remitterlaw03_wakes.f k).bind fun t156 => (some t156)))) else (none)) else (some false))) else (some false)) else (none)) else (some false)) else (none)) else (none)) else (some false)) else (some false))
def remitterlaw03_IbanMakes.f (k : Nat) (a0 : ByteArray) (a1 : ByteArray) : Option (Bool) := if (wrap64 ((a0.size : Int) + (a1.size : Int))) > 100 then ((remitterlaw03_wakes.f k).bind fun t147 => (some t147)) else ((iban_Make.f a0 a1).bind fun bt148 => ((remitterref03_Length.f k a0).bind fun bt150 => (if a0.size + 2 ≤ 9223372036854775807 then (if (a0 ++ (⟨#[48, 48]⟩ : ByteArray)).size + a1.size ≤ 9223372036854775807 then ((remitterref03_Rest.f k ((a0 ++ (⟨#[48, 48]⟩ : ByteArray)) ++ a1)).bind fun bt152 => (if bt150.2 = true then (if bt152.2 = true then (remitterlaw03_IbanMakes.j0 k a0 a1 bt148.1 bt148.2 bt150.1 ((a1.size : Int) != (wrap64 (bt150.1 - 4)))) else (remitterlaw03_IbanMakes.j0 k a0 a1 bt148.1 bt148.2 bt150.1 true)) else (remitterlaw03_IbanMakes.j0 k a0 a1 bt148.1 bt148.2 bt150.1 true))) else (none)) else (none))))
theorem remitterlaw03_IbanMakes.mono_l : ∀ k, (∀ y0 y1 y2 y3 y4 y5, LeO (remitterlaw03_IbanMakes.j0 k y0 y1 y2 y3 y4 y5) (remitterlaw03_IbanMakes.j0 (k + 1) y0 y1 y2 y3 y4 y5))
  | 0 => fun _ _ _ _ _ _ r h => by simp [remitterlaw03_IbanMakes.j0] at h
  | k + 1 => by
    have ih0 := remitterlaw03_IbanMakes.mono_l k
    · intro y0 y1 y2 y3 y4 y5
      unfold remitterlaw03_IbanMakes.j0
      repeat' first
      | (with_reducible exact ih0 _ _ _ _ _ _)
      | (with_reducible exact remitterlaw03_wakes.mono _)
      | (with_reducible exact remitterref03_Check.mono _ _)
      | (with_reducible exact remitterref03_Length.mono _ _)
      | (with_reducible exact remitterref03_Rest.mono _ _)
      | (with_reducible exact LeO.refl _)
      | (with_reducible exact LeO.none _)
      | (with_reducible refine LeO.ite ?_ ?_)
      | (with_reducible refine LeO.bind ?_ (fun _ => ?_))
      | exact ih0 _ _ _ _ _ _
      | exact remitterlaw03_wakes.mono _
      | exact remitterref03_Check.mono _ _
      | exact remitterref03_Length.mono _ _
      | exact remitterref03_Rest.mono _ _
      | exact LeO.none _
      | refine LeO.ite ?_ ?_
      | refine LeO.bind ?_ (fun _ => ?_)
theorem remitterlaw03_IbanMakes.mono : ∀ a0 a1 k, LeO (remitterlaw03_IbanMakes.f k a0 a1) (remitterlaw03_IbanMakes.f (k + 1) a0 a1) := by
  intro a0 a1 k
  have ih0 := remitterlaw03_IbanMakes.mono_l k
  unfold remitterlaw03_IbanMakes.f
  repeat' first
      | (with_reducible exact ih0 _ _ _ _ _ _)
      | (with_reducible exact remitterlaw03_wakes.mono _)
      | (with_reducible exact remitterref03_Check.mono _ _)
      | (with_reducible exact remitterref03_Length.mono _ _)
      | (with_reducible exact remitterref03_Rest.mono _ _)
      | (with_reducible exact LeO.refl _)
      | (with_reducible exact LeO.none _)
      | (with_reducible refine LeO.ite ?_ ?_)
      | (with_reducible refine LeO.bind ?_ (fun _ => ?_))
      | exact ih0 _ _ _ _ _ _
      | exact remitterlaw03_wakes.mono _
      | exact remitterref03_Check.mono _ _
      | exact remitterref03_Length.mono _ _
      | exact remitterref03_Rest.mono _ _
      | exact LeO.none _
      | refine LeO.ite ?_ ?_
      | refine LeO.bind ?_ (fun _ => ?_)
set_option maxHeartbeats 8000000 in
set_option maxRecDepth 100000 in
theorem remitterlaw03_IbanMakes.calls (k : Nat) (a0 : ByteArray) (a1 : ByteArray) (r : Bool) (w : World) (h : remitterlaw03_IbanMakes.f k a0 a1 = some r) (hGP : GWP w) (hGS : GWS w) :
    Calls Tryd.prog 4 #[.string a0, .string a1] w fun e w' => e = .returned (.bool r) ∧ Below w.heap.size w w' := by
  have HGP := Aside0.mk hGP
  clear hGP
  have HGS := Aside0.mk hGS
  clear hGS
  have HB := Aside0.mk (Below.refl w.heap.size w)
  have H : (if (wrap64 ((a0.size : Int) + (a1.size : Int))) > 100 then ((remitterlaw03_wakes.f k).bind fun t147 => (some t147)) else ((iban_Make.f a0 a1).bind fun bt148 => ((remitterref03_Length.f k a0).bind fun bt150 => (if a0.size + 2 ≤ 9223372036854775807 then (if (a0 ++ (⟨#[48, 48]⟩ : ByteArray)).size + a1.size ≤ 9223372036854775807 then ((remitterref03_Rest.f k ((a0 ++ (⟨#[48, 48]⟩ : ByteArray)) ++ a1)).bind fun bt152 => (if bt150.2 = true then (if bt152.2 = true then (remitterlaw03_IbanMakes.j0 k a0 a1 bt148.1 bt148.2 bt150.1 ((a1.size : Int) != (wrap64 (bt150.1 - 4)))) else (remitterlaw03_IbanMakes.j0 k a0 a1 bt148.1 bt148.2 bt150.1 true)) else (remitterlaw03_IbanMakes.j0 k a0 a1 bt148.1 bt148.2 bt150.1 true))) else (none)) else (none))))) = some r := h
  clear h
  by_cases c3 : (wrap64 ((a0.size : Int) + (a1.size : Int))) > 100
  · rw [if_pos c3] at H
    have c3b0 : decide (100 < (wrap64 ((a0.size : Int) + (a1.size : Int)))) = true := decide_eq_true c3
    clear c3
    replace H := Option.bind_eq_some_iff.mp H
    obtain ⟨t147, A40, H⟩ := H
    replace H : (some t147) = some r := H
    have A4 := Aside0.mk A40
    clear A40
    obtain rfl := Option.some.inj H
    go_enter Tryd.func4, Tryd.ntmps4
    go_wp2_with (first | ((with_reducible refine gate_callee (f := 6) rfl ?_); refine goesL_ (some 17) rfl rfl Tryd.func6 (by kernel_rfl) rfl #[] rfl (by (try simp only [List.map_toArray, List.map_cons, List.map_nil]); first | done | rfl | (simp only [List.length_drop, List.length_take]; rfl)) ?_; (with_reducible refine (remitterlaw03_wakes.calls k  t147 _ A4.out (GWS_below HGS.out (by repeat (first | (with_reducible first | exact HB.out | apply below_alloc | apply pw_below_drewN | apply below_drew1) | exact HB.out)))).mono ?_); rintro e w5 ⟨rfl, hb⟩; refine ⟨_, rfl, ?_⟩; have n0_ := Aside0.mk (below_step (by repeat (first | (with_reducible first | exact HB.out | apply below_alloc | apply pw_below_drewN | apply below_drew1) | exact HB.out)) hb); clear HB; have HB := n0_; clear n0_; (try clear hb); (try clear hb2); (try clear hk); (try clear hi)))
    all_goals (first | (exfalso; simp_all; done) | (exfalso; omega) | (go_ret; exact ⟨by first | rfl | (simp [errW_none, errW_some] <;> rfl) | (simp [*, errW_none, errW_some] <;> rfl), by repeat (first | (with_reducible first | exact HB.out | apply below_alloc | apply pw_below_drewN | apply below_drew1) | exact HB.out)⟩))
  · rw [if_neg c3] at H
    have c3b0 : decide (100 < (wrap64 ((a0.size : Int) + (a1.size : Int)))) = false := decide_eq_false c3
    clear c3
    replace H := Option.bind_eq_some_iff.mp H
    obtain ⟨⟨t148, t149⟩, A60, H⟩ := H
    replace H : ((remitterref03_Length.f k a0).bind fun bt150 => (if a0.size + 2 ≤ 9223372036854775807 then (if (a0 ++ (⟨#[48, 48]⟩ : ByteArray)).size + a1.size ≤ 9223372036854775807 then ((remitterref03_Rest.f k ((a0 ++ (⟨#[48, 48]⟩ : ByteArray)) ++ a1)).bind fun bt152 => (if bt150.2 = true then (if bt152.2 = true then (remitterlaw03_IbanMakes.j0 k a0 a1 t148 t149 bt150.1 ((a1.size : Int) != (wrap64 (bt150.1 - 4)))) else (remitterlaw03_IbanMakes.j0 k a0 a1 t148 t149 bt150.1 true)) else (remitterlaw03_IbanMakes.j0 k a0 a1 t148 t149 bt150.1 true))) else (none)) else (none))) = some r := H
    have A6 := Aside0.mk A60
    clear A60
    replace H := Option.bind_eq_some_iff.mp H
    obtain ⟨⟨t150, t151⟩, A70, H⟩ := H
    replace H : (if a0.size + 2 ≤ 9223372036854775807 then (if (a0 ++ (⟨#[48, 48]⟩ : ByteArray)).size + a1.size ≤ 9223372036854775807 then ((remitterref03_Rest.f k ((a0 ++ (⟨#[48, 48]⟩ : ByteArray)) ++ a1)).bind fun bt152 => (if t151 = true then (if bt152.2 = true then (remitterlaw03_IbanMakes.j0 k a0 a1 t148 t149 t150 ((a1.size : Int) != (wrap64 (t150 - 4)))) else (remitterlaw03_IbanMakes.j0 k a0 a1 t148 t149 t150 true)) else (remitterlaw03_IbanMakes.j0 k a0 a1 t148 t149 t150 true))) else (none)) else (none)) = some r := H
    have A7 := Aside0.mk A70
    clear A70
    by_cases c8 : a0.size + 2 ≤ 9223372036854775807
    · rw [if_pos c8] at H
      have c8b0 := eq_true c8
      have c8b1 : decide (a0.size + 2 ≤ 9223372036854775807) = true := decide_eq_true c8
      try have c8b2 : (9223372036854775807 < a0.size + 2) = False := eq_false (Nat.not_lt.2 c8)
      by_cases c9 : (a0 ++ (⟨#[48, 48]⟩ : ByteArray)).size + a1.size ≤ 9223372036854775807
      · rw [if_pos c9] at H
        have c9b0 := eq_true c9
        have c9b1 : decide ((a0 ++ (⟨#[48, 48]⟩ : ByteArray)).size + a1.size ≤ 9223372036854775807) = true := decide_eq_true c9
        try have c9b2 : (9223372036854775807 < (a0 ++ (⟨#[48, 48]⟩ : ByteArray)).size + a1.size) = False := eq_false (Nat.not_lt.2 c9)
        try (have c9b7 := c9b2; simp only [ByteArray.size_append, Go.Proofs.YtjblihfgpbnhbaaDoor.GLib.size_mk, List.size_toArray, List.length_cons, List.length_nil, Nat.zero_add, Nat.reduceAdd] at c9b7)
        replace H := Option.bind_eq_some_iff.mp H
        obtain ⟨⟨t152, t153⟩, A100, H⟩ := H
        replace H : (if t151 = true then (if t153 = true then (remitterlaw03_IbanMakes.j0 k a0 a1 t148 t149 t150 ((a1.size : Int) != (wrap64 (t150 - 4)))) else (remitterlaw03_IbanMakes.j0 k a0 a1 t148 t149 t150 true)) else (remitterlaw03_IbanMakes.j0 k a0 a1 t148 t149 t150 true)) = some r := H
        have A10 := Aside0.mk A100
        clear A100
        have HC11 := Aside0.mk H
        clear H
        go_enter Tryd.func4, Tryd.ntmps4
        go_upto_region 6 with (first | ((with_reducible refine gate_callee (f := 13) rfl ?_); refine goesL_ (some 21) rfl rfl Tryd.func13 (by kernel_rfl) rfl #[.string a0, .string a1] rfl (by (try simp only [List.map_toArray, List.map_cons, List.map_nil]); first | done | rfl | (simp only [List.length_drop, List.length_take]; rfl)) ?_; (with_reducible refine (iban_Make.calls a0 a1 t148 t149 _ A6.out (GWP_below HGP.out (by repeat (first | (with_reducible first | exact HB.out | apply below_alloc | apply pw_below_drewN | apply below_drew1) | exact HB.out))) (GWS_below HGS.out (by repeat (first | (with_reducible first | exact HB.out | apply below_alloc | apply pw_below_drewN | apply below_drew1) | exact HB.out)))).mono ?_); rintro e w12 ⟨rfl, hb⟩; refine ⟨_, rfl, ?_⟩; have n0_ := Aside0.mk (below_step (by repeat (first | (with_reducible first | exact HB.out | apply below_alloc | apply pw_below_drewN | apply below_drew1) | exact HB.out)) hb); clear HB; have HB := n0_; clear n0_; (try clear hb); (try clear hb2); (try clear hk); (try clear hi)) | ((with_reducible refine gate_callee (f := 10) rfl ?_); refine goesL_ (some 26) rfl rfl Tryd.func10 (by kernel_rfl) rfl #[.string a0] rfl (by (try simp only [List.map_toArray, List.map_cons, List.map_nil]); first | done | rfl | (simp only [List.length_drop, List.length_take]; rfl)) ?_; (with_reducible refine (remitterref03_Length.calls k a0 t150 t151 _ A7.out).mono ?_); rintro e w' ⟨rfl, ⟨nd, rfl⟩⟩; refine ⟨_, rfl, ?_⟩) | ((with_reducible refine gate_callee (f := 8) rfl ?_); refine goesL_ (some 34) rfl rfl Tryd.func8 (by kernel_rfl) rfl #[.string ((a0 ++ (⟨#[48, 48]⟩ : ByteArray)) ++ a1)] rfl (by (try simp only [List.map_toArray, List.map_cons, List.map_nil]); first | done | rfl | (simp only [List.length_drop, List.length_take]; rfl)) ?_; (with_reducible refine (remitterref03_Rest.calls k ((a0 ++ (⟨#[48, 48]⟩ : ByteArray)) ++ a1) t152 t153 _ A10.out).mono ?_); rintro e w13 ⟨rfl, hb⟩; refine ⟨_, rfl, ?_⟩; have n0_ := Aside0.mk (below_step (by repeat (first | (with_reducible first | exact HB.out | apply below_alloc | apply pw_below_drewN | apply below_drew1) | exact HB.out)) hb); clear HB; have HB := n0_; clear n0_; (try clear hb); (try clear hb2); (try clear hk); (try clear hi)))
        (try simp only [Act.put, List.setIfInBounds_toArray, List.set_cons_zero, List.set_cons_succ])
        go_cut [49] (fun v49 wc => ∃ (kq : Nat) (x49_10 : Bool), v49 = .bool x49_10 ∧ Aside0 (remitterlaw03_IbanMakes.j0 kq a0 a1 t148 t149 t150 x49_10 = some r) ∧ Aside0 (kq ≤ k) ∧ Aside0 (Below w.heap.size w wc))
        case first =>
          have H := HC11.out
          clear HC11
          by_cases c14 : t151 = true
          · subst c14
            have H1 : (if t153 = true then (remitterlaw03_IbanMakes.j0 k a0 a1 t148 t149 t150 ((a1.size : Int) != (wrap64 (t150 - 4)))) else (remitterlaw03_IbanMakes.j0 k a0 a1 t148 t149 t150 true)) = some r := by rw [if_pos rfl] at H; exact H
            clear H
            have H := H1
            clear H1
            by_cases c15 : t153 = true
            · subst c15
              have H1 : (remitterlaw03_IbanMakes.j0 k a0 a1 t148 t149 t150 ((a1.size : Int) != (wrap64 (t150 - 4)))) = some r := by rw [if_pos rfl] at H; exact H
              clear H
              have H := H1
              clear H1
              have H' := Aside0.mk H
              clear H
              go_wp2
              go_meet
              case rel => exact ⟨_, (((a1.size : Int) != (wrap64 (t150 - 4)))), (by first | rfl | (simp; done) | (simp [*]; done) | exact congrArg Value.bool (Go.Proofs.YtjblihfgpbnhbaaDoor.GLib.not_isEmpty _) | exact congrArg Value.bool (Go.Proofs.YtjblihfgpbnhbaaDoor.GLib.not_isEmpty _).symm), H', ⟨by first | omega | exact Nat.le_refl _⟩, ⟨by repeat (first | (with_reducible first | exact HB.out | apply below_alloc | apply pw_below_drewN | apply below_drew1) | exact HB.out)⟩⟩
            · replace c15 := Bool.eq_false_iff.mpr c15
              subst c15
              have H1 : (remitterlaw03_IbanMakes.j0 k a0 a1 t148 t149 t150 true) = some r := by rw [if_neg (show ¬ (false = true) by decide)] at H; exact H
              clear H
              have H := H1
              clear H1
              have H' := Aside0.mk H
              clear H
              go_wp2
              go_meet
              case rel => exact ⟨_, (true), (by first | rfl | (simp; done) | (simp [*]; done) | exact congrArg Value.bool (Go.Proofs.YtjblihfgpbnhbaaDoor.GLib.not_isEmpty _) | exact congrArg Value.bool (Go.Proofs.YtjblihfgpbnhbaaDoor.GLib.not_isEmpty _).symm), H', ⟨by first | omega | exact Nat.le_refl _⟩, ⟨by repeat (first | (with_reducible first | exact HB.out | apply below_alloc | apply pw_below_drewN | apply below_drew1) | exact HB.out)⟩⟩
          · replace c14 := Bool.eq_false_iff.mpr c14
            subst c14
            have H1 : (remitterlaw03_IbanMakes.j0 k a0 a1 t148 t149 t150 true) = some r := by rw [if_neg (show ¬ (false = true) by decide)] at H; exact H
            clear H
            have H := H1
            clear H1
            have H' := Aside0.mk H
            clear H
            go_wp2
            go_meet
            case rel => exact ⟨_, (true), (by first | rfl | (simp; done) | (simp [*]; done) | exact congrArg Value.bool (Go.Proofs.YtjblihfgpbnhbaaDoor.GLib.not_isEmpty _) | exact congrArg Value.bool (Go.Proofs.YtjblihfgpbnhbaaDoor.GLib.not_isEmpty _).symm), H', ⟨by first | omega | exact Nat.le_refl _⟩, ⟨by repeat (first | (with_reducible first | exact HB.out | apply below_alloc | apply pw_below_drewN | apply below_drew1) | exact HB.out)⟩⟩
        case rest =>
          clear HC11
          try clear c1
          try clear p2
          try clear c3
          try clear c3b0
          try clear c4
          try clear c6
          try clear p6
          try clear c8
          try clear c8b0
          try clear c8b1
          try clear c8b2
          try clear c9
          try clear c9b0
          try clear c9b1
          try clear c9b2
          try clear c10
          try clear c13
          try clear c14
          try clear c15
          obtain ⟨kq, x49_10, rfl, HA, HJ10, HB⟩ := hcut
          cases kq with
          | zero => exact absurd HA.out (by simp [remitterlaw03_IbanMakes.j0])
          | succ kj10 =>
            have H := HA.out
            clear HA
            simp only [remitterlaw03_IbanMakes.j0] at H
            by_cases c16 : x49_10 = true
            · subst c16
              have H1 : (if t148.toList = ([] : List UInt8) then (if t149 = 13 then ((remitterlaw03_wakes.f kj10).bind fun t154 => (some t154)) else (some false)) else (some false)) = some r := by rw [if_pos rfl] at H; exact H
              clear H
              have H := H1
              clear H1
              by_cases c17 : t148.toList = ([] : List UInt8)
              · rw [if_pos c17] at H
                have c17b0 : (t148.toList == ([] : List UInt8)) = true := beq_iff_eq.mpr c17
                have c17b1 : (t148.toList != ([] : List UInt8)) = false := bne_eq_false_iff_eq.mpr c17
                clear c17
                by_cases c18 : t149 = 13
                · rw [if_pos c18] at H
                  have c18b0 : (t149 == 13) = true := beq_iff_eq.mpr c18
                  have c18b1 : (t149 != 13) = false := bne_eq_false_iff_eq.mpr c18
                  clear c18
                  replace H := Option.bind_eq_some_iff.mp H
                  obtain ⟨t154, A190, H⟩ := H
                  replace H : (some t154) = some r := H
                  have A19 := Aside0.mk A190
                  clear A190
                  obtain rfl := Option.some.inj H
                  go_wp2_with (first | (go_at_call 6; (with_reducible refine (remitterlaw03_wakes.calls kj10  t154 _ A19.out (GWS_below HGS.out (by repeat (first | (with_reducible first | exact HB.out | apply below_alloc | apply pw_below_drewN | apply below_drew1) | exact HB.out)))).mono ?_); rintro e w20 ⟨rfl, hb⟩; have n0_ := Aside0.mk (below_step (by repeat (first | (with_reducible first | exact HB.out | apply below_alloc | apply pw_below_drewN | apply below_drew1) | exact HB.out)) hb); clear HB; have HB := n0_; clear n0_; (try clear hb); (try clear hb2); (try clear hk); (try clear hi)))
                  all_goals (first | (exfalso; simp_all; done) | (exfalso; omega) | (go_ret; exact ⟨by first | rfl | (simp [errW_none, errW_some] <;> rfl) | (simp [*, errW_none, errW_some] <;> rfl), by repeat (first | (with_reducible first | exact HB.out | apply below_alloc | apply pw_below_drewN | apply below_drew1) | exact HB.out)⟩))
                · rw [if_neg c18] at H
                  have c18b0 : (t149 == 13) = false := beq_eq_false_iff_ne.mpr c18
                  have c18b1 : (t149 != 13) = true := bne_iff_ne.mpr c18
                  obtain rfl := Option.some.inj H
                  go_wp2
                  all_goals (first | (exfalso; simp_all; done) | (exfalso; omega) | (go_ret; exact ⟨by first | rfl | (simp [errW_none, errW_some] <;> rfl) | (simp [*, errW_none, errW_some] <;> rfl), by repeat (first | (with_reducible first | exact HB.out | apply below_alloc | apply pw_below_drewN | apply below_drew1) | exact HB.out)⟩))
              · rw [if_neg c17] at H
                have c17b0 : (t148.toList == ([] : List UInt8)) = false := beq_eq_false_iff_ne.mpr c17
                have c17b1 : (t148.toList != ([] : List UInt8)) = true := bne_iff_ne.mpr c17
                obtain rfl := Option.some.inj H
                go_wp2
                all_goals (first | (exfalso; simp_all; done) | (exfalso; omega) | (go_ret; exact ⟨by first | rfl | (simp [errW_none, errW_some] <;> rfl) | (simp [*, errW_none, errW_some] <;> rfl), by repeat (first | (with_reducible first | exact HB.out | apply below_alloc | apply pw_below_drewN | apply below_drew1) | exact HB.out)⟩))
            · replace c16 := Bool.eq_false_iff.mpr c16
              subst c16
              have H1 : (if t149 = 0 then (if (t148.size : Int) = t150 then (if 0 ≤ 2 then (if 2 ≤ (t148.size : Int) then (if (t148.extract 0 2).toList = a0.toList then (if 4 ≤ (t148.size : Int) then (if (t148.extract 4 t148.size).toList = a1.toList then ((remitterref03_Check.f kj10 t148).bind fun t155 => (if t155 = 0 then (if 2 ≤ 4 then (if ((Op.bytesLess ((t148.extract 2 4).toList) ([48, 50] : List UInt8)) = true) then (some false) else (if ((Op.bytesLess ([57, 56] : List UInt8) ((t148.extract 2 4).toList)) = true) then (some false) else ((remitterlaw03_wakes.f kj10).bind fun t156 => (some t156)))) else (none)) else (some false))) else (some false)) else (none)) else (some false)) else (none)) else (none)) else (some false)) else (some false)) = some r := by rw [if_neg (show ¬ (false = true) by decide)] at H; exact H
              clear H
              have H := H1
              clear H1
              by_cases c21 : t149 = 0
              · rw [if_pos c21] at H
                have c21b0 : (t149 == 0) = true := beq_iff_eq.mpr c21
                have c21b1 : (t149 != 0) = false := bne_eq_false_iff_eq.mpr c21
                clear c21
                by_cases c22 : (t148.size : Int) = t150
                · rw [if_pos c22] at H
                  have c22b0 : ((t148.size : Int) == t150) = true := beq_iff_eq.mpr c22
                  have c22b1 : ((t148.size : Int) != t150) = false := bne_eq_false_iff_eq.mpr c22
                  clear c22
                  by_cases c23 : 0 ≤ 2
                  · rw [if_pos c23] at H
                    have c23b0 := eq_true c23
                    have c23b1 : decide (0 ≤ 2) = true := decide_eq_true c23
                    clear c23
                    by_cases c24 : 2 ≤ (t148.size : Int)
                    · rw [if_pos c24] at H
                      have c24b0 := eq_true c24
                      have c24b1 : decide (2 ≤ (t148.size : Int)) = true := decide_eq_true c24
                      clear c24
                      by_cases c25 : (t148.extract 0 2).toList = a0.toList
                      · rw [if_pos c25] at H
                        have c25b0 : ((t148.extract 0 2).toList == a0.toList) = true := beq_iff_eq.mpr c25
                        have c25b1 : ((t148.extract 0 2).toList != a0.toList) = false := bne_eq_false_iff_eq.mpr c25
                        clear c25
                        by_cases c26 : 4 ≤ (t148.size : Int)
                        · rw [if_pos c26] at H
                          have c26b0 := eq_true c26
                          have c26b1 : decide (4 ≤ (t148.size : Int)) = true := decide_eq_true c26
                          clear c26
                          by_cases c27 : (t148.extract 4 t148.size).toList = a1.toList
                          · rw [if_pos c27] at H
                            have c27b0 : ((t148.extract 4 t148.size).toList == a1.toList) = true := beq_iff_eq.mpr c27
                            have c27b1 : ((t148.extract 4 t148.size).toList != a1.toList) = false := bne_eq_false_iff_eq.mpr c27
                            clear c27
                            replace H := Option.bind_eq_some_iff.mp H
                            obtain ⟨t155, A280, H⟩ := H
                            replace H : (if t155 = 0 then (if 2 ≤ 4 then (if ((Op.bytesLess ((t148.extract 2 4).toList) ([48, 50] : List UInt8)) = true) then (some false) else (if ((Op.bytesLess ([57, 56] : List UInt8) ((t148.extract 2 4).toList)) = true) then (some false) else ((remitterlaw03_wakes.f kj10).bind fun t156 => (some t156)))) else (none)) else (some false)) = some r := H
                            have A28 := Aside0.mk A280
                            clear A280
                            by_cases c29 : t155 = 0
                            · rw [if_pos c29] at H
                              have c29b0 : (t155 == 0) = true := beq_iff_eq.mpr c29
                              have c29b1 : (t155 != 0) = false := bne_eq_false_iff_eq.mpr c29
                              clear c29
                              by_cases c30 : 2 ≤ 4
                              · rw [if_pos c30] at H
                                have c30b0 := eq_true c30
                                have c30b1 : decide (2 ≤ 4) = true := decide_eq_true c30
                                clear c30
                                have c31b0 := eq_true (of_decide_eq_true (by first | (with_reducible assumption) | assumption) : 4 ≤ (t148.size : Int))
                                by_cases c32 : ((Op.bytesLess ((t148.extract 2 4).toList) ([48, 50] : List UInt8)) = true)
                                · rw [if_pos c32] at H
                                  have c32b0 : (Op.bytesLess ((t148.extract 2 4).toList) ([48, 50] : List UInt8)) = true := c32
                                  clear c32
                                  obtain rfl := Option.some.inj H
                                  go_wp2_with (first | (go_at_call 12; (with_reducible refine (remitterref03_Check.calls kj10 t148 t155 _ A28.out).mono ?_); rintro e w33 ⟨rfl, hb⟩; have n0_ := Aside0.mk (below_step (by repeat (first | (with_reducible first | exact HB.out | apply below_alloc | apply pw_below_drewN | apply below_drew1) | exact HB.out)) hb); clear HB; have HB := n0_; clear n0_; (try clear hb); (try clear hb2); (try clear hk); (try clear hi)))
                                  all_goals (first | (exfalso; simp_all; done) | (exfalso; omega) | (go_ret; exact ⟨by first | rfl | (simp [errW_none, errW_some] <;> rfl) | (simp [*, errW_none, errW_some] <;> rfl), by repeat (first | (with_reducible first | exact HB.out | apply below_alloc | apply pw_below_drewN | apply below_drew1) | exact HB.out)⟩))
                                · rw [if_neg c32] at H
                                  have c32b0 : (Op.bytesLess ((t148.extract 2 4).toList) ([48, 50] : List UInt8)) = false := by simpa using c32
                                  clear c32
                                  have c34b0 := eq_true (of_decide_eq_true (by first | (with_reducible assumption) | assumption) : 2 ≤ 4)
                                  have c35b0 := eq_true (of_decide_eq_true (by first | (with_reducible assumption) | assumption) : 4 ≤ (t148.size : Int))
                                  by_cases c36 : ((Op.bytesLess ([57, 56] : List UInt8) ((t148.extract 2 4).toList)) = true)
                                  · rw [if_pos c36] at H
                                    have c36b0 : (Op.bytesLess ([57, 56] : List UInt8) ((t148.extract 2 4).toList)) = true := c36
                                    clear c36
                                    obtain rfl := Option.some.inj H
                                    go_wp2_with (first | (go_at_call 12; (with_reducible refine (remitterref03_Check.calls kj10 t148 t155 _ A28.out).mono ?_); rintro e w37 ⟨rfl, hb⟩; have n0_ := Aside0.mk (below_step (by repeat (first | (with_reducible first | exact HB.out | apply below_alloc | apply pw_below_drewN | apply below_drew1) | exact HB.out)) hb); clear HB; have HB := n0_; clear n0_; (try clear hb); (try clear hb2); (try clear hk); (try clear hi)))
                                    all_goals (first | (exfalso; simp_all; done) | (exfalso; omega) | (go_ret; exact ⟨by first | rfl | (simp [errW_none, errW_some] <;> rfl) | (simp [*, errW_none, errW_some] <;> rfl), by repeat (first | (with_reducible first | exact HB.out | apply below_alloc | apply pw_below_drewN | apply below_drew1) | exact HB.out)⟩))
                                  · rw [if_neg c36] at H
                                    have c36b0 : (Op.bytesLess ([57, 56] : List UInt8) ((t148.extract 2 4).toList)) = false := by simpa using c36
                                    clear c36
                                    replace H := Option.bind_eq_some_iff.mp H
                                    obtain ⟨t156, A380, H⟩ := H
                                    replace H : (some t156) = some r := H
                                    have A38 := Aside0.mk A380
                                    clear A380
                                    obtain rfl := Option.some.inj H
                                    go_wp2_with (first | (go_at_call 12; (with_reducible refine (remitterref03_Check.calls kj10 t148 t155 _ A28.out).mono ?_); rintro e w39 ⟨rfl, hb⟩; have n0_ := Aside0.mk (below_step (by repeat (first | (with_reducible first | exact HB.out | apply below_alloc | apply pw_below_drewN | apply below_drew1) | exact HB.out)) hb); clear HB; have HB := n0_; clear n0_; (try clear hb); (try clear hb2); (try clear hk); (try clear hi)) | (go_at_call 6; (with_reducible refine (remitterlaw03_wakes.calls kj10  t156 _ A38.out (GWS_below HGS.out (by repeat (first | (with_reducible first | exact HB.out | apply below_alloc | apply pw_below_drewN | apply below_drew1) | exact HB.out)))).mono ?_); rintro e w40 ⟨rfl, hb⟩; have n0_ := Aside0.mk (below_step (by repeat (first | (with_reducible first | exact HB.out | apply below_alloc | apply pw_below_drewN | apply below_drew1) | exact HB.out)) hb); clear HB; have HB := n0_; clear n0_; (try clear hb); (try clear hb2); (try clear hk); (try clear hi)))
                                    all_goals (first | (exfalso; simp_all; done) | (exfalso; omega) | (go_ret; exact ⟨by first | rfl | (simp [errW_none, errW_some] <;> rfl) | (simp [*, errW_none, errW_some] <;> rfl), by repeat (first | (with_reducible first | exact HB.out | apply below_alloc | apply pw_below_drewN | apply below_drew1) | exact HB.out)⟩))
                              · rw [if_neg c30] at H
                                exact absurd H (by simp)
                            · rw [if_neg c29] at H
                              have c29b0 : (t155 == 0) = false := beq_eq_false_iff_ne.mpr c29
                              have c29b1 : (t155 != 0) = true := bne_iff_ne.mpr c29
                              obtain rfl := Option.some.inj H
                              go_wp2_with (first | (go_at_call 12; (with_reducible refine (remitterref03_Check.calls kj10 t148 t155 _ A28.out).mono ?_); rintro e w41 ⟨rfl, hb⟩; have n0_ := Aside0.mk (below_step (by repeat (first | (with_reducible first | exact HB.out | apply below_alloc | apply pw_below_drewN | apply below_drew1) | exact HB.out)) hb); clear HB; have HB := n0_; clear n0_; (try clear hb); (try clear hb2); (try clear hk); (try clear hi)))
                              all_goals (first | (exfalso; simp_all; done) | (exfalso; omega) | (go_ret; exact ⟨by first | rfl | (simp [errW_none, errW_some] <;> rfl) | (simp [*, errW_none, errW_some] <;> rfl), by repeat (first | (with_reducible first | exact HB.out | apply below_alloc | apply pw_below_drewN | apply below_drew1) | exact HB.out)⟩))
                          · rw [if_neg c27] at H
                            have c27b0 : ((t148.extract 4 t148.size).toList == a1.toList) = false := beq_eq_false_iff_ne.mpr c27
                            have c27b1 : ((t148.extract 4 t148.size).toList != a1.toList) = true := bne_iff_ne.mpr c27
                            obtain rfl := Option.some.inj H
                            go_wp2
                            all_goals (first | (exfalso; simp_all; done) | (exfalso; omega) | (go_ret; exact ⟨by first | rfl | (simp [errW_none, errW_some] <;> rfl) | (simp [*, errW_none, errW_some] <;> rfl), by repeat (first | (with_reducible first | exact HB.out | apply below_alloc | apply pw_below_drewN | apply below_drew1) | exact HB.out)⟩))
                        · rw [if_neg c26] at H
                          exact absurd H (by simp)
                      · rw [if_neg c25] at H
                        have c25b0 : ((t148.extract 0 2).toList == a0.toList) = false := beq_eq_false_iff_ne.mpr c25
                        have c25b1 : ((t148.extract 0 2).toList != a0.toList) = true := bne_iff_ne.mpr c25
                        obtain rfl := Option.some.inj H
                        go_wp2
                        all_goals (first | (exfalso; simp_all; done) | (exfalso; omega) | (go_ret; exact ⟨by first | rfl | (simp [errW_none, errW_some] <;> rfl) | (simp [*, errW_none, errW_some] <;> rfl), by repeat (first | (with_reducible first | exact HB.out | apply below_alloc | apply pw_below_drewN | apply below_drew1) | exact HB.out)⟩))
                    · rw [if_neg c24] at H
                      exact absurd H (by simp)
                  · rw [if_neg c23] at H
                    exact absurd H (by simp)
                · rw [if_neg c22] at H
                  have c22b0 : ((t148.size : Int) == t150) = false := beq_eq_false_iff_ne.mpr c22
                  have c22b1 : ((t148.size : Int) != t150) = true := bne_iff_ne.mpr c22
                  obtain rfl := Option.some.inj H
                  go_wp2
                  all_goals (first | (exfalso; simp_all; done) | (exfalso; omega) | (go_ret; exact ⟨by first | rfl | (simp [errW_none, errW_some] <;> rfl) | (simp [*, errW_none, errW_some] <;> rfl), by repeat (first | (with_reducible first | exact HB.out | apply below_alloc | apply pw_below_drewN | apply below_drew1) | exact HB.out)⟩))
              · rw [if_neg c21] at H
                have c21b0 : (t149 == 0) = false := beq_eq_false_iff_ne.mpr c21
                have c21b1 : (t149 != 0) = true := bne_iff_ne.mpr c21
                obtain rfl := Option.some.inj H
                go_wp2
                all_goals (first | (exfalso; simp_all; done) | (exfalso; omega) | (go_ret; exact ⟨by first | rfl | (simp [errW_none, errW_some] <;> rfl) | (simp [*, errW_none, errW_some] <;> rfl), by repeat (first | (with_reducible first | exact HB.out | apply below_alloc | apply pw_below_drewN | apply below_drew1) | exact HB.out)⟩))
      · rw [if_neg c9] at H
        exact absurd H (by simp)
    · rw [if_neg c8] at H
      exact absurd H (by simp)

/-- THE ONE PURE STATEMENT of remitterlaw03_IbanMakes: yours. -/
def remitterlaw03_IbanMakes.Pure : Prop := ∀ (a0 : ByteArray) (a1 : ByteArray), a0.size ≤ 140737488351232 → a1.size ≤ 140737488351232 → ∃ k, remitterlaw03_IbanMakes.f k a0 a1 = some true
theorem remitterlaw03_IbanMakes.walk (P : remitterlaw03_IbanMakes.Pure) (a0 : ByteArray) (a1 : ByteArray) (w : World) (w0 : a0.size ≤ 140737488351232) (w1 : a1.size ≤ 140737488351232) (hGP : GWP w) (hGS : GWS w) :
    Calls Tryd.prog 4 #[.string a0, .string a1] w fun e w' => e = .returned (.bool true) ∧ Below w.heap.size w w' := by
  obtain ⟨k, h⟩ := P a0 a1 w0 w1
  refine (remitterlaw03_IbanMakes.calls k a0 a1 true w h hGP hGS).mono ?_
  rintro e w' ⟨rfl, hd⟩
  exact ⟨rfl, hd⟩

-- GIVEN: function 5 (remitterlaw03_IbanFinds): YtjblihfgpbnhbaaDoorGFinds1

end Go.Proofs.YtjblihfgpbnhbaaDoor.PAll

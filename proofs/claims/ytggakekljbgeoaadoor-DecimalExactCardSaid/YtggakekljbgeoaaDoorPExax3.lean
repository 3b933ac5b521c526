-- Made by this session's wip/tools/gprint.py, which runs the kit's print program; some functions' contracts are proved by hand.
import Derived.Test.YtggakekljbgeoaaDoorPAllx0
import Derived.Test.YtggakekljbgeoaaDoorPExax1
import Derived.Test.YtggakekljbgeoaaDoorPExax2
import Derived.Test.YtggakekljbgeoaaDoorGAdd
import Derived.Test.YtggakekljbgeoaaDoorGCmpN
namespace Go.Proofs.YtggakekljbgeoaaDoor.PAll
open Go.RowKit Go.Proofs.YtggakekljbgeoaaDoorW.PrintWords Go.Proofs.YtggakekljbgeoaaDoorW.PrintLast Go.Proofs.YtggakekljbgeoaaDoorW.PrintMore
attribute [local go_sem] max2_int min2_int max_two min_two max_three min_three max_four min_four   -- for this text's walks alone
set_option linter.unusedVariables false
set_option linter.unusedSimpArgs false

attribute [local go_sem high] eqA24
/-! ### remitterlaw01_DecimalExact: function 6 -/
mutual
def remitterlaw01_DecimalExact.j0 : Nat → Bool → Bool → Int → Int → Bool → Int → Int → Bool → Int → Int → Option (Bool)
  | 0, _, _, _, _, _, _, _, _, _, _ => none
  | k + 1, x37, x151000, x151001, x151002, x152000, x152001, x152002, x153000, x153001, x153002 => if x37 = true then ((remitterlaw01_wakes.f).bind fun t156 => (some t156)) else ((decimal_Add.f x151000 x151001 x151002 x152000 x152001 x152002).bind fun bt157 => ((decimal_Add.f x152000 x152001 x152002 x151000 x151001 x151002).bind fun bt162 => ((decimal_Neg.f x151000 x151001 x151002).bind fun bt167 => ((decimal_Add.f x151000 x151001 x151002 bt167.1 bt167.2.1 bt167.2.2).bind fun bt170 => (if (!(bt157.1 == bt162.1) || (!(bt157.2.1 == bt162.2.1) || (!(bt157.2.2.1 == bt162.2.2.1)))) = true then (remitterlaw01_DecimalExact.j1 k bt157.2.2.2 true x151000 x151001 x151002 x152000 x152001 x152002 x153000 x153001 x153002 bt157.1 bt157.2.1 bt157.2.2.1) else (if bt157.2.2.2 = bt162.2.2.2 then (if bt170.2.2.2 = 0 then (if bt170.2.1 = 0 then (if bt170.1 = true then (remitterlaw01_DecimalExact.j1 k bt157.2.2.2 true x151000 x151001 x151002 x152000 x152001 x152002 x153000 x153001 x153002 bt157.1 bt157.2.1 bt157.2.2.1) else ((decimal_Cmp.f x151000 x151001 x151002 x152000 x152001 x152002).bind fun t175 => ((decimal_Cmp.f x152000 x152001 x152002 x151000 x151001 x151002).bind fun t176 => (remitterlaw01_DecimalExact.j1 k bt157.2.2.2 (t175 != (wrap64 (-t176))) x151000 x151001 x151002 x152000 x152001 x152002 x153000 x153001 x153002 bt157.1 bt157.2.1 bt157.2.2.1)))) else (remitterlaw01_DecimalExact.j1 k bt157.2.2.2 true x151000 x151001 x151002 x152000 x152001 x152002 x153000 x153001 x153002 bt157.1 bt157.2.1 bt157.2.2.1)) else (remitterlaw01_DecimalExact.j1 k bt157.2.2.2 true x151000 x151001 x151002 x152000 x152001 x152002 x153000 x153001 x153002 bt157.1 bt157.2.1 bt157.2.2.1)) else (remitterlaw01_DecimalExact.j1 k bt157.2.2.2 true x151000 x151001 x151002 x152000 x152001 x152002 x153000 x153001 x153002 bt157.1 bt157.2.1 bt157.2.2.1)))))))
def remitterlaw01_DecimalExact.j1 : Nat → Int → Bool → Bool → Int → Int → Bool → Int → Int → Bool → Int → Int → Bool → Int → Int → Option (Bool)
  | 0, _, _, _, _, _, _, _, _, _, _, _, _, _, _ => none
  | k + 1, x8, x88, x151000, x151001, x151002, x152000, x152001, x152002, x153000, x153001, x153002, x162000, x162001, x162002 => if x88 = true then (some false) else (if x8 = 0 then ((decimal_Neg.f x152000 x152001 x152002).bind fun bt177 => ((decimal_Add.f x162000 x162001 x162002 bt177.1 bt177.2.1 bt177.2.2).bind fun bt180 => (if bt180.2.2.2 = 0 then ((decimal_Cmp.f bt180.1 bt180.2.1 bt180.2.2.1 x151000 x151001 x151002).bind fun t185 => (if t185 = 0 then ((decimal_Good.f x162000 x162001 x162002).bind fun t186 => (remitterlaw01_DecimalExact.j2 k (!t186) x151000 x151001 x151002 x152000 x152001 x152002 x153000 x153001 x153002 x162000 x162001 x162002)) else (remitterlaw01_DecimalExact.j2 k true x151000 x151001 x151002 x152000 x152001 x152002 x153000 x153001 x153002 x162000 x162001 x162002))) else ((decimal_Good.f x162000 x162001 x162002).bind fun t187 => (remitterlaw01_DecimalExact.j2 k (!t187) x151000 x151001 x151002 x152000 x152001 x152002 x153000 x153001 x153002 x162000 x162001 x162002))))) else (remitterlaw01_DecimalExact.j3 k x151000 x151001 x151002 x152000 x152001 x152002 x153000 x153001 x153002))
def remitterlaw01_DecimalExact.j3 : Nat → Bool → Int → Int → Bool → Int → Int → Bool → Int → Int → Option (Bool)
  | 0, _, _, _, _, _, _, _, _, _ => none
  | k + 1, x151000, x151001, x151002, x152000, x152001, x152002, x153000, x153001, x153002 => (decimal_Add.f x151000 x151001 x151002 x153000 x153001 x153002).bind fun bt203 => ((decimal_Add.f x152000 x152001 x152002 x153000 x153001 x153002).bind fun bt208 => (if bt203.2.2.2 = 0 then (if bt208.2.2.2 = 0 then ((decimal_Cmp.f bt203.1 bt203.2.1 bt203.2.2.1 bt208.1 bt208.2.1 bt208.2.2.1).bind fun t213 => ((decimal_Cmp.f x151000 x151001 x151002 x152000 x152001 x152002).bind fun t214 => (if t213 = t214 then ((remitterlaw01_wakes.f).bind fun t215 => (some t215)) else (some false)))) else ((remitterlaw01_wakes.f).bind fun t216 => (some t216))) else ((remitterlaw01_wakes.f).bind fun t217 => (some t217))))
def remitterlaw01_DecimalExact.j2 : Nat → Bool → Bool → Int → Int → Bool → Int → Int → Bool → Int → Int → Bool → Int → Int → Option (Bool)
  | 0, _, _, _, _, _, _, _, _, _, _, _, _, _ => none
  | k + 1, x110, x151000, x151001, x151002, x152000, x152001, x152002, x153000, x153001, x153002, x162000, x162001, x162002 => if x110 = true then (some false) else ((decimal_Add.f x162000 x162001 x162002 x153000 x153001 x153002).bind fun bt188 => ((decimal_Add.f x152000 x152001 x152002 x153000 x153001 x153002).bind fun bt193 => ((decimal_Add.f x151000 x151001 x151002 bt193.1 bt193.2.1 bt193.2.2.1).bind fun bt198 => (if bt188.2.2.2 = 0 then (if bt193.2.2.2 = 0 then (if bt198.2.2.2 = 0 then (if (!(bt188.1 == bt198.1) || (!(bt188.2.1 == bt198.2.1) || (!(bt188.2.2.1 == bt198.2.2.1)))) = true then (some false) else (remitterlaw01_DecimalExact.j3 k x151000 x151001 x151002 x152000 x152001 x152002 x153000 x153001 x153002)) else (remitterlaw01_DecimalExact.j3 k x151000 x151001 x151002 x152000 x152001 x152002 x153000 x153001 x153002)) else (remitterlaw01_DecimalExact.j3 k x151000 x151001 x151002 x152000 x152001 x152002 x153000 x153001 x153002)) else (remitterlaw01_DecimalExact.j3 k x151000 x151001 x151002 x152000 x152001 x152002 x153000 x153001 x153002)))))
end
def remitterlaw01_DecimalExact.f (k : Nat) (a0_0 : Bool) (a0_1 : Int) (a0_2 : Int) (a1_0 : Bool) (a1_1 : Int) (a1_2 : Int) (a2_0 : Bool) (a2_1 : Int) (a2_2 : Int) : Option (Bool) := (decimal_Good.f a0_0 a0_1 a0_2).bind fun t153 => (if t153 = true then ((decimal_Good.f a1_0 a1_1 a1_2).bind fun t154 => (if t154 = true then ((decimal_Good.f a2_0 a2_1 a2_2).bind fun t155 => (remitterlaw01_DecimalExact.j0 k (!t155) a0_0 a0_1 a0_2 a1_0 a1_1 a1_2 a2_0 a2_1 a2_2)) else (remitterlaw01_DecimalExact.j0 k true a0_0 a0_1 a0_2 a1_0 a1_1 a1_2 a2_0 a2_1 a2_2))) else (remitterlaw01_DecimalExact.j0 k true a0_0 a0_1 a0_2 a1_0 a1_1 a1_2 a2_0 a2_1 a2_2))
theorem remitterlaw01_DecimalExact.mono_l : ∀ k, (∀ y0 y1 y2 y3 y4 y5 y6 y7 y8 y9, LeO (remitterlaw01_DecimalExact.j0 k y0 y1 y2 y3 y4 y5 y6 y7 y8 y9) (remitterlaw01_DecimalExact.j0 (k + 1) y0 y1 y2 y3 y4 y5 y6 y7 y8 y9)) ∧ (∀ y0 y1 y2 y3 y4 y5 y6 y7 y8 y9 y10 y11 y12 y13, LeO (remitterlaw01_DecimalExact.j1 k y0 y1 y2 y3 y4 y5 y6 y7 y8 y9 y10 y11 y12 y13) (remitterlaw01_DecimalExact.j1 (k + 1) y0 y1 y2 y3 y4 y5 y6 y7 y8 y9 y10 y11 y12 y13)) ∧ (∀ y0 y1 y2 y3 y4 y5 y6 y7 y8, LeO (remitterlaw01_DecimalExact.j3 k y0 y1 y2 y3 y4 y5 y6 y7 y8) (remitterlaw01_DecimalExact.j3 (k + 1) y0 y1 y2 y3 y4 y5 y6 y7 y8)) ∧ (∀ y0 y1 y2 y3 y4 y5 y6 y7 y8 y9 y10 y11 y12, LeO (remitterlaw01_DecimalExact.j2 k y0 y1 y2 y3 y4 y5 y6 y7 y8 y9 y10 y11 y12) (remitterlaw01_DecimalExact.j2 (k + 1) y0 y1 y2 y3 y4 y5 y6 y7 y8 y9 y10 y11 y12))
  | 0 => ⟨fun _ _ _ _ _ _ _ _ _ _ r h => by simp [remitterlaw01_DecimalExact.j0] at h, fun _ _ _ _ _ _ _ _ _ _ _ _ _ _ r h => by simp [remitterlaw01_DecimalExact.j1] at h, fun _ _ _ _ _ _ _ _ _ r h => by simp [remitterlaw01_DecimalExact.j3] at h, fun _ _ _ _ _ _ _ _ _ _ _ _ _ r h => by simp [remitterlaw01_DecimalExact.j2] at h⟩
  | k + 1 => by
    obtain ⟨ih0, ih1, ih2, ih3⟩ := remitterlaw01_DecimalExact.mono_l k
    refine ⟨?_, ?_, ?_, ?_⟩
    · intro y0 y1 y2 y3 y4 y5 y6 y7 y8 y9
      unfold remitterlaw01_DecimalExact.j0
      repeat' first
      | (with_reducible exact ih0 _ _ _ _ _ _ _ _ _ _)
      | (with_reducible exact ih1 _ _ _ _ _ _ _ _ _ _ _ _ _ _)
      | (with_reducible exact ih2 _ _ _ _ _ _ _ _ _)
      | (with_reducible exact ih3 _ _ _ _ _ _ _ _ _ _ _ _ _)
      | (with_reducible exact LeO.refl _)
      | (with_reducible exact LeO.none _)
      | (with_reducible refine LeO.ite ?_ ?_)
      | (with_reducible refine LeO.bind ?_ (fun _ => ?_))
      | exact ih0 _ _ _ _ _ _ _ _ _ _
      | exact ih1 _ _ _ _ _ _ _ _ _ _ _ _ _ _
      | exact ih2 _ _ _ _ _ _ _ _ _
      | exact ih3 _ _ _ _ _ _ _ _ _ _ _ _ _
      | exact LeO.none _
      | refine LeO.ite ?_ ?_
      | refine LeO.bind ?_ (fun _ => ?_)
    · intro y0 y1 y2 y3 y4 y5 y6 y7 y8 y9 y10 y11 y12 y13
      unfold remitterlaw01_DecimalExact.j1
      repeat' first
      | (with_reducible exact ih0 _ _ _ _ _ _ _ _ _ _)
      | (with_reducible exact ih1 _ _ _ _ _ _ _ _ _ _ _ _ _ _)
      | (with_reducible exact ih2 _ _ _ _ _ _ _ _ _)
      | (with_reducible exact ih3 _ _ _ _ _ _ _ _ _ _ _ _ _)
      | (with_reducible exact LeO.refl _)
      | (with_reducible exact LeO.none _)
      | (with_reducible refine LeO.ite ?_ ?_)
      | (with_reducible refine LeO.bind ?_ (fun _ => ?_))
      | exact ih0 _ _ _ _ _ _ _ _ _ _
      | exact ih1 _ _ _ _ _ _ _ _ _ _ _ _ _ _
      | exact ih2 _ _ _ _ _ _ _ _ _
      | exact ih3 _ _ _ _ _ _ _ _ _ _ _ _ _
      | exact LeO.none _
      | refine LeO.ite ?_ ?_
      | refine LeO.bind ?_ (fun _ => ?_)
    · intro y0 y1 y2 y3 y4 y5 y6 y7 y8
      unfold remitterlaw01_DecimalExact.j3
      repeat' first
      | (with_reducible exact ih0 _ _ _ _ _ _ _ _ _ _)
      | (with_reducible exact ih1 _ _ _ _ _ _ _ _ _ _ _ _ _ _)
      | (with_reducible exact ih2 _ _ _ _ _ _ _ _ _)
      | (with_reducible exact ih3 _ _ _ _ _ _ _ _ _ _ _ _ _)
      | (with_reducible exact LeO.refl _)
      | (with_reducible exact LeO.none _)
      | (with_reducible refine LeO.ite ?_ ?_)
      | (with_reducible refine LeO.bind ?_ (fun _ => ?_))
      | exact ih0 _ _ _ _ _ _ _ _ _ _
      | exact ih1 _ _ _ _ _ _ _ _ _ _ _ _ _ _
      | exact ih2 _ _ _ _ _ _ _ _ _
      | exact ih3 _ _ _ _ _ _ _ _ _ _ _ _ _
      | exact LeO.none _
      | refine LeO.ite ?_ ?_
      | refine LeO.bind ?_ (fun _ => ?_)
    · intro y0 y1 y2 y3 y4 y5 y6 y7 y8 y9 y10 y11 y12
      unfold remitterlaw01_DecimalExact.j2
      repeat' first
      | (with_reducible exact ih0 _ _ _ _ _ _ _ _ _ _)
      | (with_reducible exact ih1 _ _ _ _ _ _ _ _ _ _ _ _ _ _)
      | (with_reducible exact ih2 _ _ _ _ _ _ _ _ _)
      | (with_reducible exact ih3 _ _ _ _ _ _ _ _ _ _ _ _ _)
      | (with_reducible exact LeO.refl _)
      | (with_reducible exact LeO.none _)
      | (with_reducible refine LeO.ite ?_ ?_)
      | (with_reducible refine LeO.bind ?_ (fun _ => ?_))
      | exact ih0 _ _ _ _ _ _ _ _ _ _
      | exact ih1 _ _ _ _ _ _ _ _ _ _ _ _ _ _
      | exact ih2 _ _ _ _ _ _ _ _ _
      | exact ih3 _ _ _ _ _ _ _ _ _ _ _ _ _
      | exact LeO.none _
      | refine LeO.ite ?_ ?_
      | refine LeO.bind ?_ (fun _ => ?_)
theorem remitterlaw01_DecimalExact.mono : ∀ a0 a1 a2 a3 a4 a5 a6 a7 a8 k, LeO (remitterlaw01_DecimalExact.f k a0 a1 a2 a3 a4 a5 a6 a7 a8) (remitterlaw01_DecimalExact.f (k + 1) a0 a1 a2 a3 a4 a5 a6 a7 a8) := by
  intro a0 a1 a2 a3 a4 a5 a6 a7 a8 k
  obtain ⟨ih0, ih1, ih2, ih3⟩ := remitterlaw01_DecimalExact.mono_l k
  unfold remitterlaw01_DecimalExact.f
  repeat' first
      | (with_reducible exact ih0 _ _ _ _ _ _ _ _ _ _)
      | (with_reducible exact ih1 _ _ _ _ _ _ _ _ _ _ _ _ _ _)
      | (with_reducible exact ih2 _ _ _ _ _ _ _ _ _)
      | (with_reducible exact ih3 _ _ _ _ _ _ _ _ _ _ _ _ _)
      | (with_reducible exact LeO.refl _)
      | (with_reducible exact LeO.none _)
      | (with_reducible refine LeO.ite ?_ ?_)
      | (with_reducible refine LeO.bind ?_ (fun _ => ?_))
      | exact ih0 _ _ _ _ _ _ _ _ _ _
      | exact ih1 _ _ _ _ _ _ _ _ _ _ _ _ _ _
      | exact ih2 _ _ _ _ _ _ _ _ _
      | exact ih3 _ _ _ _ _ _ _ _ _ _ _ _ _
      | exact LeO.none _
      | refine LeO.ite ?_ ?_
      | refine LeO.bind ?_ (fun _ => ?_)
def remitterlaw01_DecimalExact.T5 : Bool × List (List Nat × List Nat) := (true, [([], []), ([], []), ([1], [1]), ([0, 2, 2], [0, 2]), ([3], [3]), ([4], [4]), ([4], [4]), ([], []), ([7, 5, 3, 0, 1, 2, 3, 4, 5, 7], [5, 7]), ([6, 8, 0, 1, 2, 3, 4, 5, 6, 7, 8], [6])])
def remitterlaw01_DecimalExact.B5 : List Nat := [0, 0, 2, 7, 15, 31, 31, 0, 191, 511]
theorem remitterlaw01_DecimalExact.tab5 : rtab .any (opsOf Tryd.f6 5) = remitterlaw01_DecimalExact.T5 := by kernel_rfl
theorem remitterlaw01_DecimalExact.bits5 : waitsOk remitterlaw01_DecimalExact.T5.2 remitterlaw01_DecimalExact.B5 = true := by kernel_rfl
def remitterlaw01_DecimalExact.T6 : Bool × List (List Nat × List Nat) := (true, [([], []), ([], []), ([0, 1], [0, 1]), ([2], [2]), ([3], [3]), ([3], [3]), ([4, 5, 3], [3, 4, 5]), ([3, 6], [3, 6]), ([7, 3], [7]), ([8], [8]), ([9, 8], [8, 9]), ([8, 10], [8, 10]), ([11, 8], [11]), ([12], [12]), ([13, 12], [12, 13]), ([14, 12], [12, 14]), ([12, 15], [12, 15]), ([16, 12], [16]), ([17], [17]), ([18, 17], [17, 18]), ([17, 19], [17, 19]), ([20, 17], [20]), ([21], [21]), ([21], [21]), ([22, 23, 21, 21], [21, 22, 23]), ([21], [21]), ([21], [21]), ([25, 26, 24, 21], [21, 25, 26]), ([27, 21], [21, 27]), ([24, 28, 21], [21, 24, 28]), ([21, 29], [21, 29])])
def remitterlaw01_DecimalExact.B6 : List Nat := [0, 0, 3, 7, 15, 15, 63, 127, 255, 511, 1023, 2047, 4095, 8191, 16383, 32767, 65535, 131071, 262143, 524287, 1048575, 2097151, 4194303, 4194303, 16777215, 4194303, 4194303, 134217727, 268435455, 536870911, 1073741823]
theorem remitterlaw01_DecimalExact.tab6 : rtab .any (opsOf Tryd.f6 6) = remitterlaw01_DecimalExact.T6 := by kernel_rfl
theorem remitterlaw01_DecimalExact.bits6 : waitsOk remitterlaw01_DecimalExact.T6.2 remitterlaw01_DecimalExact.B6 = true := by kernel_rfl
def remitterlaw01_DecimalExact.T9 : Bool × List (List Nat × List Nat) := (true, [([], []), ([], []), ([1], [1]), ([0, 2, 2], [0, 2]), ([3], [3]), ([4], [4]), ([4], [4]), ([], []), ([7, 5, 3, 0, 1, 2, 3, 4, 5, 7], [5, 7]), ([6, 8, 0, 1, 2, 3, 4, 5, 6, 7, 8], [6])])
def remitterlaw01_DecimalExact.B9 : List Nat := [0, 0, 2, 7, 15, 31, 31, 0, 191, 511]
theorem remitterlaw01_DecimalExact.tab9 : rtab .any (opsOf Tryd.f6 9) = remitterlaw01_DecimalExact.T9 := by kernel_rfl
theorem remitterlaw01_DecimalExact.bits9 : waitsOk remitterlaw01_DecimalExact.T9.2 remitterlaw01_DecimalExact.B9 = true := by kernel_rfl
def remitterlaw01_DecimalExact.T19 : Bool × List (List Nat × List Nat) := (true, [([], []), ([0], [0]), ([1], [1]), ([2], [2]), ([3, 2], [2, 3]), ([2, 4], [2, 4]), ([5, 2], [5]), ([6], [6]), ([6], [6]), ([7, 8, 6, 6], [6, 7, 8]), ([6], [6]), ([6], [6]), ([10, 11, 9, 6], [6, 10, 11]), ([9, 12, 6], [6, 9, 12]), ([6, 13], [6, 13]), ([14, 12], [14]), ([15, 15], [15]), ([15, 16], [15, 16]), ([17, 16, 0, 1, 2, 3, 4, 5, 6, 7, 8, 9, 10, 11, 12, 13, 14, 15, 16, 17], [17])])
def remitterlaw01_DecimalExact.B19 : List Nat := [0, 1, 3, 7, 15, 31, 63, 127, 127, 511, 127, 127, 4095, 8191, 16383, 32767, 65535, 131071, 262143]
theorem remitterlaw01_DecimalExact.tab19 : rtab .any (opsOf Tryd.f6 19) = remitterlaw01_DecimalExact.T19 := by kernel_rfl
theorem remitterlaw01_DecimalExact.bits19 : waitsOk remitterlaw01_DecimalExact.T19.2 remitterlaw01_DecimalExact.B19 = true := by kernel_rfl
theorem remitterlaw01_DecimalExact.j1_no {k : Nat} {x8 : Int} {x151000 : Bool} {x151001 : Int} {x151002 : Int} {x152000 : Bool} {x152001 : Int} {x152002 : Int} {x153000 : Bool} {x153001 : Int} {x153002 : Int} {x162000 : Bool} {x162001 : Int} {x162002 : Int} : remitterlaw01_DecimalExact.j1 k x8 true x151000 x151001 x151002 x152000 x152001 x152002 x153000 x153001 x153002 x162000 x162001 x162002 = some true → False := by
  cases k with
  | zero => intro h; cases h
  | succ k => intro h; rw [remitterlaw01_DecimalExact.j1, if_pos rfl] at h; cases h
theorem remitterlaw01_DecimalExact.j2_no {k : Nat} {x151000 : Bool} {x151001 : Int} {x151002 : Int} {x152000 : Bool} {x152001 : Int} {x152002 : Int} {x153000 : Bool} {x153001 : Int} {x153002 : Int} {x162000 : Bool} {x162001 : Int} {x162002 : Int} : remitterlaw01_DecimalExact.j2 k true x151000 x151001 x151002 x152000 x152001 x152002 x153000 x153001 x153002 x162000 x162001 x162002 = some true → False := by
  cases k with
  | zero => intro h; cases h
  | succ k => intro h; rw [remitterlaw01_DecimalExact.j2, if_pos rfl] at h; cases h
theorem blk_b {w w1 : World} {g : Nat} {o : Obj} (hb : Below w.heap.size w w1) (h : w.heap[g]? = some o) : w1.heap[g]? = some o := blk_below h hb
end Go.Proofs.YtggakekljbgeoaaDoor.PAll

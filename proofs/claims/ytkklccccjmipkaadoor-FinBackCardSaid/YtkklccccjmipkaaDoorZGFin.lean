/- The contracts of bic.CheckAddress, strings.Trim at digits, fin.fault and fin.Parse, in the print's form. -/
import Derived.Test.YtkklccccjmipkaaDoorZFParse
import Derived.Test.YtkklccccjmipkaaDoorZGBic
import Derived.Test.YtkklccccjmipkaaDoorZGUetr
import Derived.Shelf.Strings.SlTrimAscii
namespace Go.Proofs.YtkklccccjmipkaaDoor.PAll
open Go.RowKit Go.Proofs.YtkklccccjmipkaaDoorW.PrintWords GPlain
set_option linter.unusedSimpArgs false
/-- Is a text an address? -/
def cA (s : ByteArray) : Int := if s.size = 12 ∧ goodB s.data.toList = true then 0 else 14
set_option maxHeartbeats 1000000 in
theorem adr_walk (s : ByteArray) (w : World) : Calls Tryd.prog 42 #[.string s] w fun e w' => e = .returned (.int .i64 (cA s)) ∧ Below w.heap.size w w' := by
  by_cases h12 : s.size = 12
  · cases hg : goodB s.data.toList
    · have HC : Hid (cA s = 14) := Lib.hid (by unfold cA; rw [hg]; exact if_neg (fun h => by cases h.2))
      have h1 : ((s.size : Int) == 12) = true := beq_iff_eq.2 (by omega)
      have h2 : ((s.size : Int) != 12) = false := by simp only [bne, h1, Bool.not_true]
      have HW := Lib.hid (good_any s (by omega) w)
      have HG := Lib.hid hg
      clear hg h12
      go_enter Tryd.func42, Tryd.ntmps42
      go_wp2_with (go_at_call 77; refine HW.out.mono ?_; rw [HG.out]; rintro e w' ⟨rfl, hb⟩; have HB := Lib.hid hb; clear hb)
      go_ret
      exact ⟨by rw [HC.out]; rfl, HB.out⟩
    · have HC : Hid (cA s = 0) := Lib.hid (by unfold cA; rw [hg]; exact if_pos ⟨h12, rfl⟩)
      have h1 : ((s.size : Int) == 12) = true := beq_iff_eq.2 (by omega)
      have h2 : ((s.size : Int) != 12) = false := by simp only [bne, h1, Bool.not_true]
      have HW := Lib.hid (good_any s (by omega) w)
      have HG := Lib.hid hg
      clear hg h12
      go_enter Tryd.func42, Tryd.ntmps42
      go_wp2_with (go_at_call 77; refine HW.out.mono ?_; rw [HG.out]; rintro e w' ⟨rfl, hb⟩; have HB := Lib.hid hb; clear hb)
      go_ret
      exact ⟨by rw [HC.out]; rfl, HB.out⟩
  · have HC : Hid (cA s = 14) := Lib.hid (by unfold cA; exact if_neg (fun h => h12 h.1))
    have h1 : ((s.size : Int) == 12) = false := beq_eq_false_iff_ne.2 (by omega)
    have h2 : ((s.size : Int) != 12) = true := bne_iff_ne.2 (by omega)
    clear h12
    go_enter Tryd.func42, Tryd.ntmps42
    go_wp2
    go_ret
    exact ⟨by rw [HC.out]; rfl, Below.refl _ _⟩
/-- bic.CheckAddress. -/
def bic_CheckAddress.f (a0 : ByteArray) : Option Int := some (cA a0)
theorem bic_CheckAddress.calls (a0 : ByteArray) (r : Int) (w : World) (h : bic_CheckAddress.f a0 = some r) :
    Calls Tryd.prog 42 #[.string a0] w fun e w' => e = .returned (.int .i64 r) ∧ Below w.heap.size w w' := by
  obtain rfl := Option.some.inj h
  exact adr_walk a0 w
/-- Is a text a UETR? -/
def cU (s : ByteArray) : Int := if s.size = 36 ∧ allU s.data.toList = true then 0 else 17
/-- fin.Parse. -/
def fin_Parse.f (a0 : ByteArray) : Option (ByteArray × ByteArray × ByteArray × ByteArray × ByteArray × Int × Int) :=
  if a0.size ≤ 1048576 then
    let r := Fin.fparse a0 cA cU
    some (r.1.se, r.1.ki, r.1.re, r.1.ue, r.1.bo, r.2.1, r.2.2)
  else none
theorem fin_Parse.calls (a0 : ByteArray) (r1 r2 r3 r4 r5 : ByteArray) (r6 r7 : Int) (w : World) (h : fin_Parse.f a0 = some (r1, r2, r3, r4, r5, r6, r7)) (hG : GW w) :
    Calls Tryd.prog 15 #[.string a0] w fun e w' => e = .returned (.tuple #[.agg #[.string r1, .string r2, .string r3, .string r4, .string r5], .int .i64 r6, .int .i64 r7]) ∧ Below w.heap.size w w' := by
  unfold fin_Parse.f at h
  by_cases hs : a0.size ≤ 1048576
  · rw [if_pos hs] at h
    have h := Option.some.inj h
    simp only [Prod.mk.injEq] at h
    obtain ⟨rfl, rfl, rfl, rfl, rfl, rfl, rfl⟩ := h
    exact Fin.parse_walk a0 hs w hG cA cU (fun x W _ => adr_walk x W) (fun x W _ => uetr_walk x W)
  · rw [if_neg hs] at h
    cases h
/-- fin.fault. -/
def fin_fault.f (a0 : ByteArray) : Option Int := if a0.size ≤ 1048576 then some (Fin.faultL a0.data.toList : Int) else none
theorem fin_fault.calls (a0 : ByteArray) (r : Int) (w : World) (h : fin_fault.f a0 = some r) :
    Calls Tryd.prog 55 #[.string a0] w fun e w' => e = .returned (.int .i64 r) ∧ Below w.heap.size w w' := by
  unfold fin_fault.f at h
  by_cases hs : a0.size ≤ 1048576
  · rw [if_pos hs] at h
    obtain rfl := Option.some.inj h
    exact Fin.fault_walk a0 hs w
  · rw [if_neg hs] at h
    cases h
/-- strings.Trim, at digits. -/
def digs10 : List UInt8 := [48, 49, 50, 51, 52, 53, 54, 55, 56, 57]
def strings_Trim.f (a0 a1 : ByteArray) : Option ByteArray := if a0.size ≤ 1048576 ∧ a1.data.toList = digs10 then some (bs (Lib.trimS a0.data.toList digs10)) else none
theorem strings_Trim.calls (a0 a1 : ByteArray) (r : ByteArray) (w : World) (h : strings_Trim.f a0 a1 = some r) :
    Calls Tryd.prog 54 #[.string a0, .string a1] w fun e w' => e = .returned (.string r) ∧ Below w.heap.size w w' := by
  unfold strings_Trim.f at h
  by_cases hs : a0.size ≤ 1048576 ∧ a1.data.toList = digs10
  · rw [if_pos hs] at h
    obtain rfl := Option.some.inj h
    obtain rfl : a1 = ⟨#[48, 49, 50, 51, 52, 53, 54, 55, 56, 57]⟩ := by rw [bs_of a1, hs.2]; rfl
    exact Any.strings_Trim_laid Tryd.lays160 (by kernel_rfl) a0 ⟨#[48, 49, 50, 51, 52, 53, 54, 55, 56, 57]⟩ w (by omega) (by decide) (ascii_of_all (by decide))
  · rw [if_neg hs] at h
    cases h
end Go.Proofs.YtkklccccjmipkaaDoor.PAll

/- The contract of iban.digits, by hand. -/
import Derived.Test.YtjblihfgpbnhbaaDoorGPlain
import Derived.Test.YtjblihfgpbnhbaaDoorShelf
import Derived.Shelf.Strings.SlTrimAscii
import Derived.WalkKit
import Derived.Lib.Hide
import Derived.Laws.Strings
namespace Go.Proofs.YtjblihfgpbnhbaaDoor.PAll
open Go.RowKit GPlain
/-- iban.digits. -/
def digit (c : UInt8) : Bool := decide (48 ≤ c.toNat) && decide (c.toNat ≤ 57)
def iban_digits.f (a0 : ByteArray) : Option Bool := if a0.size ≤ 1048576 then some (a0.data.toList.all digit) else none
theorem dw_nil {p : UInt8 → Bool} : ∀ {l : List UInt8}, l.dropWhile p = [] ↔ l.all p = true
  | [] => by simp
  | a :: l => by
    by_cases h : p a = true
    · rw [List.dropWhile_cons_of_pos h, dw_nil]
      simp [h]
    · rw [List.dropWhile_cons_of_neg h]
      simp [h]
theorem trim_nil (l cs : List UInt8) : Lib.trimS l cs = [] ↔ l.all (cs.contains ·) = true := by
  unfold Lib.trimS Lib.trimLeftS Lib.trimRightS
  rw [dw_nil, List.all_reverse]
  constructor
  · intro h
    have h2 : l.reverse.dropWhile (cs.contains ·) = [] := by
      cases hd : l.reverse.dropWhile (cs.contains ·) with
      | nil => rfl
      | cons a m =>
        rw [hd] at h
        have h1 : cs.contains a = true := List.all_eq_true.1 h a List.mem_cons_self
        have h0 := List.head?_dropWhile_not (cs.contains ·) l.reverse
        rw [hd] at h0
        simp at h0
        simp [h0] at h1
    rw [dw_nil, List.all_reverse] at h2
    exact h2
  · intro h
    have h2 : l.reverse.dropWhile (cs.contains ·) = [] := by rw [dw_nil, List.all_reverse]; exact h
    rw [h2]
    rfl
theorem ten_digits (c : UInt8) : ([48, 49, 50, 51, 52, 53, 54, 55, 56, 57] : List UInt8).contains c = digit c := by
  have h : ∀ n : Fin 256, ([48, 49, 50, 51, 52, 53, 54, 55, 56, 57] : List UInt8).contains (UInt8.ofNat n.1) = digit (UInt8.ofNat n.1) := by decide +kernel
  have := h ⟨c.toNat, c.toNat_lt⟩
  simpa using this
theorem iban_digits.calls (a0 : ByteArray) (r : Bool) (w : World) (h : iban_digits.f a0 = some r) :
    Calls Tryd.prog 17 #[.string a0] w fun e w' => e = .returned (.bool r) ∧ Below w.heap.size w w' := by
  unfold iban_digits.f at h
  by_cases hc : a0.size ≤ 1048576
  · rw [if_pos hc] at h
    have h := Option.some.inj h
    obtain ⟨l, rfl⟩ := bs_ex a0
    rw [bs_data] at h
    have HT : Calls Tryd.prog 21 #[.string (bs l), .string ⟨#[48, 49, 50, 51, 52, 53, 54, 55, 56, 57]⟩] w fun e w' => e = .returned (.string (bs (Lib.trimS l [48, 49, 50, 51, 52, 53, 54, 55, 56, 57]))) ∧ Below w.heap.size w w' := by
      have HT := Any.strings_Trim_laid Tryd.lays160 (by kernel_rfl) (bs l) ⟨#[48, 49, 50, 51, 52, 53, 54, 55, 56, 57]⟩ w (by omega) (by decide) (ascii_of_all (by decide))
      rw [bs_data] at HT
      exact HT
    have hv : Lib.trimS l [48, 49, 50, 51, 52, 53, 54, 55, 56, 57] = [] ↔ r = true := by
      rw [trim_nil, ← h]
      have : (fun c => ([48, 49, 50, 51, 52, 53, 54, 55, 56, 57] : List UInt8).contains c) = digit := funext ten_digits
      rw [this]
    obtain ⟨m, hm⟩ : ∃ m, Lib.trimS l [48, 49, 50, 51, 52, 53, 54, 55, 56, 57] = m := ⟨_, rfl⟩
    rw [hm] at HT hv
    have HC := Lib.hid HT
    have HV := Lib.hid hv
    clear HT hv h hm
    go_enter Tryd.func17, Tryd.ntmps17
    go_wp2_with (go_at_call 21; refine HC.out.mono ?_; rintro e w1 ⟨rfl, hb⟩)
    go_ret
    refine ⟨?_, hb⟩
    show Ending.returned (.bool (bs m).toList.isEmpty) = _
    rw [ByteArray.toList_eq, bs_data]
    have hv := HV.out
    cases m with
    | nil => rw [hv.1 rfl]; rfl
    | cons a k =>
      cases r with
      | false => rfl
      | true => exact absurd (hv.2 rfl) (by simp)
  · rw [if_neg hc] at h
    cases h
end Go.Proofs.YtjblihfgpbnhbaaDoor.PAll

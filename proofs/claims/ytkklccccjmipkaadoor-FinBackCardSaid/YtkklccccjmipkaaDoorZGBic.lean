import Derived.Test.YtkklccccjmipkaaDoorProg
import Derived.Test.YtkklccccjmipkaaDoorZShelf
import Derived.Test.YtkklccccjmipkaaDoorZW
import Derived.WalkKit
import Derived.Outline
import Derived.Test.YtkklccccjmipkaaDoorZGLib
import Derived.Deep.QuietTactic
import Derived.BigQuiet
import Derived.Lib.Hide
import Derived.Laws.EntriesVeiled
namespace Go.Proofs.YtkklccccjmipkaaDoor.PAll
open Go.RowKit Go.Proofs.YtkklccccjmipkaaDoorW.PrintWords

theorem set_has (S : ByteArray) (c : Int) (w : World) :
    Calls Tryd.prog 161 #[.string S, .int .u8 c] w fun e w' => e = .returned (.bool (decide (0 ≤ Lib.indexByte S.data.toList c.toNat.toUInt8))) ∧ w = w' := by
  go_enter Tryd.func161, Tryd.ntmps161
  go_wp2_with (go_at_call 79; refine (Tryd.strings_IndexByte _ _ _).mono ?_; rintro e w' ⟨rfl, rfl⟩)
  go_ret
  exact ⟨rfl, rfl⟩

def letters : ByteArray := ⟨#[65, 66, 67, 68, 69, 70, 71, 72, 73, 74, 75, 76, 77, 78, 79, 80, 81, 82, 83, 84, 85, 86, 87, 88, 89, 90]⟩
def lettersDigits : ByteArray := ⟨#[65, 66, 67, 68, 69, 70, 71, 72, 73, 74, 75, 76, 77, 78, 79, 80, 81, 82, 83, 84, 85, 86, 87, 88, 89, 90, 48, 49, 50, 51, 52, 53, 54, 55, 56, 57]⟩
abbrev hasL : Value := .func (Fn.func 161) #[.string letters] #[]
abbrev hasB : Value := .func (Fn.func 161) #[.string lettersDigits] #[]
abbrev placesV : Array Value := #[hasB, hasB, hasB, hasB, hasL, hasL, hasB, hasB, hasB, hasB, hasB, hasB]

theorem places_any (w : World) :
    Calls Tryd.prog 129 #[] w fun e w' => e = .returned (.agg placesV) ∧ w.alloc (.cells placesV 165) = w' := by
  have hmf : ∀ (fn : Fn) (first cap : Array Value) (w : World), (Instr.makeFunc fn first cap).run Tryd.prog w = .ok (.func fn first cap) w := fun _ _ _ _ => rfl
  go_enter Tryd.func129, Tryd.ntmps129
  go_wp2
  exact bodyPost_ret (v := .agg placesV) (by simp [results, Tryd.results129, go_sem]; exact ⟨rfl, rfl, rfl⟩) rfl ⟨rfl, rfl⟩

/-- One place of a BIC. -/
def placeS (k : Nat) : ByteArray := if k = 4 ∨ k = 5 then letters else lettersDigits
def placeB (k : Nat) (c : UInt8) : Bool := decide (0 ≤ Lib.indexByte (placeS k).data.toList c)
def goodB (l : List UInt8) : Bool := (List.range l.length).all fun k => placeB k (l.getD k 0)
def bicW (w : World) : World := (w.alloc (.cells placesV 165)).alloc (.cells placesV 165)
theorem bicW_cell (w : World) (k : Nat) (hk : k < 12) : (bicW w).cell? ⟨w.heap.size + 1, k, none⟩ = some (.func (Fn.func 161) #[.string (placeS k)] #[]) := by
  unfold bicW
  have h : ∀ (W : World), (W.alloc (.cells placesV 165)).cell? ⟨W.heap.size, k, none⟩ = placesV[k]? := by
    intro W
    unfold World.cell?
    rw [heap_alloc_new]
    rfl
  have h2 := h (w.alloc (.cells placesV 165))
  rw [World.size_alloc] at h2
  rw [h2]
  rcases (show k = 0 ∨ k = 1 ∨ k = 2 ∨ k = 3 ∨ k = 4 ∨ k = 5 ∨ k = 6 ∨ k = 7 ∨ k = 8 ∨ k = 9 ∨ k = 10 ∨ k = 11 by omega) with h | h | h | h | h | h | h | h | h | h | h | h <;> subst h <;> rfl
theorem bicW_below (w : World) (n : Nat) : Below w.heap.size w ((bicW w).drewN n) := pw_below_drewN (((Below.refl _ _).alloc (Nat.le_refl _) _).alloc (by simp) _) n
theorem goodB_of (l : List UInt8) (h : ∀ j, j < l.length → placeB j (l.getD j 0) = true) : goodB l = true := by
  unfold goodB
  rw [List.all_eq_true]
  intro j hj
  exact h j (List.mem_range.1 hj)
theorem goodB_not (l : List UInt8) (k : Nat) (hk : k < l.length) (h : placeB k (l.getD k 0) = false) : goodB l = false := by
  unfold goodB
  rw [List.all_eq_false]
  exact ⟨k, List.mem_range.2 hk, by rw [h]; simp⟩
theorem has_place (s : ByteArray) (k : Nat) (hk : k < s.size) (b : Bool) (hb : placeB k (s.data.toList.getD k 0) = b) (w : World) :
    Calls Tryd.prog 161 #[.string (placeS k), .int .u8 (s[k].toNat : Int)] w fun e w' => e = .returned (.bool b) ∧ w' = w := by
  refine (set_has _ _ w).mono ?_
  rintro e w' ⟨rfl, rfl⟩
  refine ⟨?_, rfl⟩
  rw [← hb]
  have e1 : s.data.toList.getD k 0 = s[k] := by
    rw [List.getD_eq_getElem?_getD]
    simp [hk]
    rfl
  have e2 : ((s[k].toNat : Int)).toNat.toUInt8 = s[k] := by simp
  unfold placeB
  rw [e1, e2]

set_option maxRecDepth 100000 in
set_option maxHeartbeats 1000000 in
theorem good_any (s : ByteArray) (hs : s.size ≤ 12) (w : World) :
    Calls Tryd.prog 77 #[.string s] w fun e w' => e = .returned (.bool (goodB s.data.toList)) ∧ Below w.heap.size w w' := by
  go_enter Tryd.func77, Tryd.ntmps77
  go_wp2_with (go_at_call 129; refine (places_any _).mono ?_; rintro e w' ⟨rfl, rfl⟩)
  go_loopw [8] (fun i wr => ∃ k n : Nat, k ≤ s.size ∧ i = .int .i64 k ∧ Hid (∀ j, j < k → placeB j (s.data.toList.getD j 0) = true) ∧ wr = (bicW w).drewN n) (fun i _ => s.size - (intOf i).toNat)
  case atStart => exact ⟨0, 0, Nat.zero_le _, rfl, Lib.hid (fun j hj => by omega), rfl⟩
  case round =>
    obtain ⟨k, n, hk, rfl, HA, rfl⟩ := hrel
    by_cases hlt : k < s.size
    · have hc := bicW_cell w k (by omega)
      have hi : 0 ≤ (k : Int) ∧ (k : Int) < 12 := by omega
      cases hb : placeB k (s.data.toList.getD k 0)
      · have HB := Lib.hid hb
        clear hb
        go_wp2
        go_quiet ((go_at_call 161; exact GLib.quiet_plus (has_place s k hlt false HB _)))
        go_wp2
        go_ret
        exact ⟨by rw [goodB_not _ k (by simpa using hlt) HB]; rfl, by simpa using bicW_below w _⟩
      · have HB := Lib.hid hb
        clear hb
        go_wp2
        go_quiet ((go_at_call 161; exact GLib.quiet_plus (has_place s k hlt true HB _)))
        go_wp2
        go_roundw
        case rel => exact ⟨k + 1, _, by omega, by go_num, Lib.hid (fun j hj => by rcases Nat.lt_succ_iff_lt_or_eq.1 hj with h | h; exact HA j h; subst h; exact HB), rfl⟩
        case measure => simp [intOf]; omega
    · go_wp2
      go_ret
      exact ⟨by rw [goodB_of _ (fun j hj => HA j (by simp at hj; omega))]; rfl, bicW_below w _⟩

/-- bic.good: of a text of at most 12 bytes: is each byte one of its place? -/
def bic_good.f (a0 : ByteArray) : Option (Bool) := if a0.size ≤ 12 then some (goodB a0.data.toList) else none
theorem bic_good.calls (a0 : ByteArray) (r : Bool) (w : World) (h : bic_good.f a0 = some r) :
    Calls Tryd.prog 77 #[.string a0] w fun e w' => e = .returned (.bool r) ∧ Below w.heap.size w w' := by
  unfold bic_good.f at h
  by_cases hs : a0.size ≤ 12
  · rw [if_pos hs] at h
    obtain rfl := Option.some.inj h
    exact good_any a0 hs w
  · rw [if_neg hs] at h
    cases h
end Go.Proofs.YtkklccccjmipkaaDoor.PAll

/- remitterref12.Check at "uetr", by hand. -/
import Derived.Test.YtkklccccjmipkaaDoorZGUref
namespace Go.Proofs.YtkklccccjmipkaaDoor.PAll
open Go.RowKit Go.Deep Go.Proofs.YtkklccccjmipkaaDoorW.PrintWords GPlain
set_option linter.unusedSimpArgs false
set_option maxRecDepth 100000 in
theorem begins4 (p : ByteArray) (hp : p.size = 4) (hne : ((⟨#[117, 101, 116, 114]⟩ : ByteArray).extract 0 4).data.toList ≠ p.data.toList) (w : World) :
    Calls Tryd.prog 86 #[.string ⟨#[117, 101, 116, 114]⟩, .string p] w fun e w' => e = .returned (.bool false) ∧ w = w' := by
  have hc : ((p.size : Nat) : Int) = 4 := by rw [hp]; rfl
  have e : (((⟨#[117, 101, 116, 114]⟩ : ByteArray).extract 0 4).toList == p.toList) = false := by rw [ByteArray.toList_eq, ByteArray.toList_eq]; exact beq_eq_false_iff_ne.2 hne
  have hcut : ∀ W : World, (Instr.slice 9 (.string ⟨#[117, 101, 116, 114]⟩) none (some (.int .i64 4)) none).run Tryd.prog W = .ok (.string ((⟨#[117, 101, 116, 114]⟩ : ByteArray).extract 0 4)) W := fun W => by
    rw [run_slice_string_to_if W 9 _ .i64 _ Tryd.underlying9, if_pos (by decide)]
    rfl
  clear hp hne
  go_enter Tryd.func86, Tryd.ntmps86
  go_wp2
  go_ret
  exact ⟨rfl, rfl⟩
set_option maxRecDepth 100000 in
theorem begins3 (p : ByteArray) (hp : p.size = 3) (hne : ((⟨#[117, 101, 116, 114]⟩ : ByteArray).extract 0 3).data.toList ≠ p.data.toList) (w : World) :
    Calls Tryd.prog 86 #[.string ⟨#[117, 101, 116, 114]⟩, .string p] w fun e w' => e = .returned (.bool false) ∧ w = w' := by
  have hc : ((p.size : Nat) : Int) = 3 := by rw [hp]; rfl
  have e : (((⟨#[117, 101, 116, 114]⟩ : ByteArray).extract 0 3).toList == p.toList) = false := by rw [ByteArray.toList_eq, ByteArray.toList_eq]; exact beq_eq_false_iff_ne.2 hne
  have hcut : ∀ W : World, (Instr.slice 9 (.string ⟨#[117, 101, 116, 114]⟩) none (some (.int .i64 3)) none).run Tryd.prog W = .ok (.string ((⟨#[117, 101, 116, 114]⟩ : ByteArray).extract 0 3)) W := fun W => by
    rw [run_slice_string_to_if W 9 _ .i64 _ Tryd.underlying9, if_pos (by decide)]
    rfl
  clear hp hne
  go_enter Tryd.func86, Tryd.ntmps86
  go_wp2
  go_ret
  exact ⟨rfl, rfl⟩
set_option maxRecDepth 100000 in
theorem begins5 (p : ByteArray) (n : Int) (hp : (p.size : Int) = n) (hn : 4 < n) (w : World) :
    Calls Tryd.prog 86 #[.string ⟨#[117, 101, 116, 114]⟩, .string p] w fun e w' => e = .returned (.bool false) ∧ w = w' := by
  go_enter Tryd.func86, Tryd.ntmps86
  go_wp2
  go_ret
  exact ⟨rfl, rfl⟩
theorem byteN_lt (s : ByteArray) (i : Nat) : byteN s i < 256 := by unfold byteN; exact UInt8.toNat_lt _
theorem uref_cU (s : ByteArray) : (s.size = 36 ∧ ∀ j, j < s.size → rowB j (byteN s j) = true) ↔ cU s = 0 := by
  have key : s.size = 36 → ((∀ j, j < s.size → rowB j (byteN s j) = true) ↔ allU s.data.toList = true) := fun h => by
    have e : ∀ j, j < 36 → rowB j (byteN s j) = okU j (s.data.toList.getD j 0) := fun j hj => by
      have := rowB_okU ⟨j, hj⟩ ⟨byteN s j, byteN_lt s j⟩
      rw [this]
      congr 1
      unfold byteN
      simp
    unfold allU
    rw [List.all_eq_true, h]
    exact ⟨fun h j hj => by rw [← e j (by simpa using hj)]; exact h j (by simpa using hj), fun h j hj => by rw [e j hj]; exact h j (by simpa using hj)⟩
  unfold cU
  constructor
  · rintro ⟨h1, h2⟩
    exact if_pos ⟨h1, (key h1).1 h2⟩
  · intro h
    by_cases h2 : s.size = 36 ∧ allU s.data.toList = true
    · exact ⟨h2.1, (key h2.1).2 h2.2⟩
    · rw [if_neg h2] at h; cases h
set_option maxRecDepth 100000 in
set_option maxHeartbeats 4000000 in
theorem check12_walk (s : ByteArray) (hs : s.size ≤ 1048576) (b : Bool) (hb : decide (cU s = 0) = b) (w : World) :
    Calls Tryd.prog 51 #[.string ⟨#[117, 101, 116, 114]⟩, .string s] w fun e w' => e = .returned (.tuple #[.bool true, .bool b]) ∧ Below w.heap.size w w' := by
  have HU : Hid (∀ W : World, Calls Tryd.prog 94 #[.string s] W fun e w' => e = .returned (.bool b) ∧ W = w') := Lib.hid (fun W => (uref_walk s hs W).mono (fun e w' h => by
    obtain ⟨⟨b', he, hbi⟩, hw⟩ := h
    refine ⟨?_, hw⟩
    rw [he, ← hb]
    congr 2
    rw [uref_cU] at hbi
    by_cases hc : cU s = 0
    · rw [decide_eq_true hc, hbi.2 hc]
    · rw [decide_eq_false hc]; cases b'; rfl; exact absurd (hbi.1 rfl) hc))
  clear hb
  have HB1 := Lib.hid (begins4 ⟨#[111, 110, 101, 58]⟩ rfl (by decide +kernel))
  have HB2 := Lib.hid (begins4 ⟨#[108, 105, 110, 101]⟩ rfl (by decide +kernel))
  have HB3 := Lib.hid (begins5 ⟨#[112, 97, 114, 116, 121]⟩ 5 rfl (by decide +kernel))
  have HB4 := Lib.hid (begins3 ⟨#[109, 97, 120]⟩ rfl (by decide +kernel))
  have HB5 := Lib.hid (begins5 ⟨#[100, 105, 103, 105, 116, 115]⟩ 6 rfl (by decide +kernel))
  go_enter Tryd.func51, Tryd.ntmps51
  go_wp2_with (first
    | (go_at_call 86; (with_reducible refine (HB1.out _).mono ?_); rintro e w2 ⟨rfl, rfl⟩)
    | (go_at_call 86; (with_reducible refine (HB2.out _).mono ?_); rintro e w2 ⟨rfl, rfl⟩)
    | (go_at_call 86; (with_reducible refine (HB3.out _).mono ?_); rintro e w2 ⟨rfl, rfl⟩)
    | (go_at_call 86; (with_reducible refine (HB4.out _).mono ?_); rintro e w2 ⟨rfl, rfl⟩)
    | (go_at_call 86; (with_reducible refine (HB5.out _).mono ?_); rintro e w2 ⟨rfl, rfl⟩)
    | (go_at_call 94; refine (HU.out _).mono ?_; rintro e w2 ⟨rfl, rfl⟩))
  go_ret2
  exact ⟨rfl, Below.refl _ _⟩
/-- remitterref12.Check, at "uetr". -/
def remitterref12_Check.f (a0 a1 : ByteArray) : Option (Bool × Bool) := if a0.data.toList = [117, 101, 116, 114] ∧ a1.size ≤ 1048576 then some (true, decide (cU a1 = 0)) else none
theorem remitterref12_Check.calls (a0 a1 : ByteArray) (r1 r2 : Bool) (w : World) (h : remitterref12_Check.f a0 a1 = some (r1, r2)) :
    Calls Tryd.prog 51 #[.string a0, .string a1] w fun e w' => e = .returned (.tuple #[.bool r1, .bool r2]) ∧ Below w.heap.size w w' := by
  unfold remitterref12_Check.f at h
  by_cases hs : a0.data.toList = [117, 101, 116, 114] ∧ a1.size ≤ 1048576
  · rw [if_pos hs] at h
    have h := Option.some.inj h
    simp only [Prod.mk.injEq] at h
    obtain ⟨rfl, h2⟩ := h
    obtain rfl : a0 = ⟨#[117, 101, 116, 114]⟩ := by rw [bs_of a0, hs.1]; rfl
    exact check12_walk a1 hs.2 r2 h2 w
  · rw [if_neg hs] at h
    cases h
end Go.Proofs.YtkklccccjmipkaaDoor.PAll

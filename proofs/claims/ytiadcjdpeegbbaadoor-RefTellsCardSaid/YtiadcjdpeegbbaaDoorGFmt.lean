/- strconv.FormatUint at sixteen, by hand. -/
import Derived.Test.YtiadcjdpeegbbaaDoorGWorld
import Derived.Test.YtiadcjdpeegbbaaDoorGHex
import Derived.Test.YtiadcjdpeegbbaaDoorGPlain
import Derived.Test.YtiadcjdpeegbbaaDoorWMore
import Derived.WalkKit
import Derived.Lib.Hide
import Derived.Laws.BytesArg
import Derived.Laws.Bits64b
namespace Go.Proofs.YtiadcjdpeegbbaaDoor.PAll
open Go.RowKit Go.Proofs.YtiadcjdpeegbbaaDoorW.PrintWords GPlain GHex
set_option linter.unusedSimpArgs false

set_option maxRecDepth 100000 in
theorem tz64_16 (w : World) (hG : GWP w) : Calls Tryd.prog 57 #[.int .u64 16] w fun e w' => e = .returned (.int .i64 4) ∧ w = w' := by
  have hc : w.cell? ⟨3, 15, none⟩ = some (.int .u8 4) := hG
  have e1 : IntKind.u64.wrap (bits BinOp.and IntKind.u64 16 (IntKind.u64.wrap (-16)) * 285870213051353865) / 288230376151711744 = 15 := by decide +kernel
  go_enter Tryd.func57, Tryd.ntmps57
  go_wp2
  go_ret
  exact ⟨rfl, rfl⟩
theorem tz_16 (w : World) (hG : GWP w) : Calls Tryd.prog 50 #[.int .u64 16] w fun e w' => e = .returned (.int .i64 4) ∧ w = w' := by
  have HG := Lib.hid hG
  clear hG
  go_enter Tryd.func50, Tryd.ntmps50
  go_wp2_with (go_at_call 57; refine (tz64_16 _ HG.out).mono ?_; rintro e w' ⟨rfl, rfl⟩)
  go_ret
  exact ⟨rfl, rfl⟩
theorem pow2_16 (w : World) : Calls Tryd.prog 49 #[.int .i64 16] w fun e w' => e = .returned (.bool true) ∧ w = w' := by
  have e1 : bits BinOp.and IntKind.i64 16 15 = 0 := by decide +kernel
  go_enter Tryd.func49, Tryd.ntmps49
  go_wp2
  go_ret
  exact ⟨rfl, rfl⟩

/-- The array holds the last digits; its other cells hold something. -/
def Digs (B : Nat) (l : List UInt8) (W : World) : Prop :=
  (∀ j, j < 65 → ∃ v : Int, W.cell? ⟨B, j, none⟩ = some (.int .u8 v)) ∧ (∀ j, j < 65 → W.frozen? ⟨B, j, none⟩ = false) ∧ (∀ j, j < l.length → W.cell? ⟨B, 65 - l.length + j, none⟩ = some (.int .u8 ((l.getD j 0).toNat : Int)))
theorem Digs.push {B : Nat} {l : List UInt8} {W : World} (h : Digs B l W) (hl : l.length < 65) (c : UInt8) (i : Nat) (hi : i + 1 + l.length = 65) : Digs B (c :: l) (W.setCell ⟨B, i, none⟩ (.int .u8 (c.toNat : Int))) := by
  obtain ⟨h1, h2, h3⟩ := h
  refine ⟨fun j hj => ?_, fun j hj => by rw [World.frozen?_setCell]; exact h2 j hj, fun j hj => ?_⟩
  · obtain ⟨v, hv⟩ := h1 j hj
    by_cases e : i = j
    · subst e
      exact ⟨_, World.cell?_setCell_same _ _ _ hv⟩
    · refine ⟨v, ?_⟩
      rw [World.cell?_setCell_other _ _ _ _ (by simp [e])]
      exact hv
  · cases j with
    | zero =>
      obtain ⟨v, hv⟩ := h1 i (by omega)
      rw [show 65 - (c :: l).length + 0 = i by simp; omega]
      exact World.cell?_setCell_same _ _ _ hv
    | succ j =>
      have := h3 j (by simpa using hj)
      rw [List.length_cons, show 65 - (l.length + 1) + (j + 1) = 65 - l.length + j by omega, World.cell?_setCell_other _ _ _ _ (by simp <;> omega)]
      exact this
theorem dig_at (d : Nat) (h : d < 36) (hd16 : d < 16) : (⟨#[48, 49, 50, 51, 52, 53, 54, 55, 56, 57, 97, 98, 99, 100, 101, 102, 103, 104, 105, 106, 107, 108, 109, 110, 111, 112, 113, 114, 115, 116, 117, 118, 119, 120, 121, 122]⟩ : ByteArray)[d]'h = hd d := by
  rcases (show d = 0 ∨ d = 1 ∨ d = 2 ∨ d = 3 ∨ d = 4 ∨ d = 5 ∨ d = 6 ∨ d = 7 ∨ d = 8 ∨ d = 9 ∨ d = 10 ∨ d = 11 ∨ d = 12 ∨ d = 13 ∨ d = 14 ∨ d = 15 by omega) with rfl | rfl | rfl | rfl | rfl | rfl | rfl | rfl | rfl | rfl | rfl | rfl | rfl | rfl | rfl | rfl <;> rfl
theorem and_15 (u : Nat) (hu : u < 18446744073709551616) : bits .and .u64 (u : Int) 15 = ((u % 16 : Nat) : Int) := by
  rw [show (15 : Int) = ((15 : Nat) : Int) from rfl, bits_and_u64_nat u 15 hu (by omega), show (15 : Nat) = 2 ^ 4 - 1 from rfl, Nat.and_two_pow_sub_one_eq_mod]
theorem strOfNums_bs (l : List UInt8) : strOfNums (l.map fun b => (b.toNat : Int)) = bs l := by
  unfold strOfNums bs
  rw [List.map_map]
  congr 3
  have : ((fun n : Int => UInt8.ofNat n.toNat) ∘ fun b : UInt8 => (b.toNat : Int)) = id := by
    funext b
    simp
  rw [this, List.map_id]
theorem getD_map_toNat (l : List UInt8) (j : Nat) : (l.map fun b => (b.toNat : Int)).getD j 0 = ((l.getD j 0).toNat : Int) := by
  rw [List.getD_eq_getElem?_getD, List.getD_eq_getElem?_getD, List.getElem?_map]
  cases l[j]? <;> rfl
theorem zero65 : Tryd.zeroCells79 = Array.replicate 65 (.int .u8 0) := by kernel_rfl
set_option maxRecDepth 100000 in
set_option maxHeartbeats 2000000 in
theorem bits_walk (n : Nat) (hn : n < 18446744073709551616) (w : World) (hG : GWP w) :
    Calls Tryd.prog 39 #[.slice none 0 0, .int .u64 (n : Int), .int .i64 16, .bool false, .bool false] w fun e w' => e = .returned (.tuple #[.slice none 0 0, .string (bs (hexL n))]) ∧ Below w.heap.size w w' := by
  have hG1 : ∀ o, GWP (w.alloc o) := fun o => GWP_below hG ((Below.refl _ w).alloc (Nat.le_refl _) o)
  have HG := Lib.hid hG1
  clear hG hG1
  go_enter Tryd.func39, Tryd.ntmps39
  go_wp2_with (first | (go_at_call 50; refine (tz_16 _ (HG.out _)).mono ?_; rintro e w' ⟨rfl, rfl⟩) | (go_at_call 49; refine (pow2_16 _).mono ?_; rintro e w' ⟨rfl, rfl⟩))
  have hD0 : Digs w.heap.size [] (w.alloc (.cells Tryd.zeroCells79 79)) := ⟨fun j hj => ⟨0, by rw [zero65]; simp [hj]⟩, fun j hj => by rw [zero65]; simp, fun j hj => by simp at hj⟩
  go_loopw [1, 13] (fun s1 s13 wr => ∃ (k i u : Nat), s1 = .int .u64 u ∧ s13 = .int .i64 i ∧ i + k = 65 ∧ k ≤ 15 ∧ u < 18446744073709551616 ∧ Hid (u = n / 16 ^ k) ∧ Hid (k + lenF (15 - k) u = lenH n) ∧ Hid (Digs w.heap.size (hexW k n) wr) ∧ Hid (Below w.heap.size w wr)) (fun s1 _ _ => (intOf s1).toNat)
  case atStart => exact ⟨0, 65, n, rfl, rfl, by omega, by omega, hn, Lib.hid (by simp), Lib.hid (by simp [lenH]), Lib.hid hD0, Lib.hid ((Below.refl _ w).alloc (Nat.le_refl _) _)⟩
  case round =>
    obtain ⟨k, i, u, rfl, rfl, hik, hk, hu, HU, HL, HD, HB⟩ := hrel
    obtain ⟨i, rfl⟩ : ∃ m, i = m + 1 := ⟨i - 1, by omega⟩
    have hlen : (hexW k n).length = k := hexW_length k n
    have HLN := Lib.hid hlen
    clear hlen
    obtain ⟨ov, hov⟩ := HD.out.1 i (by omega)
    have hfz := HD.out.2.1 i (by omega)
    by_cases h16 : 16 ≤ u
    · have hk15 : k < 15 := by
        rcases Nat.lt_or_ge k 15 with h | h
        · exact h
        · obtain rfl : k = 15 := by omega
          have := HU.out
          have : n / 16 ^ 15 < 16 := by omega
          omega
      have ea := and_15 u hu
      have HN : Hid (Digs w.heap.size (hexW (k + 1) n) (wr.setCell ⟨w.heap.size, i, none⟩ (.int .u8 (((⟨#[48, 49, 50, 51, 52, 53, 54, 55, 56, 57, 97, 98, 99, 100, 101, 102, 103, 104, 105, 106, 107, 108, 109, 110, 111, 112, 113, 114, 115, 116, 117, 118, 119, 120, 121, 122]⟩ : ByteArray)[u % 16]'(show u % 16 < 36 by omega)).toNat : Int)))) := Lib.hid (by
        rw [dig_at _ (by omega) (by omega), hexW_cons, ← HU.out]
        exact HD.out.push (by rw [HLN.out]; omega) _ i (by rw [HLN.out]; omega))
      go_wp2
      go_roundw
      case rel => exact ⟨k + 1, i, u / 16, by first | rfl | simp, by first | rfl | simp, by omega, by omega, by omega, Lib.hid (by rw [HU.out, Nat.div_div_eq_div_mul, Nat.pow_succ]), Lib.hid (by have := HL.out; rw [show 15 - k = (15 - (k + 1)) + 1 by omega, lenF, if_neg (by omega)] at this; omega), HN, Lib.hid (HB.out.setCell (p := ⟨w.heap.size, i, none⟩) (Nat.le_refl _) _)⟩
      case measure => simp [intOf]; omega
    · have hu36 : u < 36 := by omega
      have hal : Tryd.prog.arrayLen 79 = 65 := by kernel_rfl
      have hsl : ∀ W : World, (Instr.sliceAt 79 (.pointer (some ⟨w.heap.size, 0, none⟩)) (some (.int .i64 (i : Int))) none none).run Tryd.prog W = .ok (.slice (some ⟨w.heap.size, i, none⟩) (k + 1) (k + 1)) W := fun W => by
        rw [run_sliceAt_array_l (P := Tryd.prog) W 79 _ (by rw [hal]; kernel_rfl) .i64 (i : Int) (by omega) (by rw [hal]; omega), hal]
        have hz5 : (sizeOf (Tryd.prog.elem 79)).run Tryd.prog W = .ok 1 W := by kernel_rfl
        rw [hz5]
        simp only [Result.andThen, slicedAt, Int.toNat_natCast]
        rw [if_neg (by omega)]
        simp only [Addr.add, Nat.zero_add, Nat.mul_one]
        rw [show 65 - i = k + 1 by omega, if_neg (show ¬ i = 0 by omega)]
      clear hal
      have HN : Digs w.heap.size (hexW (k + 1) n) (wr.setCell ⟨w.heap.size, i, none⟩ (.int .u8 (((⟨#[48, 49, 50, 51, 52, 53, 54, 55, 56, 57, 97, 98, 99, 100, 101, 102, 103, 104, 105, 106, 107, 108, 109, 110, 111, 112, 113, 114, 115, 116, 117, 118, 119, 120, 121, 122]⟩ : ByteArray)[u]'hu36).toNat : Int))) := by
        rw [dig_at _ hu36 (by omega), hexW_cons, ← HU.out, Nat.mod_eq_of_lt (by omega)]
        exact HD.out.push (by rw [HLN.out]; omega) _ i (by rw [HLN.out]; omega)
      have hcv : (convert 49 9 (.slice (some ⟨w.heap.size, i, none⟩) (k + 1) (k + 1))).run Tryd.prog (wr.setCell ⟨w.heap.size, i, none⟩ (.int .u8 (((⟨#[48, 49, 50, 51, 52, 53, 54, 55, 56, 57, 97, 98, 99, 100, 101, 102, 103, 104, 105, 106, 107, 108, 109, 110, 111, 112, 113, 114, 115, 116, 117, 118, 119, 120, 121, 122]⟩ : ByteArray)[u]'hu36).toNat : Int))) = .ok (.string (bs (hexW (k + 1) n))) (wr.setCell ⟨w.heap.size, i, none⟩ (.int .u8 (((⟨#[48, 49, 50, 51, 52, 53, 54, 55, 56, 57, 97, 98, 99, 100, 101, 102, 103, 104, 105, 106, 107, 108, 109, 110, 111, 112, 113, 114, 115, 116, 117, 118, 119, 120, 121, 122]⟩ : ByteArray)[u]'hu36).toNat : Int))) := by
        have := run_convert_bytes_arg (P := Tryd.prog) (wr.setCell ⟨w.heap.size, i, none⟩ (.int .u8 (((⟨#[48, 49, 50, 51, 52, 53, 54, 55, 56, 57, 97, 98, 99, 100, 101, 102, 103, 104, 105, 106, 107, 108, 109, 110, 111, 112, 113, 114, 115, 116, 117, 118, 119, 120, 121, 122]⟩ : ByteArray)[u]'hu36).toNat : Int))) 49 5 Tryd.underlying49 Tryd.underlying5 w.heap.size i (k + 1) (k + 1) ((hexW (k + 1) n).map fun b => (b.toNat : Int)) (by rw [List.length_map, hexW_length]) (fun j hj => by
          have h3 := HN.2.2 j (by rw [hexW_length]; exact hj)
          rw [hexW_length, show 65 - (k + 1) = i by omega] at h3
          rw [h3, getD_map_toNat]) 9 Tryd.underlying9
        rw [strOfNums_bs] at this
        exact this
      have HLL : Hid (hexL n = hexW (k + 1) n) := Lib.hid (by
        have := HL.out
        have h1 : lenF (15 - k) u = 1 := by
          cases h15 : 15 - k with
          | zero => rfl
          | succ f => rw [lenF, if_pos (by omega)]
        unfold hexL
        rw [← HL.out, h1])
      clear HN
      go_wp2
      go_ret2
      exact ⟨by rw [HLL.out]; rfl, HB.out.setCell (p := ⟨w.heap.size, i, none⟩) (Nat.le_refl _) _⟩
theorem fmtI_16 (n : Nat) (hn : n < 18446744073709551616) (w : World) (hG : GWP w) :
    Calls Tryd.prog 25 #[.int .u64 (n : Int), .int .i64 16] w fun e w' => e = .returned (.string (bs (hexL n))) ∧ Below w.heap.size w w' := by
  have HG := Lib.hid hG
  clear hG
  go_enter Tryd.func25, Tryd.ntmps25
  go_wp2_with (go_at_call 39; refine (bits_walk n hn _ HG.out).mono ?_; rintro e w' ⟨rfl, hb⟩)
  go_ret
  exact ⟨rfl, hb⟩
theorem fmt_16 (n : Nat) (hn : n < 18446744073709551616) (w : World) (hG : GWP w) :
    Calls Tryd.prog 17 #[.int .u64 (n : Int), .int .i64 16] w fun e w' => e = .returned (.string (bs (hexL n))) ∧ Below w.heap.size w w' := by
  have HG := Lib.hid hG
  clear hG
  go_enter Tryd.func17, Tryd.ntmps17
  go_wp2_with (go_at_call 25; refine (fmtI_16 n hn _ HG.out).mono ?_; rintro e w' ⟨rfl, hb⟩)
  go_ret
  exact ⟨rfl, hb⟩
end Go.Proofs.YtiadcjdpeegbbaaDoor.PAll

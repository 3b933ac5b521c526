/- The contract of charset.Substitute, by hand: a range over a text, and a Builder. -/
import Derived.Test.YtjemnphmjbodfaaGCheck
import Derived.Test.YtjemnphmjbodfaaShelf2
import Derived.WalkKit
import Derived.BigCall
namespace Go.Proofs.Ytjemnphmjbodfaa.PAll
open Go.RowKit Go.Maps Go.Proofs.YtjemnphmjbodfaaW.PrintWords GPlain
set_option linter.unusedSimpArgs false

/-- Is the rune of X? -/
def isX (r : Nat) : Bool := decide (r < 128) && decide (0 ≤ Lib.indexByte setX r.toUInt8)
/-- What is put, from place pos on, by at most 'fuel' runes. -/
def substFrom (s : ByteArray) : Nat → Nat → List UInt8
  | 0, _ => []
  | fuel + 1, pos => if pos < s.size then (if isX (Utf8.decode s pos).1 = true then Lib.encodeRune (Utf8.decode s pos).1 else [46]) ++ substFrom s fuel (pos + (Utf8.decode s pos).2) else []
def subst (s : ByteArray) : List UInt8 := substFrom s s.size 0

theorem width_pos (s : ByteArray) (pos : Nat) (h : pos < s.size) : 1 ≤ (Utf8.decode s pos).2 := by
  by_cases ha : (s[pos]'h).toNat < 128
  · rw [decode_ascii s pos h ha]
    exact Nat.le_refl _
  · exact (decode_high s pos h (by omega)).2
theorem substFrom_end (s : ByteArray) (fuel pos : Nat) (h : ¬ pos < s.size) : substFrom s fuel pos = [] := by
  cases fuel with
  | zero => rfl
  | succ f => simp [substFrom, h]
theorem indexX (r : Nat) (b : Bool) (hb : decide (0 ≤ Lib.indexByte setX r.toUInt8) = b) (w : World) :
    Calls Try.prog 32 #[.string (bs setX), .int .u8 (r : Int)] w fun e w' => (∃ n : Int, e = .returned (.int .i64 n) ∧ decide (0 ≤ n) = b) ∧ w = w' := by
  refine (Try.strings_IndexByte _ _ w).mono ?_
  rintro e w' ⟨rfl, rfl⟩
  refine ⟨⟨_, rfl, ?_⟩, rfl⟩
  rw [bs_data, ← hb]
  rfl
/-- The look-up without 'ok'. -/
theorem look_setX {ops : Array Oper} {rest : List Oper} {o : Oper} {a : Act} {Q : Exit → Act → World → Prop} (w : World) (hg : o.guard = none) (m x : Operand) (t : TypeId) (hop : o.op = Op.lookup t m x false) (ht : Try.prog.underlying t = some (.map 5 9)) (b k : Nat)
    (hm : a.eval m = .map (some b)) (hown : w.ownsMap Try.prog 5 (plainElem Try.prog 9) b k setsD) (hx : a.eval x = .int .u8 88)
    (hK : wpList Try.prog ops Q rest (a.put o.dst (.string (bs setX))) w) : wpList Try.prog ops Q (o :: rest) a w := by
  refine wpList_plain hg fun K' hK' => ?_
  obtain ⟨v, ps, hrun, hv⟩ := hown.lookup Try.keyed ht (Try.zeroValue9 w) (elem_ok [] (by simp)) (key_ok 88 (by omega))
  obtain ⟨s, rfl, hs, _⟩ := plainElem_string_inv Try.underlying9 hv
  have e : s = bs setX := by
    rw [sets_at] at hs
    have e1 := (Prod.mk.inj hs).1
    rw [bs_of s]
    injection e1 with e1; injection e1 with e1; rw [← e1]
  subst e
  unfold Oper.wp
  simp [execOp, hop, hm, hx, hrun, Result.andThen]
  exact hK' _ _ hK

set_option maxHeartbeats 4000000 in
set_option maxRecDepth 1000000 in
theorem subst_walk (s : ByteArray) (w : World) (hs : s.size ≤ 35184372088832) :
    Calls Try.prog 22 #[.string s] w fun e w' => e = .returned (.string ⟨(subst s).toArray⟩) ∧ Below w.heap.size w w' := by
  go_enter Try.func22, Try.ntmps22
  go_wp2_with (first | (go_at_call 31; refine (sets_any _).mono ?_; rintro e w1 ⟨rfl, hown, hb1⟩) | ((with_reducible show wpList _ _ _ (⟨_, Op.lookup _ _ _ _, _, _, _, _⟩ :: _) _ _); refine look_setX _ rfl _ _ _ rfl Try.underlying46 _ _ rfl hown rfl ?_))
  clear hown
  go_loopw [] (fun wr => ∃ (pos fuel : Nat) (acc : List UInt8), Lib.IsBuilderF 51 5 w1.heap.size w1.heap.size (Lib.byteCells acc) wr ∧ wr.heap[w1.heap.size + 1]? = some (.stringIter s pos) ∧ Below w1.heap.size w1 wr ∧ acc ++ substFrom s fuel pos = subst s ∧ s.size ≤ pos + fuel ∧ acc.length ≤ 4 * pos) (fun wr => s.size - wr.iterPos (w1.heap.size + 1))
  case atStart =>
    refine ⟨0, s.size, [], (Lib.IsBuilderF.of (Lib.fresh_isBuilder 51 5 w1)).alloc _, ?_, ((Below.refl _ w1).alloc (Nat.le_refl _) _).alloc (by simp) _, rfl, by omega, by simp⟩
    have := World.iter_heap (w1.alloc (.cells #[.pointer none, .slice none 0 0] 51)) s 0
    simpa using this
  case round =>
    obtain ⟨pos, fuel, acc, hI, hit, hbw, hacc, hfu, hal⟩ := hrel
    have hsz : w1.heap.size + 1 < wr.heap.size := (Array.getElem?_eq_some_iff.1 hit).1
    by_cases hp : pos < s.size
    · have hnx : ∀ ty, (Instr.next (.pointer (some ⟨w1.heap.size + 1, 0, none⟩)) true ty).run Try.prog wr = _ := fun ty => Lib.run_next_any_at wr (w1.heap.size + 1) s pos ty hit hp
      have hwd := width_pos s pos hp
      have hd1 := decode_le s pos
      have hI2 := hI.iterAt hit (pos + (Utf8.decode s pos).2)
      have hit2 := Lib.iterAt_heap wr (w1.heap.size + 1) s pos (pos + (Utf8.decode s pos).2) hit
      have hbw2 := Lib.below_iterAt hbw (k := w1.heap.size + 1) (by omega) s (pos + (Utf8.decode s pos).2)
      have hsz2 : w1.heap.size ≤ (wr.iterAt (w1.heap.size + 1) s (pos + (Utf8.decode s pos).2)).heap.size := by rw [Lib.iterAt_size]; omega
      obtain ⟨f, rfl⟩ : ∃ f, fuel = f + 1 := ⟨fuel - 1, by omega⟩
      have HC := Lib.hid hacc
      clear hacc
      by_cases h128 : (Utf8.decode s pos).1 < 128
      · cases hx : decide (0 ≤ Lib.indexByte setX (Utf8.decode s pos).1.toUInt8)
        · have HX := Lib.hid hx
          clear hx
          go_wp2_with (first | (go_at_call 32; refine (indexX _ false HX _).mono ?_; rintro e w2 ⟨⟨n2, rfl, hn2⟩, rfl⟩) | (go_at_call 34; refine (Try.Builder_WriteByte_k w1.heap.size w1.heap.size _ 46 _ hI2 (by rw [Lib.byteCells_length]; omega) hsz2).mono ?_; rintro e W1 ⟨rfl, h1, b1, k1⟩))
          go_roundw
          case rel =>
            refine ⟨pos + (Utf8.decode s pos).2, f, acc ++ [46], ?_, k1.iter hit2 (by omega), hbw2.trans b1, ?_, by omega, by simp; omega⟩
            · rw [Lib.byteCells_append]; exact Or.inr h1
            · rw [← HC.out]; simp [substFrom, hp, isX, h128, HX.out]
          case measure =>
            simp only [World.iterPos, k1.iter hit2 (by omega), hit]
            omega
        · have HX := Lib.hid hx
          clear hx
          go_wp2_with (first | (go_at_call 32; refine (indexX _ true HX _).mono ?_; rintro e w2 ⟨⟨n2, rfl, hn2⟩, rfl⟩) | (go_at_call 33; refine (Try.Builder_WriteRune_k w1.heap.size w1.heap.size _ _ (by omega) (by omega) _ hI2 (by rw [Lib.byteCells_length]; omega) hsz2).mono ?_; rintro e W1 ⟨rfl, h1, b1, k1⟩))
          go_roundw
          case rel =>
            have hl4 := Lib.runeCells_le ((Utf8.decode s pos).1 : Int)
            rw [Lib.runeCells_length] at hl4
            refine ⟨pos + (Utf8.decode s pos).2, f, acc ++ Lib.encodeRune (Utf8.decode s pos).1, ?_, k1.iter hit2 (by omega), hbw2.trans b1, ?_, by omega, by simp; omega⟩
            · rw [Lib.byteCells_append, Lib.byteCells_encodeRune]; exact Or.inr h1
            · rw [← HC.out]; simp [substFrom, hp, isX, h128, HX.out]
          case measure =>
            simp only [World.iterPos, k1.iter hit2 (by omega), hit]
            omega
      · have hge : ¬ ((Utf8.decode s pos).1 : Int) < 128 := by omega
        go_wp2_with (first | (go_at_call 34; refine (Try.Builder_WriteByte_k w1.heap.size w1.heap.size _ 46 _ hI2 (by rw [Lib.byteCells_length]; omega) hsz2).mono ?_; rintro e W1 ⟨rfl, h1, b1, k1⟩))
        go_roundw
        case rel =>
          refine ⟨pos + (Utf8.decode s pos).2, f, acc ++ [46], ?_, k1.iter hit2 (by omega), hbw2.trans b1, ?_, by omega, by simp; omega⟩
          · rw [Lib.byteCells_append]; exact Or.inr h1
          · rw [← HC.out]; simp [substFrom, hp, isX, h128]
        case measure =>
          simp only [World.iterPos, k1.iter hit2 (by omega), hit]
          omega
    · have hnx : ∀ ty, (Instr.next (.pointer (some ⟨w1.heap.size + 1, 0, none⟩)) true ty).run Try.prog wr = _ := fun ty => Lib.run_next_end_at wr (w1.heap.size + 1) s pos ty hit hp
      have HC := Lib.hid hacc
      clear hacc
      go_wp2_with (go_at_call 35; refine (Try.Builder_String_any_k w1.heap.size w1.heap.size acc _ hI (by omega)).mono ?_; rintro e W1 ⟨rfl, _, b1, _⟩)
      go_ret
      have hacc := HC.out
      rw [substFrom_end s fuel pos hp, List.append_nil] at hacc
      subst hacc
      exact ⟨rfl, below_then hb1 hb1.size (hbw.trans b1)⟩

/-- charset.Substitute: of a text of at most 2^45 bytes. -/
def charset_Substitute.f (a0 : ByteArray) : Option (ByteArray) := if a0.size ≤ 35184372088832 then some (bs (subst a0)) else none
theorem charset_Substitute.calls (a0 : ByteArray) (r : ByteArray) (w : World) (h : charset_Substitute.f a0 = some r) :
    Calls Try.prog 22 #[.string a0] w fun e w' => e = .returned (.string r) ∧ Below w.heap.size w w' := by
  unfold charset_Substitute.f at h
  by_cases h1 : a0.size ≤ 35184372088832
  · rw [if_pos h1] at h
    obtain rfl := Option.some.inj h
    exact subst_walk a0 w h1
  · rw [if_neg h1] at h
    cases h
end Go.Proofs.Ytjemnphmjbodfaa.PAll

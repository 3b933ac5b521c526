/- strings.SplitSeq at "\r\n": its contract as an iterator that turns a block of its own, by hand. -/
import Derived.Test.YtkklccccjmipkaaDoorLGRangeL
import Derived.RangeFuncBound
import Derived.RangeFuncLeaves
import Derived.Shelf.Abstract
import Derived.Shelf.RegionOpen
import Derived.WalkKit
import Derived.OwnWalkIn
import Derived.TacticsInMore
import Derived.LoopNIn
import Derived.LoopIn
import Derived.Laws.EntriesVeiled
import Derived.Lib.Hide
import Derived.Lib.Split
import Derived.BigRegionIn
import Derived.Test.YtkklccccjmipkaaDoorLGWorld
import Derived.Test.YtkklccccjmipkaaDoorLGPlain
import Derived.Test.YtkklccccjmipkaaDoorProg
namespace Go.Proofs.YtkklccccjmipkaaDoor.Lin
open Go.RowKit Go.Shelf GPlain Go.Proofs.YtkklccccjmipkaaDoor.PAll Go.Proofs.YtkklccccjmipkaaDoor.Rng
set_option linter.unusedSimpArgs false
attribute [local go_sem] Oper.semAt_some

abbrev crlf : ByteArray := ⟨#[13, 10]⟩
/-- A text's lines. -/
def linesB (s : ByteArray) : List ByteArray := Lib.splitB crlf 0 s.size s
abbrev ptr (b : Nat) : Value := .pointer (some ⟨b, 0, none⟩)
/-- Captured variables, each in a box, one behind the other from n on. -/
theorem splitseq_calls (s : ByteArray) (w : World) :
    Calls Tryd.prog 123 #[.string s, .string crlf] w fun e w' => e = .returned (.func (.func 169) #[] #[ptr (w.heap.size + 1), ptr w.heap.size, ptr (w.heap.size + 1 + 1)]) ∧
      w' = (((w.alloc (.cells #[.string s] 9)).alloc (.cells #[.string crlf] 9)).alloc (.cells #[.int .i64 0] 3)) := by
  have hmf : ∀ (fn : Fn) (first cap : Array Value) (w : World), (Instr.makeFunc fn first cap).run Tryd.prog w = .ok (.func fn first cap) w := fun _ _ _ _ => rfl
  have hin : Calls Tryd.prog 154 #[.string s, .string crlf, .int .i64 0] w fun e w' => e = .returned (.func (.func 169) #[] #[ptr (w.heap.size + 1), ptr w.heap.size, ptr (w.heap.size + 1 + 1)]) ∧
      w' = (((w.alloc (.cells #[.string s] 9)).alloc (.cells #[.string crlf] 9)).alloc (.cells #[.int .i64 0] 3)) := by
    go_enter Tryd.func154, Tryd.ntmps154
    go_wp2
    go_ret
    exact ⟨rfl, rfl⟩
  go_enter Tryd.func123, Tryd.ntmps123
  go_wp2_with (go_at_call 154; refine hin.mono ?_; rintro e w' ⟨rfl, rfl⟩)
  go_ret
  exact ⟨rfl, rfl⟩
/-- What the rounds leave: the text's box, the separator's, the zero's, the library's bound. -/
def ZS (Bs : Nat) (_ j : Nat) : Prop := j = Bs
def YS (Bs Bp B0 : Nat) (_ j : Nat) : Prop := j = Bs ∨ j = Bp ∨ j = B0 ∨ j = 0
theorem KpZ.cellk {Z : Nat → Prop} {A B : World} {p : Addr} {v : Value} (h : KpZ Z A B) (hz : Z p.block) (hc : A.cell? p = some v) : B.cell? p = some v := by
  have hb := World.block_lt_of_cell? _ _ hc
  exact (World.cell?_of_block ((h.2 _ _ hz (Array.getElem?_eq_getElem hb)).trans (Array.getElem?_eq_getElem hb).symm)).trans hc
theorem cell_set_other {W : World} {b : Nat} {p : Addr} {v : Value} (h : W.cell? p = some v) (hp : p.block ≠ b) (u' : Value) : (W.setCell ⟨b, 0, none⟩ u').cell? p = some v := (World.cell?_of_block (w := W) (Below.heap_setCell _ _ _ p.block hp)).trans h
theorem cell_alloc {W : World} {p : Addr} {v : Value} (h : W.cell? p = some v) (o : Obj) : (W.alloc o).cell? p = some v := (((Below.refl _ W).alloc (Nat.le_refl _) o).cell (World.block_lt_of_cell? _ _ h)).trans h
theorem KpZ.boxed {Z : Nat → Prop} {A B : World} {b : Nat} {t : TypeId} {v : Value} (h : KpZ Z A B) (hz : Z b) (hb : Boxed A b t v) : Boxed B b t v := h.2 b _ hz hb
set_option maxRecDepth 100000 in
set_option maxHeartbeats 2000000 in
theorem splitseq1_in (n : Nat) (hn : 1 ≤ n) (l Bs Bp B0 : Nat) (s : ByteArray) (hs : s.size < 4294967281) (m : Int) (hne : Bp ≠ Bs ∧ B0 ≠ Bs ∧ 0 ≠ Bs) (J Jx : List ByteArray → World → Prop)
    (hJ : ∀ s A B, J s A → StZ (· = Bs) A B → J s B) (hJx : ∀ s A B, Jx s A → StZ (· = Bs) A B → Jx s B)
    (hY : ∀ pre x rest W, linesB s = pre ++ x :: rest → J pre W → YieldAt Fence.wide (n - 1) Tryd.prog l #[.string x] W fun e W' =>
      (e = .returned (.bool true) ∧ J (pre ++ [x]) W' ∧ KpZ (fun j => j = Bs ∨ j = Bp ∨ j = B0 ∨ j = 0) W W') ∨ (e = .returned (.bool false) ∧ Jx (pre ++ [x]) W' ∧ KpZ (fun j => j = Bs ∨ j = Bp ∨ j = B0 ∨ j = 0) W W'))
    (W : World) (h1 : Boxed W Bs 9 (.string s)) (h2 : Boxed W Bp 9 (.string crlf)) (h3 : Boxed W B0 3 (.int .i64 0)) (hG : W.cell? ⟨0, 0, none⟩ = some (.int .i64 m)) (h0 : J [] W) :
    CallsIn Fence.wide n Tryd.prog 169 #[.func (.yield l) #[] #[], ptr Bp, ptr Bs, ptr B0] W fun e W' => (∃ v, e = .returned v) ∧
      (J (linesB s) W' ∨ ∃ pre, pre <+: linesB s ∧ Jx pre W') := by
  have HL : Hid (linesB s = [] ++ Lib.splitB crlf 0 s.size s) := Lib.hid rfl
  have h4 := h1.cell
  have h5 := h2.cell
  have h6 := h3.cell
  refine callsIn_of_wp Tryd.func169 rfl trivial ?_ rfl
  simp only [Tryd.ntmps169, List.size_toArray, List.length_cons, List.length_nil, Nat.reduceAdd, Nat.reduceSub, Array.replicate_succ, Array.replicate_zero, List.push_toArray, List.append_toArray, List.nil_append, List.cons_append]
  gi_wp2
  gi_loopw [7] (fun _ wr => ∃ (k : Nat) (pre : List ByteArray) (cur : ByteArray), Hid (linesB s = pre ++ Lib.splitB crlf 0 k cur) ∧ cur.size ≤ k ∧ cur.size < 4294967281 ∧ J pre wr ∧
      Boxed wr Bs 9 (.string cur) ∧ Boxed wr Bp 9 (.string crlf) ∧ Boxed wr B0 3 (.int .i64 0) ∧ wr.cell? ⟨0, 0, none⟩ = some (.int .i64 m))
    (fun _ wr => match World.cell? wr ⟨Bs, 0, none⟩ with | some (Value.string c) => c.size | _ => 0)
  case atStart => exact ⟨s.size, [], s, HL, Nat.le_refl _, hs, h0, h1, h2, h3, hG⟩
  case round =>
    obtain ⟨k, pre, cur, HL, hk, hsz, hJp, b1, b2, b3, bG⟩ := hrel
    have c1 := b1.cell
    have c2 := b2.cell
    have c3 := b3.cell
    have HIX : ∀ V : World, V.cell? ⟨0, 0, none⟩ = some (.int .i64 m) → Calls Tryd.prog 159 #[.string cur, .string crlf] V fun e w' => e = .returned (.int .i64 (Lib.indexB cur crlf)) ∧ w' = V := fun V hV => Tryd.strings_Index cur crlf m V hsz hV
    have cG := bG
    rcases Lib.indexB_cases cur crlf with hi | ⟨j, hi, hj⟩
    · rw [hi] at HIX
      have HIX := Lib.hid HIX
      have HE : Hid (linesB s = pre ++ cur :: []) := Lib.hid (by rw [HL.out, Lib.splitB_miss _ _ _ _ hi])
      have hR := hY pre cur [] wr HE.out hJp
      obtain ⟨fn, tmps, assign, body, hy, hR⟩ := hR
      clear hi
      gi_wp2_with (refine ⟨trivial, ?_⟩; gi_at_call 159; refine (callsIn_wide.2 (HIX.out _ cG)).mono ?_; rintro e w' ⟨rfl, rfl⟩)
      refine hR.mono ?_
      rintro e W3 (⟨rfl, hJ3, hk3⟩ | ⟨rfl, hJx3, hk3⟩)
      · gi_wp2
        go_end0
        exact ⟨⟨_, rfl⟩, .inl (by rw [HE.out]; exact hJ3)⟩
      · gi_wp2
        go_end0
        exact ⟨⟨_, rfl⟩, .inr ⟨_, ⟨[], by rw [HE.out]; simp⟩, hJx3⟩⟩
    · rw [hi] at HIX
      have HIX := Lib.hid HIX
      have hj : j + 2 ≤ cur.size := hj
      obtain ⟨k, rfl⟩ : ∃ k', k = k' + 1 := ⟨k - 1, by omega⟩
      have HE : Hid (linesB s = pre ++ cur.extract 0 (j + 0) :: Lib.splitB crlf 0 k (cur.extract (j + 2) cur.size)) := Lib.hid (by rw [HL.out, Lib.splitB_hit _ _ _ _ j hi]; rfl)
      obtain ⟨x, hx⟩ : ∃ x, cur.extract 0 (j + 0) = x := ⟨_, rfl⟩
      obtain ⟨y, hy⟩ : ∃ y, cur.extract (j + 2) cur.size = y := ⟨_, rfl⟩
      have hysz : y.size + 2 ≤ cur.size := by rw [← hy, ByteArray.size_extract]; omega
      have hcut : ∀ W : World, (Instr.slice 9 (.string cur) none (some (.int .i64 (j : Int))) none).run Tryd.prog W = .ok (.string x) W := fun W => by
        rw [run_slice_string_to_if W 9 cur .i64 _ Tryd.underlying9, if_pos (by omega), ← hx]
        rfl
      have hcut2 : ∀ W : World, (Instr.slice 9 (.string cur) (some (.int .i64 ((j : Int) + 2))) none none).run Tryd.prog W = .ok (.string y) W := fun W => by
        rw [run_slice_string_from_if W 9 cur .i64 _ Tryd.underlying9, if_pos (by omega), show ((j : Int) + 2).toNat = j + 2 by omega, ← hy]
      rw [hx, hy] at HE
      have hR := hY pre x _ wr HE.out hJp
      obtain ⟨fn, tmps, assign, body, hyy, hR⟩ := hR
      clear hi hx hy
      gi_wp2_with (refine ⟨trivial, ?_⟩; gi_at_call 159; refine (callsIn_wide.2 (HIX.out _ cG)).mono ?_; rintro e w' ⟨rfl, rfl⟩)
      refine hR.mono ?_
      rintro e W3 (⟨rfl, hJ3, hk3⟩ | ⟨rfl, hJx3, hk3⟩)
      · have d1 := KpZ.boxed hk3 (.inl rfl) b1
        have d2 := KpZ.boxed hk3 (.inr (.inl rfl)) b2
        have d3 := KpZ.boxed hk3 (.inr (.inr (.inl rfl))) b3
        have dG := KpZ.cellk hk3 (p := ⟨0, 0, none⟩) (.inr (.inr (.inr rfl))) bG
        have x1 := d1.cell
        have x2 := d2.cell
        have x3 := d1.frozen
        have hJ4 := hJ _ _ _ hJ3 ⟨some Bs, grownBy_setCell' W3 Bs (.string y), fun r e => by cases e; rfl⟩
        have s1 := d1.set (.string y)
        have HM := Lib.hid s1.cell
        have HM0 := Lib.hid c1
        gi_wp2
        go_roundw
        case rel => exact ⟨k, pre ++ [x], y, Lib.hid (by rw [HE.out]; simp), by omega, by omega, hJ4, s1, d2.other hne.1 _, d3.other hne.2.1 _, cell_set_other dG hne.2.2 _⟩
        case measure => rw [HM.out, HM0.out]; show y.size < cur.size; omega
      · gi_wp2
        refine bodyPost_ret (results_none rfl _ _ _) rfl ?_
        exact ⟨⟨_, rfl⟩, .inr ⟨_, ⟨Lib.splitB crlf 0 k y, by rw [HE.out]; simp⟩, hJx3⟩⟩
/-- strings.SplitSeq's value gives the lines. -/
theorem splitseq_gives (n : Nat) (hn : 1 ≤ n) (Bs : Nat) (s : ByteArray) (hs : s.size < 4294967281) (m : Int) (w : World) (hB : 0 < Bs)
    (h1 : Boxed w Bs 9 (.string s)) (h2 : Boxed w (Bs + 1) 9 (.string crlf)) (h3 : Boxed w (Bs + 1 + 1) 3 (.int .i64 0)) (hG : w.cell? ⟨0, 0, none⟩ = some (.int .i64 m)) :
    SeqL Fence.wide n Tryd.prog 169 #[ptr (Bs + 1), ptr Bs, ptr (Bs + 1 + 1)] (fun x : ByteArray => #[.string x]) (fun _ j => j = Bs) (fun _ j => j = Bs ∨ j = Bs + 1 ∨ j = Bs + 1 + 1 ∨ j = 0) 0 (linesB s) w :=
  fun l J Jx W hW hJ hJx hY h0 => by
    have up : ∀ {b : Nat} {t : TypeId} {v : Value}, Boxed w b t v → Boxed W b t v := fun h => (hW.block _ h.lt).trans h
    refine (splitseq1_in n hn l Bs (Bs + 1) (Bs + 1 + 1) s hs m ⟨by omega, by omega, by omega⟩ (fun xs V => J xs V ∧ W.heap.size ≤ V.heap.size) Jx (fun xs A B h hz => ⟨hJ xs A B h.1 hz, Nat.le_trans h.2 hz.size⟩) hJx ?_ W (up h1) (up h2) (up h3) ((hW.cell (World.block_lt_of_cell? _ _ hG)).trans hG) ⟨h0, Nat.le_refl _⟩).mono ?_
    · intro pre x rest W1 hL hj
      refine (hY pre x rest W1 hL hj.1 hj.2).mono ?_
      rintro e W2 (⟨he, h2, h3⟩ | h2)
      · exact .inl ⟨he, ⟨h2, Nat.le_trans hj.2 h3.1⟩, h3⟩
      · exact .inr h2
    · rintro e W2 ⟨hv, h | h⟩
      · exact ⟨hv, .inl h.1⟩
      · exact ⟨hv, .inr h⟩
end Go.Proofs.YtkklccccjmipkaaDoor.Lin

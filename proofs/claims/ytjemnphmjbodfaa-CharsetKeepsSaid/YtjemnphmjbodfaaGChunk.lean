/- slices.Chunk at bytes: its contract as an iterator ('SeqStopsK'), by hand. -/
import Derived.RangeFuncNested
import Derived.RangeFuncBound
import Derived.RangeFuncCalls
import Derived.RangeFuncLeaves
import Derived.RangeFuncBox
import Derived.Shelf.Abstract
import Derived.Shelf.RegionOpen
import Derived.WalkKit
import Derived.OwnWalkIn
import Derived.TacticsInMore
import Derived.LoopNIn
import Derived.LoopIn
import Derived.Laws.EntriesVeiled
import Derived.Lib.Hide
import Derived.BigRegionIn
import Derived.Test.YtjemnphmjbodfaaProg
namespace Go.Proofs.Ytjemnphmjbodfaa.PAll
open Go.RowKit Go.Shelf
set_option linter.unusedSimpArgs false
attribute [local go_sem] Oper.semAt_some

/-- A piece's number. -/
abbrev Piece (n L : Nat) := {k : Nat // k * n < L}
/-- The piece as a slice of block b. -/
def pieceV (b n L : Nat) (x : Piece n L) : Value := .slice (some ⟨b, x.1 * n, none⟩) (min n (L - x.1 * n)) (min n (L - x.1 * n))
/-- The two captured boxes stay. -/
def BoxesStay (B1 B2 : Nat) (W W' : World) : Prop := (∀ v, W.cell? ⟨B1, 0, none⟩ = some v → W'.cell? ⟨B1, 0, none⟩ = some v) ∧ (∀ v, W.cell? ⟨B2, 0, none⟩ = some v → W'.cell? ⟨B2, 0, none⟩ = some v)
theorem BoxesStay.trans {B1 B2 : Nat} {A B C : World} (h : BoxesStay B1 B2 A B) (k : BoxesStay B1 B2 B C) : BoxesStay B1 B2 A C := ⟨fun v e => k.1 v (h.1 v e), fun v e => k.2 v (h.2 v e)⟩
theorem BoxesStay.putObj {B1 B2 : Nat} (W : World) (l : Nat) (o o' : Obj) (hl : W.heap[l]? = some o) (hc : o.isCells = false) : BoxesStay B1 B2 W (W.putObj l o') :=
  ⟨fun _ e => cell_kept e (grownBy_putObj' W l o') (fun r e' => by cases e'; exact ⟨o, hl, hc⟩), fun _ e => cell_kept e (grownBy_putObj' W l o') (fun r e' => by cases e'; exact ⟨o, hl, hc⟩)⟩

set_option maxRecDepth 100000 in
set_option maxHeartbeats 2000000 in
theorem chunk_calls (a : Option Addr) (len cap : Nat) (k : Int) (hk : 1 ≤ k) (w : World) :
    Calls Try.prog 40 #[.slice a len cap, .int .i64 k] w fun e w' => e = .returned (.func (.func 50) #[] #[.pointer (some ⟨w.heap.size, 0, none⟩), .pointer (some ⟨w.heap.size + 1, 0, none⟩)]) ∧ w' = (w.alloc (.cells #[.slice a len cap] 30)).alloc (.cells #[.int .i64 k] 3) := by
  have hk1 : ¬ k < 1 := by omega
  have hmf : ∀ (fn : Fn) (first cap : Array Value) (w : World), (Instr.makeFunc fn first cap).run Try.prog w = .ok (.func fn first cap) w := fun _ _ _ _ => rfl
  go_enter Try.func40, Try.ntmps40
  go_wp2
  go_ret
  exact ⟨rfl, rfl⟩

set_option maxRecDepth 100000 in
set_option maxHeartbeats 2000000 in
theorem chunk1_in (n : Nat) (hn : 1 ≤ n) (l B1 B2 b L cap : Nat) (k : Nat) (hk : 1 ≤ k) (hk2 : (k : Int) ≤ 9223372036854775807) (hL : L ≤ 1073741824) (hcap : L ≤ cap) (J Jx : List (Piece k L) → World → Prop) (B0 : Nat) (hJ : AbidesFrom B0 J)
    (hY : ∀ pre x W, J pre W → pre.length < L → YieldAt Fence.wide (n - 1) Try.prog l #[pieceV b k L x] W fun e W' =>
      (e = .returned (.bool true) ∧ J (pre ++ [x]) W' ∧ BoxesStay B1 B2 W W') ∨ (e = .returned (.bool false) ∧ Jx (pre ++ [x]) W'))
    (W : World) (h1 : W.cell? ⟨B1, 0, none⟩ = some (.slice (some ⟨b, 0, none⟩) L cap)) (h2 : W.cell? ⟨B2, 0, none⟩ = some (.int .i64 k)) (h0 : J [] W) :
    CallsIn Fence.wide n Try.prog 50 #[.func (.yield l) #[] #[], .pointer (some ⟨B1, 0, none⟩), .pointer (some ⟨B2, 0, none⟩)] W fun e W' => (∃ v, e = .returned v) ∧
      ((∃ xs : List (Piece k L), (∃ m, xs.map (·.1) = List.range m ∧ L ≤ m * k ∧ (m = 0 ∨ (m - 1) * k < L)) ∧ J xs W') ∨ (∃ pre, True ∧ Jx pre W')) := by
  refine callsIn_of_wp Try.func50 rfl trivial ?_ rfl
  simp only [Try.ntmps50, List.size_toArray, List.length_cons, List.length_nil, Nat.reduceAdd, Nat.reduceSub, Array.replicate_succ, Array.replicate_zero, List.push_toArray, List.append_toArray, List.nil_append, List.cons_append]
  gi_wp2
  gi_loopw [4] (fun i wr => ∃ (m q : Nat) (pre : List (Piece k L)), i = .int .i64 q ∧ pre.map (·.1) = List.range m ∧ q = m * k ∧ (m = 0 ∨ (m - 1) * k < L) ∧ J pre wr ∧ wr.cell? ⟨B1, 0, none⟩ = some (.slice (some ⟨b, 0, none⟩) L cap) ∧ wr.cell? ⟨B2, 0, none⟩ = some (.int .i64 k))
    (fun i _ => L - (intOf i).toNat)
  case atStart => exact ⟨0, 0, [], rfl, rfl, by simp, .inl rfl, h0, h1, h2⟩
  case round =>
    obtain ⟨m, q, pre, rfl, hpm, hq, hm, hJs, hb1, hb2⟩ := hrel
    by_cases hlt : q < L
    · obtain ⟨x, hx⟩ : ∃ x : Piece k L, x.1 = m := ⟨⟨m, by rw [← hq]; exact hlt⟩, rfl⟩
      have hJd : J pre wr.drew := hJ pre wr wr.drew none hJs ⟨rfl, rfl, rfl, Nat.le_refl _, fun _ _ _ => rfl⟩ (fun r e => by cases e)
      have hd1 : wr.drew.cell? ⟨B1, 0, none⟩ = some (.slice (some ⟨b, 0, none⟩) L cap) := by rw [World.cell?_drew]; exact hb1
      have hd2 : wr.drew.cell? ⟨B2, 0, none⟩ = some (.int .i64 k) := by rw [World.cell?_drew]; exact hb2
      obtain ⟨fn, tmps, assign, body, hy, hR⟩ := hY pre x wr.drew hJd (by have := congrArg List.length hpm; simp at this; rw [this]; have := Nat.le_mul_of_pos_right m hk; omega)
      unfold pieceV at hy
      rw [hx, ← hq] at hy
      have hqk : (q : Int) + (k : Int) ≤ 9223372036854775807 := by
        rcases hm with rfl | hm
        · simp at hq; omega
        · rcases Nat.eq_zero_or_pos m with h | h
          · subst h; simp at hq; subst hq; omega
          · by_cases hkL : k < L
            · omega
            · have : L ≤ q := by rw [hq]; exact Nat.le_trans (Nat.le_of_not_lt hkL) (Nat.le_mul_of_pos_left k h)
              omega
      clear hm
      have fin : Hid (∀ xs : List (Piece k L), xs = pre ++ [x] → (xs.map (·.1) = List.range (m + 1) ∧ ((m + 1 = 0) ∨ (m + 1 - 1) * k < L) ∧ q + k = (m + 1) * k)) := Lib.hid (by
        rintro xs rfl
        refine ⟨by rw [List.map_append, hpm, List.range_succ, List.map_cons, List.map_nil, hx], .inr (by rw [Nat.add_sub_cancel, ← hq]; exact hlt), by rw [Nat.succ_mul, hq]⟩)
      clear hpm hx hq
      by_cases hkq : k ≤ L - q
      · have hy1 : (Instr.yield l #[Value.slice (some { block := b, off := q }) k k]).run Try.prog wr.drew = .ok (.round l fn tmps assign body) wr.drew := by
          rw [show min k (L - q) = k by omega] at hy
          exact hy
        clear hy
        gi_wp2
        gi_region
        all_goals gi_wp2
        · refine hR.mono ?_
          rintro e W3 (⟨rfl, hJ3, hk3⟩ | ⟨rfl, hJx3⟩)
          · have hb13 := hk3.1 _ hd1
            have hb23 := hk3.2 _ hd2
            gi_wp2
            go_roundw
            case rel =>
              obtain ⟨f1, f2, f3⟩ := fin.out _ rfl
              exact ⟨m + 1, q + k, pre ++ [x], by simp, f1, f3, f2, hJ3, hb13, hb23⟩
            case measure => simp [intOf]; omega
          · gi_wp2
            refine bodyPost_ret (results_none rfl _ _ _) rfl ?_
            exact ⟨⟨_, rfl⟩, .inr ⟨pre ++ [x], trivial, hJx3⟩⟩
      · have hy1 : (Instr.yield l #[Value.slice (some { block := b, off := q }) (L - q) (L - q)]).run Try.prog wr.drew = .ok (.round l fn tmps assign body) wr.drew := by
          rw [show min k (L - q) = L - q by omega] at hy
          exact hy
        clear hy
        gi_wp2
        gi_region
        all_goals gi_wp2
        · refine hR.mono ?_
          rintro e W3 (⟨rfl, hJ3, hk3⟩ | ⟨rfl, hJx3⟩)
          · have hb13 := hk3.1 _ hd1
            have hb23 := hk3.2 _ hd2
            gi_wp2
            go_roundw
            case rel =>
              obtain ⟨f1, f2, f3⟩ := fin.out _ rfl
              exact ⟨m + 1, q + k, pre ++ [x], by simp, f1, f3, f2, hJ3, hb13, hb23⟩
            case measure => simp [intOf]; omega
          · gi_wp2
            refine bodyPost_ret (results_none rfl _ _ _) rfl ?_
            exact ⟨⟨_, rfl⟩, .inr ⟨pre ++ [x], trivial, hJx3⟩⟩
    · gi_wp2
      go_end0
      exact ⟨⟨_, rfl⟩, .inl ⟨pre, ⟨m, hpm, by rw [← hq]; omega, hm⟩, hJs⟩⟩

/-- slices.Chunk(t, k) hands back a value that 'SeqStopsK': all its pieces, in order. -/
theorem chunk_stops (n : Nat) (hn : 1 ≤ n) (B1 B2 b L cap : Nat) (k : Nat) (hk : 1 ≤ k) (hk2 : (k : Int) ≤ 9223372036854775807) (hL : L ≤ 1073741824) (hcap : L ≤ cap) (w : World) (hB1 : B1 < w.heap.size) (hB2 : B2 < w.heap.size)
    (h1 : w.cell? ⟨B1, 0, none⟩ = some (.slice (some ⟨b, 0, none⟩) L cap)) (h2 : w.cell? ⟨B2, 0, none⟩ = some (.int .i64 k)) :
    SeqStopsK Fence.wide n Try.prog 50 #[.pointer (some ⟨B1, 0, none⟩), .pointer (some ⟨B2, 0, none⟩)] (fun x : Piece k L => #[pieceV b k L x]) (BoxesStay B1 B2) (fun xs => ∃ m, xs.map (·.1) = List.range m ∧ L ≤ m * k ∧ (m = 0 ∨ (m - 1) * k < L)) (fun _ => True) L w :=
  fun l J Jx W hW hJ _ hY h0 => chunk1_in n hn l B1 B2 b L cap k hk hk2 hL hcap J Jx _ hJ hY W ((hW.cell (p := ⟨B1, 0, none⟩) hB1).trans h1) ((hW.cell (p := ⟨B2, 0, none⟩) hB2).trans h2) h0
end Go.Proofs.Ytjemnphmjbodfaa.PAll

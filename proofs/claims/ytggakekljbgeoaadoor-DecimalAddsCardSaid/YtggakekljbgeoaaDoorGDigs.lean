/- decimal.digits: its contract as an iterator ('SeqStopsK'), by hand. -/
import Derived.RangeFuncNested
import Derived.RangeFuncBound
import Derived.RangeFuncCalls
import Derived.RangeFuncLeaves
import Derived.RangeFuncBox
import Derived.Shelf.Abstract
import Derived.Shelf.RegionOpen
import Derived.WalkKit
import Derived.OwnWalkIn
import Derived.TacticsInMore
import Derived.LoopNIn
import Derived.LoopIn
import Derived.Laws.EntriesVeiled
import Derived.Lib.Hide
import Derived.BigRegionIn
import Derived.Test.YtggakekljbgeoaaDoorGBytes
import Derived.Test.YtggakekljbgeoaaDoorGPlain
import Derived.Test.YtggakekljbgeoaaDoorProg
namespace Go.Proofs.YtggakekljbgeoaaDoor.PAll
open Go.RowKit Go.Shelf GPlain
set_option linter.unusedSimpArgs false
attribute [local go_sem] Oper.semAt_some

/-- A digit; below 0: no digit. -/
abbrev DI := {v : Int // -1 ≤ v ∧ v ≤ 9}
def dgB (c : UInt8) : DI := if h : 48 ≤ c.toNat ∧ c.toNat ≤ 57 then ⟨(c.toNat : Int) - 48, by omega⟩ else ⟨-1, by omega⟩
def encD (x : DI) : Array Value := #[.int .i64 x.1]
/-- What the iterator goes through: the digits, up to the first byte that is none, which is told too. -/
def seqD : List UInt8 → List DI
  | [] => []
  | c :: r => if 0 ≤ (dgB c).1 then dgB c :: seqD r else [dgB c]
theorem seqD_take (l : List UInt8) (q : Nat) (h : ∀ j, j < q → 0 ≤ (dgB (l.getD j 0)).1) (hq : q ≤ l.length) : (l.take q).map dgB ++ seqD (l.drop q) = seqD l := by
  induction l generalizing q with
  | nil => simp at hq; subst hq; rfl
  | cons c r ih =>
    cases q with
    | zero => rfl
    | succ q =>
      have h0 := h 0 (by omega)
      have h0 : 0 ≤ (dgB c).1 := h0
      have := ih q (fun j hj => h (j + 1) (by omega)) (by simpa using hq)
      simp only [List.take_succ_cons, List.map_cons, List.drop_succ_cons, List.cons_append, this, seqD]
      rw [if_pos h0]
/-- All blocks of cells stay, but for four. -/
def KeepBut4 (B1 B2 B3 B4 : Nat) (A B : World) : Prop := ∀ j cs t fr, j ≠ B1 → j ≠ B2 → j ≠ B3 → j ≠ B4 → A.heap[j]? = some (.cells cs t fr) → B.heap[j]? = some (.cells cs t fr)
theorem KeepBut4.trans {B1 B2 B3 B4 : Nat} {A B C : World} (h : KeepBut4 B1 B2 B3 B4 A B) (k : KeepBut4 B1 B2 B3 B4 B C) : KeepBut4 B1 B2 B3 B4 A C := fun j cs t fr h1 h2 h3 h4 e => k j cs t fr h1 h2 h3 h4 (h j cs t fr h1 h2 h3 h4 e)
theorem KeepBut4.putObj {B1 B2 B3 B4 : Nat} (W : World) (l : Nat) (o o' : Obj) (hl : W.heap[l]? = some o) (hc : o.isCells = false) : KeepBut4 B1 B2 B3 B4 W (W.putObj l o') := by
  intro j cs t fr _ _ _ _ e
  have hne : j ≠ l := fun e' => by subst e'; rw [e] at hl; obtain rfl := Option.some.inj hl; cases hc
  rw [(grownBy_putObj' W l o').block j ((Array.getElem?_eq_some_iff.1 e).1) (fun e' => hne (Option.some.inj e'))]
  exact e
theorem KeepBut4.setCell {B1 B2 B3 B4 : Nat} (W : World) (B o : Nat) (hB : B = B1 ∨ B = B2 ∨ B = B3 ∨ B = B4) (v : Value) : KeepBut4 B1 B2 B3 B4 W (W.setCell ⟨B, o, none⟩ v) := fun j cs t fr h1 h2 h3 h4 e => by
  rw [Below.heap_setCell _ _ _ j (fun e' => by have : j = B := e'; omega)]
  exact e
theorem digits_calls (s : ByteArray) (w : World) :
    Calls Tryd.prog 61 #[.string s] w fun e w' => e = .returned (.func (.func 79) #[] #[.pointer (some ⟨w.heap.size, 0, none⟩)]) ∧ w' = w.alloc (.cells #[.string s] 9) := by
  have hmf : ∀ (fn : Fn) (first cap : Array Value) (w : World), (Instr.makeFunc fn first cap).run Tryd.prog w = .ok (.func fn first cap) w := fun _ _ _ _ => rfl
  go_enter Tryd.func61, Tryd.ntmps61
  go_wp2
  go_ret
  exact ⟨rfl, rfl⟩

set_option maxRecDepth 100000 in
set_option maxHeartbeats 2000000 in
theorem digits1_in (n : Nat) (hn : 1 ≤ n) (l Bs B1 B2 B3 B4 : Nat) (s : ByteArray) (hs : s.size ≤ 1048576) (J Jx : List DI → World → Prop) (B0 : Nat) (hJ : AbidesFrom B0 J)
    (hY : ∀ pre x W, J pre W → pre.length < s.size → YieldAt Fence.wide (n - 1) Tryd.prog l (encD x) W fun e W' =>
      (e = .returned (.bool true) ∧ J (pre ++ [x]) W' ∧ KeepBut4 B1 B2 B3 B4 W W') ∨ (e = .returned (.bool false) ∧ Jx (pre ++ [x]) W'))
    (W : World) (h1 : W.cell? ⟨Bs, 0, none⟩ = some (.string s)) (g1 : B1 < W.heap.size) (g2 : B2 < W.heap.size) (g3 : B3 < W.heap.size) (g4 : B4 < W.heap.size) (h0 : J [] W) :
    CallsIn Fence.wide n Tryd.prog 79 #[.func (.yield l) #[] #[], .pointer (some ⟨Bs, 0, none⟩)] W fun e W' => (∃ v, e = .returned v) ∧
      ((∃ xs : List DI, xs = seqD s.data.toList ∧ J xs W') ∨ (∃ pre, pre <+: seqD s.data.toList ∧ Jx pre W')) := by
  have hcv := Lib.run_convert_string_bytes (P := Tryd.prog) W 9 57 5 s Tryd.underlying9 Tryd.underlying57 Tryd.underlying5
  have hsl : s.data.toList.length = s.size := by rw [Array.length_toList]; rfl
  obtain ⟨cp, hcp⟩ : ∃ cp, grownCap W s.size 0 5 = cp := ⟨_, rfl⟩
  obtain ⟨Wb, hWb⟩ : ∃ Wb, Lib.bytesWorld W 5 s = Wb := ⟨_, rfl⟩
  rw [hcp, hWb] at hcv
  have hJb : J [] Wb := hJ [] W Wb none h0 (by rw [← hWb]; have h := GBytes.bytes_below W 5 s; exact ⟨h.os, h.tape, h.output, h.size, fun i hi _ => h.block i hi⟩) (fun r e => by cases e)
  have hcell : ∀ j, j < s.size → Wb.cell? ⟨W.heap.size, j, none⟩ = some (.int .u8 ((s.data.toList.getD j 0).toNat : Int)) := fun j hj => by rw [← hWb]; exact Lib.bytesWorld_cell W 5 s j hj
  obtain ⟨cs, fr, hblk⟩ : ∃ cs fr, Wb.heap[W.heap.size]? = some (.cells cs 5 fr) := ⟨_, _, by rw [← hWb]; exact Lib.bytesWorld_at_new _ _ _⟩
  have HCELL := Lib.hid hcell
  have HSL := Lib.hid hsl
  clear hWb hcp hcell hsl
  refine callsIn_of_wp Tryd.func79 rfl trivial ?_ rfl
  simp only [Tryd.ntmps79, List.size_toArray, List.length_cons, List.length_nil, Nat.reduceAdd, Nat.reduceSub, Array.replicate_succ, Array.replicate_zero, List.push_toArray, List.append_toArray, List.nil_append, List.cons_append]
  gi_wp2
  gi_loopw [9] (fun i wr => ∃ q : Nat, i = .int .i64 q ∧ q ≤ s.size ∧ Hid (∀ j, j < q → 0 ≤ (dgB (s.data.toList.getD j 0)).1) ∧ J ((s.data.toList.take q).map dgB) wr ∧ wr.heap[W.heap.size]? = some (.cells cs 5 fr) ∧ B1 < W.heap.size)
    (fun i _ => s.size - (intOf i).toNat)
  case atStart => exact ⟨0, rfl, Nat.zero_le _, Lib.hid (fun j hj => absurd hj (Nat.not_lt_zero _)), hJb, hblk, g1⟩
  case round =>
    obtain ⟨q, rfl, hq, HALL, hJq, hbq, _⟩ := hrel
    have HSEQ : Hid ((s.data.toList.take q).map dgB ++ seqD (s.data.toList.drop q) = seqD s.data.toList) := Lib.hid (seqD_take _ q HALL.out (by rw [HSL.out]; exact hq))
    by_cases hlt : q < s.size
    · obtain ⟨c, hc⟩ : ∃ c, s.data.toList.getD q 0 = c := ⟨_, rfl⟩
      have hcq : wr.cell? ⟨W.heap.size, q, none⟩ = some (.int .u8 (c.toNat : Int)) := by
        have h := HCELL.out q hlt
        rw [hc] at h
        unfold World.cell? at h ⊢
        rw [hbq]
        rw [hblk] at h
        exact h
      have hdr : Hid (s.data.toList.drop q = c :: s.data.toList.drop (q + 1)) := Lib.hid (by
        rw [List.drop_eq_getElem_cons (by rw [HSL.out]; exact hlt), ← hc, List.getD_eq_getElem?_getD, List.getElem?_eq_getElem (by rw [HSL.out]; exact hlt)]
        rfl)
      have htk : Hid ((s.data.toList.take q).map dgB ++ [dgB c] = (s.data.toList.take (q + 1)).map dgB) := Lib.hid (by
        rw [List.take_add_one, List.map_append, List.getElem?_eq_getElem (by rw [HSL.out]; exact hlt)]
        rw [List.getD_eq_getElem?_getD, List.getElem?_eq_getElem (by rw [HSL.out]; exact hlt)] at hc
        rw [← hc]
        rfl)
      have hR := hY ((s.data.toList.take q).map dgB) (dgB c) wr hJq (by rw [List.length_map, List.length_take, HSL.out]; omega)
      obtain ⟨fn, tmps, assign, body, hy, hR⟩ := hR
      unfold encD at hy
      have HQ := Lib.hid hc
      clear hc
      obtain ⟨k, hk⟩ : ∃ k, c.toNat = k := ⟨_, rfl⟩
      have hk256 : k < 256 := by rw [← hk]; exact c.toNat_lt
      have hv : (dgB c).1 = if 48 ≤ k ∧ k ≤ 57 then (k : Int) - 48 else -1 := by
        subst hk
        unfold dgB
        split <;> rfl
      rw [hk] at hcq
      by_cases hd : 48 ≤ k ∧ k ≤ 57
      · rw [if_pos hd] at hv
        obtain ⟨d1, d2⟩ := hd
        have HALL2 : Hid (∀ j, j < q + 1 → 0 ≤ (dgB (s.data.toList.getD j 0)).1) := Lib.hid (fun j hj => by
          by_cases e : j = q
          · rw [e, HQ.out, hv]; omega
          · exact HALL.out j (by omega))
        have HPF : Hid ((s.data.toList.take (q + 1)).map dgB <+: seqD s.data.toList) := Lib.hid (by
          rw [← seqD_take _ (q + 1) HALL2.out (by rw [HSL.out]; exact hlt)]
          exact List.prefix_append _ _)
        rw [hv] at hy
        clear hv hk HALL HSEQ HQ
        gi_wp2
        refine hR.mono ?_
        rintro e W3 (⟨rfl, hJ3, hk3⟩ | ⟨rfl, hJx3⟩)
        · have hb3 := hk3 _ _ _ _ (by omega) (by omega) (by omega) (by omega) hbq
          gi_wp2
          go_roundw
          case rel => exact ⟨q + 1, rfl, hlt, HALL2, by rw [← htk.out]; exact hJ3, hb3, g1⟩
          case measure => simp [intOf]; omega
        · gi_wp2
          refine bodyPost_ret (results_none rfl _ _ _) rfl ?_
          exact ⟨⟨_, rfl⟩, .inr ⟨_, by rw [htk.out]; exact HPF.out, hJx3⟩⟩
      · rw [if_neg hd] at hv
        have HALLX : Hid ((s.data.toList.take q).map dgB ++ [dgB c] = seqD s.data.toList) := Lib.hid (by
          rw [← HSEQ.out, hdr.out, seqD, if_neg (by rw [hv]; decide)])
        rw [hv] at hy
        clear hv hk HALL HSEQ HQ
        by_cases h0 : k < 48
        · clear hd
          gi_wp2
          refine hR.mono ?_
          rintro e W3 (⟨rfl, hJ3, hk3⟩ | ⟨rfl, hJx3⟩)
          · gi_wp2
            refine bodyPost_ret (results_none rfl _ _ _) rfl ?_
            exact ⟨⟨_, rfl⟩, .inl ⟨_, HALLX.out, hJ3⟩⟩
          · gi_wp2
            refine bodyPost_ret (results_none rfl _ _ _) rfl ?_
            exact ⟨⟨_, rfl⟩, .inr ⟨_, by rw [HALLX.out]; exact List.prefix_refl _, hJx3⟩⟩
        · have h57 : 57 < k := by omega
          clear hd h0
          gi_wp2
          refine hR.mono ?_
          rintro e W3 (⟨rfl, hJ3, hk3⟩ | ⟨rfl, hJx3⟩)
          · gi_wp2
            refine bodyPost_ret (results_none rfl _ _ _) rfl ?_
            exact ⟨⟨_, rfl⟩, .inl ⟨_, HALLX.out, hJ3⟩⟩
          · gi_wp2
            refine bodyPost_ret (results_none rfl _ _ _) rfl ?_
            exact ⟨⟨_, rfl⟩, .inr ⟨_, by rw [HALLX.out]; exact List.prefix_refl _, hJx3⟩⟩
    · obtain rfl : q = s.size := by omega
      have HALLX : Hid ((s.data.toList.take s.size).map dgB = seqD s.data.toList) := Lib.hid (by
        rw [← HSEQ.out, List.drop_of_length_le (by rw [HSL.out]; exact Nat.le_refl _)]
        simp [seqD])
      clear HALL HSEQ
      gi_wp2
      go_end0
      exact ⟨⟨_, rfl⟩, .inl ⟨_, HALLX.out, hJq⟩⟩
/-- decimal.digits hands back a value that 'SeqStopsK'. -/
theorem digits_stops (n : Nat) (hn : 1 ≤ n) (Bs B1 B2 B3 B4 : Nat) (s : ByteArray) (hs : s.size ≤ 1048576) (w : World) (hBs : Bs < w.heap.size) (g1 : B1 < w.heap.size) (g2 : B2 < w.heap.size) (g3 : B3 < w.heap.size) (g4 : B4 < w.heap.size) (h1 : w.cell? ⟨Bs, 0, none⟩ = some (.string s)) :
    SeqStopsK Fence.wide n Tryd.prog 79 #[.pointer (some ⟨Bs, 0, none⟩)] encD (KeepBut4 B1 B2 B3 B4) (fun xs => xs = seqD s.data.toList) (fun pre => pre <+: seqD s.data.toList) s.size w :=
  fun l J Jx W hW hJ _ hY h0 => digits1_in n hn l Bs B1 B2 B3 B4 s hs J Jx _ hJ hY W ((hW.cell (p := ⟨Bs, 0, none⟩) hBs).trans h1) (Nat.lt_of_lt_of_le g1 hW.size) (Nat.lt_of_lt_of_le g2 hW.size) (Nat.lt_of_lt_of_le g3 hW.size) (Nat.lt_of_lt_of_le g4 hW.size) h0
end Go.Proofs.YtggakekljbgeoaaDoor.PAll

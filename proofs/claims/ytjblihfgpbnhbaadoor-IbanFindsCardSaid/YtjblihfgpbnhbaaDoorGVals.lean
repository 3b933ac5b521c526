/- iban.values: its contract as an iterator ('SeqStopsK'), by hand. -/
import Derived.RangeFuncNested
import Derived.RangeFuncBound
import Derived.RangeFuncCalls
import Derived.RangeFuncLeaves
import Derived.RangeFuncBox
import Derived.Shelf.Abstract
import Derived.Shelf.RegionOpen
import Derived.WalkKit
import Derived.OwnWalkIn
import Derived.TacticsInMore
import Derived.LoopNIn
import Derived.LoopIn
import Derived.Laws.EntriesVeiled
import Derived.Lib.Hide
import Derived.BigRegionIn
import Derived.Test.YtjblihfgpbnhbaaDoorGBytes
import Derived.Test.YtjblihfgpbnhbaaDoorGPlain
import Derived.Test.YtjblihfgpbnhbaaDoorProg
namespace Go.Proofs.YtjblihfgpbnhbaaDoor.PAll
open Go.RowKit Go.Shelf GPlain
set_option linter.unusedSimpArgs false
attribute [local go_sem] Oper.semAt_some

/-- A byte's value: below 0: no digit and no letter. -/
abbrev VI := {v : Int // -1 ≤ v ∧ v ≤ 35}
def valB (c : UInt8) : VI := if h : 48 ≤ c.toNat ∧ c.toNat ≤ 57 then ⟨(c.toNat : Int) - 48, by omega⟩ else if h : 65 ≤ c.toNat ∧ c.toNat ≤ 90 then ⟨(c.toNat : Int) - 65 + 10, by omega⟩ else ⟨-1, by omega⟩
def encV (x : VI) : Array Value := #[.int .i64 x.1]
/-- All blocks of cells stay, but for three. -/
def KeepBut (B2 B3 B4 : Nat) (A B : World) : Prop := ∀ j cs t fr, j ≠ B2 → j ≠ B3 → j ≠ B4 → A.heap[j]? = some (.cells cs t fr) → B.heap[j]? = some (.cells cs t fr)
theorem KeepBut.trans {B2 B3 B4 : Nat} {A B C : World} (h : KeepBut B2 B3 B4 A B) (k : KeepBut B2 B3 B4 B C) : KeepBut B2 B3 B4 A C := fun j cs t fr h2 h3 h4 e => k j cs t fr h2 h3 h4 (h j cs t fr h2 h3 h4 e)
theorem KeepBut.putObj {B2 B3 B4 : Nat} (W : World) (l : Nat) (o o' : Obj) (hl : W.heap[l]? = some o) (hc : o.isCells = false) : KeepBut B2 B3 B4 W (W.putObj l o') := by
  intro j cs t fr _ _ _ e
  have hne : j ≠ l := fun e' => by subst e'; rw [e] at hl; obtain rfl := Option.some.inj hl; cases hc
  rw [(grownBy_putObj' W l o').block j ((Array.getElem?_eq_some_iff.1 e).1) (fun e' => hne (Option.some.inj e'))]
  exact e
theorem values_calls (s : ByteArray) (w : World) :
    Calls Tryd.prog 15 #[.string s] w fun e w' => e = .returned (.func (.func 19) #[] #[.pointer (some ⟨w.heap.size, 0, none⟩)]) ∧ w' = w.alloc (.cells #[.string s] 9) := by
  have hmf : ∀ (fn : Fn) (first cap : Array Value) (w : World), (Instr.makeFunc fn first cap).run Tryd.prog w = .ok (.func fn first cap) w := fun _ _ _ _ => rfl
  go_enter Tryd.func15, Tryd.ntmps15
  go_wp2
  go_ret
  exact ⟨rfl, rfl⟩

set_option maxRecDepth 100000 in
set_option maxHeartbeats 2000000 in
theorem values1_in (n : Nat) (hn : 1 ≤ n) (l Bs B2 B3 B4 : Nat) (s : ByteArray) (hs : s.size ≤ 1048576) (J Jx : List VI → World → Prop) (B0 : Nat) (hJ : AbidesFrom B0 J)
    (hY : ∀ pre x W, J pre W → pre.length < s.size → YieldAt Fence.wide (n - 1) Tryd.prog l (encV x) W fun e W' =>
      (e = .returned (.bool true) ∧ J (pre ++ [x]) W' ∧ KeepBut B2 B3 B4 W W') ∨ (e = .returned (.bool false) ∧ Jx (pre ++ [x]) W'))
    (W : World) (h1 : W.cell? ⟨Bs, 0, none⟩ = some (.string s)) (h2 : B2 < W.heap.size) (h3 : B3 < W.heap.size) (h4 : B4 < W.heap.size) (h0 : J [] W) :
    CallsIn Fence.wide n Tryd.prog 19 #[.func (.yield l) #[] #[], .pointer (some ⟨Bs, 0, none⟩)] W fun e W' => (∃ v, e = .returned v) ∧
      ((∃ xs : List VI, xs = s.data.toList.map valB ∧ J xs W') ∨ (∃ pre, pre <+: s.data.toList.map valB ∧ Jx pre W')) := by
  have hcv := Lib.run_convert_string_bytes (P := Tryd.prog) W 9 31 5 s Tryd.underlying9 Tryd.underlying31 Tryd.underlying5
  have hsl : s.data.toList.length = s.size := by rw [Array.length_toList]; rfl
  obtain ⟨cp, hcp⟩ : ∃ cp, grownCap W s.size 0 5 = cp := ⟨_, rfl⟩
  obtain ⟨Wb, hWb⟩ : ∃ Wb, Lib.bytesWorld W 5 s = Wb := ⟨_, rfl⟩
  rw [hcp, hWb] at hcv
  have hJb : J [] Wb := hJ [] W Wb none h0 (by rw [← hWb]; have h := GBytes.bytes_below W 5 s; exact ⟨h.os, h.tape, h.output, h.size, fun i hi _ => h.block i hi⟩) (fun r e => by cases e)
  have hcell : ∀ j, j < s.size → Wb.cell? ⟨W.heap.size, j, none⟩ = some (.int .u8 ((s.data.toList.getD j 0).toNat : Int)) := fun j hj => by rw [← hWb]; exact Lib.bytesWorld_cell W 5 s j hj
  obtain ⟨cs, fr, hblk⟩ : ∃ cs fr, Wb.heap[W.heap.size]? = some (.cells cs 5 fr) := ⟨_, _, by rw [← hWb]; exact Lib.bytesWorld_at_new _ _ _⟩
  have HCELL := Lib.hid hcell
  have HSL := Lib.hid hsl
  clear hWb hcp hcell hsl
  refine callsIn_of_wp Tryd.func19 rfl trivial ?_ rfl
  simp only [Tryd.ntmps19, List.size_toArray, List.length_cons, List.length_nil, Nat.reduceAdd, Nat.reduceSub, Array.replicate_succ, Array.replicate_zero, List.push_toArray, List.append_toArray, List.nil_append, List.cons_append]
  gi_wp2
  gi_loopw [9] (fun i wr => ∃ q : Nat, i = .int .i64 q ∧ q ≤ s.size ∧ J ((s.data.toList.take q).map valB) wr ∧ wr.heap[W.heap.size]? = some (.cells cs 5 fr) ∧ B2 < W.heap.size)
    (fun i _ => s.size - (intOf i).toNat)
  case atStart => exact ⟨0, rfl, Nat.zero_le _, hJb, hblk, h2⟩
  case round =>
    obtain ⟨q, rfl, hq, hJq, hbq, _⟩ := hrel
    by_cases hlt : q < s.size
    · obtain ⟨c, hc⟩ : ∃ c, s.data.toList.getD q 0 = c := ⟨_, rfl⟩
      have hcq : wr.cell? ⟨W.heap.size, q, none⟩ = some (.int .u8 (c.toNat : Int)) := by
        have h := HCELL.out q hlt
        rw [hc] at h
        unfold World.cell? at h ⊢
        rw [hbq]
        rw [hblk] at h
        exact h
      have htk : Hid ((s.data.toList.take q).map valB ++ [valB c] = (s.data.toList.take (q + 1)).map valB) := Lib.hid (by
        rw [List.take_add_one, List.map_append, List.getElem?_eq_getElem (by rw [HSL.out]; exact hlt)]
        rw [List.getD_eq_getElem?_getD, List.getElem?_eq_getElem (by rw [HSL.out]; exact hlt)] at hc
        rw [← hc]
        rfl)
      have hR := hY ((s.data.toList.take q).map valB) (valB c) wr hJq (by rw [List.length_map, List.length_take, HSL.out]; omega)
      obtain ⟨fn, tmps, assign, body, hy, hR⟩ := hR
      unfold encV at hy
      have HQ := Lib.hid hc
      clear hc
      obtain ⟨k, hk⟩ : ∃ k, c.toNat = k := ⟨_, rfl⟩
      have hk256 : k < 256 := by rw [← hk]; exact c.toNat_lt
      have hv : (valB c).1 = if 48 ≤ k ∧ k ≤ 57 then (k : Int) - 48 else if 65 ≤ k ∧ k ≤ 90 then (k : Int) - 65 + 10 else -1 := by
        subst hk
        unfold valB
        split
        · rfl
        · split
          · rfl
          · rfl
      rw [hk] at hcq
      by_cases h0 : k < 48
      · rw [if_neg (by omega), if_neg (by omega)] at hv
        rw [hv] at hy
        clear hv hk
        gi_wp2
        refine hR.mono ?_
        rintro e W3 (⟨rfl, hJ3, hk3⟩ | ⟨rfl, hJx3⟩)
        · have hb3 := hk3 _ _ _ _ (by omega) (by omega) (by omega) hbq
          gi_wp2
          go_roundw
          case rel => exact ⟨q + 1, rfl, hlt, by rw [← htk.out]; exact hJ3, hb3, h2⟩
          case measure => simp [intOf]; omega
        · gi_wp2
          refine bodyPost_ret (results_none rfl _ _ _) rfl ?_
          exact ⟨⟨_, rfl⟩, .inr ⟨_, by rw [htk.out]; exact (List.take_prefix _ _).map _, hJx3⟩⟩
      · have hge : 48 ≤ k := by omega
        by_cases h1 : k ≤ 57
        · rw [if_pos (by omega)] at hv
          rw [hv] at hy
          clear hv hk
          gi_wp2
          refine hR.mono ?_
          rintro e W3 (⟨rfl, hJ3, hk3⟩ | ⟨rfl, hJx3⟩)
          · have hb3 := hk3 _ _ _ _ (by omega) (by omega) (by omega) hbq
            gi_wp2
            go_roundw
            case rel => exact ⟨q + 1, rfl, hlt, by rw [← htk.out]; exact hJ3, hb3, h2⟩
            case measure => simp [intOf]; omega
          · gi_wp2
            refine bodyPost_ret (results_none rfl _ _ _) rfl ?_
            exact ⟨⟨_, rfl⟩, .inr ⟨_, by rw [htk.out]; exact (List.take_prefix _ _).map _, hJx3⟩⟩
        · have hge : 57 < k := by omega
          by_cases h2k : k < 65
          · rw [if_neg (by omega), if_neg (by omega)] at hv
            rw [hv] at hy
            clear hv hk
            gi_wp2
            refine hR.mono ?_
            rintro e W3 (⟨rfl, hJ3, hk3⟩ | ⟨rfl, hJx3⟩)
            · have hb3 := hk3 _ _ _ _ (by omega) (by omega) (by omega) hbq
              gi_wp2
              go_roundw
              case rel => exact ⟨q + 1, rfl, hlt, by rw [← htk.out]; exact hJ3, hb3, h2⟩
              case measure => simp [intOf]; omega
            · gi_wp2
              refine bodyPost_ret (results_none rfl _ _ _) rfl ?_
              exact ⟨⟨_, rfl⟩, .inr ⟨_, by rw [htk.out]; exact (List.take_prefix _ _).map _, hJx3⟩⟩
          · have hge : 65 ≤ k := by omega
            by_cases h3k : k ≤ 90
            · rw [if_neg (by omega), if_pos (by omega)] at hv
              rw [hv] at hy
              clear hv hk
              gi_wp2
              refine hR.mono ?_
              rintro e W3 (⟨rfl, hJ3, hk3⟩ | ⟨rfl, hJx3⟩)
              · have hb3 := hk3 _ _ _ _ (by omega) (by omega) (by omega) hbq
                gi_wp2
                go_roundw
                case rel => exact ⟨q + 1, rfl, hlt, by rw [← htk.out]; exact hJ3, hb3, h2⟩
                case measure => simp [intOf]; omega
              · gi_wp2
                refine bodyPost_ret (results_none rfl _ _ _) rfl ?_
                exact ⟨⟨_, rfl⟩, .inr ⟨_, by rw [htk.out]; exact (List.take_prefix _ _).map _, hJx3⟩⟩
            · have hge : 90 < k := by omega
              rw [if_neg (by omega), if_neg (by omega)] at hv
              rw [hv] at hy
              clear hv hk
              gi_wp2
              refine hR.mono ?_
              rintro e W3 (⟨rfl, hJ3, hk3⟩ | ⟨rfl, hJx3⟩)
              · have hb3 := hk3 _ _ _ _ (by omega) (by omega) (by omega) hbq
                gi_wp2
                go_roundw
                case rel => exact ⟨q + 1, rfl, hlt, by rw [← htk.out]; exact hJ3, hb3, h2⟩
                case measure => simp [intOf]; omega
              · gi_wp2
                refine bodyPost_ret (results_none rfl _ _ _) rfl ?_
                exact ⟨⟨_, rfl⟩, .inr ⟨_, by rw [htk.out]; exact (List.take_prefix _ _).map _, hJx3⟩⟩
    · obtain rfl : q = s.size := by omega
      have hall : (s.data.toList.take s.size).map valB = s.data.toList.map valB := by rw [List.take_of_length_le (by rw [HSL.out]; exact Nat.le_refl _)]
      gi_wp2
      go_end0
      exact ⟨⟨_, rfl⟩, .inl ⟨_, rfl, by rw [← hall]; exact hJq⟩⟩
/-- iban.values hands back a value that 'SeqStopsK': the values of all bytes, in order. -/
theorem values_stops (n : Nat) (hn : 1 ≤ n) (Bs B2 B3 B4 : Nat) (s : ByteArray) (hs : s.size ≤ 1048576) (w : World) (hBs : Bs < w.heap.size) (h2 : B2 < w.heap.size) (h3 : B3 < w.heap.size) (h4 : B4 < w.heap.size) (h1 : w.cell? ⟨Bs, 0, none⟩ = some (.string s)) :
    SeqStopsK Fence.wide n Tryd.prog 19 #[.pointer (some ⟨Bs, 0, none⟩)] encV (KeepBut B2 B3 B4) (fun xs => xs = s.data.toList.map valB) (fun pre => pre <+: s.data.toList.map valB) s.size w :=
  fun l J Jx W hW hJ _ hY h0 => values1_in n hn l Bs B2 B3 B4 s hs J Jx _ hJ hY W ((hW.cell (p := ⟨Bs, 0, none⟩) hBs).trans h1) (Nat.lt_of_lt_of_le h2 hW.size) (Nat.lt_of_lt_of_le h3 hW.size) (Nat.lt_of_lt_of_le h4 hW.size) h0
end Go.Proofs.YtjblihfgpbnhbaaDoor.PAll

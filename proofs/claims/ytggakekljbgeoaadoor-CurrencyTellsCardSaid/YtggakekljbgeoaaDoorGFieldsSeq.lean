/- strings.FieldsSeq at a text of words of three capitals with one blank between: its contract as an iterator ('SeqStopsK'), by hand. -/
import Derived.RangeFuncNested
import Derived.RangeFuncBound
import Derived.RangeFuncCalls
import Derived.RangeFuncLeaves
import Derived.RangeFuncBox
import Derived.Shelf.Abstract
import Derived.Shelf.RegionOpen
import Derived.WalkKit
import Derived.OwnWalkIn
import Derived.TacticsInMore
import Derived.LoopNIn
import Derived.LoopIn
import Derived.Laws.EntriesVeiled
import Derived.Lib.Hide
import Derived.BigRegionIn
import Derived.Test.YtggakekljbgeoaaDoorGWorld
import Derived.Test.YtggakekljbgeoaaDoorGPlain
import Derived.Test.YtggakekljbgeoaaDoorProg
namespace Go.Proofs.YtggakekljbgeoaaDoor.PAll
open Go.RowKit Go.Shelf GPlain
set_option linter.unusedSimpArgs false
attribute [local go_sem] Oper.semAt_some

/-- A text of n words of three capitals, one blank between two. -/
structure Codes (s : ByteArray) (n : Nat) : Prop where
  sz : s.size + 1 = 4 * n
  most : n ≤ 1000
  at_ : ∀ i (h : i < s.size), if i % 4 = 3 then (s[i]'h).toNat = 32 else 65 ≤ (s[i]'h).toNat ∧ (s[i]'h).toNat ≤ 90
/-- A word. -/
abbrev CI := {c : ByteArray // c.size ≤ 3}
def cutF (s : ByteArray) (j : Nat) : CI := ⟨s.extract (4 * j) (4 * j + 3), by rw [ByteArray.size_extract]; omega⟩
/-- The words. -/
def seqF (s : ByteArray) (n : Nat) : List CI := (List.range n).map (cutF s)
def encF (x : CI) : Array Value := #[.string x.1]
theorem seqF_succ (s : ByteArray) (n : Nat) : seqF s n ++ [cutF s n] = seqF s (n + 1) := by unfold seqF; rw [List.range_succ, List.map_append]; rfl
theorem seqF_len (s : ByteArray) (n : Nat) : (seqF s n).length = n := by unfold seqF; rw [List.length_map, List.length_range]
theorem seqF_prefix (s : ByteArray) (n : Nat) : ∀ m, n ≤ m → seqF s n <+: seqF s m := by
  intro m h
  induction m with
  | zero => obtain rfl : n = 0 := by omega
            exact List.prefix_refl _
  | succ m ih =>
    rcases Nat.lt_or_ge m n with h2 | h2
    · obtain rfl : n = m + 1 := by omega
      exact List.prefix_refl _
    · rw [← seqF_succ]
      exact (ih h2).trans (List.prefix_append _ _)
/-- All blocks of cells stay. -/
def KeepC (A B : World) : Prop := ∀ (j : Nat) cs t fr, A.heap[j]? = some (.cells cs t fr) → B.heap[j]? = some (.cells cs t fr)
theorem KeepC.refl (A : World) : KeepC A A := fun _ _ _ _ e => e
theorem KeepC.trans {A B C : World} (h : KeepC A B) (k : KeepC B C) : KeepC A C := fun j cs t fr e => k j cs t fr (h j cs t fr e)
theorem KeepC.grown {A B : World} {row : Option Nat} (hg : A.grownBy B row) (hr : ∀ r, row = some r → ∃ o, A.heap[r]? = some o ∧ o.isCells = false) : KeepC A B := fun j cs t fr e => by
  rw [hg.block j (Array.getElem?_eq_some_iff.1 e).1 (fun e' => by
    obtain ⟨o, ho, hc⟩ := hr j e'.symm
    rw [e] at ho
    obtain rfl := Option.some.inj ho
    cases hc)]
  exact e
theorem KeepC.putObj (W : World) (l : Nat) (o o' : Obj) (hl : W.heap[l]? = some o) (hc : o.isCells = false) : KeepC W (W.putObj l o') :=
  KeepC.grown (grownBy_putObj' W l o') (fun r e => by cases e; exact ⟨o, hl, hc⟩)
theorem KeepC.cell {A B : World} (h : KeepC A B) {p : Addr} {v : Value} (e : A.cell? p = some v) : B.cell? p = some v := by
  unfold World.cell? at e ⊢
  cases hb : A.heap[p.block]? with
  | none => rw [hb] at e; simp at e
  | some o =>
    cases o with
    | cells cs t fr => rw [h _ _ _ _ hb]; rw [hb] at e; exact e
    | _ => rw [hb] at e; simp at e
set_option maxRecDepth 100000 in
/-- The table of white space at a byte that stands in such a text. -/
theorem space_at {W : World} (h : GWS W) (k : Nat) (hk : k = 32 ∨ (65 ≤ k ∧ k ≤ 90)) : W.cell? ⟨0, k, none⟩ = some (.int .u8 (if k = 32 then 1 else 0)) := by
  rw [Lib.TabIs.cell h gSp k (by show k < 256; omega)]
  have e : ∀ k : Fin 256, (k.val = 32 ∨ (65 ≤ k.val ∧ k.val ≤ 90)) → Lib.asciiSpaceTab.getD k.val 0 = if k.val = 32 then 1 else 0 := by decide +kernel
  rw [e ⟨k, by omega⟩ hk]
theorem fieldsseq_calls (s : ByteArray) (w : World) :
    Calls Tryd.prog 77 #[.string s] w fun e w' => e = .returned (.func (.func 91) #[] #[.pointer (some ⟨w.heap.size, 0, none⟩)]) ∧ w' = w.alloc (.cells #[.string s] 9) := by
  have hmf : ∀ (fn : Fn) (first cap : Array Value) (w : World), (Instr.makeFunc fn first cap).run Tryd.prog w = .ok (.func fn first cap) w := fun _ _ _ _ => rfl
  go_enter Tryd.func77, Tryd.ntmps77
  go_wp2
  go_ret
  exact ⟨rfl, rfl⟩
set_option maxRecDepth 100000 in
set_option maxHeartbeats 2000000 in
theorem fieldsseq1_in (n : Nat) (hn : 1 ≤ n) (l Bs : Nat) (s : ByteArray) (m : Nat) (hc : Codes s m) (J Jx : List CI → World → Prop)
    (hY : ∀ pre x W, J pre W → pre.length < m → YieldAt Fence.wide (n - 1) Tryd.prog l (encF x) W fun e W' =>
      (e = .returned (.bool true) ∧ J (pre ++ [x]) W' ∧ KeepC W W') ∨ (e = .returned (.bool false) ∧ Jx (pre ++ [x]) W'))
    (W : World) (h1 : W.cell? ⟨Bs, 0, none⟩ = some (.string s)) (hG : GWS W) (h0 : J [] W) :
    CallsIn Fence.wide n Tryd.prog 91 #[.func (.yield l) #[] #[], .pointer (some ⟨Bs, 0, none⟩)] W fun e W' => (∃ v, e = .returned v) ∧
      ((∃ xs : List CI, xs = seqF s m ∧ J xs W') ∨ (∃ pre, pre <+: seqF s m ∧ Jx pre W')) := by
  have HT := Lib.hid (fun k hk => space_at hG k hk)
  have HC := Lib.hid hc.at_
  have hsz := hc.sz
  have hmost := hc.most
  clear hG hc
  refine callsIn_of_wp Tryd.func91 rfl trivial ?_ rfl
  simp only [Tryd.ntmps91, List.size_toArray, List.length_cons, List.length_nil, Nat.reduceAdd, Nat.reduceSub, Array.replicate_succ, Array.replicate_zero, List.push_toArray, List.append_toArray, List.nil_append, List.cons_append]
  gi_wp2
  gi_loopw [3, 4] (fun st i wr => ∃ q j r : Nat, i = .int .i64 (q : Int) ∧ q = 4 * j + r ∧ r < 4 ∧ q ≤ s.size ∧ st = .int .i64 (if r = 0 then -1 else ((4 * j : Nat) : Int)) ∧ J (seqF s j) wr ∧ KeepC W wr)
    (fun _ i _ => s.size - (intOf i).toNat)
  case atStart => exact ⟨0, 0, 0, rfl, rfl, by decide, Nat.zero_le _, rfl, h0, KeepC.refl W⟩
  case round =>
    obtain ⟨q, j, r, rfl, hq, hr, hqs, rfl, hJq, hK⟩ := hrel
    have hs := hK.cell h1
    by_cases hlt : q < s.size
    · obtain ⟨k, hk⟩ : ∃ k, (s[q]'hlt).toNat = k := ⟨_, rfl⟩
      have hx : ∀ h : q < s.size, (s[q]'h).toNat = k := fun _ => hk
      have hat := HC.out q hlt
      rw [hk] at hat
      clear hk
      by_cases h3 : r = 3
      · subst h3
        rw [if_pos (by omega)] at hat
        subst hat
        have ht := hK.cell (HT.out 32 (.inl rfl))
        rw [if_pos rfl] at ht
        rw [if_neg (by decide)]
        obtain ⟨x, hxe⟩ : ∃ x, cutF s j = x := ⟨_, rfl⟩
        have hcut : ∀ W : World, (Instr.slice 9 (.string s) (some (.int .i64 (4 * (j : Int)))) (some (.int .i64 (4 * (j : Int) + 3))) none).run Tryd.prog W = .ok (.string x.1) W := fun W => by
          rw [run_slice_string W 9 s .i64 .i64 _ _ Tryd.underlying9 (by omega) (by omega) (by omega), show (4 * (j : Int)).toNat = 4 * j by omega, show (4 * (j : Int) + 3).toNat = 4 * j + 3 by omega, ← hxe]
          rfl
        have hR := hY (seqF s j) x wr hJq (by rw [seqF_len]; omega)
        obtain ⟨fn, tmps, assign, body, hy, hR⟩ := hR
        unfold encF at hy
        have HE : Hid (seqF s j ++ [x] = seqF s (j + 1)) := Lib.hid (by rw [← hxe]; exact seqF_succ s j)
        have HP : Hid (seqF s j ++ [x] <+: seqF s m) := Lib.hid (by rw [HE.out]; exact seqF_prefix s _ m (by omega))
        clear hxe
        subst hq
        gi_wp2
        refine hR.mono ?_
        rintro e W3 (⟨rfl, hJ3, hk3⟩ | ⟨rfl, hJx3⟩)
        · gi_wp2
          go_roundw
          case rel => exact ⟨4 * (j + 1), j + 1, 0, by go_num, rfl, by decide, by omega, rfl, by rw [← HE.out]; exact hJ3, hK.trans hk3⟩
          case measure => simp [intOf]; omega
        · gi_wp2
          refine bodyPost_ret (results_none rfl _ _ _) rfl ?_
          exact ⟨⟨_, rfl⟩, .inr ⟨_, HP.out, hJx3⟩⟩
      · rw [if_neg (by omega)] at hat
        have ht := hK.cell (HT.out k (.inr hat))
        rw [if_neg (by omega)] at ht
        subst hq
        by_cases h0 : r = 0
        · subst h0
          rw [if_pos rfl]
          have hx0 : ∀ h : 4 * j < s.size, (s[4 * j]'h).toNat = k := fun h => hx h
          clear hx
          gi_wp2
          go_roundw
          case rel => exact ⟨4 * j + 1, j, 1, by go_num, rfl, by decide, by omega, by rw [if_neg (by decide)]; go_num, hJq, hK⟩
          case measure => simp [intOf]; omega
        · rw [if_neg h0]
          gi_wp2
          go_roundw
          case rel => exact ⟨4 * j + r + 1, j, r + 1, by go_num, rfl, by omega, by omega, by rw [if_neg (by omega)]; go_num, hJq, hK⟩
          case measure => simp [intOf]; omega
    · obtain rfl : r = 3 := by omega
      rw [if_neg (by decide)]
      obtain ⟨x, hxe⟩ : ∃ x, cutF s j = x := ⟨_, rfl⟩
      have hcut : ∀ W : World, (Instr.slice 9 (.string s) (some (.int .i64 (4 * (j : Int)))) none none).run Tryd.prog W = .ok (.string x.1) W := fun W => by
        rw [run_slice_string_from_if W 9 s .i64 _ Tryd.underlying9, if_pos (by omega), show (4 * (j : Int)).toNat = 4 * j by omega, show s.size = 4 * j + 3 by omega, ← hxe]
        rfl
      have hR := hY (seqF s j) x wr hJq (by rw [seqF_len]; omega)
      obtain ⟨fn, tmps, assign, body, hy, hR⟩ := hR
      unfold encF at hy
      have HE : Hid (seqF s j ++ [x] = seqF s m) := Lib.hid (by rw [← hxe, seqF_succ s j, show j + 1 = m by omega])
      have HP : Hid (seqF s j ++ [x] <+: seqF s m) := Lib.hid (by rw [HE.out]; exact List.prefix_refl _)
      clear hxe
      subst hq
      gi_wp2
      refine hR.mono ?_
      rintro e W3 (⟨rfl, hJ3, hk3⟩ | ⟨rfl, hJx3⟩)
      · gi_wp2
        go_end0
        exact ⟨⟨_, rfl⟩, .inl ⟨_, rfl, by rw [← HE.out]; exact hJ3⟩⟩
      · gi_wp2
        go_end0
        exact ⟨⟨_, rfl⟩, .inr ⟨_, HP.out, hJx3⟩⟩
/-- strings.FieldsSeq hands back a value that 'SeqStopsK'. -/
theorem fieldsseq_stops (n : Nat) (hn : 1 ≤ n) (Bs : Nat) (s : ByteArray) (m : Nat) (hc : Codes s m) (w : World) (hBs : Bs < w.heap.size) (h1 : w.cell? ⟨Bs, 0, none⟩ = some (.string s)) (hG : GWS w) :
    SeqStopsK Fence.wide n Tryd.prog 91 #[.pointer (some ⟨Bs, 0, none⟩)] encF KeepC (fun xs => xs = seqF s m) (fun pre => pre <+: seqF s m) m w :=
  fun l J Jx W hW _ _ hY h0 => fieldsseq1_in n hn l Bs s m hc J Jx hY W ((hW.cell (p := ⟨Bs, 0, none⟩) hBs).trans h1) (GWS_below hG hW) h0
end Go.Proofs.YtggakekljbgeoaaDoor.PAll

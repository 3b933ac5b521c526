/- The contract of date.number, by hand: a range over []byte(s). -/
import Derived.Test.YtjemnphmjbodfaaDoorProg
import Derived.Test.YtjemnphmjbodfaaDoorWMore
import Derived.Test.YtjemnphmjbodfaaDoorGPlain
import Derived.Test.YtjemnphmjbodfaaDoorGBytes
import Derived.WalkKit
import Derived.Lib.Hide
namespace Go.Proofs.YtjemnphmjbodfaaDoor.PAll
open Go.RowKit Go.Proofs.YtjemnphmjbodfaaDoorW.PrintWords GPlain
set_option linter.unusedSimpArgs false

/-- What number reads, from a number on. -/
def numL : List UInt8 → Int → Int
  | [], acc => acc
  | c :: r, acc => if c.toNat < 48 ∨ 57 < c.toNat then -1 else numL r (wrap64 (wrap64 (acc * 10) + ((c.toNat : Int) - 48)))

set_option maxRecDepth 100000 in
set_option maxHeartbeats 2000000 in
theorem number_walk (l : List UInt8) (hl : l.length ≤ 1048576) (w : World) :
    Calls Tryd.prog 19 #[.string (bs l)] w fun e w' => e = .returned (.int .i64 (numL l 0)) ∧ Below w.heap.size w w' := by
  have hsz := bs_size l
  have hcv := Lib.run_convert_string_bytes (P := Tryd.prog) w 9 49 5 (bs l) Tryd.underlying9 Tryd.underlying49 Tryd.underlying5
  have hb0 := GBytes.bytes_below w 5 (bs l)
  have hcell : Hid (∀ i, i < l.length → (Lib.bytesWorld w 5 (bs l)).cell? ⟨w.heap.size, i, none⟩ = some (.int .u8 (((l.getD i 0).toNat : Nat) : Int))) := Lib.hid (fun i hi => by
    have := Lib.bytesWorld_cell w 5 (bs l) i (by omega)
    rw [bs_data] at this
    exact this)
  rw [hsz] at hcv
  have HB := Lib.hid hb0
  clear hb0
  go_enter Tryd.func19, Tryd.ntmps19
  go_wp2
  go_loopw [3, 5, 9] (fun v3 _ v9 wr => ∃ (i : Nat) (acc : Int), v3 = .int .i64 acc ∧ v9 = .int .i64 i ∧ i ≤ l.length ∧ Hid (numL (l.drop i) acc = numL l 0) ∧ wr = Lib.bytesWorld w 5 (bs l)) (fun _ _ i _ => l.length - (intOf i).toNat)
  case atStart => exact ⟨0, 0, rfl, rfl, Nat.zero_le _, Lib.hid rfl, rfl⟩
  case round =>
    obtain ⟨i, acc, rfl, rfl, hi, HN, rfl⟩ := hrel
    by_cases h : i < l.length
    · have hc := hcell.out i h
      have hdr : Hid (l.drop i = l.getD i 0 :: l.drop (i + 1)) := Lib.hid (by
        rw [List.drop_eq_getElem_cons h, List.getD_eq_getElem?_getD, List.getElem?_eq_getElem h]
        rfl)
      obtain ⟨c, hce⟩ : ∃ c, l.getD i 0 = c := ⟨_, rfl⟩
      rw [hce] at hc hdr
      clear hce
      have hlt := c.toNat_lt
      by_cases h48 : c.toNat < 48
      · go_wp2
        go_ret
        refine ⟨?_, HB.out⟩
        have := HN.out
        rw [hdr.out, numL, if_pos (.inl h48)] at this
        rw [← this]
        rfl
      · by_cases h57 : 57 < c.toNat
        · go_wp2
          go_ret
          refine ⟨?_, HB.out⟩
          have := HN.out
          rw [hdr.out, numL, if_pos (.inr h57)] at this
          rw [← this]
          rfl
        · have HN2 : Hid (numL (l.drop (i + 1)) (wrap64 (wrap64 (acc * 10) + ((c.toNat : Int) - 48))) = numL l 0) := Lib.hid (by
            have := HN.out
            rw [hdr.out, numL, if_neg (by omega)] at this
            exact this)
          go_wp2
          go_roundw
          case rel => exact ⟨i + 1, _, rfl, by simp, h, HN2, (by first | rfl | trivial)⟩
          case measure => simp [intOf]; omega
    · go_wp2
      go_ret
      refine ⟨?_, HB.out⟩
      have := HN.out
      rw [List.drop_of_length_le (by omega), numL] at this
      rw [this]
      rfl

def date_number.f (a0 : ByteArray) : Option (Int) := if a0.size ≤ 1048576 then some (numL a0.data.toList 0) else none
theorem date_number.calls (a0 : ByteArray) (r : Int) (w : World) (h : date_number.f a0 = some r) :
    Calls Tryd.prog 19 #[.string a0] w fun e w' => e = .returned (.int .i64 r) ∧ Below w.heap.size w w' := by
  unfold date_number.f at h
  obtain ⟨l, rfl⟩ := bs_ex a0
  rw [bs_size, bs_data] at h
  by_cases h1 : l.length ≤ 1048576
  · rw [if_pos h1] at h
    obtain rfl := Option.some.inj h
    exact number_walk l h1 w
  · rw [if_neg h1] at h
    cases h
end Go.Proofs.YtjemnphmjbodfaaDoor.PAll

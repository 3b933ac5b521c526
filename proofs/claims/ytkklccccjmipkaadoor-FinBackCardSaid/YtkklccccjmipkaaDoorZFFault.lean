/- fin.fault, by hand. -/
import Derived.Test.YtkklccccjmipkaaDoorZFSteps
import Derived.Test.YtkklccccjmipkaaDoorZShelf
import Derived.Test.YtkklccccjmipkaaDoorZGBytes
namespace Go.Proofs.YtkklccccjmipkaaDoor.Fin
open Go.RowKit Go.Proofs.YtkklccccjmipkaaDoorW.PrintWords GPlain
set_option linter.unusedSimpArgs false

theorem getD_byte (s : ByteArray) (i : Nat) (h : i < s.size) : s.data.toList.getD i 0 = s[i] := by
  rw [List.getD_eq_getElem?_getD, List.getElem?_eq_getElem (by rw [len_data]; exact h), byte_at s i h]
  rfl
theorem pre_crlf (s : ByteArray) (q : Nat) (h : q < s.size) (hk : (s[q]'h).toNat = 13) : Lib.hasPrefix (s.extract q s.size).data.toList [13, 10] = (decide (q + 1 < s.data.toList.length) && (s.data.toList.getD (q + 1) 0).toNat == 10) := by
  rw [Lib.extract_to_end, drop_cons (by rw [len_data]; exact h), byte_at s q h]
  have e1 : s[q] = 13 := UInt8.toNat_inj.1 hk
  rw [e1]
  by_cases h2 : q + 1 < s.size
  · rw [drop_cons (by rw [len_data]; exact h2), byte_at s _ h2, getD_byte s _ h2, decide_eq_true (by rw [len_data]; exact h2), Bool.true_and]
    unfold Lib.hasPrefix
    rw [Bool.eq_iff_iff]
    simp [List.isPrefixOf, ← UInt8.toNat_inj]
    exact eq_comm
  · rw [List.drop_of_length_le (by rw [len_data]; omega), decide_eq_false (by rw [len_data]; exact h2), Bool.false_and]
    rfl
set_option maxRecDepth 100000 in
set_option maxHeartbeats 2000000 in
theorem fault_walk (s : ByteArray) (hs : s.size ≤ 1048576) (w : World) :
    Calls Tryd.prog 55 #[.string s] w fun e w' => e = .returned (.int .i64 (faultL s.data.toList : Int)) ∧ Below w.heap.size w w' := by
  have hcv := Lib.run_convert_string_bytes (P := Tryd.prog) w 9 111 5 s Tryd.underlying9 Tryd.underlying111 Tryd.underlying5
  obtain ⟨cp, hcp⟩ : ∃ cp, grownCap w s.size 0 5 = cp := ⟨_, rfl⟩
  obtain ⟨Wb, hWb⟩ : ∃ Wb, Lib.bytesWorld w 5 s = Wb := ⟨_, rfl⟩
  rw [hcp, hWb] at hcv
  have HBW : Hid (Below w.heap.size w Wb) := Lib.hid (by rw [← hWb]; exact GBytes.bytes_below w 5 s)
  have HCELL : Hid (∀ j, j < s.size → Wb.cell? ⟨w.heap.size, j, none⟩ = some (.int .u8 ((s.data.toList.getD j 0).toNat : Int))) := Lib.hid (fun j hj => by rw [← hWb]; exact Lib.bytesWorld_cell w 5 s j hj)
  obtain ⟨F, hF⟩ : ∃ F, faultL s.data.toList = F := ⟨_, rfl⟩
  have HF := Lib.hid hF
  rw [hF]
  clear hWb hcp hF
  go_enter Tryd.func55, Tryd.ntmps55
  go_wp2
  go_loopw [8] (fun i wr => ∃ q : Nat, i = .int .i64 (q : Int) ∧ q ≤ s.size ∧ Hid (faultFrom s.data.toList (s.data.toList.length - q) q = F) ∧ wr = Wb)
    (fun i _ => s.size - (intOf i).toNat)
  case atStart => exact ⟨0, rfl, Nat.zero_le _, Lib.hid HF.out, rfl⟩
  case round =>
    obtain ⟨q, rfl, hq, HQ, rfl⟩ := hrel
    by_cases hlt : q < s.size
    · have hcq := HCELL.out q hlt
      rw [getD_byte s q hlt] at hcq
      obtain ⟨k, hk⟩ : ∃ k, (s[q]'hlt).toNat = k := ⟨_, rfl⟩
      rw [hk] at hcq
      have hstep : faultFrom s.data.toList (s.data.toList.length - q) q = if badB s.data.toList q then q else faultFrom s.data.toList (s.data.toList.length - (q + 1)) (q + 1) := by
        rw [show s.data.toList.length - q = (s.data.toList.length - (q + 1)) + 1 by rw [len_data]; omega, faultFrom]
      have hbad : badB s.data.toList q = (k == 123 || k == 125 || (k == 13 && !(decide (q + 1 < s.data.toList.length) && (s.data.toList.getD (q + 1) 0).toNat == 10)) || (k == 10 && (q == 0 || !((s.data.toList.getD (q - 1) 0).toNat == 13))) || (k == 45 && (q == 0 || (s.data.toList.getD (q - 1) 0).toNat == 10))) := by
        unfold badB
        rw [getD_byte s q hlt, hk]
      have HB0 : badB s.data.toList q = true → Hid (q = F) := fun h => Lib.hid (by have := HQ.out; rw [hstep, h, if_pos rfl] at this; exact this)
      have HN0 : badB s.data.toList q = false → Hid (faultFrom s.data.toList (s.data.toList.length - (q + 1)) (q + 1) = F) := fun h => Lib.hid (by have := HQ.out; rw [hstep, h, if_neg (by decide)] at this; exact this)
      have hpre : ∀ W : World, Calls Tryd.prog 81 #[.string (s.extract q s.size), .string ⟨#[13, 10]⟩] W fun e w' => e = .returned (.bool (Lib.hasPrefix (s.extract q s.size).data.toList [13, 10])) ∧ w' = W := fun W => Tryd.strings_HasPrefix (s.extract q s.size) ⟨#[13, 10]⟩ W
      clear hstep
      by_cases k123 : k = 123
      · have HB := HB0 (by rw [hbad, k123]; rfl)
        subst k123
        clear HQ HN0 HB0 hbad hk hpre
        go_wp2
        go_ret
        exact ⟨by rw [HB.out]; rfl, HBW.out⟩
      · skip
        by_cases k125 : k = 125
        · have HB := HB0 (by rw [hbad, k125]; rfl)
          subst k125
          clear HQ HN0 HB0 hbad hk hpre
          go_wp2
          go_ret
          exact ⟨by rw [HB.out]; rfl, HBW.out⟩
        · skip
          by_cases k13 : k = 13
          · rw [pre_crlf s q hlt (by rw [hk, k13])] at hpre
            cases hb : (decide (q + 1 < s.data.toList.length) && (s.data.toList.getD (q + 1) 0).toNat == 10)
            · have HB := HB0 (by rw [hbad, k13, hb]; rfl)
              rw [hb] at hpre
              have HPF := fun W => Lib.hid (hpre W)
              subst k13
              clear HQ HN0 HB0 hbad hk hpre hb
              go_wp2_with (go_at_call 81; refine (HPF _).out.mono ?_; rintro e w3 ⟨rfl, rfl⟩)
              go_ret
              exact ⟨by rw [HB.out]; rfl, HBW.out⟩
            · have HN := HN0 (by rw [hbad, k13, hb]; rfl)
              rw [hb] at hpre
              have HPF := fun W => Lib.hid (hpre W)
              subst k13
              clear HQ HN0 HB0 hbad hk hpre hb
              go_wp2_with (go_at_call 81; refine (HPF _).out.mono ?_; rintro e w3 ⟨rfl, rfl⟩)
              go_roundw
              case rel => exact ⟨q + 1, by go_num, hlt, HN, (by first | rfl | trivial)⟩
              case measure => simp [intOf]; omega
          · clear hpre
            by_cases k10 : k = 10
            · cases q with
              | zero =>
                have HB := HB0 (by rw [hbad, k10]; rfl)
                subst k10
                clear HQ HN0 HB0 hbad hk
                go_wp2
                go_ret
                exact ⟨by rw [← HB.out]; rfl, HBW.out⟩
              | succ r =>
                have hr : r < s.size := by omega
                obtain ⟨z, hz⟩ : ∃ z, (s[r]'hr).toNat = z := ⟨_, rfl⟩
                have hzz : ∀ h : r < s.size, (s[r]'h).toNat = z := fun _ => hz
                rw [show r + 1 - 1 = r by omega, getD_byte s r hr, hz] at hbad
                by_cases hm : z = 13
                · have HN := HN0 (by rw [hbad, k10, hm]; rfl)
                  subst k10
                  have hz13 : ∀ h : r < s.size, (s[r]'h).toNat = 13 := fun h => (hzz h).trans hm
                  clear HQ HN0 HB0 hbad hk hz hm hzz
                  go_wp2
                  go_roundw
                  case rel => exact ⟨r + 1 + 1, by go_num, hlt, HN, (by first | rfl | trivial)⟩
                  case measure => simp [intOf]; omega
                · have HB := HB0 (by rw [hbad, k10, show (z == 13) = false from beq_eq_false_iff_ne.2 hm]; rfl)
                  have hne : ((z : Int) != 13) = true := bne_iff_ne.2 (by omega)
                  subst k10
                  clear HQ HN0 HB0 hbad hk hz hm
                  go_wp2
                  go_ret
                  exact ⟨by rw [← HB.out]; rfl, HBW.out⟩
            · skip
              by_cases k45 : k = 45
              · cases q with
                | zero =>
                  have HB := HB0 (by rw [hbad, k45]; rfl)
                  subst k45
                  clear HQ HN0 HB0 hbad hk
                  go_wp2
                  go_ret
                  exact ⟨by rw [← HB.out]; rfl, HBW.out⟩
                | succ r =>
                  have hr : r < s.size := by omega
                  obtain ⟨z, hz⟩ : ∃ z, (s[r]'hr).toNat = z := ⟨_, rfl⟩
                  have hzz : ∀ h : r < s.size, (s[r]'h).toNat = z := fun _ => hz
                  rw [show r + 1 - 1 = r by omega, getD_byte s r hr, hz] at hbad
                  by_cases hm : z = 10
                  · have HB := HB0 (by rw [hbad, k45, hm]; rfl)
                    subst k45
                    have hz13 : ∀ h : r < s.size, (s[r]'h).toNat = 10 := fun h => (hzz h).trans hm
                    clear HQ HN0 HB0 hbad hk hz hm hzz
                    go_wp2
                    go_ret
                    exact ⟨by rw [← HB.out]; rfl, HBW.out⟩
                  · have HN := HN0 (by rw [hbad, k45, show (z == 10) = false from beq_eq_false_iff_ne.2 hm]; rfl)
                    have hne : ((z : Int) == 10) = false := beq_eq_false_iff_ne.2 (by omega)
                    subst k45
                    clear HQ HN0 HB0 hbad hk hz hm
                    go_wp2
                    go_roundw
                    case rel => exact ⟨r + 1 + 1, by go_num, hlt, HN, (by first | rfl | trivial)⟩
                    case measure => simp [intOf]; omega
              · skip
                have HN := HN0 (by rw [hbad]; simp [k123, k125, k13, k10, k45])
                have e123 : ((k : Int) == 123) = false := beq_eq_false_iff_ne.2 (by omega)
                have e125 : ((k : Int) == 125) = false := beq_eq_false_iff_ne.2 (by omega)
                have e13 : ((k : Int) == 13) = false := beq_eq_false_iff_ne.2 (by omega)
                have e10 : ((k : Int) == 10) = false := beq_eq_false_iff_ne.2 (by omega)
                have e45 : ((k : Int) == 45) = false := beq_eq_false_iff_ne.2 (by omega)
                clear HQ HN0 HB0 hbad hk
                go_wp2
                go_roundw
                case rel => exact ⟨q + 1, by go_num, hlt, HN, (by first | rfl | trivial)⟩
                case measure => simp [intOf]; omega
    · obtain rfl : q = s.size := by omega
      have HE : Hid (s.size = F) := Lib.hid (by
        have h := HQ.out
        rw [show s.data.toList.length - s.size = 0 by rw [len_data]; omega, faultFrom, len_data] at h
        exact h)
      clear HQ
      go_wp2
      go_ret
      exact ⟨by rw [HE.out]; rfl, HBW.out⟩
end Go.Proofs.YtkklccccjmipkaaDoor.Fin

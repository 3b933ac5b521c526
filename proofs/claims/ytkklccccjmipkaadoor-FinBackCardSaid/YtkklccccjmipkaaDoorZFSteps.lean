/- The steps of fin.Parse, by hand: text, end. -/
import Derived.Test.YtkklccccjmipkaaDoorZFInv
import Derived.WalkKit
import Derived.Deep.QuietTactic
import Derived.BigQuiet
import Derived.BigRegion
import Derived.Laws.EntriesVeiled
import Derived.Outline
namespace Go.Proofs.YtkklccccjmipkaaDoor.Fin
open Go.RowKit Go.Proofs.YtkklccccjmipkaaDoorW.PrintWords GPlain
set_option linter.unusedSimpArgs false

theorem drop_cons {l : List UInt8} {i : Nat} (h : i < l.length) : l.drop i = l[i] :: l.drop (i + 1) := List.drop_eq_getElem_cons h
theorem byte_at (s : ByteArray) (i : Nat) (h : i < s.size) : s.data.toList[i]'(by rw [Array.length_toList]; exact h) = s[i] := by
  obtain ⟨d⟩ := s
  rfl
theorem len_data (s : ByteArray) : s.data.toList.length = s.size := by rw [Array.length_toList]; rfl
variable {w : World} {s : ByteArray} {R M C : Nat} {W0 : World}
theorem Inv.drewN {W : World} {st : FS} (h : Inv w s R M C W0 W st) (n : Nat) : Inv w s R M C W0 (W.drewN n) st := h.more (pw_below_drewN (Below.refl _ _) n)
set_option maxRecDepth 100000 in
set_option maxHeartbeats 2000000 in
theorem text_step (hsep : Sep w R M C W0) (hs : s.size ≤ 1048576) (t : ByteArray) (ht : t.size ≤ 100) (B1 B2 : Nat) (h1 : W0.cell? ⟨B1, 0, none⟩ = some (.string t)) (h2 : W0.cell? ⟨B2, 0, none⟩ = some (.pointer (some ⟨R, 0, none⟩)))
    (n1 : B1 ≠ R ∧ B1 ≠ M ∧ B1 ≠ C) (n2 : B2 ≠ R ∧ B2 ≠ M ∧ B2 ≠ C) :
    StepOk w s R M C W0 75 #[.pointer (some ⟨B1, 0, none⟩), .pointer (some ⟨B2, 0, none⟩)] (textS s t) := by
  intro st W hI
  obtain ⟨k, hk⟩ : ∃ k, com (s.data.toList.drop st.at_) t.data.toList = k := ⟨_, rfl⟩
  have hres : textS s t st = (decide (k = t.size), { st with at_ := st.at_ + k }) := by unfold textS; rw [hk]
  rw [hres]
  have hkl := com_le (s.data.toList.drop st.at_) t.data.toList
  rw [hk, List.length_drop, len_data, len_data] at hkl
  have hle := hI.le
  have HK := Lib.hid hk
  clear hk hres
  have HI := Lib.hid hI
  have c1 := hI.box h1 n1.1 n1.2.1 n1.2.2
  have c2 := hI.box h2 n2.1 n2.2.1 n2.2.2
  clear hI
  go_enter Tryd.func75, Tryd.ntmps75
  go_wp2
  go_loopw [6] (fun i wr => ∃ q p : Nat, i = .int .i64 (q : Int) ∧ p = st.at_ + q ∧ q ≤ k ∧ Hid (com (s.data.toList.drop p) (t.data.toList.drop q) + q = k) ∧ Inv w s R M C W0 wr { st with at_ := p })
    (fun i _ => t.size - (intOf i).toNat)
  case atStart => exact ⟨0, st.at_, rfl, rfl, Nat.zero_le _, Lib.hid HK.out, HI.out⟩
  case round =>
    obtain ⟨q, p, rfl, hp, hq, HQ, hIq⟩ := hrel
    clear c1 c2
    have c1 := hIq.box h1 n1.1 n1.2.1 n1.2.2
    have c2 := hIq.box h2 n2.1 n2.2.1 n2.2.2
    have r0 := hIq.r0
    have r1 := hIq.r1
    have f1 := hIq.f1
    dsimp only at r1
    have HIq := Lib.hid hIq
    have HP := Lib.hid hp
    by_cases hlt : q < t.size
    · have HD : Hid (t.data.toList.drop q = t[q] :: t.data.toList.drop (q + 1)) := Lib.hid (by rw [drop_cons (by rw [len_data]; exact hlt), byte_at t q hlt])
      by_cases he : p = s.size
      · have HKQ : Hid (q = k) := Lib.hid (by
          have h := HQ.out
          rw [List.drop_of_length_le (by rw [len_data]; omega)] at h
          have h0 : com [] (t.data.toList.drop q) = 0 := rfl
          omega)
        have hbe : ((p : Int) == (s.size : Int)) = true := beq_iff_eq.2 (by omega)
        clear hIq hp HD HQ
        go_wp2_with fail
        go_quiet (fail)
        go_wp2
        go_ret
        have h := HIq.out.drewN nq
        rw [HP.out, HKQ.out] at h
        exact ⟨by rw [decide_eq_false (show ¬ k = t.size by have := HKQ.out; omega)]; rfl, h⟩
      · have hlt2 : p < s.size := by omega
        have hbe : ((p : Int) == (s.size : Int)) = false := beq_eq_false_iff_ne.2 (by omega)
        have HS : Hid (s.data.toList.drop p = s[p] :: s.data.toList.drop (p + 1)) := Lib.hid (by rw [drop_cons (by rw [len_data]; exact hlt2), byte_at s _ hlt2])
        obtain ⟨x, hx⟩ : ∃ x, (s[p]'hlt2).toNat = x := ⟨_, rfl⟩
        obtain ⟨y, hy⟩ : ∃ y, (t[q]'hlt).toNat = y := ⟨_, rfl⟩
        have hxx : ∀ h : p < s.size, (s[p]'h).toNat = x := fun _ => hx
        have hyy : ∀ h : q < t.size, (t[q]'h).toNat = y := fun _ => hy
        by_cases hxy : x = y
        · have hnext : Hid (com (s.data.toList.drop (p + 1)) (t.data.toList.drop (q + 1)) + (q + 1) = k) := Lib.hid (by
            have h := HQ.out
            rw [HS.out, HD.out, com, if_pos (UInt8.toNat_inj.1 (by rw [hx, hy, hxy]))] at h
            omega)
          have hqk : q + 1 ≤ k := by have := hnext.out; omega
          have hbx : ((x : Int) != (y : Int)) = false := by simp [hxy]
          clear hx hy HQ HD HS hxy hIq hp
          go_wp2_with fail
          go_quiet (fail)
          go_wp2
          go_roundw
          case rel =>
            refine ⟨q + 1, p + 1, by go_num, by have := HP.out; omega, hqk, hnext, ?_⟩
            rw [show ((p : Int) + 1) = ((p + 1 : Nat) : Int) by omega]
            exact (HIq.out.drewN nq).setAt hsep (p + 1) hlt2
          case measure => simp [intOf]; omega
        · have HKQ : Hid (q = k) := Lib.hid (by
            have h := HQ.out
            rw [HS.out, HD.out, com, if_neg (fun e => hxy (by rw [← hx, ← hy, e]))] at h
            omega)
          have hbx : ((x : Int) != (y : Int)) = true := bne_iff_ne.2 (by omega)
          clear hx hy HQ HD HS hxy hIq hp
          go_wp2_with fail
          go_quiet (fail)
          go_wp2
          go_ret
          have h := HIq.out.drewN nq
          rw [HP.out, HKQ.out] at h
          exact ⟨by rw [decide_eq_false (show ¬ k = t.size by have := HKQ.out; omega)]; rfl, h⟩
    · have hkq : q = k := by omega
      clear hIq hp HQ
      go_wp2
      go_ret
      have h := HIq.out
      rw [HP.out, hkq] at h
      exact ⟨by rw [decide_eq_true (show k = t.size by omega)]; rfl, h⟩
end Go.Proofs.YtkklccccjmipkaaDoor.Fin

/- The steps of fin.Parse, by hand: end, some. -/
import Derived.Test.YtkklccccjmipkaaDoorZFSteps
import Derived.Test.YtkklccccjmipkaaDoorZShelf
namespace Go.Proofs.YtkklccccjmipkaaDoor.Fin
open Go.RowKit Go.Proofs.YtkklccccjmipkaaDoorW.PrintWords GPlain
set_option linter.unusedSimpArgs false
variable {w : World} {s : ByteArray} {R M C : Nat} {W0 : World}
theorem Inv.drew {W : World} {st : FS} (h : Inv w s R M C W0 W st) : Inv w s R M C W0 W.drew st := h.more (below_drew (Below.refl _ _))
set_option maxRecDepth 100000 in
theorem end_step (B1 B2 : Nat) (h1 : W0.cell? ⟨B1, 0, none⟩ = some (.pointer (some ⟨R, 0, none⟩))) (h2 : W0.cell? ⟨B2, 0, none⟩ = some (.string s))
    (n1 : B1 ≠ R ∧ B1 ≠ M ∧ B1 ≠ C) (n2 : B2 ≠ R ∧ B2 ≠ M ∧ B2 ≠ C) :
    StepOk w s R M C W0 47 #[.pointer (some ⟨B1, 0, none⟩), .pointer (some ⟨B2, 0, none⟩)] (endS s) := by
  intro st W hI
  have c1 := hI.box h1 n1.1 n1.2.1 n1.2.2
  have c2 := hI.box h2 n2.1 n2.2.1 n2.2.2
  have r1 := hI.r1
  obtain ⟨b, hb⟩ : ∃ b, decide (st.at_ = s.size) = b := ⟨_, rfl⟩
  have hres : endS s st = (b, st) := by unfold endS; rw [hb]
  rw [hres]
  have hbe : ((st.at_ : Int) == (s.size : Int)) = b := by rw [← hb, Bool.eq_iff_iff]; simp; omega
  have HI := Lib.hid hI
  clear hI hres hb
  go_enter Tryd.func47, Tryd.ntmps47
  go_wp2_with fail
  go_quiet (fail)
  go_wp2
  go_ret
  exact ⟨rfl, HI.out.drewN nq⟩
set_option maxRecDepth 100000 in
set_option maxHeartbeats 2000000 in
theorem some_step (hsep : Sep w R M C W0) (hs : s.size ≤ 1048576) (n : Nat) (hn : n ≤ 100) (set : ByteArray) (b o : Nat) (put : FS → ByteArray → FS) (hput : PutOk w s R M C W0 b o put) (B1 B2 B3 B4 : Nat) (h1 : W0.cell? ⟨B1, 0, none⟩ = some (.pointer (some ⟨R, 0, none⟩))) (h2 : W0.cell? ⟨B2, 0, none⟩ = some (.int .i64 (n : Int)))
    (h3 : W0.cell? ⟨B3, 0, none⟩ = some (.string set)) (h4 : W0.cell? ⟨B4, 0, none⟩ = some (.pointer (some ⟨b, o, none⟩)))
    (n1 : B1 ≠ R ∧ B1 ≠ M ∧ B1 ≠ C) (n2 : B2 ≠ R ∧ B2 ≠ M ∧ B2 ≠ C) (n3 : B3 ≠ R ∧ B3 ≠ M ∧ B3 ≠ C) (n4 : B4 ≠ R ∧ B4 ≠ M ∧ B4 ≠ C) :
    StepOk w s R M C W0 78 #[.pointer (some ⟨B1, 0, none⟩), .pointer (some ⟨B2, 0, none⟩), .pointer (some ⟨B3, 0, none⟩), .pointer (some ⟨B4, 0, none⟩)] (someS s n set put) := by
  intro st W hI
  obtain ⟨k, hk⟩ : ∃ k, cnt set.data.toList n (s.data.toList.drop st.at_) = k := ⟨_, rfl⟩
  have hres : someS s n set put st = if k = n then (true, put { st with at_ := st.at_ + n } (pieceB s st.at_ n)) else (false, { st with at_ := st.at_ + k }) := by unfold someS; rw [hk]
  have HRES := Lib.hid hres
  have hkl := cnt_le set.data.toList n (s.data.toList.drop st.at_)
  rw [hk, List.length_drop, len_data] at hkl
  have hle := hI.le
  have HK := Lib.hid hk
  clear hk hres
  have HI := Lib.hid hI
  have c1 := hI.box h1 n1.1 n1.2.1 n1.2.2
  have c2 := hI.box h2 n2.1 n2.2.1 n2.2.2
  have c3 := hI.box h3 n3.1 n3.2.1 n3.2.2
  have c4 := hI.box h4 n4.1 n4.2.1 n4.2.2
  have r1 := hI.r1
  clear hI
  go_enter Tryd.func78, Tryd.ntmps78
  go_wp2
  go_loopw [11] (fun i wr => ∃ q p : Nat, i = .int .i64 (q : Int) ∧ p = st.at_ + q ∧ q ≤ k ∧ Hid (cnt set.data.toList (n - q) (s.data.toList.drop p) + q = k) ∧ Inv w s R M C W0 wr { st with at_ := p })
    (fun i _ => n - (intOf i).toNat)
  case atStart => exact ⟨0, st.at_, rfl, rfl, Nat.zero_le _, Lib.hid HK.out, HI.out⟩
  case round =>
    obtain ⟨q, p, rfl, hp, hq, HQ, hIq⟩ := hrel
    clear c1 c2 c3 c4 r1
    have c1 := hIq.box h1 n1.1 n1.2.1 n1.2.2
    have c2 := hIq.box h2 n2.1 n2.2.1 n2.2.2
    have c3 := hIq.box h3 n3.1 n3.2.1 n3.2.2
    have c4 := hIq.box h4 n4.1 n4.2.1 n4.2.2
    have r0 := hIq.r0
    have r1 := hIq.r1
    have f1 := hIq.f1
    dsimp only at r1
    have HIq := Lib.hid hIq
    have HP := Lib.hid hp
    by_cases hlt : q < n
    · by_cases he : p = s.size
      · have HKQ : Hid (q = k) := Lib.hid (by
          have h := HQ.out
          rw [List.drop_of_length_le (by rw [len_data]; omega), show n - q = (n - q - 1) + 1 by omega] at h
          have h0 : cnt set.data.toList ((n - q - 1) + 1) [] = 0 := rfl
          omega)
        have hbe : ((p : Int) == (s.size : Int)) = true := beq_iff_eq.2 (by omega)
        clear hIq hp HQ
        go_wp2_with fail
        go_quiet (fail)
        go_wp2
        go_ret
        have h := HIq.out.drewN nq
        rw [HP.out, HKQ.out] at h
        rw [HRES.out, if_neg (show ¬ k = n by have := HKQ.out; omega)]
        exact ⟨rfl, h⟩
      · have hlt2 : p < s.size := by omega
        have hbe : ((p : Int) == (s.size : Int)) = false := beq_eq_false_iff_ne.2 (by omega)
        have HS : Hid (s.data.toList.drop p = s[p] :: s.data.toList.drop (p + 1)) := Lib.hid (by rw [drop_cons (by rw [len_data]; exact hlt2), byte_at s _ hlt2])
        obtain ⟨x, hx⟩ : ∃ x, (s[p]'hlt2) = x := ⟨_, rfl⟩
        obtain ⟨y, hy⟩ : ∃ y, x.toNat = y := ⟨_, rfl⟩
        have hxx : ∀ h : p < s.size, (s[p]'h).toNat = y := fun _ => by rw [hx, hy]
        have hcall : ∀ W : World, Calls Tryd.prog 79 #[.string set, .int .u8 (y : Int)] W fun e w' => e = .returned (.int .i64 (Lib.indexByte set.data.toList x)) ∧ w' = W := fun W => by
          have h := Tryd.strings_IndexByte set (y : Int) W
          rw [show (y : Int).toNat.toUInt8 = x by rw [← hy, Int.toNat_natCast]; exact UInt8.ofNat_toNat] at h
          exact h
        have HCALL := fun W => Lib.hid (hcall W)
        obtain ⟨z, hz⟩ : ∃ z, Lib.indexByte set.data.toList x = z := ⟨_, rfl⟩
        rw [hz] at HCALL
        have hcn : cnt set.data.toList (n - q) (x :: s.data.toList.drop (p + 1)) = if 0 ≤ z then cnt set.data.toList (n - (q + 1)) (s.data.toList.drop (p + 1)) + 1 else 0 := by
          rw [show n - q = (n - (q + 1)) + 1 by omega, cnt, hz]
        by_cases hz0 : 0 ≤ z
        · have hnext : Hid (cnt set.data.toList (n - (q + 1)) (s.data.toList.drop (p + 1)) + (q + 1) = k) := Lib.hid (by
            have h := HQ.out
            rw [HS.out, hx, hcn, if_pos hz0] at h
            omega)
          have hqk : q + 1 ≤ k := by have := hnext.out; omega
          have hzb : decide (z < 0) = false := decide_eq_false (by omega)
          clear hx hy HQ HS hIq hp hcall hcn hz
          go_wp2_with fail
          go_quiet ((go_at_call 79; exact Calls.quiet_of_same (HCALL _).out))
          go_wp2
          go_roundw
          case rel =>
            refine ⟨q + 1, p + 1, by go_num, by have := HP.out; omega, hqk, hnext, ?_⟩
            rw [show ((p : Int) + 1) = ((p + 1 : Nat) : Int) by omega]
            exact (HIq.out.drewN nq).setAt hsep (p + 1) hlt2
          case measure => simp [intOf]; omega
        · have HKQ : Hid (q = k) := Lib.hid (by
            have h := HQ.out
            rw [HS.out, hx, hcn, if_neg hz0] at h
            omega)
          have hzb : decide (z < 0) = true := decide_eq_true (by omega)
          clear hx hy HQ HS hIq hp hcall hcn hz
          go_wp2_with fail
          go_quiet ((go_at_call 79; exact Calls.quiet_of_same (HCALL _).out))
          go_wp2
          go_ret
          have h := HIq.out.drewN nq
          rw [HP.out, HKQ.out] at h
          rw [HRES.out, if_neg (show ¬ k = n by have := HKQ.out; omega)]
          exact ⟨rfl, h⟩
    · have hkq : q = k := by omega
      have hqn : q = n := by omega
      obtain ⟨v, hv⟩ := hput.has hIq
      have hf := hput.free hIq
      have hplt : p ≤ s.size := by have := hIq.le; exact this
      have hcut : ∀ W : World, (Instr.slice 9 (.string s) (some (.int .i64 (st.at_ : Int))) (some (.int .i64 (p : Int))) none).run Tryd.prog W = .ok (.string (pieceB s st.at_ n)) W := fun W => by
        rw [run_slice_string W 9 s .i64 .i64 _ _ Tryd.underlying9 (by omega) (by omega) (by omega), Int.toNat_natCast, Int.toNat_natCast, hp, hqn]
        rfl
      have HPUT := Lib.hid ((hput.set hIq (pieceB s st.at_ n)).drew)
      have HPN := Lib.hid (show p = st.at_ + n by omega)
      clear hIq hp HQ hplt
      go_wp2_with fail
      go_region
      go_wp2
      go_ret
      have h := HPUT.out
      rw [HPN.out] at h
      rw [HRES.out, if_pos (show k = n by omega)]
      exact ⟨rfl, h⟩
end Go.Proofs.YtkklccccjmipkaaDoor.Fin

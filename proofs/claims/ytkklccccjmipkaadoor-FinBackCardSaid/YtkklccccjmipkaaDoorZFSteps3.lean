/- The steps of fin.Parse, by hand: so many bytes that must be good. -/
import Derived.Test.YtkklccccjmipkaaDoorZFSteps2
import Derived.StillTailTactics
import Derived.Test.YtkklccccjmipkaaDoorZW
namespace Go.Proofs.YtkklccccjmipkaaDoor.Fin
open Go.RowKit Go.Proofs.YtkklccccjmipkaaDoorW.PrintWords Go.Proofs.YtkklccccjmipkaaDoorW.PrintLast GPlain
set_option linter.unusedSimpArgs false
variable {w : World} {s : ByteArray} {R M C : Nat} {W0 : World}
theorem wrapEq (x : Int) : IntKind.i64.wrap x = wrap64 x := by exact i64_w x
set_option maxRecDepth 100000 in
set_option maxHeartbeats 4000000 in
theorem wholeA_step (hsep : Sep w R M C W0) (hs : s.size ≤ 1048576) (n : Nat) (hn : n ≤ 100) (chk : ByteArray → Int) (b o : Nat) (put : FS → ByteArray → FS) (hput : PutOk w s R M C W0 b o put) (B1 B2 B3 B4 : Nat) (h1 : W0.cell? ⟨B1, 0, none⟩ = some (.pointer (some ⟨R, 0, none⟩))) (h2 : W0.cell? ⟨B2, 0, none⟩ = some (.int .i64 (n : Int)))
    (h3 : W0.cell? ⟨B3, 0, none⟩ = some (.func (.func 42) #[] #[])) (h4 : W0.cell? ⟨B4, 0, none⟩ = some (.pointer (some ⟨b, o, none⟩)))
    (n1 : B1 ≠ R ∧ B1 ≠ M ∧ B1 ≠ C) (n2 : B2 ≠ R ∧ B2 ≠ M ∧ B2 ≠ C) (n3 : B3 ≠ R ∧ B3 ≠ M ∧ B3 ≠ C) (n4 : B4 ≠ R ∧ B4 ≠ M ∧ B4 ≠ C)
    (hchk : ∀ (x : ByteArray) (W : World), x.size = n → Calls Tryd.prog 42 #[.string x] W fun e w' => e = .returned (.int .i64 (chk x)) ∧ Below W.heap.size W w') :
    StepOk w s R M C W0 76 #[.pointer (some ⟨B1, 0, none⟩), .pointer (some ⟨B2, 0, none⟩), .pointer (some ⟨B3, 0, none⟩), .pointer (some ⟨B4, 0, none⟩)] (wholeS s n (fun x => chk x == 0) put) := by
  intro st W hI
  have c1 := hI.box h1 n1.1 n1.2.1 n1.2.2
  have c2 := hI.box h2 n2.1 n2.2.1 n2.2.2
  have c3 := hI.box h3 n3.1 n3.2.1 n3.2.2
  have c4 := hI.box h4 n4.1 n4.2.1 n4.2.2
  have r0 := hI.r0
  have r1 := hI.r1
  have f1 := hI.f1
  have hle := hI.le
  have HI := Lib.hid hI
  obtain ⟨a, ha⟩ : ∃ a, st.at_ = a := ⟨_, rfl⟩
  obtain ⟨x, hx⟩ : ∃ x, pieceB s a n = x := ⟨_, rfl⟩
  rw [ha] at r1 hle
  have HA := Lib.hid ha
  have hwr1 : IntKind.i64.wrap ((s.size : Int) - (a : Int)) = (s.size : Int) - (a : Int) := by rw [wrapEq]; exact wrap_ok (by omega) (by omega)
  have hwr2 : IntKind.i64.wrap ((a : Int) + (n : Int)) = (a : Int) + (n : Int) := by rw [wrapEq]; exact wrap_ok (by omega) (by omega)
  by_cases hfit : a + n ≤ s.size
  · have hcut : ∀ W : World, (Instr.slice 9 (.string s) (some (.int .i64 (a : Int))) (some (.int .i64 ((a : Int) + (n : Int)))) none).run Tryd.prog W = .ok (.string x) W := fun W => by
      rw [run_slice_string W 9 s .i64 .i64 _ _ Tryd.underlying9 (by omega) (by omega) (by omega), Int.toNat_natCast, show ((a : Int) + (n : Int)).toNat = a + n by omega, ← hx]
      rfl
    have hxs : x.size = n := by rw [← hx]; unfold pieceB; rw [ByteArray.size_extract]; omega
    have HC := fun W => Lib.hid (hchk x W hxs)
    obtain ⟨ev, hev⟩ : ∃ ev, chk x = ev := ⟨_, rfl⟩
    rw [hev] at HC
    have hlen : decide ((s.size : Int) - (a : Int) < (n : Int)) = false := decide_eq_false (by omega)
    have HS : ∀ {W'}, Below W.heap.size W W' → Hid (W'.cell? ⟨B1, 0, none⟩ = some (.pointer (some ⟨R, 0, none⟩)) ∧ W'.cell? ⟨B2, 0, none⟩ = some (.int .i64 (n : Int)) ∧ W'.cell? ⟨B3, 0, none⟩ = some (.func (.func 42) #[] #[]) ∧ W'.cell? ⟨R, 0, none⟩ = some (.string s) ∧ W'.cell? ⟨R, 1, none⟩ = some (.int .i64 (a : Int))) := fun hb =>
      Lib.hid ⟨(HI.out.more hb).box h1 n1.1 n1.2.1 n1.2.2, (HI.out.more hb).box h2 n2.1 n2.2.1 n2.2.2, (HI.out.more hb).box h3 n3.1 n3.2.1 n3.2.2, (HI.out.more hb).r0, by rw [← HA.out]; exact (HI.out.more hb).r1⟩
    have D0 := HS (below_drew (Below.refl _ W))
    by_cases he : ev = 0
    · have hres : wholeS s n (fun x => chk x == 0) put st = (true, { put st x with at_ := a + n }) := by
        unfold wholeS
        rw [ha, hx, if_pos ⟨hfit, show (chk x == 0) = true by rw [hev, he]; rfl⟩]
      rw [hres]
      subst he
      clear hI hres ha hx hev
      go_enter Tryd.func76, Tryd.ntmps76
      go_wp2_with fail
      go_still_tail 29, (by kernel_rfl)
      change wpList _ _ _ _ _ W.drew
      have HID := Lib.hid (HI.out.drew)
      generalize W.drew = W2 at HID ⊢
      go_wp2_with (go_at_call 42; refine (HC _).out.mono ?_; rintro e w1 ⟨rfl, hb1⟩)
      have hI1 := HID.out.more hb1
      clear c1 c2 c3 c4 r0 r1 f1 D0 HS
      have c1 := hI1.box h1 n1.1 n1.2.1 n1.2.2
      have c2 := hI1.box h2 n2.1 n2.2.1 n2.2.2
      have c4 := hI1.box h4 n4.1 n4.2.1 n4.2.2
      have r0 := hI1.r0
      have r1 := hI1.r1
      have f1 := hI1.f1
      rw [HA.out] at r1
      have HI1 := Lib.hid (hI1.drew)
      clear hI1
      go_wp2_with fail
      go_still_tail 17, (by kernel_rfl)
      change wpList _ _ _ _ _ w1.drew
      generalize w1.drew = W3 at HI1 ⊢
      obtain ⟨v, hv⟩ := hput.has HI1.out
      have hf := hput.free HI1.out
      have hI1 := hput.set HI1.out x
      clear c1 c2 c4 r0 r1 f1
      go_wp2_with fail
      generalize W3.setCell ⟨b, o, none⟩ (.string x) = W4 at hI1 ⊢
      clear hv hf HI1
      have c1 := hI1.box h1 n1.1 n1.2.1 n1.2.2
      have c2 := hI1.box h2 n2.1 n2.2.1 n2.2.2
      have r1 := hI1.r1
      rw [hput.at_, HA.out] at r1
      have HI3 := Lib.hid (hI1.drew)
      clear hI1
      go_still_tail 8, (by kernel_rfl)
      change wpList _ _ _ _ _ W4.drew
      generalize W4.drew = W5 at HI3 ⊢
      have r1 := HI3.out.r1
      rw [hput.at_, HA.out] at r1
      have f1 := HI3.out.f1
      have HI4 := Lib.hid (HI3.out.setAt hsep (a + n) hfit)
      clear c1 c2
      go_wp2
      go_ret
      exact ⟨rfl, HI4.out⟩
    · have hres : wholeS s n (fun x => chk x == 0) put st = (false, st) := by
        unfold wholeS
        rw [ha, hx, if_neg (fun h => he (by have h2 : (chk x == 0) = true := h.2; rw [hev] at h2; exact beq_iff_eq.1 h2))]
      rw [hres]
      have hne : (ev != 0) = true := bne_iff_ne.2 he
      clear hI hres ha hx hev
      go_enter Tryd.func76, Tryd.ntmps76
      go_wp2_with fail
      go_still_tail 29, (by kernel_rfl)
      change wpList _ _ _ _ _ W.drew
      have HID := Lib.hid (HI.out.drew)
      generalize W.drew = W2 at HID ⊢
      go_wp2_with (go_at_call 42; refine (HC _).out.mono ?_; rintro e w1 ⟨rfl, hb1⟩)
      go_ret
      exact ⟨rfl, HID.out.more hb1⟩
  · have hlen : decide ((s.size : Int) - (a : Int) < (n : Int)) = true := decide_eq_true (by omega)
    have hres : wholeS s n (fun x => chk x == 0) put st = (false, st) := by unfold wholeS; rw [ha, if_neg (fun h => hfit h.1)]
    rw [hres]
    clear hI hres ha hx
    go_enter Tryd.func76, Tryd.ntmps76
    go_wp2_with fail
    go_quiet (fail)
    go_wp2
    go_ret
    exact ⟨rfl, HI.out.drewN nq⟩
set_option maxRecDepth 100000 in
set_option maxHeartbeats 4000000 in
theorem wholeU_step (hsep : Sep w R M C W0) (hs : s.size ≤ 1048576) (n : Nat) (hn : n ≤ 100) (chk : ByteArray → Int) (b o : Nat) (put : FS → ByteArray → FS) (hput : PutOk w s R M C W0 b o put) (B1 B2 B3 B4 : Nat) (h1 : W0.cell? ⟨B1, 0, none⟩ = some (.pointer (some ⟨R, 0, none⟩))) (h2 : W0.cell? ⟨B2, 0, none⟩ = some (.int .i64 (n : Int)))
    (h3 : W0.cell? ⟨B3, 0, none⟩ = some (.func (.func 45) #[] #[])) (h4 : W0.cell? ⟨B4, 0, none⟩ = some (.pointer (some ⟨b, o, none⟩)))
    (n1 : B1 ≠ R ∧ B1 ≠ M ∧ B1 ≠ C) (n2 : B2 ≠ R ∧ B2 ≠ M ∧ B2 ≠ C) (n3 : B3 ≠ R ∧ B3 ≠ M ∧ B3 ≠ C) (n4 : B4 ≠ R ∧ B4 ≠ M ∧ B4 ≠ C)
    (hchk : ∀ (x : ByteArray) (W : World), x.size = n → Calls Tryd.prog 45 #[.string x] W fun e w' => e = .returned (.int .i64 (chk x)) ∧ Below W.heap.size W w') :
    StepOk w s R M C W0 76 #[.pointer (some ⟨B1, 0, none⟩), .pointer (some ⟨B2, 0, none⟩), .pointer (some ⟨B3, 0, none⟩), .pointer (some ⟨B4, 0, none⟩)] (wholeS s n (fun x => chk x == 0) put) := by
  intro st W hI
  have c1 := hI.box h1 n1.1 n1.2.1 n1.2.2
  have c2 := hI.box h2 n2.1 n2.2.1 n2.2.2
  have c3 := hI.box h3 n3.1 n3.2.1 n3.2.2
  have c4 := hI.box h4 n4.1 n4.2.1 n4.2.2
  have r0 := hI.r0
  have r1 := hI.r1
  have f1 := hI.f1
  have hle := hI.le
  have HI := Lib.hid hI
  obtain ⟨a, ha⟩ : ∃ a, st.at_ = a := ⟨_, rfl⟩
  obtain ⟨x, hx⟩ : ∃ x, pieceB s a n = x := ⟨_, rfl⟩
  rw [ha] at r1 hle
  have HA := Lib.hid ha
  have hwr1 : IntKind.i64.wrap ((s.size : Int) - (a : Int)) = (s.size : Int) - (a : Int) := by rw [wrapEq]; exact wrap_ok (by omega) (by omega)
  have hwr2 : IntKind.i64.wrap ((a : Int) + (n : Int)) = (a : Int) + (n : Int) := by rw [wrapEq]; exact wrap_ok (by omega) (by omega)
  by_cases hfit : a + n ≤ s.size
  · have hcut : ∀ W : World, (Instr.slice 9 (.string s) (some (.int .i64 (a : Int))) (some (.int .i64 ((a : Int) + (n : Int)))) none).run Tryd.prog W = .ok (.string x) W := fun W => by
      rw [run_slice_string W 9 s .i64 .i64 _ _ Tryd.underlying9 (by omega) (by omega) (by omega), Int.toNat_natCast, show ((a : Int) + (n : Int)).toNat = a + n by omega, ← hx]
      rfl
    have hxs : x.size = n := by rw [← hx]; unfold pieceB; rw [ByteArray.size_extract]; omega
    have HC := fun W => Lib.hid (hchk x W hxs)
    obtain ⟨ev, hev⟩ : ∃ ev, chk x = ev := ⟨_, rfl⟩
    rw [hev] at HC
    have hlen : decide ((s.size : Int) - (a : Int) < (n : Int)) = false := decide_eq_false (by omega)
    have HS : ∀ {W'}, Below W.heap.size W W' → Hid (W'.cell? ⟨B1, 0, none⟩ = some (.pointer (some ⟨R, 0, none⟩)) ∧ W'.cell? ⟨B2, 0, none⟩ = some (.int .i64 (n : Int)) ∧ W'.cell? ⟨B3, 0, none⟩ = some (.func (.func 45) #[] #[]) ∧ W'.cell? ⟨R, 0, none⟩ = some (.string s) ∧ W'.cell? ⟨R, 1, none⟩ = some (.int .i64 (a : Int))) := fun hb =>
      Lib.hid ⟨(HI.out.more hb).box h1 n1.1 n1.2.1 n1.2.2, (HI.out.more hb).box h2 n2.1 n2.2.1 n2.2.2, (HI.out.more hb).box h3 n3.1 n3.2.1 n3.2.2, (HI.out.more hb).r0, by rw [← HA.out]; exact (HI.out.more hb).r1⟩
    have D0 := HS (below_drew (Below.refl _ W))
    by_cases he : ev = 0
    · have hres : wholeS s n (fun x => chk x == 0) put st = (true, { put st x with at_ := a + n }) := by
        unfold wholeS
        rw [ha, hx, if_pos ⟨hfit, show (chk x == 0) = true by rw [hev, he]; rfl⟩]
      rw [hres]
      subst he
      clear hI hres ha hx hev
      go_enter Tryd.func76, Tryd.ntmps76
      go_wp2_with fail
      go_still_tail 29, (by kernel_rfl)
      change wpList _ _ _ _ _ W.drew
      have HID := Lib.hid (HI.out.drew)
      generalize W.drew = W2 at HID ⊢
      go_wp2_with (go_at_call 45; refine (HC _).out.mono ?_; rintro e w1 ⟨rfl, hb1⟩)
      have hI1 := HID.out.more hb1
      clear c1 c2 c3 c4 r0 r1 f1 D0 HS
      have c1 := hI1.box h1 n1.1 n1.2.1 n1.2.2
      have c2 := hI1.box h2 n2.1 n2.2.1 n2.2.2
      have c4 := hI1.box h4 n4.1 n4.2.1 n4.2.2
      have r0 := hI1.r0
      have r1 := hI1.r1
      have f1 := hI1.f1
      rw [HA.out] at r1
      have HI1 := Lib.hid (hI1.drew)
      clear hI1
      go_wp2_with fail
      go_still_tail 17, (by kernel_rfl)
      change wpList _ _ _ _ _ w1.drew
      generalize w1.drew = W3 at HI1 ⊢
      obtain ⟨v, hv⟩ := hput.has HI1.out
      have hf := hput.free HI1.out
      have hI1 := hput.set HI1.out x
      clear c1 c2 c4 r0 r1 f1
      go_wp2_with fail
      generalize W3.setCell ⟨b, o, none⟩ (.string x) = W4 at hI1 ⊢
      clear hv hf HI1
      have c1 := hI1.box h1 n1.1 n1.2.1 n1.2.2
      have c2 := hI1.box h2 n2.1 n2.2.1 n2.2.2
      have r1 := hI1.r1
      rw [hput.at_, HA.out] at r1
      have HI3 := Lib.hid (hI1.drew)
      clear hI1
      go_still_tail 8, (by kernel_rfl)
      change wpList _ _ _ _ _ W4.drew
      generalize W4.drew = W5 at HI3 ⊢
      have r1 := HI3.out.r1
      rw [hput.at_, HA.out] at r1
      have f1 := HI3.out.f1
      have HI4 := Lib.hid (HI3.out.setAt hsep (a + n) hfit)
      clear c1 c2
      go_wp2
      go_ret
      exact ⟨rfl, HI4.out⟩
    · have hres : wholeS s n (fun x => chk x == 0) put st = (false, st) := by
        unfold wholeS
        rw [ha, hx, if_neg (fun h => he (by have h2 : (chk x == 0) = true := h.2; rw [hev] at h2; exact beq_iff_eq.1 h2))]
      rw [hres]
      have hne : (ev != 0) = true := bne_iff_ne.2 he
      clear hI hres ha hx hev
      go_enter Tryd.func76, Tryd.ntmps76
      go_wp2_with fail
      go_still_tail 29, (by kernel_rfl)
      change wpList _ _ _ _ _ W.drew
      have HID := Lib.hid (HI.out.drew)
      generalize W.drew = W2 at HID ⊢
      go_wp2_with (go_at_call 45; refine (HC _).out.mono ?_; rintro e w1 ⟨rfl, hb1⟩)
      go_ret
      exact ⟨rfl, HID.out.more hb1⟩
  · have hlen : decide ((s.size : Int) - (a : Int) < (n : Int)) = true := decide_eq_true (by omega)
    have hres : wholeS s n (fun x => chk x == 0) put st = (false, st) := by unfold wholeS; rw [ha, if_neg (fun h => hfit h.1)]
    rw [hres]
    clear hI hres ha hx
    go_enter Tryd.func76, Tryd.ntmps76
    go_wp2_with fail
    go_quiet (fail)
    go_wp2
    go_ret
    exact ⟨rfl, HI.out.drewN nq⟩
end Go.Proofs.YtkklccccjmipkaaDoor.Fin

/- The steps of fin.Parse, by hand: the body; steps one behind the other; steps if a text comes. -/
import Derived.Test.YtkklccccjmipkaaDoorZFSteps3
import Derived.Test.YtkklccccjmipkaaDoorZFFault
import Derived.Test.YtkklccccjmipkaaDoorZGWorld
namespace Go.Proofs.YtkklccccjmipkaaDoor.Fin
open Go.RowKit Go.Proofs.YtkklccccjmipkaaDoorW.PrintWords Go.Proofs.YtkklccccjmipkaaDoorW.PrintLast GPlain Go.Proofs.YtkklccccjmipkaaDoor.PAll
set_option linter.unusedSimpArgs false
variable {w : World} {s : ByteArray} {R M C : Nat} {W0 : World}
theorem index_le3 (l : List UInt8) (h : 0 ≤ Lib.index l [13, 10, 45]) : (Lib.index l [13, 10, 45]).toNat + 3 ≤ l.length := by
  induction l with
  | nil => exact absurd h (by decide)
  | cons c r ih =>
    unfold Lib.index at h ⊢
    by_cases hp : List.isPrefixOf [13, 10, 45] (c :: r) = true
    · rw [if_pos hp]
      have := (List.isPrefixOf_iff_prefix.1 hp).length_le
      simpa using this
    · rw [if_neg hp] at h ⊢
      by_cases h1 : (Lib.index r [13, 10, 45] == -1) = true
      · rw [if_pos h1] at h
        exact absurd h (by decide)
      · rw [if_neg h1] at h ⊢
        have hne : Lib.index r [13, 10, 45] ≠ -1 := fun e => h1 (beq_iff_eq.2 e)
        have h2 := Lib.index_ge r [13, 10, 45]
        have := ih (by omega)
        rw [List.length_cons]
        omega
theorem cut_len (l : List UInt8) : (cutS l).1.length ≤ l.length := by
  unfold cutS Lib.cut
  split
  · rw [List.length_take]; omega
  · exact Nat.le_refl _
theorem cut_len3 (l : List UInt8) (h : (cutS l).2.2 = true) : (cutS l).1.length + 3 ≤ l.length := by
  unfold cutS Lib.cut at h ⊢
  by_cases h0 : 0 ≤ Lib.index l [13, 10, 45]
  · rw [if_pos h0]
    have := index_le3 l h0
    rw [List.length_take]
    omega
  · rw [if_neg h0] at h
    cases h
set_option maxRecDepth 100000 in
set_option maxHeartbeats 4000000 in
theorem body_step (hsep : Sep w R M C W0) (hs : s.size ≤ 1048576) (hG : GW w) (B1 B2 : Nat) (hput : PutOk w s R M C W0 M 4 (fun st v => { st with bo := v })) (h1 : W0.cell? ⟨B1, 0, none⟩ = some (.pointer (some ⟨R, 0, none⟩))) (h2 : W0.cell? ⟨B2, 0, none⟩ = some (.pointer (some ⟨M, 4, none⟩)))
    (n1 : B1 ≠ R ∧ B1 ≠ M ∧ B1 ≠ C) (n2 : B2 ≠ R ∧ B2 ≠ M ∧ B2 ≠ C) :
    StepOk w s R M C W0 83 #[.pointer (some ⟨B1, 0, none⟩), .pointer (some ⟨B2, 0, none⟩)] (bodyS s) := by
  intro st W hI
  have c1 := hI.box h1 n1.1 n1.2.1 n1.2.2
  have r0 := hI.r0
  have r1 := hI.r1
  have hle := hI.le
  have HI := Lib.hid hI
  obtain ⟨a, ha⟩ : ∃ a, st.at_ = a := ⟨_, rfl⟩
  rw [ha] at r1 hle
  have HA := Lib.hid ha
  obtain ⟨⟨l, l2, is⟩, hc⟩ : ∃ c, cutS (s.data.toList.drop a) = c := ⟨_, rfl⟩
  have hll : l.length ≤ s.size - a := by
    have := cut_len (s.data.toList.drop a)
    rw [hc, List.length_drop, len_data] at this
    exact this
  have hl3 : is = true → l.length + 3 ≤ s.size - a := fun h => by
    have := cut_len3 (s.data.toList.drop a) (by rw [hc]; exact h)
    rw [hc, List.length_drop, len_data] at this
    exact this
  obtain ⟨x, hx⟩ : ∃ x, s.extract a s.size = x := ⟨_, rfl⟩
  have hxl : x.data.toList = s.data.toList.drop a := by rw [← hx]; exact Lib.extract_to_end s a
  have hcut : ∀ W : World, (Instr.slice 9 (.string s) (some (.int .i64 (a : Int))) none none).run Tryd.prog W = .ok (.string x) W := fun W => by
    rw [run_slice_string_from_if W 9 s .i64 _ Tryd.underlying9, if_pos (by omega), Int.toNat_natCast, hx]
  have hxs : x.size ≤ 1048576 := by rw [← hx, ByteArray.size_extract]; omega
  have HCUT : ∀ n, Hid (Calls Tryd.prog 84 #[.string x, .string ⟨#[13, 10, 45]⟩] (W.drewN n) fun e w' => e = .returned (.tuple #[.string (bs l), .string (bs l2), .bool is]) ∧ ∃ m, w' = (W.drewN n).drewN m) := fun n => Lib.hid (by
    obtain ⟨m, hm⟩ := GW_below hG (HI.out.drewN n).below
    have h := Tryd.strings_Cut x ⟨#[13, 10, 45]⟩ m (W.drewN n) (by omega) hm
    rw [show Lib.cut x.data.toList (⟨#[13, 10, 45]⟩ : ByteArray).data.toList = (l, l2, is) by rw [hxl]; exact hc] at h
    exact h)
  have hbl : (bs l).size = l.length := bs_size l
  obtain ⟨y, hy⟩ : ∃ y, bs l = y := ⟨_, rfl⟩
  rw [hy] at HCUT hbl
  obtain ⟨F, hF⟩ : ∃ F, faultL l = F := ⟨_, rfl⟩
  have hFl : F ≤ l.length := by rw [← hF]; exact faultL_le l
  have HFA := fun W => Lib.hid (fault_walk y (by omega) W)
  rw [show y.data.toList = l by rw [← hy, bs_data], hF] at HFA
  have hyl : y.toList = l := by rw [← hy]; exact bs_toList l
  have hres : bodyS s st = if is = true ∧ F = l.length ∧ l ≠ [] then (true, { st with at_ := a + l.length + 3, bo := y }) else (false, { st with at_ := a + F }) := by
    unfold bodyS
    rw [ha, hc, ← hy]
    dsimp only
    rw [hF]
    rfl
  have hnil : (y = (⟨#[]⟩ : ByteArray)) ↔ l = [] := by
    rw [← hy]
    exact ⟨fun h => bs_inj h, fun h => by rw [h]; rfl⟩
  have HRES := Lib.hid hres
  have HNIL := Lib.hid hnil
  clear hres hnil hx hxl hc hy hF ha hI
  by_cases hok : is = true ∧ F = l.length ∧ l ≠ []
  · obtain ⟨rfl, hFe, hne⟩ := hok
    have h3 := hl3 rfl
    have hdl : decide ((F : Int) < (y.size : Int)) = false := decide_eq_false (by omega)
    have hie : l.isEmpty = false := by simpa using hne
    have HR : Hid (bodyS s st = (true, { st with at_ := a + l.length + 3, bo := y })) := Lib.hid (by rw [HRES.out, if_pos ⟨rfl, hFe, hne⟩])
    clear hne HNIL HRES
    go_enter Tryd.func83, Tryd.ntmps83
    go_wp2_with fail
    go_quiet ((go_at_call 84; exact Calls.quiet_of (HCUT _).out))
    have HI0 := Lib.hid (HI.out.drewN nq)
    generalize W.drewN nq = W1 at HI0 ⊢
    clear c1 r0 r1
    go_wp2_with (go_at_call 55; refine (HFA _).out.mono ?_; rintro e w1 ⟨rfl, hb1⟩; have HI1 := Lib.hid (HI0.out.more hb1); have c1 := HI1.out.box h1 n1.1 n1.2.1 n1.2.2; have c2 := HI1.out.box h2 n2.1 n2.2.1 n2.2.2; have r1 := HI1.out.r1; rw [HA.out] at r1; have f1 := HI1.out.f1; obtain ⟨v, hv⟩ := hput.has HI1.out; have hf := hput.free HI1.out; have HI2 := Lib.hid (hput.set HI1.out y); have c1b := HI2.out.box h1 n1.1 n1.2.1 n1.2.2; have r1b := HI2.out.r1; (try dsimp only at r1b); rw [HA.out] at r1b; have f1b := HI2.out.f1)
    go_ret
    rw [HR.out]
    refine ⟨rfl, ?_⟩
    have h := HI2.out.setAt hsep (a + l.length + 3) (by omega)
    rw [show ((a + l.length + 3 : Nat) : Int) = (a : Int) + ((l.length : Int) + 3) by omega] at h
    exact h
  · have HR : Hid (bodyS s st = (false, { st with at_ := a + F })) := Lib.hid (by rw [HRES.out, if_neg hok])
    have hfin : ∀ {w1 : World}, Inv w s R M C W0 w1 st → Inv w s R M C W0 (w1.setCell ⟨R, 1, none⟩ (.int .i64 ((a : Int) + (F : Int)))) { st with at_ := a + F } := fun hI => by
      have h := hI.setAt hsep (a + F) (by omega)
      rw [show ((a + F : Nat) : Int) = (a : Int) + (F : Int) by omega] at h
      exact h
    cases is
    · clear hl3 hok HNIL HRES
      go_enter Tryd.func83, Tryd.ntmps83
      go_wp2_with fail
      go_quiet ((go_at_call 84; exact Calls.quiet_of (HCUT _).out))
      have HI0 := Lib.hid (HI.out.drewN nq)
      generalize W.drewN nq = W1 at HI0 ⊢
      clear c1 r0 r1
      go_wp2_with (go_at_call 55; refine (HFA _).out.mono ?_; rintro e w1 ⟨rfl, hb1⟩; have HI1 := Lib.hid (HI0.out.more hb1); have c1 := HI1.out.box h1 n1.1 n1.2.1 n1.2.2; have c2 := HI1.out.box h2 n2.1 n2.2.1 n2.2.2; have r1 := HI1.out.r1; rw [HA.out] at r1; have f1 := HI1.out.f1; obtain ⟨v, hv⟩ := hput.has HI1.out; have hf := hput.free HI1.out; have HI2 := Lib.hid (hput.set HI1.out y); have c1b := HI2.out.box h1 n1.1 n1.2.1 n1.2.2; have r1b := HI2.out.r1; (try dsimp only at r1b); rw [HA.out] at r1b; have f1b := HI2.out.f1)
      go_ret
      rw [HR.out]
      exact ⟨rfl, hfin HI1.out⟩
    · by_cases hF2 : F < l.length
      · have hdl : decide ((F : Int) < (y.size : Int)) = true := decide_eq_true (by omega)
        clear hl3 hok HNIL HRES
        go_enter Tryd.func83, Tryd.ntmps83
        go_wp2_with fail
        go_quiet ((go_at_call 84; exact Calls.quiet_of (HCUT _).out))
        have HI0 := Lib.hid (HI.out.drewN nq)
        generalize W.drewN nq = W1 at HI0 ⊢
        clear c1 r0 r1
        go_wp2_with (go_at_call 55; refine (HFA _).out.mono ?_; rintro e w1 ⟨rfl, hb1⟩; have HI1 := Lib.hid (HI0.out.more hb1); have c1 := HI1.out.box h1 n1.1 n1.2.1 n1.2.2; have c2 := HI1.out.box h2 n2.1 n2.2.1 n2.2.2; have r1 := HI1.out.r1; rw [HA.out] at r1; have f1 := HI1.out.f1; obtain ⟨v, hv⟩ := hput.has HI1.out; have hf := hput.free HI1.out; have HI2 := Lib.hid (hput.set HI1.out y); have c1b := HI2.out.box h1 n1.1 n1.2.1 n1.2.2; have r1b := HI2.out.r1; (try dsimp only at r1b); rw [HA.out] at r1b; have f1b := HI2.out.f1)
        go_ret
        rw [HR.out]
        exact ⟨rfl, hfin HI1.out⟩
      · have hl0 : l = [] := by
          rcases Classical.em (l = []) with h | h
          · exact h
          · exact absurd ⟨rfl, by omega, h⟩ hok
        have hie : l.isEmpty = true := by rw [hl0]; rfl
        have hdl : decide ((F : Int) < (y.size : Int)) = false := decide_eq_false (by omega)
        clear hl3 hok HNIL HRES hl0
        go_enter Tryd.func83, Tryd.ntmps83
        go_wp2_with fail
        go_quiet ((go_at_call 84; exact Calls.quiet_of (HCUT _).out))
        have HI0 := Lib.hid (HI.out.drewN nq)
        generalize W.drewN nq = W1 at HI0 ⊢
        clear c1 r0 r1
        go_wp2_with (go_at_call 55; refine (HFA _).out.mono ?_; rintro e w1 ⟨rfl, hb1⟩; have HI1 := Lib.hid (HI0.out.more hb1); have c1 := HI1.out.box h1 n1.1 n1.2.1 n1.2.2; have c2 := HI1.out.box h2 n2.1 n2.2.1 n2.2.2; have r1 := HI1.out.r1; rw [HA.out] at r1; have f1 := HI1.out.f1; obtain ⟨v, hv⟩ := hput.has HI1.out; have hf := hput.free HI1.out; have HI2 := Lib.hid (hput.set HI1.out y); have c1b := HI2.out.box h1 n1.1 n1.2.1 n1.2.2; have r1b := HI2.out.r1; (try dsimp only at r1b); rw [HA.out] at r1b; have f1b := HI2.out.f1)
        go_ret
        rw [HR.out]
        exact ⟨rfl, hfin HI1.out⟩
end Go.Proofs.YtkklccccjmipkaaDoor.Fin

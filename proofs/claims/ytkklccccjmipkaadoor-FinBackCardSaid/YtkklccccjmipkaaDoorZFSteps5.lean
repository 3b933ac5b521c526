/- The steps of fin.Parse, by hand: steps one behind the other; steps if a text comes. -/
import Derived.Test.YtkklccccjmipkaaDoorZFSteps4
namespace Go.Proofs.YtkklccccjmipkaaDoor.Fin
open Go.RowKit Go.Proofs.YtkklccccjmipkaaDoorW.PrintWords Go.Proofs.YtkklccccjmipkaaDoorW.PrintLast GPlain Go.Proofs.YtkklccccjmipkaaDoor.PAll
set_option linter.unusedSimpArgs false
variable {w : World} {s : ByteArray} {R M C : Nat} {W0 : World}
/-- A closure, and what it does. -/
structure Clo where
  f : FuncId
  caps : Array Value
  sem : Sem
def Clo.ok (w : World) (s : ByteArray) (R M C : Nat) (W0 : World) (x : Clo) : Prop :=
  (∀ args W, (callFunc x.f args).run Tryd.prog W = .ok (.enter x.f args) W) ∧ StepOk w s R M C W0 x.f x.caps x.sem
def Clo.val (x : Clo) : Value := .func (.func x.f) #[] x.caps
theorem runS_cons_t {f : Sem} {r : List Sem} {st st2 : FS} (h : f st = (true, st2)) : runS (f :: r) st = runS r st2 := by
  have e : runS (f :: r) st = if (f st).1 = true then runS r (f st).2 else (false, (f st).2) := rfl
  rw [e]
  simp [h]
theorem runS_cons_f {f : Sem} {r : List Sem} {st st2 : FS} (h : f st = (false, st2)) : runS (f :: r) st = (false, st2) := by
  unfold runS
  simp [h]
theorem map_drop {L : List Clo} {j : Nat} {x : Clo} (h : L[j]? = some x) : (L.drop j).map Clo.sem = x.sem :: (L.drop (j + 1)).map Clo.sem := by
  obtain ⟨hl, hx⟩ := List.getElem?_eq_some_iff.1 h
  rw [List.drop_eq_getElem_cons hl, hx]
  rfl
set_option maxRecDepth 100000 in
set_option maxHeartbeats 2000000 in
theorem steps_run (L : List Clo) (hlen : L.length ≤ 100) (hL : ∀ x ∈ L, Clo.ok w s R M C W0 x) (B c : Nat) (hB : B ≠ R ∧ B ≠ M ∧ B ≠ C) (hrow : ∀ j x, L[j]? = some x → W0.cell? ⟨B, j, none⟩ = some x.val) (st : FS) (W : World) (hI : Inv w s R M C W0 W st) :
    Calls Tryd.prog 39 #[.slice (some ⟨B, 0, none⟩) L.length c] W fun e W' => e = .returned (.bool (runS (L.map Clo.sem) st).1) ∧ Inv w s R M C W0 W' (runS (L.map Clo.sem) st).2 := by
  obtain ⟨res, hres⟩ : ∃ res, runS (L.map Clo.sem) st = res := ⟨_, rfl⟩
  have HRES := Lib.hid hres
  rw [hres]
  clear hres
  have HI := Lib.hid hI
  have HL := Lib.hid hL
  have HROW := Lib.hid hrow
  clear hI hL hrow
  go_enter Tryd.func39, Tryd.ntmps39
  go_wp2
  go_loopw [7] (fun i wr => ∃ (j : Nat) (st2 : FS), i = .int .i64 (j : Int) ∧ j ≤ L.length ∧ Hid (runS ((L.drop j).map Clo.sem) st2 = res) ∧ Inv w s R M C W0 wr st2)
    (fun i _ => L.length - (intOf i).toNat)
  case atStart => exact ⟨0, st, rfl, Nat.zero_le _, Lib.hid HRES.out, HI.out⟩
  case round =>
    obtain ⟨j, st2, rfl, hj, HJ, hIj⟩ := hrel
    have HIj := Lib.hid hIj
    by_cases hlt : j < L.length
    · obtain ⟨x, hx⟩ : ∃ x, L[j]? = some x := ⟨_, List.getElem?_eq_getElem hlt⟩
      obtain ⟨hent, hstep⟩ := HL.out x (List.mem_of_getElem? hx)
      have hcell := hIj.box (HROW.out j x hx) hB.1 hB.2.1 hB.2.2
      have hd := HJ.out
      rw [map_drop hx] at hd
      obtain ⟨f, caps, sem⟩ := x
      unfold Clo.val at hcell
      dsimp only at hent hstep hcell hd
      have HS := Lib.hid (hstep st2 wr hIj)
      obtain ⟨⟨b, st3⟩, hsem⟩ : ∃ r, sem st2 = r := ⟨_, rfl⟩
      rw [hsem] at HS
      dsimp only at HS
      cases b
      · rw [runS_cons_f hsem] at hd
        have HD := Lib.hid hd
        clear hd hstep hx hIj HJ hsem
        go_wp2_with (go_at_fn f; refine HS.out.mono ?_; rintro e w1 ⟨rfl, hI1⟩)
        go_ret
        rw [← HD.out]
        exact ⟨rfl, hI1⟩
      · rw [runS_cons_t hsem] at hd
        have HD := Lib.hid hd
        clear hd hstep hx hIj HJ hsem
        go_wp2_with (go_at_fn f; refine HS.out.mono ?_; rintro e w1 ⟨rfl, hI1⟩)
        go_roundw
        case rel => exact ⟨j + 1, st3, by go_num, hlt, HD, hI1⟩
        case measure => simp [intOf]; omega
    · obtain rfl : j = L.length := by omega
      have h := HJ.out
      rw [List.drop_length] at h
      have HE : Hid ((true, st2) = res) := Lib.hid h
      clear h HJ hIj
      go_wp2
      go_ret
      rw [← HE.out]
      exact ⟨rfl, HIj.out⟩
theorem com_prefix : ∀ x t : List UInt8, Lib.hasPrefix x t = decide (com x t = t.length) := by
  intro x t
  unfold Lib.hasPrefix
  induction t generalizing x with
  | nil => cases x <;> simp [com, List.isPrefixOf]
  | cons b t ih =>
    cases x with
    | nil => simp [com, List.isPrefixOf]
    | cons a x =>
      unfold com
      have := ih x
      by_cases h : a = b
      · subst h
        simp [List.isPrefixOf, this]
      · have h2 : (b == a) = false := beq_eq_false_iff_ne.2 (fun e => h e.symm)
        simp [List.isPrefixOf, h2, h]
set_option maxRecDepth 100000 in
set_option maxHeartbeats 4000000 in
theorem maybe_step (hs : s.size ≤ 1048576) (t : ByteArray) (L : List Clo) (hlen : L.length ≤ 100) (hL : ∀ x ∈ L, Clo.ok w s R M C W0 x) (B c B1 B2 B3 : Nat) (hB : B ≠ R ∧ B ≠ M ∧ B ≠ C) (hrow : ∀ j x, L[j]? = some x → W0.cell? ⟨B, j, none⟩ = some x.val)
    (h1 : W0.cell? ⟨B1, 0, none⟩ = some (.pointer (some ⟨R, 0, none⟩))) (h2 : W0.cell? ⟨B2, 0, none⟩ = some (.string t)) (h3 : W0.cell? ⟨B3, 0, none⟩ = some (.slice (some ⟨B, 0, none⟩) L.length c))
    (n1 : B1 ≠ R ∧ B1 ≠ M ∧ B1 ≠ C) (n2 : B2 ≠ R ∧ B2 ≠ M ∧ B2 ≠ C) (n3 : B3 ≠ R ∧ B3 ≠ M ∧ B3 ≠ C) :
    StepOk w s R M C W0 80 #[.pointer (some ⟨B1, 0, none⟩), .pointer (some ⟨B2, 0, none⟩), .pointer (some ⟨B3, 0, none⟩)] (maybeS s t (L.map Clo.sem)) := by
  intro st W hI
  have c1 := hI.box h1 n1.1 n1.2.1 n1.2.2
  have c2 := hI.box h2 n2.1 n2.2.1 n2.2.2
  have c3 := hI.box h3 n3.1 n3.2.1 n3.2.2
  have r0 := hI.r0
  have r1 := hI.r1
  have hle := hI.le
  have HI := Lib.hid hI
  obtain ⟨a, ha⟩ : ∃ a, st.at_ = a := ⟨_, rfl⟩
  rw [ha] at r1 hle
  obtain ⟨x, hx⟩ : ∃ x, s.extract a s.size = x := ⟨_, rfl⟩
  have hxl : x.data.toList = s.data.toList.drop a := by rw [← hx]; exact Lib.extract_to_end s a
  have hcut : ∀ W : World, (Instr.slice 9 (.string s) (some (.int .i64 (a : Int))) none none).run Tryd.prog W = .ok (.string x) W := fun W => by
    rw [run_slice_string_from_if W 9 s .i64 _ Tryd.underlying9, if_pos (by omega), Int.toNat_natCast, hx]
  obtain ⟨p, hp⟩ : ∃ p, Lib.hasPrefix x.data.toList t.data.toList = p := ⟨_, rfl⟩
  have HPF := fun W => Lib.hid (Tryd.strings_HasPrefix x t W)
  rw [hp] at HPF
  rw [hxl, com_prefix, len_data] at hp
  cases p
  · have hres : maybeS s t (L.map Clo.sem) st = (true, st) := by unfold maybeS; rw [ha, if_neg (of_decide_eq_false hp)]
    rw [hres]
    clear hI ha hx hxl hp hres
    go_enter Tryd.func80, Tryd.ntmps80
    go_wp2_with fail
    go_quiet ((go_at_call 81; exact Calls.quiet_of_same (HPF _).out))
    go_wp2
    go_ret
    exact ⟨rfl, HI.out.drewN nq⟩
  · have hres : maybeS s t (L.map Clo.sem) st = runS (L.map Clo.sem) st := by unfold maybeS; rw [ha, if_pos (of_decide_eq_true hp)]
    rw [hres]
    have HST := fun W (h : Hid (Inv w s R M C W0 W st)) => Lib.hid (steps_run L hlen hL B c hB hrow st W h.out)
    clear hI ha hx hxl hp hres
    go_enter Tryd.func80, Tryd.ntmps80
    go_wp2_with fail
    refine wp_region_still_tail 14 (by kernel_rfl) (by kernel_rfl) ?_
    simp only [List.take_succ_cons, List.take_zero, List.drop_succ_cons, List.drop_zero]
    repeat still_step
    still_call (HPF _).out
    repeat still_step
    refine wpStill_nil ?_
    change wpList _ _ _ _ _ W.drew
    have HID := Lib.hid (HI.out.drew)
    generalize W.drew = W2 at HID ⊢
    go_wp2_with (go_at_call 39; refine (HST _ HID).out.mono ?_; rintro e w1 ⟨rfl, hI1⟩)
    go_ret
    exact ⟨rfl, hI1⟩
end Go.Proofs.YtkklccccjmipkaaDoor.Fin

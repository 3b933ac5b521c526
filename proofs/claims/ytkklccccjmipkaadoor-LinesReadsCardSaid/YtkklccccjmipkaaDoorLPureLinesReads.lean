/- LinesReads, in plain Lean: the program and the document read a body alike. -/
import Derived.Test.YtkklccccjmipkaaDoorLPureLin5
import Derived.Test.YtkklccccjmipkaaDoorLPLRds
namespace Go.Proofs.YtkklccccjmipkaaDoor.Pure
open Go.RowKit Go.Proofs.YtkklccccjmipkaaDoor.PAll Go.Proofs.YtkklccccjmipkaaDoorW.PrintWords GPlain
open Go.Proofs.YtkklccccjmipkaaDoor.Lin
theorem same_l0 (o : List LF) (ho : o.length ≤ 1000000) : ∀ (n i k : Nat), i + n = o.length → n < k → remitterlaw15_same.l0 k (o.map lfS) (o.map l69) (i : Int) = some true
  | 0, i, k, hi, hk => by
    obtain ⟨k, rfl⟩ : ∃ k', k = k' + 1 := ⟨k - 1, by omega⟩
    rw [remitterlaw15_same.l0, List.length_map, if_neg (by omega)]
  | n + 1, i, k, hi, hk => by
    obtain ⟨k, rfl⟩ : ∃ k', k = k' + 1 := ⟨k - 1, by omega⟩
    rw [remitterlaw15_same.l0, List.length_map, List.length_map, if_pos (by omega), if_pos (by omega), if_pos (by omega), rd68 o i (by omega), rd69' o i (by omega), wrap_ok (x := (i : Int) + 1) (by omega) (by omega), show ((i : Int) + 1) = ((i + 1 : Nat) : Int) by omega, same_l0 o ho n (i + 1) k (by omega) (by omega)]
    unfold lfS l69
    simp
theorem same_f (o : List LF) (ho : o.length ≤ 1000000) (k : Nat) (hk : o.length < k) : remitterlaw15_same.f k (o.map lfS) (o.map l69) = some true := by
  unfold remitterlaw15_same.f
  rw [if_pos (by rw [List.length_map, List.length_map])]
  exact same_l0 o ho o.length 0 k (by omega) hk
theorem lines_l0 (o : List LF) (ho : o.length ≤ 1000000) (a e : Int) (L : List ByteArray) (hL : L.length ≤ 1000000) : ∀ (n i k : Nat), i + n = L.length → n + o.length + 5 < k → remitterlaw15_LinesReads.l0 k (o.map lfS) a e (o.map l69) a e L L (i : Int) = some true
  | 0, i, k, hi, hk => by
    obtain ⟨k, rfl⟩ : ∃ k', k = k' + 1 := ⟨k - 1, by omega⟩
    rw [remitterlaw15_LinesReads.l0, if_neg (by omega), same_f o ho k (by omega), Option.bind_some, if_pos rfl, if_pos rfl, if_pos rfl, wakes_bind]
  | n + 1, i, k, hi, hk => by
    obtain ⟨k, rfl⟩ : ∃ k', k = k' + 1 := ⟨k - 1, by omega⟩
    rw [remitterlaw15_LinesReads.l0, if_pos (by omega), if_pos (by omega), if_pos (by omega), if_pos rfl, wrap_ok (x := (i : Int) + 1) (by omega) (by omega), show ((i : Int) + 1) = ((i + 1 : Nat) : Int) by omega, lines_l0 o ho a e L hL n (i + 1) k (by omega) (by omega)]
theorem lread_len (s : List UInt8) : (lread xokL tgL (bs s)).1.length ≤ s.length + 1 := by
  have key : ∀ (R : List (Nat × ByteArray)) (o : List LF) (emp : Int) (n : Nat) (o' : List LF) (emp' : Int), lrun xokL tgL o emp n R = .inl (o', emp') → o'.length ≤ o.length + R.length := by
    intro R
    induction R with
    | nil =>
      intro o emp n o' emp' h
      have h : (Sum.inl (o, emp) : (List LF × Int) ⊕ (Int × Int)) = .inl (o', emp') := h
      injection h with h
      injection h with h1 h2
      rw [h1]
      exact Nat.le_refl _
    | cons x R ih =>
      intro o emp n o' emp' h
      have h : (match lstep xokL tgL o emp (n + 1) x with | .inr e => Sum.inr e | .inl (o', emp') => lrun xokL tgL o' emp' (n + 1) R) = .inl (o', emp') := h
      cases hs : lstep xokL tgL o emp (n + 1) x with
      | inr e => rw [hs] at h; cases h
      | inl q =>
        obtain ⟨o2, emp2⟩ := q
        rw [hs] at h
        have h1 := ih _ _ _ _ _ h
        have h2 : o2.length ≤ o.length + 1 := by
          obtain ⟨at_, x⟩ := x
          obtain ⟨x, rfl⟩ := bs_ex x
          obtain ⟨N, hN⟩ : ∃ N, ∀ f ∈ o, f.text.size ≤ N := by
            clear hs h ih h1
            induction o with
            | nil => exact ⟨0, by simp⟩
            | cons f o ih =>
              obtain ⟨N, hN⟩ := ih
              refine ⟨N + f.text.size, fun g hg => ?_⟩
              rcases List.mem_cons.1 hg with h | h
              · rw [h]; omega
              · have := hN g h; omega
          unfold lstep at hs
          split at hs
          · cases hs
          split at hs
          · cases hs
          split at hs
          · cases hs
          split at hs
          · injection hs with hs
            injection hs with h1 h2
            rw [← h1, List.length_append]; exact Nat.le_refl _
          split at hs
          · cases hs
          · rename_i c5
            injection hs with hs
            injection hs with h1 h2
            have h0 : o ≠ [] := fun e => c5 (.inl e)
            obtain ⟨oi, f, rfl⟩ : ∃ oi f, o = oi ++ [f] := ⟨o.dropLast, o.getLast h0, (List.dropLast_concat_getLast h0).symm⟩
            rw [← h1, addText_concat, List.length_append, List.length_append]
            exact Nat.le_succ _
        simp only [List.length_cons]
        omega
  have hpl : ∀ (a : Nat) (R : List ByteArray), (placesFrom a R).length = R.length := by
    intro a R
    induction R generalizing a with
    | nil => rfl
    | cons x R ih => show ((a, x) :: placesFrom (a + x.size + 2) R).length = _; rw [List.length_cons, List.length_cons, ih]
  unfold lread
  rw [linesB_cl]
  cases h : lrun xokL tgL [] (-1) 0 (placesFrom 0 ((cl s).map bs)) with
  | inr e => exact Nat.zero_le _
  | inl q =>
    obtain ⟨o, emp⟩ := q
    have := key _ _ _ _ _ _ h
    rw [hpl, List.length_map] at this
    have hc := cl_length s
    dsimp only
    split
    · exact Nat.zero_le _
    · simp only [List.length_nil] at this
      dsimp only
      omega
theorem LinesReads : remitterlaw15_LinesReads.Pure := by
  intro a0 _
  obtain ⟨s, rfl⟩ := bs_ex a0
  refine ⟨50000, ?_⟩
  unfold remitterlaw15_LinesReads.f
  by_cases h : ((bs s).size : Int) > 5000
  · rw [if_pos h]
    exact wakes_bind
  · have hs : s.length ≤ 5000 := by rw [bs_size] at h; omega
    have hl := lread_len s
    rw [if_neg h, prog_read s (by omega), Option.bind_some, ref_read s (by omega) 50000 (by omega), Option.bind_some, split_f s (by omega), Option.bind_some, cut_f s (by omega) 50000 (by omega), Option.bind_some, if_pos rfl]
    have hc := cl_length s
    exact lines_l0 _ (by omega) _ _ _ (by rw [List.length_map]; omega) _ 0 50000 (by rw [Nat.zero_add]) (by rw [List.length_map]; omega)
end Go.Proofs.YtkklccccjmipkaaDoor.Pure

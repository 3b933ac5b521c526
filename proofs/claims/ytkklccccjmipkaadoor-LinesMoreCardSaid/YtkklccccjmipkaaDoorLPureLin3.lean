/- The lines' laws in plain Lean: the writer; two bodies in one; what is read is written; the longest body. -/
import Derived.Test.YtkklccccjmipkaaDoorLPureLin2
import Derived.Test.YtkklccccjmipkaaDoorLLWrite
namespace Go.Proofs.YtkklccccjmipkaaDoor.Pure
open Go.RowKit Go.Proofs.YtkklccccjmipkaaDoor.PAll Go.Proofs.YtkklccccjmipkaaDoorW.PrintWords GPlain
open Go.Proofs.YtkklccccjmipkaaDoor.Lin
set_option linter.unusedSimpArgs false
def t68 (f : S69) : S68 := ⟨f.f0, f.f1, f.f2⟩
theorem rd69 (m : List S69) (i : Nat) (h : i < m.length) : rd_T69 m (i : Int) = m[i] := by
  unfold rd_T69
  rw [Int.toNat_natCast, List.getD_eq_getElem?_getD, List.getElem?_eq_getElem h]; rfl
theorem wb_next (m : List S69) (i : Nat) (h : i < m.length) : wbytes true ((m.map t68).take (i + 1)) = wbytes true ((m.map t68).take i) ++ ((if i = 0 then [] else [13, 10]) ++ ([58] ++ m[i].f0.data.toList ++ [58] ++ m[i].f1.data.toList)) := by
  rw [List.take_add_one, List.getElem?_eq_getElem (by rw [List.length_map]; exact h), List.getElem_map]
  show wbytes true (_ ++ [t68 m[i]]) = _
  rw [wbytes_snoc]
  congr 2
  by_cases h0 : i = 0
  · subst h0; rfl
  · rw [if_neg h0]
    cases hm : (m.map t68).take i with
    | nil => have := congrArg List.length hm; rw [List.length_take, List.length_map] at this; simp only [List.length_nil] at this; omega
    | cons a r => rfl
theorem wr_l1 (m : List S69) (r : List S69) (t : ByteArray) (hr : r.length = m.length) (hm : m.length ≤ 1000) : ∀ (n i k : Nat), i + n = m.length → n < k →
    remitterref15_Write.l1 k m t r (i : Int) = some (if (r.drop i).map (fun x => (x.f0.toList, x.f1.toList)) = (m.drop i).map (fun x => (x.f0.toList, x.f1.toList)) then (t, 0) else (⟨#[]⟩, 31))
  | 0, i, k, hi, hk => by
    obtain ⟨k, rfl⟩ : ∃ k', k = k' + 1 := ⟨k - 1, by omega⟩
    rw [remitterref15_Write.l1, if_neg (by omega), List.drop_of_length_le (by omega), List.drop_of_length_le (by omega), if_pos rfl]
  | n + 1, i, k, hi, hk => by
    obtain ⟨k, rfl⟩ : ∃ k', k = k' + 1 := ⟨k - 1, by omega⟩
    rw [remitterref15_Write.l1, if_pos (by omega), if_pos (by omega), if_pos (by omega), rd69 r i (by omega), rd69 m i (by omega)]
    rw [List.drop_eq_getElem_cons (l := r) (i := i) (by omega), List.drop_eq_getElem_cons (l := m) (i := i) (by omega), List.map_cons, List.map_cons]
    by_cases h0 : (r[i]'(by omega)).f0.toList = (m[i]'(by omega)).f0.toList
    · by_cases h1 : (r[i]'(by omega)).f1.toList = (m[i]'(by omega)).f1.toList
      · rw [if_pos h0, if_pos h1, show wrap64 ((i : Int) + 1) = ((i + 1 : Nat) : Int) by rw [wrap_ok (by omega) (by omega)]; omega, wr_l1 m r t hr hm n (i + 1) k (by omega) (by omega)]
        congr 1
        rw [h0, h1]
        by_cases h2 : (r.drop (i + 1)).map (fun x => (x.f0.toList, x.f1.toList)) = (m.drop (i + 1)).map (fun x => (x.f0.toList, x.f1.toList))
        · rw [if_pos h2, if_pos (by rw [h2])]
        · rw [if_neg h2, if_neg (fun e => h2 (List.cons.inj e).2)]
      · rw [if_pos h0, if_neg h1, if_neg (fun e => h1 (Prod.mk.inj (List.cons.inj e).1).2)]
    · rw [if_neg h0, if_neg (fun e => h0 (Prod.mk.inj (List.cons.inj e).1).1)]
theorem same_lf (o : List LF) (m : List S69) : sameF (o.map lfS) (m.map t68) = decide ((o.map l69).map (fun x => (x.f0.toList, x.f1.toList)) = m.map (fun x => (x.f0.toList, x.f1.toList))) := by
  unfold sameF
  rw [Bool.eq_iff_iff, beq_iff_eq, decide_eq_true_iff, List.map_map, List.map_map, List.map_map]
  exact Iff.rfl
theorem wr_l0 (m : List S69) (hm : m.length ≤ 1000) (hsz : ∀ n, (wbytes true ((m.map t68).take n)).length ≤ 100000) : ∀ (n i k : Nat), i + n = m.length → 500000 + n < k →
    remitterref15_Write.l0 k m (bs (wbytes true ((m.map t68).take i))) (i : Int) = some (lwrite (m.map t68))
  | 0, i, k, hi, hk => by
    obtain ⟨k, rfl⟩ : ∃ k', k = k' + 3 := ⟨k - 3, by omega⟩
    have ht : (m.map t68).take i = m.map t68 := List.take_of_length_le (by rw [List.length_map]; omega)
    have hl := hsz i
    rw [ht] at hl ⊢
    have hpr := prog_read (wbytes true (m.map t68)) (by omega)
    rw [remitterref15_Write.l0, if_neg (by omega), ref_read _ (by omega) (k + 2) (by omega), Option.bind_some]
    dsimp only
    generalize lread xokL tgL (bs (wbytes true (m.map t68))) = q at hpr ⊢
    obtain ⟨o, a, e⟩ := q
    dsimp only at hpr ⊢
    by_cases he : e = 0
    · subst he
      rw [if_pos rfl, remitterref15_Write.j1]
      by_cases hlen : (o.map l69).length = m.length
      · have hb : (((o.map l69).length : Int) != (m.length : Int)) = false := bne_eq_false_iff_eq.2 (by omega)
        have := wr_l1 m (o.map l69) (bs (wbytes true (m.map t68))) hlen hm m.length 0 (k + 1) (by omega) (by omega)
        rw [show ((0 : Nat) : Int) = 0 from rfl, List.drop_zero, List.drop_zero] at this
        rw [hb, if_neg Bool.false_ne_true, this]
        have hs := same_lf o m
        by_cases h : (o.map l69).map (fun x => (x.f0.toList, x.f1.toList)) = m.map (fun x => (x.f0.toList, x.f1.toList))
        · rw [if_pos h, lwrite_yes hpr ⟨rfl, by rw [hs]; exact decide_eq_true h⟩]; rfl
        · rw [if_neg h, lwrite_no hpr (fun h2 => h (of_decide_eq_true (by rw [← hs]; exact h2.2)))]
      · have hb : (((o.map l69).length : Int) != (m.length : Int)) = true := bne_iff_ne.2 (by omega)
        rw [hb, if_pos rfl, lwrite_no hpr (fun h2 => hlen (by have := sameF_len h2.2; rw [List.length_map, List.length_map] at this; rw [List.length_map]; exact this))]
    · rw [if_neg he, remitterref15_Write.j1, if_pos rfl, lwrite_no hpr (fun h2 => he h2.1)]
  | n + 1, i, k, hi, hk => by
    obtain ⟨k, rfl⟩ : ∃ k', k = k' + 1 := ⟨k - 1, by omega⟩
    have hw := wb_next m i (by omega)
    have hs1 := hsz (i + 1)
    have hs0 := hsz i
    have ih := wr_l0 m hm hsz n (i + 1) k (by omega) (by omega)
    rw [hw] at hs1 ih
    generalize wbytes true ((m.map t68).take i) = W at hs0 hs1 ih ⊢
    have hwr := Lib.hid (show wrap64 ((i : Int) + 1) = ((i + 1 : Nat) : Int) by rw [wrap_ok (by omega) (by omega)]; omega)
    have hrd := rd69 m i (by omega)
    rw [remitterref15_Write.l0, if_pos (by omega), hrd, hwr.out]
    generalize hf : m[i]'(by omega) = f at hs1 ih ⊢
    obtain ⟨f0, f1, f2⟩ := f
    obtain ⟨a, rfl⟩ := bs_ex f0
    obtain ⟨b, rfl⟩ := bs_ex f1
    rw [bs_data, bs_data] at hs1 ih
    have e13 : (⟨#[13, 10]⟩ : ByteArray) = bs [13, 10] := rfl
    have e58 : (⟨#[58]⟩ : ByteArray) = bs [58] := rfl
    dsimp only
    simp only [e13, e58, bs_append, bs_size, List.length_append, List.length_cons, List.length_nil] at hs1 ⊢
    by_cases h0 : i = 0
    · rw [if_pos h0] at hs1 ih
      simp only [List.length_nil] at hs1
      rw [if_neg (by omega), if_pos (by omega), if_pos (by omega), if_pos (by omega), if_pos (by omega), if_pos (by omega), ← ih]
      simp only [List.append_assoc, List.nil_append]
    · rw [if_neg h0] at hs1 ih
      simp only [List.length_cons, List.length_nil] at hs1
      rw [if_pos (by omega), if_pos (by omega), if_pos (by omega), if_pos (by omega), if_pos (by omega), if_pos (by omega), if_pos (by omega), ← ih]
      simp only [List.append_assoc]
theorem ref_write (m : List S69) (hm : m.length ≤ 1000) (hsz : ∀ n, (wbytes true ((m.map t68).take n)).length ≤ 100000) (k : Nat) (hk : 510000 < k) : remitterref15_Write.f k m = some (lwrite (m.map t68)) := by
  unfold remitterref15_Write.f
  exact wr_l0 m hm hsz m.length 0 k (by omega) (by omega)
theorem lrun_append : ∀ (l r : List (Nat × ByteArray)) (o : List LF) (emp : Int) (n : Nat),
    lrun xokL tgL o emp n (l ++ r) = match lrun xokL tgL o emp n l with
      | .inr e => .inr e
      | .inl (o', emp') => lrun xokL tgL o' emp' (n + l.length) r
  | [], r, o, emp, n => rfl
  | y :: l, r, o, emp, n => by
    show (match lstep xokL tgL o emp (n + 1) y with | .inr e => Sum.inr e | .inl (o', emp') => lrun xokL tgL o' emp' (n + 1) (l ++ r)) = match (match lstep xokL tgL o emp (n + 1) y with | .inr e => Sum.inr e | .inl (o', emp') => lrun xokL tgL o' emp' (n + 1) l) with | .inr e => Sum.inr e | .inl (o', emp') => lrun xokL tgL o' emp' (n + (l.length + 1)) r
    cases lstep xokL tgL o emp (n + 1) y with
    | inr e => rfl
    | inl e =>
      dsimp only
      rw [lrun_append l r, show n + 1 + l.length = n + (l.length + 1) by omega]
theorem inl_c {a b : List LF} {c : Int} (h : a = b) : (Sum.inl (a, c) : (List LF × Int) ⊕ (Int × Int)) = .inl (b, c) := by rw [h]
def mv (d : Nat) (f : LF) : LF := { f with at_ := f.at_ + (d : Int) }
theorem step_more (o1 o o' : List LF) (emp1 emp emp' : Int) (n1 n a d : Nat) (x : ByteArray) (he : (emp < 0 ∧ emp1 < 0) ∨ (0 ≤ emp ∧ 0 ≤ emp1)) (h : lstep xokL tgL o emp n (a, x) = .inl (o', emp')) :
    (∃ p, lstep xokL tgL (o1 ++ o.map (mv d)) emp1 n1 (a + d, x) = .inr (p, 3)) ∨ ∃ emp1', lstep xokL tgL (o1 ++ o.map (mv d)) emp1 n1 (a + d, x) = .inl (o1 ++ o'.map (mv d), emp1') ∧ ((emp' < 0 ∧ emp1' < 0) ∨ (0 ≤ emp' ∧ 0 ≤ emp1')) := by
  unfold lstep at h ⊢
  split at h
  · cases h
  rename_i c1
  split at h
  · cases h
  split at h
  · cases h
  rename_i c3
  rw [if_neg (c := _ ∧ 0 ≤ emp1) (fun e => c1 ⟨e.1, by rcases he with h | h <;> omega⟩)]
  by_cases hn : 2000 < n1
  · rw [if_pos hn]; exact .inl ⟨_, rfl⟩
  rw [if_neg hn, if_neg (c := xokL (a + d, x).2 = false ∨ _) c3]
  right
  split at h
  · rename_i c4
    injection h with h
    injection h with h1 h2
    subst h1
    rw [if_pos (c := (tgL (a + d, x).2).2.2 = true) c4]
    refine ⟨_, inl_c ?_, ?_⟩
    · rw [List.map_append, ← List.append_assoc]
      congr 1
    · rw [← h2]
      split
      · exact .inr ⟨Int.natCast_nonneg _, Int.natCast_nonneg _⟩
      · exact he
  · rename_i c4
    rw [if_neg (c := (tgL (a + d, x).2).2.2 = true) c4]
    split at h
    · cases h
    rename_i c5
    injection h with h
    injection h with h1 h2
    subst h1
    have h0 : o ≠ [] := fun e => c5 (.inl e)
    rw [if_neg (c := o1 ++ o.map (mv d) = [] ∨ _) (by
      rintro (h | h)
      · exact h0 (List.map_eq_nil_iff.1 (List.append_eq_nil_iff.1 h).2)
      · exact c5 (.inr h))]
    obtain ⟨oi, f, rfl⟩ : ∃ oi f, o = oi ++ [f] := ⟨o.dropLast, o.getLast h0, (List.dropLast_concat_getLast h0).symm⟩
    refine ⟨-1, inl_c ?_, .inl ⟨by rw [← h2]; decide, by decide⟩⟩
    rw [addText_concat, List.map_append, ← List.append_assoc]
    show addText ((o1 ++ oi.map (mv d)) ++ [mv d f]) x = _
    rw [addText_concat, List.map_append, ← List.append_assoc]
    rfl
theorem run_more (o1 : List LF) (d : Nat) : ∀ (R : List ByteArray) (o o' : List LF) (emp1 emp emp' : Int) (n1 n a : Nat), ((emp < 0 ∧ emp1 < 0) ∨ (0 ≤ emp ∧ 0 ≤ emp1)) → lrun xokL tgL o emp n (placesFrom a R) = .inl (o', emp') →
    (∃ p, lrun xokL tgL (o1 ++ o.map (mv d)) emp1 n1 (placesFrom (a + d) R) = .inr (p, 3)) ∨ ∃ emp1', lrun xokL tgL (o1 ++ o.map (mv d)) emp1 n1 (placesFrom (a + d) R) = .inl (o1 ++ o'.map (mv d), emp1') ∧ ((emp' < 0 ∧ emp1' < 0) ∨ (0 ≤ emp' ∧ 0 ≤ emp1'))
  | [], o, o', emp1, emp, emp', n1, n, a, he, h => by
    have h : (Sum.inl (o, emp) : (List LF × Int) ⊕ (Int × Int)) = .inl (o', emp') := h
    injection h with h
    injection h with h1 h2
    subst h1 h2
    exact .inr ⟨emp1, rfl, he⟩
  | x :: R, o, o', emp1, emp, emp', n1, n, a, he, h => by
    have h : (match lstep xokL tgL o emp (n + 1) (a, x) with | .inr e => Sum.inr e | .inl (o', emp') => lrun xokL tgL o' emp' (n + 1) (placesFrom (a + x.size + 2) R)) = .inl (o', emp') := h
    show (∃ p, (match lstep xokL tgL (o1 ++ o.map (mv d)) emp1 (n1 + 1) (a + d, x) with | .inr e => Sum.inr e | .inl (o', emp') => lrun xokL tgL o' emp' (n1 + 1) (placesFrom (a + d + x.size + 2) R)) = .inr (p, 3)) ∨ ∃ emp1', (match lstep xokL tgL (o1 ++ o.map (mv d)) emp1 (n1 + 1) (a + d, x) with | .inr e => Sum.inr e | .inl (o', emp') => lrun xokL tgL o' emp' (n1 + 1) (placesFrom (a + d + x.size + 2) R)) = .inl (o1 ++ o'.map (mv d), emp1') ∧ _
    cases hs : lstep xokL tgL o emp (n + 1) (a, x) with
    | inr e => rw [hs] at h; cases h
    | inl q =>
      obtain ⟨o2, emp2⟩ := q
      rw [hs] at h
      dsimp only at h
      rcases step_more o1 o o2 emp1 emp emp2 (n1 + 1) (n + 1) a d x he hs with ⟨p, hp⟩ | ⟨e2, hp, he2⟩
      · rw [hp]; exact .inl ⟨p, rfl⟩
      · rw [hp]
        dsimp only
        have := run_more o1 d R o2 o' e2 emp2 emp' (n1 + 1) (n + 1) (a + x.size + 2) he2 h
        rw [show a + x.size + 2 + d = a + d + x.size + 2 by omega] at this
        exact this
theorem lstep_err {o : List LF} {emp : Int} {n : Nat} {x : Nat × ByteArray} {e : Int × Int} (h : lstep xokL tgL o emp n x = .inr e) : e.2 = 31 ∨ e.2 = 3 := by
  unfold lstep at h
  split at h
  · injection h with h; rw [← h]; exact .inl rfl
  split at h
  · injection h with h; rw [← h]; exact .inr rfl
  split at h
  · injection h with h; rw [← h]; exact .inl rfl
  split at h
  · cases h
  split at h
  · injection h with h; rw [← h]; exact .inl rfl
  · cases h
theorem lrun_err' : ∀ (R : List (Nat × ByteArray)) (o : List LF) (emp : Int) (n : Nat) (e : Int × Int), lrun xokL tgL o emp n R = .inr e → e.2 = 31 ∨ e.2 = 3
  | [], _, _, _, _, h => by cases h
  | x :: R, o, emp, n, e, h => by
    have h : (match lstep xokL tgL o emp (n + 1) x with | .inr e => Sum.inr e | .inl (o', emp') => lrun xokL tgL o' emp' (n + 1) R) = .inr e := h
    cases hs : lstep xokL tgL o emp (n + 1) x with
    | inr e2 => rw [hs] at h; injection h with h; rw [← h]; exact lstep_err hs
    | inl q => rw [hs] at h; exact lrun_err' R _ _ _ e h
theorem lrun_err (l : List (List UInt8)) {e : Int × Int} (h : lrun xokL tgL [] (-1) 0 (placesFrom 0 (l.map bs)) = .inr e) (h0 : e.2 = 0) : False := by
  rcases lrun_err' _ _ _ _ _ h with h | h <;> omega
theorem read_ok {s : List UInt8} {o : List LF} {a e : Int} (h : lread xokL tgL (bs s) = (o, a, e)) (he : e = 0) : a = (s.length : Int) ∧ ∃ emp, lrun xokL tgL [] (-1) 0 (placesFrom 0 ((cl s).map bs)) = .inl (o, emp) ∧ emp < 0 := by
  unfold lread at h
  rw [linesB_cl] at h
  cases hr : lrun xokL tgL [] (-1) 0 (placesFrom 0 ((cl s).map bs)) with
  | inr x =>
    rw [hr] at h
    dsimp only at h
    injection h with h1 h2
    injection h2 with h2 h3
    exfalso
    exact lrun_err (cl s) hr (by rw [← he, ← h3])
  | inl q =>
    obtain ⟨o2, emp⟩ := q
    rw [hr] at h
    dsimp only at h
    by_cases h0 : 0 ≤ emp
    · rw [if_pos h0] at h
      injection h with h1 h2
      injection h2 with h2 h3
      exfalso; omega
    · rw [if_neg h0] at h
      injection h with h1 h2
      injection h2 with h2 h3
      rw [bs_size] at h2
      subst h1
      exact ⟨h2.symm, emp, rfl, by omega⟩
theorem read_more {s t : List UInt8} {o1 o2 : List LF} {a b : Int} (h1 : lread xokL tgL (bs s) = (o1, a, 0)) (h2 : lread xokL tgL (bs t) = (o2, b, 0)) :
    (∃ p, lread xokL tgL (bs (s ++ 13 :: 10 :: t)) = ([], p, 3)) ∨ lread xokL tgL (bs (s ++ 13 :: 10 :: t)) = (o1 ++ o2.map (mv (s.length + 2)), ((s.length + 2 + t.length : Nat) : Int), 0) := by
  obtain ⟨_, e1, r1, n1⟩ := read_ok h1 rfl
  obtain ⟨_, e2, r2, n2⟩ := read_ok h2 rfl
  have hpl : placesFrom 0 ((cl (s ++ 13 :: 10 :: t)).map bs) = placesFrom 0 ((cl s).map bs) ++ placesFrom (0 + (s.length + 2)) ((cl t).map bs) := by
    rw [cl_append, List.map_append, placesFrom_append, cl_end, Nat.add_assoc]
  have := run_more o1 (s.length + 2) ((cl t).map bs) [] o2 e1 (-1) e2 (0 + (placesFrom 0 ((cl s).map bs)).length) 0 0 (.inl ⟨by decide, n1⟩) r2
  rw [show o1 ++ ([] : List LF).map (mv (s.length + 2)) = o1 from List.append_nil _] at this
  unfold lread
  rw [linesB_cl, hpl, lrun_append, r1]
  dsimp only
  rcases this with ⟨p, hp⟩ | ⟨e3, hp, he⟩
  · rw [hp]; exact .inl ⟨p, rfl⟩
  · rw [hp]
    right
    dsimp only
    rw [if_neg (by rcases he with h | h <;> omega), bs_size]
    simp only [List.length_append, List.length_cons, Prod.mk.injEq, true_and, and_true]
    omega
end Go.Proofs.YtkklccccjmipkaaDoor.Pure

/- The document's reader of lines is the program's. -/
import Derived.Test.YtkklccccjmipkaaDoorLPureLin1
namespace Go.Proofs.YtkklccccjmipkaaDoor.Pure
open Go.RowKit Go.Proofs.YtkklccccjmipkaaDoor.PAll Go.Proofs.YtkklccccjmipkaaDoorW.PrintWords GPlain
open Go.Proofs.YtkklccccjmipkaaDoor.Lin
set_option linter.unusedSimpArgs false
/-- A field, as the document's print has it. -/
def l69 (f : LF) : S69 := ⟨f.tag, f.text, f.at_⟩
theorem head_bs (x : List UInt8) : head_ (bs x) = bt (bs x) 0 := by
  rw [show (0 : Int) = ((0 : Nat) : Int) from rfl, bt_nat]
  unfold head_
  rw [bs_data]
theorem step_r (s : List UInt8) (L P R : List (List UInt8)) (x : List UInt8) (o : List LF) (emp : Int) (at_ k : Nat) (hL : L = P ++ x :: R) (hat : at_ + x.length + 2 ≤ 1000000) (hP : P.length ≤ 1000000)
    (ho : ∀ f ∈ o, f.text.size ≤ at_) (hol : o.length ≤ P.length) (hk : x.length + 20 < k) :
    remitterref15_Read.l0 (k + 2) (bs s) (L.map bs) (o.map l69) (at_ : Int) emp (P.length : Int) = match lstep xokL tgL o emp (P.length + 1) (at_, bs x) with
      | .inr e => some ([], e.1, e.2)
      | .inl (o', emp') => remitterref15_Read.l0 k (bs s) (L.map bs) (o'.map l69) ((at_ + x.length + 2 : Nat) : Int) emp' ((P.length + 1 : Nat) : Int) := by
  have hrd : rdOf ByteArray.empty (L.map bs) (P.length : Int) = bs x := by
    unfold rdOf
    rw [Int.toNat_natCast, hL, List.map_append, List.getD_eq_getElem?_getD, List.getElem?_append_right (by rw [List.length_map]; exact Nat.le_refl _), List.length_map, Nat.sub_self]
    rfl
  have hlen : (L.map bs).length = P.length + (R.length + 1) := by rw [List.length_map, hL, List.length_append, List.length_cons]
  have spec := tg_spec x
  rw [remitterref15_Read.l0, hlen, if_pos (by omega), if_pos (by omega), hrd, tag_r x (k + 1) (by omega), Option.bind_some]
  have hj : (if ((tagN x : Nat) : Int) > 0 then remitterref15_Read.j1 (k + 1) (bs s) (L.map bs) (o.map l69) (at_ : Int) emp (P.length : Int) (bs x) ((tagN x : Nat) : Int) (decide (emp ≥ 0)) else remitterref15_Read.j1 (k + 1) (bs s) (L.map bs) (o.map l69) (at_ : Int) emp (P.length : Int) (bs x) ((tagN x : Nat) : Int) false) =
      remitterref15_Read.j1 (k + 1) (bs s) (L.map bs) (o.map l69) (at_ : Int) emp (P.length : Int) (bs x) ((tagN x : Nat) : Int) (decide (0 < tagN x ∧ 0 ≤ emp)) := by
    by_cases h : 0 < tagN x
    · rw [if_pos (by omega)]
      congr 1
      by_cases h2 : 0 ≤ emp
      · rw [decide_eq_true (p := emp ≥ 0) h2, decide_eq_true (p := 0 < tagN x ∧ 0 ≤ emp) ⟨h, h2⟩]
      · rw [decide_eq_false (p := emp ≥ 0) h2, decide_eq_false (p := 0 < tagN x ∧ 0 ≤ emp) (fun e => h2 e.2)]
    · rw [if_neg (by omega), decide_eq_false (p := 0 < tagN x ∧ 0 ≤ emp) (fun e => h e.1)]
  rw [hj, remitterref15_Read.j1]
  unfold lstep
  dsimp only
  rw [spec.1]
  by_cases c1 : 0 < tagN x ∧ 0 ≤ emp
  · rw [decide_eq_true c1, if_pos rfl, if_pos ⟨decide_eq_true c1.1, c1.2⟩]
  rw [decide_eq_false c1, if_neg Bool.false_ne_true, if_neg (c := _ ∧ _) (fun e => c1 ⟨of_decide_eq_true e.1, e.2⟩)]
  by_cases c2 : 2000 ≤ P.length
  · rw [if_pos (by omega), if_pos (by omega)]
  rw [if_neg (by omega), if_neg (c := 2000 < _) (by omega), x_f x (by omega) k (by omega), Option.bind_some, bs_size]
  by_cases c3 : xokL (bs x) = true ∧ 0 < x.length ∧ x.length ≤ 78
  · have h3 : (xokL (bs x) && decide (0 < x.length ∧ x.length ≤ 78)) = true := by rw [c3.1, decide_eq_true c3.2]; rfl
    rw [h3, if_pos rfl, if_neg (c := xokL (bs x) = false ∨ _) (by rw [c3.1]; rintro (h | h | h); cases h; omega; omega)]
    by_cases hb : 0 < tagN x
    · obtain ⟨t1, t2, t3, t4⟩ := spec.2 hb
      have w1 := Lib.hid (show wrap64 (1 + ((tagN x : Nat) : Int)) = ((1 + tagN x : Nat) : Int) by rw [wrap_ok (by omega) (by omega)]; omega)
      have w2 := Lib.hid (show wrap64 (2 + ((tagN x : Nat) : Int)) = ((2 + tagN x : Nat) : Int) by rw [wrap_ok (by omega) (by omega)]; omega)
      have w3 := Lib.hid (show wrap64 (wrap64 ((at_ : Int) + (x.length : Int)) + 2) = ((at_ + x.length + 2 : Nat) : Int) by rw [wrap_ok (x := (at_ : Int) + (x.length : Int)) (by omega) (by omega), wrap_ok (by omega) (by omega)]; omega)
      have w4 := Lib.hid (show wrap64 ((P.length : Int) + 1) = ((P.length + 1 : Nat) : Int) by rw [wrap_ok (by omega) (by omega)]; omega)
      rw [w1.out, w2.out, w3.out, w4.out, decide_eq_true hb, if_pos (by omega), if_pos (by omega), if_pos (by omega), if_pos (by omega), if_pos (by omega), if_pos (by rw [List.length_map]; omega), Option.bind_some, if_pos rfl, t1, t2]
      rw [Int.toNat_natCast, Int.toNat_natCast]
      have he : ((bs x).extract (2 + tagN x) x.length).size = x.length - (2 + tagN x) := by rw [bs_extract, bs_size, List.length_drop, List.length_take, Nat.min_self]
      rw [he]
      have hm : (o ++ ([⟨(bs x).extract 1 (1 + tagN x), (bs x).extract (2 + tagN x) x.length, (at_ : Int)⟩] : List LF)).map l69 = o.map l69 ++ ([⟨(bs x).extract 1 (1 + tagN x), (bs x).extract (2 + tagN x) x.length, (at_ : Int)⟩] : List S69) := by rw [List.map_append]; rfl
      by_cases h0 : x.length = 2 + tagN x
      · rw [if_pos (by omega), if_pos (by omega), ← hm]
      · rw [if_neg (by omega), if_neg (by omega), ← hm]
    · rw [if_neg (by omega), decide_eq_false hb, if_neg Bool.false_ne_true]
      have hl : (o.map l69).length = o.length := List.length_map _
      rw [hl, head_bs]
      by_cases h0 : o = []
      · rw [if_pos (by rw [h0]; rfl), if_pos (.inl h0)]
      have hpos : 0 < o.length := List.length_pos_iff.2 h0
      rw [if_neg (by omega), if_pos (by omega)]
      by_cases h58 : bt (bs x) 0 = 58
      · rw [if_pos h58, if_pos (.inr (.inl h58))]
      by_cases h45 : bt (bs x) 0 = 45
      · rw [if_neg h58, if_pos h45, if_pos (.inr (.inr h45))]
      rw [if_neg h58, if_neg h45, if_neg (c := o = [] ∨ _) (by rintro (h | h | h); exact h0 h; exact h58 h; exact h45 h)]
      obtain ⟨oi, f, rfl⟩ : ∃ oi f, o = oi ++ [f] := ⟨o.dropLast, o.getLast h0, (List.dropLast_concat_getLast h0).symm⟩
      have hf := ho f (by simp)
      have hol2 : (oi ++ [f]).length = oi.length + 1 := by rw [List.length_append]; rfl
      have w3 := Lib.hid (show wrap64 (wrap64 ((at_ : Int) + (x.length : Int)) + 2) = ((at_ + x.length + 2 : Nat) : Int) by rw [wrap_ok (x := (at_ : Int) + (x.length : Int)) (by omega) (by omega), wrap_ok (by omega) (by omega)]; omega)
      have w4 := Lib.hid (show wrap64 ((P.length : Int) + 1) = ((P.length + 1 : Nat) : Int) by rw [wrap_ok (by omega) (by omega)]; omega)
      have w5 := Lib.hid (show wrap64 (((oi ++ [f]).length : Int) - 1) = (oi.length : Int) by rw [hol2, wrap_ok (by omega) (by omega)]; omega)
      have hrd2 : rd_T69 ((oi ++ [f]).map l69) (oi.length : Int) = l69 f := by
        unfold rd_T69
        rw [Int.toNat_natCast, List.map_append, List.getD_eq_getElem?_getD, List.getElem?_append_right (by rw [List.length_map]; exact Nat.le_refl _), List.length_map, Nat.sub_self]
        rfl
      have e13 : (⟨#[13, 10]⟩ : ByteArray).size = 2 := rfl
      rw [w3.out, w4.out, w5.out, hrd2, Int.toNat_natCast, if_pos (by omega), if_pos (by omega), if_pos (by show (f.text.size : Nat) + 2 ≤ _; omega), if_pos (by show (f.text ++ (⟨#[13, 10]⟩ : ByteArray)).size + _ ≤ _; rw [ByteArray.size_append, e13]; omega), addText_concat]
      have hset : ((oi ++ [f]).map l69).set oi.length (⟨(l69 f).f0, ((l69 f).f1 ++ (⟨#[13, 10]⟩ : ByteArray)) ++ bs x, (l69 f).f2⟩ : S69) = (oi ++ [{ f with text := f.text ++ (crlf ++ bs x) }]).map l69 := by
        rw [List.map_append, List.set_append_right _ _ (by rw [List.length_map]; exact Nat.le_refl _), List.length_map, Nat.sub_self, List.map_append]
        show _ = oi.map l69 ++ [_]
        congr 1
        show [_] = [_]
        congr 1
        show S69.mk f.tag _ f.at_ = S69.mk f.tag _ f.at_
        congr 1
        exact ByteArray.append_assoc
      rw [hset]
  · have h3 : (xokL (bs x) && decide (0 < x.length ∧ x.length ≤ 78)) = false := by
      rw [Bool.eq_false_iff]
      intro h
      simp only [Bool.and_eq_true, decide_eq_true_eq] at h
      exact c3 h
    rw [h3, if_neg Bool.false_ne_true, if_pos]
    by_cases hx : xokL (bs x) = true
    · by_cases h0 : x.length = 0
      · exact .inr (.inl h0)
      · exact .inr (.inr (by by_cases h78 : 78 < x.length; exact h78; exact absurd ⟨hx, by omega, by omega⟩ c3))
    · exact .inl (Bool.eq_false_iff.2 hx)
/-- What the document's reader says, out of what the lines do. -/
def out69 (n : Nat) : (List LF × Int) ⊕ (Int × Int) → List S69 × Int × Int
  | .inr e => ([], e.1, e.2)
  | .inl (o, emp) => if 0 ≤ emp then ([], emp, 31) else (o.map l69, (n : Int), 0)
theorem tgL_size' (x : List UInt8) : (tgL (bs x)).2.1.size ≤ x.length := by have := tgL_size (bs x); rwa [bs_size] at this
theorem lstep_inv {o o' : List LF} {emp emp' : Int} {n at_ : Nat} {x : List UInt8} (h : lstep xokL tgL o emp n (at_, bs x) = .inl (o', emp')) (ho : ∀ f ∈ o, f.text.size ≤ at_) :
    (∀ f ∈ o', f.text.size ≤ at_ + x.length + 2) ∧ o'.length ≤ o.length + 1 := by
  unfold lstep at h
  split at h
  · cases h
  split at h
  · cases h
  split at h
  · cases h
  split at h
  · injection h with h
    injection h with h1 h2
    subst h1
    refine ⟨fun f hf => ?_, by rw [List.length_append]; exact Nat.le_refl _⟩
    rcases List.mem_append.1 hf with h | h
    · have := ho f h; omega
    · rw [List.mem_singleton.1 h]
      have := tgL_size' x
      dsimp only
      omega
  split at h
  · cases h
  · rename_i hn
    injection h with h
    injection h with h1 h2
    subst h1
    have h0 : o ≠ [] := fun e => hn (.inl e)
    obtain ⟨oi, f, rfl⟩ : ∃ oi f, o = oi ++ [f] := ⟨o.dropLast, o.getLast h0, (List.dropLast_concat_getLast h0).symm⟩
    rw [addText_concat]
    refine ⟨fun f' hf => ?_, by rw [List.length_append, List.length_append]; exact Nat.le_succ _⟩
    rcases List.mem_append.1 hf with h | h
    · have := ho f' (List.mem_append_left _ h); omega
    · rw [List.mem_singleton.1 h]
      have := ho f (by simp)
      dsimp only
      rw [ByteArray.size_append, ByteArray.size_append, bs_size]
      have e13 : crlf.size = 2 := rfl
      omega
theorem read_l0 (s : List UInt8) (L : List (List UInt8)) : ∀ (R P : List (List UInt8)) (o : List LF) (emp : Int) (at_ k N : Nat), L = P ++ R → endFrom at_ (R.map bs) ≤ N → N ≤ 1000000 → P.length ≤ at_ → (∀ f ∈ o, f.text.size ≤ at_) → o.length ≤ P.length → N + 2 * R.length + 30 < k →
    remitterref15_Read.l0 k (bs s) (L.map bs) (o.map l69) (at_ : Int) emp (P.length : Int) = some (out69 s.length (lrun xokL tgL o emp P.length (placesFrom at_ (R.map bs))))
  | [], P, o, emp, at_, k, N, hL, hN, hN2, hP, ho, hol, hk => by
    obtain ⟨k, rfl⟩ : ∃ k', k = k' + 1 := ⟨k - 1, by omega⟩
    rw [remitterref15_Read.l0, if_neg (by rw [List.length_map, hL, List.append_nil]; omega), bs_size]
    show _ = some (if 0 ≤ emp then ([], emp, 31) else (o.map l69, (s.length : Int), 0))
    by_cases he : 0 ≤ emp
    · rw [if_pos (show emp ≥ 0 from he), if_pos he]
    · rw [if_neg (show ¬ emp ≥ 0 from he), if_neg he]
  | x :: R, P, o, emp, at_, k, N, hL, hN, hN2, hP, ho, hol, hk => by
    have hN' : endFrom (at_ + x.length + 2) (R.map bs) ≤ N := by
      have : endFrom at_ ((x :: R).map bs) = endFrom (at_ + (bs x).size + 2) (R.map bs) := rfl
      rw [this, bs_size] at hN
      exact hN
    have hge := endFrom_le [] (R.map bs) (at_ + x.length + 2)
    have hge : at_ + x.length + 2 ≤ endFrom (at_ + x.length + 2) (R.map bs) := hge
    simp only [List.length_cons] at hk
    obtain ⟨k, rfl⟩ : ∃ k', k = k' + 2 := ⟨k - 2, by omega⟩
    rw [step_r s L P R x o emp at_ k hL (by omega) (by omega) ho hol (by omega)]
    have hpl : placesFrom at_ ((x :: R).map bs) = (at_, bs x) :: placesFrom (at_ + x.length + 2) (R.map bs) := by
      show (at_, bs x) :: placesFrom (at_ + (bs x).size + 2) (R.map bs) = _
      rw [bs_size]
    rw [hpl]
    show _ = some (out69 s.length (match lstep xokL tgL o emp (P.length + 1) (at_, bs x) with | .inr e => .inr e | .inl (o', emp') => lrun xokL tgL o' emp' (P.length + 1) (placesFrom (at_ + x.length + 2) (R.map bs))))
    cases hs : lstep xokL tgL o emp (P.length + 1) (at_, bs x) with
    | inr e => rfl
    | inl p =>
      obtain ⟨o', emp'⟩ := p
      dsimp only
      have hi := lstep_inv hs ho
      have := read_l0 s L R (P ++ [x]) o' emp' (at_ + x.length + 2) k N (by rw [hL, List.append_assoc]; rfl) hN' hN2 (by rw [List.length_append]; simp only [List.length_cons, List.length_nil]; omega) hi.1 (by rw [List.length_append]; simp only [List.length_cons, List.length_nil]; omega) (by omega)
      rw [List.length_append] at this
      exact this
theorem cl_end (s : List UInt8) (a : Nat) : endFrom a ((cl s).map bs) = a + s.length + 2 := by
  rw [← linesB_cl]
  have := split_end (bs s).size a (bs s)
  rw [bs_size] at this
  unfold linesB
  rw [bs_size]
  exact this
/-- The document's reader, at fuel enough. -/
theorem ref_read (s : List UInt8) (hs : s.length ≤ 500000) (k : Nat) (hk : 3 * s.length + 40 < k) : remitterref15_Read.f k (bs s) = some ((lread xokL tgL (bs s)).1.map l69, (lread xokL tgL (bs s)).2.1, (lread xokL tgL (bs s)).2.2) := by
  unfold remitterref15_Read.f
  rw [cut_f s (by omega) k (by omega), Option.bind_some]
  have hl := cl_length s
  have := read_l0 s (cl s) (cl s) [] [] (-1) 0 k (0 + s.length + 2) rfl (by rw [cl_end]; exact Nat.le_refl _) (by omega) (Nat.le_refl _) (by simp) (Nat.le_refl _) (by omega)
  rw [show ((([] : List LF).map l69)) = ([] : List S69) from rfl, show (([] : List (List UInt8)).length : Int) = 0 from rfl, show (((0 : Nat)) : Int) = 0 from rfl] at this
  rw [this]
  unfold lread
  rw [linesB_cl]
  cases h : lrun xokL tgL [] (-1) 0 (placesFrom 0 ((cl s).map bs)) with
  | inr e => simp only [List.length_nil, h]; rfl
  | inl p =>
    obtain ⟨o, emp⟩ := p
    simp only [List.length_nil, h]
    unfold out69
    dsimp only
    by_cases he : 0 ≤ emp
    · rw [if_pos he, if_pos he]; rfl
    · rw [if_neg he, if_neg he, bs_size]
theorem prog_read (s : List UInt8) (hs : s.length ≤ 500000) : lines_Read.f (bs s) = some ((lread xokL tgL (bs s)).1.map lfS, (lread xokL tgL (bs s)).2.1, (lread xokL tgL (bs s)).2.2) := by
  unfold lines_Read.f
  rw [if_pos (by rw [bs_size]; omega)]
end Go.Proofs.YtkklccccjmipkaaDoor.Pure

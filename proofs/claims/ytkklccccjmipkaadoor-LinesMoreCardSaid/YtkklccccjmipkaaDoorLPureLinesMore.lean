/- LinesMore, in plain Lean: two bodies in one have the fields of both. -/
import Derived.Test.YtkklccccjmipkaaDoorLPureLin5
import Derived.Test.YtkklccccjmipkaaDoorLPLMor
namespace Go.Proofs.YtkklccccjmipkaaDoor.Pure
open Go.RowKit Go.Proofs.YtkklccccjmipkaaDoor.PAll Go.Proofs.YtkklccccjmipkaaDoorW.PrintWords GPlain
open Go.Proofs.YtkklccccjmipkaaDoor.Lin
theorem more_l0 (s : List UInt8) (o1 o2 : List LF) (hs : s.length ≤ 5000) (h1 : o1.length ≤ 1000000) (h2 : o2.length ≤ 1000000) (hat : ∀ f ∈ o2, 0 ≤ f.at_ ∧ f.at_ ≤ 10000) : ∀ (n i k : Nat), i + n = o1.length + o2.length → n < k →
    remitterlaw15_LinesMore.l0 k (bs s) (o1.map lfS) (o2.map lfS) ((o1 ++ o2.map (mv (s.length + 2))).map lfS) (i : Int) = some true
  | 0, i, k, hi, hk => by
    obtain ⟨k, rfl⟩ : ∃ k', k = k' + 1 := ⟨k - 1, by omega⟩
    rw [remitterlaw15_LinesMore.l0, List.length_map, List.length_append, List.length_map, if_neg (by omega), wakes_bind]
  | n + 1, i, k, hi, hk => by
    obtain ⟨k, rfl⟩ : ∃ k', k = k' + 1 := ⟨k - 1, by omega⟩
    have hw := Lib.hid (show wrap64 ((i : Int) + 1) = ((i + 1 : Nat) : Int) by rw [wrap_ok (by omega) (by omega)]; omega)
    have ih := more_l0 s o1 o2 hs h1 h2 hat n (i + 1) k (by omega) (by omega)
    rw [remitterlaw15_LinesMore.l0, hw.out, ih]
    rw [List.length_map, List.length_append, List.length_map, List.length_map, List.length_map, if_pos (by omega), rd68 _ i (by rw [List.length_append, List.length_map]; omega)]
    by_cases hlt : i < o1.length
    · rw [if_pos (by omega), if_pos (by omega), rd68 o1 i hlt, List.getElem_append_left hlt]
      simp
    · have hw2 := Lib.hid (show wrap64 ((i : Int) - (o1.length : Int)) = ((i - o1.length : Nat) : Int) by rw [wrap_ok (by omega) (by omega)]; omega)
      have hlt2 : i - o1.length < o2.length := by omega
      obtain ⟨b0, b1⟩ := hat (o2[i - o1.length]'hlt2) (List.getElem_mem _)
      rw [hw2.out, if_neg (by omega), if_pos (by omega), if_pos (by omega), if_pos (by omega), rd68 o2 (i - o1.length) hlt2, List.getElem_append_right (by omega), List.getElem_map]
      have hw3 : wrap64 (wrap64 ((lfS (o2[i - o1.length]'hlt2)).f2 + ((bs s).size : Int)) + 2) = (lfS (mv (s.length + 2) (o2[i - o1.length]'hlt2))).f2 := by
        show wrap64 (wrap64 ((o2[i - o1.length]'hlt2).at_ + ((bs s).size : Int)) + 2) = (o2[i - o1.length]'hlt2).at_ + ((s.length + 2 : Nat) : Int)
        rw [bs_size, wrap_ok (x := (o2[i - o1.length]'hlt2).at_ + (s.length : Int)) (by omega) (by omega), wrap_ok (by omega) (by omega)]
        omega
      rw [hw3]
      unfold lfS mv
      simp
theorem ok_len (s : List UInt8) : (lread xokL tgL (bs s)).1.length ≤ s.length := by
  by_cases h0 : (lread xokL tgL (bs s)).2.2 = 0
  · have hb := read_back (s := s) (o := (lread xokL tgL (bs s)).1) (a := (lread xokL tgL (bs s)).2.1) (by rw [← h0])
    have : ∀ (l : List LF) (m : Nat), l.Pairwise (fun f g => f.at_ < g.at_) → (∀ f ∈ l, (m : Int) ≤ f.at_ ∧ f.at_ < (s.length : Int)) → m + l.length ≤ s.length ∨ l = [] := by
      intro l
      induction l with
      | nil => intro m _ _; exact .inr rfl
      | cons f l ih =>
        intro m hp hm
        left
        obtain ⟨c1, c2⟩ := hm f (by simp)
        rw [List.pairwise_cons] at hp
        rcases ih (m + 1) hp.2 (fun g hg => ⟨by have := hp.1 g hg; omega, (hm g (by simp [hg])).2⟩) with h | h
        · simp only [List.length_cons]; omega
        · rw [h]; simp only [List.length_cons, List.length_nil]; omega
    rcases this _ 0 hb.2.2 (fun f hf => by obtain ⟨a, h1, _, h3⟩ := hb.2.1 f hf; exact ⟨by omega, by omega⟩) with h | h
    · omega
    · rw [h]; exact Nat.zero_le _
  · rw [(read_place (s := s) (o := (lread xokL tgL (bs s)).1) (a := (lread xokL tgL (bs s)).2.1) rfl h0).1]; exact Nat.zero_le _
theorem LinesMore : remitterlaw15_LinesMore.Pure := by
  intro a0 a1 w0 w1
  obtain ⟨s, rfl⟩ := bs_ex a0
  obtain ⟨t, rfl⟩ := bs_ex a1
  refine ⟨50000, ?_⟩
  unfold remitterlaw15_LinesMore.f
  rw [bs_size] at w0 w1
  have hw := Lib.hid (show wrap64 ((s.length : Int) + (t.length : Int)) = (s.length : Int) + (t.length : Int) from wrap_ok (by omega) (by omega))
  rw [bs_size, bs_size, hw.out]
  by_cases h : (s.length : Int) + (t.length : Int) > 4000
  · rw [if_pos h, wakes_bind]
  rw [if_neg h]
  have p1 := prog_read s (by omega)
  have p2 := prog_read t (by omega)
  have pm := @read_more s t
  have pb := @read_back t
  have pl2 := ok_len t
  have pl1 := ok_len s
  rw [p1, p2, Option.bind_some, Option.bind_some]
  generalize lread xokL tgL (bs s) = q1 at pm p1 pl1 ⊢
  generalize hq2 : lread xokL tgL (bs t) = q2 at pm pb pl2 p2 ⊢
  obtain ⟨o1, b1, e1⟩ := q1
  obtain ⟨o2, b2, e2⟩ := q2
  dsimp only at pl1 pl2 ⊢
  have jt : remitterlaw15_LinesMore.j0 50000 (bs s) (bs t) (o1.map lfS) (o2.map lfS) true = some true := by
    rw [show 50000 = 49999 + 1 from rfl, remitterlaw15_LinesMore.j0, if_pos rfl, wakes_bind]
  by_cases h1 : e1 = 0
  · subst h1
    rw [if_pos rfl]
    by_cases h2 : e2 = 0
    · subst h2
      rw [show ((0 : Int) != 0) = false from rfl, show 50000 = 49999 + 1 from rfl, remitterlaw15_LinesMore.j0, if_neg Bool.false_ne_true]
      have ht : (bs s ++ (⟨#[13, 10]⟩ : ByteArray)) ++ bs t = bs (s ++ 13 :: 10 :: t) := by
        show (bs s ++ bs [13, 10]) ++ bs t = _
        rw [bs_append, bs_append, List.append_assoc]; rfl
      have p3 := prog_read (s ++ 13 :: 10 :: t) (by simp only [List.length_append, List.length_cons]; omega)
      have e13 : (⟨#[13, 10]⟩ : ByteArray).size = 2 := rfl
      rw [if_pos (by rw [bs_size]; omega), if_pos (by rw [ByteArray.size_append, bs_size, e13, bs_size]; omega), ht, p3, Option.bind_some]
      rcases pm rfl rfl with ⟨p, hp⟩ | hp
      · rw [hp]
        dsimp only
        rw [if_neg (by decide), if_pos rfl, wakes_bind]
      · rw [hp]
        dsimp only
        have hw2 := Lib.hid (show wrap64 ((o1.length : Int) + (o2.length : Int)) = (o1.length : Int) + (o2.length : Int) from wrap_ok (by omega) (by omega))
        have hw3 := Lib.hid (show wrap64 (wrap64 ((s.length : Int) + 2) + (t.length : Int)) = ((s.length + 2 + t.length : Nat) : Int) by rw [wrap_ok (x := (s.length : Int) + 2) (by omega) (by omega), wrap_ok (by omega) (by omega)]; omega)
        rw [if_pos rfl, bs_size, bs_size, hw3.out, List.length_map, List.length_map, List.length_map, hw2.out, if_pos (by rw [List.length_append, List.length_map]; omega), bne_self_eq_false, show 49999 = 49998 + 1 from rfl, remitterlaw15_LinesMore.j1, if_neg Bool.false_ne_true]
        exact more_l0 s o1 o2 (by omega) (by omega) (by omega) (fun f hf => by
          obtain ⟨a, h1, _, h3⟩ := (pb rfl).2.1 f hf
          exact ⟨by omega, by omega⟩) (o1.length + o2.length) 0 49998 (by omega) (by
          omega)
    · rw [show (e2 != 0) = true from bne_iff_ne.2 h2, jt]
  · rw [if_neg h1, jt]
end Go.Proofs.YtkklccccjmipkaaDoor.Pure

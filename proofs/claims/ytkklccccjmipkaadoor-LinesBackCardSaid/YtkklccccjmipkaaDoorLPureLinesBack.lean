/- LinesBack, in plain Lean: what is read is written, and what is written read. -/
import Derived.Test.YtkklccccjmipkaaDoorLPureLin5
import Derived.Test.YtkklccccjmipkaaDoorLPLBac
namespace Go.Proofs.YtkklccccjmipkaaDoor.Pure
open Go.RowKit Go.Proofs.YtkklccccjmipkaaDoor.PAll Go.Proofs.YtkklccccjmipkaaDoorW.PrintWords GPlain
open Go.Proofs.YtkklccccjmipkaaDoor.Lin
theorem wb_lenB : ∀ (b : Bool) (l : List S68), (∀ x ∈ l, x.f0.size + x.f1.size ≤ 200) → (wbytes b l).length ≤ 204 * l.length
  | _, [], _ => Nat.zero_le _
  | b, f :: r, h => by
    have ih := wb_lenB false r (fun x hx => h x (List.mem_cons_of_mem _ hx))
    have h0 := h f List.mem_cons_self
    have s0 : f.f0.data.toList.length = f.f0.size := by rw [Array.length_toList]; rfl
    have s1 : f.f1.data.toList.length = f.f1.size := by rw [Array.length_toList]; rfl
    have hb : (if b = true then ([] : List UInt8) else [13, 10]).length ≤ 2 := by cases b <;> decide
    simp only [wbytes, List.length_append, List.length_cons, List.length_nil, s0, s1]
    omega
theorem rd68B (l : List S68) (i : Nat) (h : i < l.length) : rd_T68 l (i : Int) = l[i] := by
  unfold rd_T68
  rw [Int.toNat_natCast, List.getD_eq_getElem?_getD, List.getElem?_eq_getElem h]; rfl
theorem sameF_refl (l : List S68) : sameF l l = true := by unfold sameF; exact beq_self_eq_true _
theorem at_piece (s t : List UInt8) (a : Nat) (h : ([58] ++ t) <+: s.drop a) : s.getD a 0 = 58 ∧ (bs s).extract (a + 1) (a + 1 + t.length) = bs t := by
  obtain ⟨z, hz⟩ := h
  have ha : a < s.length := by
    have := congrArg List.length hz
    simp only [List.length_append, List.length_cons, List.length_nil, List.length_drop] at this
    omega
  constructor
  · have := congrArg (fun l => l.getD 0 0) hz
    simp only [List.cons_append, List.nil_append, List.getD_cons_zero] at this
    rw [this, List.getD_eq_getElem?_getD, List.getD_eq_getElem?_getD, List.getElem?_drop]
    rfl
  · rw [bs_extract]
    congr 1
    have h1 : s.drop (a + 1) = t ++ z := by
      rw [show a + 1 = a + 1 from rfl, ← List.drop_drop, ← hz]
      rfl
    rw [List.drop_take, h1, show a + 1 + t.length - (a + 1) = t.length by omega, List.take_left]
theorem back_l2 (s : List UInt8) (o : List LF) (hs : s.length ≤ 5000) (ho : o.length ≤ 5000) (hat : ∀ f ∈ o, AtTag s f) (hp : o.Pairwise (fun f g => f.at_ < g.at_)) : ∀ (n i k : Nat), i + n = o.length → n < k →
    remitterlaw15_LinesBack.l2 k (bs s) (o.map lfS) (s.length : Int) (bs s) 0 (i : Int) = some true
  | 0, i, k, hi, hk => by
    obtain ⟨k, rfl⟩ : ∃ k', k = k' + 1 := ⟨k - 1, by omega⟩
    rw [remitterlaw15_LinesBack.l2, List.length_map, if_neg (by omega), if_pos rfl, if_pos rfl, bs_size, if_pos rfl, wakes_bind]
  | n + 1, i, k, hi, hk => by
    obtain ⟨k, rfl⟩ : ∃ k', k = k' + 1 := ⟨k - 1, by omega⟩
    have hlt : i < o.length := by omega
    obtain ⟨a, ha, hpx, hal⟩ := hat o[i] (List.getElem_mem _)
    obtain ⟨t, ht⟩ := bs_ex o[i].tag
    rw [ht, bs_data] at hpx
    rw [ht, bs_size] at hal
    obtain ⟨p1, p2⟩ := at_piece s t a hpx
    have f2 : (lfS o[i]).f2 = (a : Int) := ha
    have f0 : (lfS o[i]).f0 = bs t := ht
    have ih := back_l2 s o hs ho hat hp n (i + 1) k (by omega) (by omega)
    have w1 := Lib.hid (show wrap64 ((a : Int) + 1) = ((a + 1 : Nat) : Int) by rw [wrap_ok (by omega) (by omega)]; omega)
    have w2 := Lib.hid (show wrap64 (((a + 1 : Nat) : Int) + (t.length : Int)) = ((a + 1 + t.length : Nat) : Int) by rw [wrap_ok (by omega) (by omega)]; omega)
    have w3 := Lib.hid (show wrap64 ((i : Int) + 1) = ((i + 1 : Nat) : Int) by rw [wrap_ok (by omega) (by omega)]; omega)
    rw [remitterlaw15_LinesBack.l2, List.length_map, if_pos (by omega), if_pos (by omega), rd68 o i hlt, f2, f0, bs_size, bs_size, w1.out, w2.out, w3.out, ih]
    rw [if_neg (by omega), if_neg (by omega), if_pos (by omega), if_pos (by omega), bt_nat, p1, if_pos (show ((UInt8.toNat 58 : Nat) : Int) = 58 from rfl), if_pos (by omega), if_pos (by omega), if_pos (by omega), Int.toNat_natCast, Int.toNat_natCast, p2, if_pos rfl]
    by_cases h0 : i = 0
    · rw [if_neg (by omega)]
    · have w4 := Lib.hid (show wrap64 ((i : Int) - 1) = ((i - 1 : Nat) : Int) by rw [wrap_ok (by omega) (by omega)]; omega)
      have hlt2 : i - 1 < o.length := by omega
      have hq : o[i - 1].at_ < o[i].at_ := List.pairwise_iff_getElem.1 hp (i - 1) i hlt2 hlt (by omega)
      rw [w4.out, if_pos (by omega), if_pos (by omega), if_pos (by omega), rd68 o (i - 1) hlt2, if_neg]
      show ¬ o[i - 1].at_ ≥ _
      omega
theorem back_j3 (s : List UInt8) (hs : s.length ≤ 5000) (k : Nat) (hk : 10000 < k) : remitterlaw15_LinesBack.j3 k (bs s) = some true := by
  obtain ⟨k, rfl⟩ : ∃ k', k = k' + 1 := ⟨k - 1, by omega⟩
  have p1 := prog_read s (by omega)
  rw [remitterlaw15_LinesBack.j3, p1, Option.bind_some, bs_size]
  have rb := @read_back s
  have rp := @read_place s
  have ro := @read_ok s
  generalize lread xokL tgL (bs s) = q at rb rp ro p1 ⊢
  obtain ⟨o, a, e⟩ := q
  dsimp only at p1 ⊢
  by_cases he : e = 0
  · subst he
    obtain ⟨hw, hat, hp⟩ := rb rfl
    obtain ⟨ha, _⟩ := ro rfl rfl
    have hlen : o.length ≤ s.length := by
      have : ∀ (l : List LF) (m : Nat), l.Pairwise (fun f g => f.at_ < g.at_) → (∀ f ∈ l, (m : Int) ≤ f.at_ ∧ f.at_ < (s.length : Int)) → m + l.length ≤ s.length ∨ l = [] := by
        intro l
        induction l with
        | nil => intro m _ _; exact .inr rfl
        | cons f l ih =>
          intro m hp hm
          left
          obtain ⟨c1, c2⟩ := hm f (by simp)
          rw [List.pairwise_cons] at hp
          rcases ih (m + 1) hp.2 (fun g hg => ⟨by have := hp.1 g hg; omega, (hm g (by simp [hg])).2⟩) with h | h
          · simp only [List.length_cons]; omega
          · rw [h]; simp only [List.length_cons, List.length_nil]; omega
      rcases this _ 0 hp (fun f hf => by obtain ⟨a, h1, _, h3⟩ := hat f hf; exact ⟨by omega, by omega⟩) with h | h
      · omega
      · rw [h]; exact Nat.zero_le _
    have hW : lines_Write.f (o.map lfS) = some (bs s, 0) := by
      unfold lines_Write.f
      rw [hw, if_pos (by omega)]
      congr 1
      have hr : lines_Read.f ⟨(wbytes true (o.map lfS)).toArray⟩ = some (o.map lfS, a, 0) := by rw [hw]; exact p1
      rw [lwrite_yes hr ⟨rfl, sameF_refl _⟩, hw]
      rfl
    rw [if_pos rfl, hW, Option.bind_some, ha]
    exact back_l2 s o hs (by omega) hat hp o.length 0 k (by omega) (by omega)
  · obtain ⟨h1, h2, h3⟩ := rp rfl he
    rw [if_neg he, h1, if_pos (show ((([] : List LF).map lfS).length : Int) = 0 from rfl), if_pos h2, if_pos h3, wakes_bind]
theorem back_l1 (s : List UInt8) (hs : s.length ≤ 5000) (l r : List S68) (hr : sameF r l = true) (hl : l.length ≤ 50) : ∀ (n i k : Nat), i + n = l.length → n + 10001 < k →
    remitterlaw15_LinesBack.l1 k (bs s) l r (i : Int) = some true
  | 0, i, k, hi, hk => by
    obtain ⟨k, rfl⟩ : ∃ k', k = k' + 1 := ⟨k - 1, by omega⟩
    rw [remitterlaw15_LinesBack.l1, if_neg (by omega), back_j3 s hs k (by omega)]
  | n + 1, i, k, hi, hk => by
    obtain ⟨k, rfl⟩ : ∃ k', k = k' + 1 := ⟨k - 1, by omega⟩
    have hlen := sameF_len hr
    obtain ⟨e0, e1⟩ := sameF_at hr i (by omega)
    have w3 := Lib.hid (show wrap64 ((i : Int) + 1) = ((i + 1 : Nat) : Int) by rw [wrap_ok (by omega) (by omega)]; omega)
    rw [remitterlaw15_LinesBack.l1, if_pos (by omega), if_pos (by omega), if_pos (by omega), if_pos e0, if_pos e1, w3.out]
    exact back_l1 s hs l r hr hl n (i + 1) k (by omega) (by omega)
theorem lwrite_ok {l : List S68} {r1 : List S68} {r2 r3 : Int} (h : lines_Read.f ⟨(wbytes true l).toArray⟩ = some (r1, r2, r3)) (h0 : (lwrite l).2 = 0) : r3 = 0 ∧ sameF r1 l = true ∧ (lwrite l).1 = ⟨(wbytes true l).toArray⟩ := by
  by_cases hy : r3 = 0 ∧ sameF r1 l = true
  · exact ⟨hy.1, hy.2, by rw [lwrite_yes h hy]⟩
  · rw [lwrite_no h hy] at h0; cases h0
theorem back_l0 (s : List UInt8) (hs' : s.length ≤ 140737488351232) (l : List S68) (hw : ∀ x ∈ l, x.f0.size ≤ 140737488351232 ∧ x.f1.size ≤ 140737488351232) : ∀ (n i k : Nat), i + n = l.length → i ≤ 50 → (∀ x ∈ l.take i, x.f0.size + x.f1.size ≤ 200) → 20000 < k + i →
    remitterlaw15_LinesBack.l0 k (bs s) l (i : Int) = some true
  | 0, i, k, hi, h50, hs, hk => by
    obtain ⟨k, rfl⟩ : ∃ k', k = k' + 1 := ⟨k - 1, by omega⟩
    rw [List.take_of_length_le (by omega)] at hs
    have h2 := wb_lenB true l hs
    have hp : lines_Write.f l = some (lwrite l) := by
      unfold lines_Write.f
      rw [if_pos (by omega)]
    rw [remitterlaw15_LinesBack.l0, if_neg (by omega), bs_size]
    by_cases h5 : (s.length : Int) > 5000
    · rw [if_pos h5, wakes_bind]
    rw [if_neg h5, hp, Option.bind_some, back_j3 s (by omega) k (by omega)]
    have hpr := prog_read (wbytes true l) (by omega)
    have hpr' : lines_Read.f ⟨(wbytes true l).toArray⟩ = _ := hpr
    by_cases h0 : (lwrite l).2 = 0
    · obtain ⟨e1, e2, e3⟩ := lwrite_ok hpr' h0
      have hlen := sameF_len e2
      rw [if_pos h0, e3, hpr', Option.bind_some, e1]
      dsimp only
      rw [if_pos rfl, show (((lread xokL tgL (bs (wbytes true l))).1.map lfS).length : Int) = (l.length : Int) by omega, bne_self_eq_false]
      obtain ⟨k, rfl⟩ : ∃ k', k = k' + 1 := ⟨k - 1, by omega⟩
      rw [remitterlaw15_LinesBack.j1, if_neg Bool.false_ne_true]
      exact back_l1 s (by omega) l _ e2 (by omega) l.length 0 k (by omega) (by omega)
    · rw [if_neg h0]
  | n + 1, i, k, hi, h50, hs, hk => by
    obtain ⟨k, rfl⟩ : ∃ k', k = k' + 1 := ⟨k - 1, by omega⟩
    have hlt : i < l.length := by omega
    obtain ⟨w0, w1⟩ := hw l[i] (List.getElem_mem _)
    have hw1 := Lib.hid (show wrap64 ((l[i].f0.size : Int) + (l[i].f1.size : Int)) = (l[i].f0.size : Int) + (l[i].f1.size : Int) from wrap_ok (by omega) (by omega))
    have hw2 := Lib.hid (show wrap64 ((i : Int) + 1) = ((i + 1 : Nat) : Int) by rw [wrap_ok (by omega) (by omega)]; omega)
    rw [remitterlaw15_LinesBack.l0, if_pos (by omega), if_pos (by omega), rd68B l i hlt, hw1.out, hw2.out]
    by_cases h200 : l[i].f0.size + l[i].f1.size > 200
    · rw [if_pos (by omega), wakes_bind]
    by_cases hi50 : 50 ≤ i
    · rw [if_neg (by omega), if_pos (by omega), wakes_bind]
    rw [if_neg (by omega), if_neg (by omega)]
    refine back_l0 s hs' l hw n (i + 1) k (by omega) (by omega) (fun x hx => ?_) (by omega)
    rw [List.take_add_one, List.getElem?_eq_getElem hlt] at hx
    rcases List.mem_append.1 hx with h | h
    · exact hs x h
    · have : x = l[i] := by simpa using h
      rw [this]; omega
theorem LinesBack (a0 : ByteArray) (l : List S68) (h0 : a0.size ≤ 140737488351232) (hw : ∀ x ∈ l, x.f0.size ≤ 140737488351232 ∧ x.f1.size ≤ 140737488351232) : ∃ k, remitterlaw15_LinesBack.f k a0 l = some true := by
  obtain ⟨s, rfl⟩ := bs_ex a0
  refine ⟨30000, ?_⟩
  unfold remitterlaw15_LinesBack.f
  rw [bs_size] at h0
  exact back_l0 s h0 l hw l.length 0 30000 (by omega) (by omega) (by simp) (by omega)
end Go.Proofs.YtkklccccjmipkaaDoor.Pure

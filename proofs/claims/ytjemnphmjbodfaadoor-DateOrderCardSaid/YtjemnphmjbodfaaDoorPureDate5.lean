/- DateOrder and DateTurns, in plain Lean. -/
import Derived.Test.YtjemnphmjbodfaaDoorPureDate4
namespace Go.Proofs.YtjemnphmjbodfaaDoor.PAll
open Go.RowKit Go.Proofs.YtjemnphmjbodfaaDoorW.PrintWords GPlain
set_option linter.unusedSimpArgs false

theorem less_same (c : UInt8) (x y : List UInt8) : Op.bytesLess (c :: x) (c :: y) = Op.bytesLess x y := by
  have h1 : ¬ c < c := fun e => by have := UInt8.lt_iff_toNat_lt.1 e; omega
  simp [Op.bytesLess, h1]
/-- Of two days' texts the order is the days'. -/
theorem order_ten (c0 c1 c2 c3 c4 c5 c6 c7 c8 c9 d0 d1 d2 d3 d4 d5 d6 d7 d8 d9 : UInt8) (h : 0 ≤ X10 c0 c1 c2 c3 c4 c5 c6 c7 c8 c9) (h' : 0 ≤ X10 d0 d1 d2 d3 d4 d5 d6 d7 d8 d9) :
    Op.bytesLess [c0, c1, c2, c3, c4, c5, c6, c7, c8, c9] [d0, d1, d2, d3, d4, d5, d6, d7, d8, d9] = decide (X10 c0 c1 c2 c3 c4 c5 c6 c7 c8 c9 < X10 d0 d1 d2 d3 d4 d5 d6 d7 d8 d9) ∧
    (([c0, c1, c2, c3, c4, c5, c6, c7, c8, c9] == [d0, d1, d2, d3, d4, d5, d6, d7, d8, d9]) = decide (X10 c0 c1 c2 c3 c4 c5 c6 c7 c8 c9 = X10 d0 d1 d2 d3 d4 d5 d6 d7 d8 d9)) := by
  obtain ⟨rfl, rfl, a0, a1, a2, a3, a5, a6, a8, a9⟩ := x10_digits h
  obtain ⟨rfl, rfl, b0, b1, b2, b3, b5, b6, b8, b9⟩ := x10_digits h'
  obtain ⟨_, _, g, e⟩ := X10_good h
  obtain ⟨_, _, g', e'⟩ := X10_good h'
  have q1 : allD [c0, c1, c2, c3] := (allD_four ..).2 ⟨a0, a1, a2, a3⟩
  have q2 : allD [c5, c6] := (allD_two ..).2 ⟨a5, a6⟩
  have q3 : allD [c8, c9] := (allD_two ..).2 ⟨a8, a9⟩
  have r1 : allD [d0, d1, d2, d3] := (allD_four ..).2 ⟨b0, b1, b2, b3⟩
  have r2 : allD [d5, d6] := (allD_two ..).2 ⟨b5, b6⟩
  have r3 : allD [d8, d9] := (allD_two ..).2 ⟨b8, b9⟩
  have n1 := numL_eq [c0, c1, c2, c3] (by simp)
  have n2 := numL_eq [c5, c6] (by simp)
  have n3 := numL_eq [c8, c9] (by simp)
  have m1 := numL_eq [d0, d1, d2, d3] (by simp)
  have m2 := numL_eq [d5, d6] (by simp)
  have m3 := numL_eq [d8, d9] (by simp)
  rw [if_pos q1] at n1
  rw [if_pos q2] at n2
  rw [if_pos q3] at n3
  rw [if_pos r1] at m1
  rw [if_pos r2] at m2
  rw [if_pos r3] at m3
  obtain ⟨l1, k1⟩ := less_num [c0, c1, c2, c3] [d0, d1, d2, d3] rfl q1 r1
  obtain ⟨l2, k2⟩ := less_num [c5, c6] [d5, d6] rfl q2 r2
  obtain ⟨l3, k3⟩ := less_num [c8, c9] [d8, d9] rfl q3 r3
  rw [n1, n2, n3] at g e
  rw [m1, m2, m3] at g' e'
  rw [e, e']
  have hl : Op.bytesLess [c0, c1, c2, c3, 45, c5, c6, 45, c8, c9] [d0, d1, d2, d3, 45, d5, d6, 45, d8, d9] = (Op.bytesLess [c0, c1, c2, c3] [d0, d1, d2, d3] || (([c0, c1, c2, c3] == [d0, d1, d2, d3]) && (Op.bytesLess [c5, c6] [d5, d6] || (([c5, c6] == [d5, d6]) && Op.bytesLess [c8, c9] [d8, d9])))) := by
    rw [show [c0, c1, c2, c3, 45, c5, c6, 45, c8, c9] = [c0, c1, c2, c3] ++ (45 :: ([c5, c6] ++ (45 :: [c8, c9]))) from rfl, show [d0, d1, d2, d3, 45, d5, d6, 45, d8, d9] = [d0, d1, d2, d3] ++ (45 :: ([d5, d6] ++ (45 :: [d8, d9]))) from rfl]
    rw [less_append [c0, c1, c2, c3] [d0, d1, d2, d3] _ _ rfl, less_same, less_append [c5, c6] [d5, d6] _ _ rfl, less_same]
  have he : ([c0, c1, c2, c3, 45, c5, c6, 45, c8, c9] == [d0, d1, d2, d3, 45, d5, d6, 45, d8, d9]) = (([c0, c1, c2, c3] == [d0, d1, d2, d3]) && ([c5, c6] == [d5, d6]) && ([c8, c9] == [d8, d9])) := by
    simp only [List.cons_beq_cons, beq_self_eq_true, Bool.true_and, List.beq_nil_eq, List.isEmpty_nil, Bool.and_true, Bool.and_assoc]
  rw [hl, he, l1, k1, l2, k2, l3, k3]
  generalize numN [c0, c1, c2, c3] 0 = y at *
  generalize numN [c5, c6] 0 = m at *
  generalize numN [c8, c9] 0 = d at *
  generalize numN [d0, d1, d2, d3] 0 = y' at *
  generalize numN [d5, d6] 0 = m' at *
  generalize numN [d8, d9] 0 = d' at *
  have lt := day_lt y m d y' m' d' g g'
  have gt := day_lt y' m' d' y m d g' g
  by_cases c : y = y' ∧ m = m' ∧ d = d'
  · obtain ⟨rfl, rfl, rfl⟩ := c
    simp
  · by_cases o : y < y' ∨ (y = y' ∧ (m < m' ∨ (m = m' ∧ d < d')))
    · have := lt o
      rw [decide_eq_true this, decide_eq_false (show ¬ dayR y m d = dayR y' m' d' by omega)]
      constructor
      · rcases o with o | ⟨rfl, o | ⟨rfl, o⟩⟩ <;> simp [o]
      · simp only [Bool.and_eq_false_iff, decide_eq_false_iff_not]
        omega
    · have := gt (by omega)
      rw [decide_eq_false (show ¬ dayR y m d < dayR y' m' d' by omega), decide_eq_false (show ¬ dayR y m d = dayR y' m' d' by omega)]
      constructor
      · simp only [Bool.or_eq_false_iff, Bool.and_eq_false_iff, decide_eq_false_iff_not]
        omega
      · simp only [Bool.and_eq_false_iff, decide_eq_false_iff_not]
        omega
theorem X10_le (c0 c1 c2 c3 c4 c5 c6 c7 c8 c9 : UInt8) : X10 c0 c1 c2 c3 c4 c5 c6 c7 c8 c9 ≤ 36524 := by
  by_cases h : 0 ≤ X10 c0 c1 c2 c3 c4 c5 c6 c7 c8 c9
  · obtain ⟨_, _, g, e⟩ := X10_good h
    have g' := (good_iff _ _ _).1 g
    have := day_le (numL [c0, c1, c2, c3] 0).toNat (numL [c5, c6] 0).toNat (numL [c8, c9] 0).toNat (by rw [Int.toNat_of_nonneg (by omega), Int.toNat_of_nonneg (by omega), Int.toNat_of_nonneg (by omega)]; exact g)
    rw [Int.toNat_of_nonneg (by omega), Int.toNat_of_nonneg (by omega), Int.toNat_of_nonneg (by omega)] at this
    rw [e]
    exact this
  · omega
theorem DateOrder' : remitterlaw06_DateOrder.Pure := by
  intro a0 a1 _ _
  refine ⟨10, ?_⟩
  obtain ⟨l, rfl⟩ := bs_ex a0
  obtain ⟨l', rfl⟩ := bs_ex a1
  unfold remitterlaw06_DateOrder.f
  by_cases hl : wrap64 (((bs l).size : Int) + ((bs l').size : Int)) > 40
  · rw [if_pos hl, wakes_ok]
    rfl
  · rw [if_neg hl]
    have e0 : (bs l).toList = l := bs_toList _
    have e1 : (bs l').toList = l' := bs_toList _
    by_cases h1 : l.length = 10
    · obtain ⟨c0, c1, c2, c3, c4, c5, c6, c7, c8, c9, rfl⟩ := ten l h1
      by_cases h2 : l'.length = 10
      · obtain ⟨d0, d1, d2, d3, d4, d5, d6, d7, d8, d9, rfl⟩ := ten l' h2
        rw [day_ten, day_ten]
        have o := order_ten c0 c1 c2 c3 c4 c5 c6 c7 c8 c9 d0 d1 d2 d3 d4 d5 d6 d7 d8 d9
        have ck := checkXML_ten c0 c1 c2 c3 c4 c5 c6 c7 c8 c9
        have ck' := checkXML_ten d0 d1 d2 d3 d4 d5 d6 d7 d8 d9
        have le := X10_le c0 c1 c2 c3 c4 c5 c6 c7 c8 c9
        generalize X10 c0 c1 c2 c3 c4 c5 c6 c7 c8 c9 = x at *
        generalize X10 d0 d1 d2 d3 d4 d5 d6 d7 d8 d9 = y at *
        by_cases hx : 0 ≤ x
        · by_cases hy : 0 ≤ y
          · obtain ⟨o1, o2⟩ := o hx hy
            have o3 : (x == y) = decide (x = y) := by
              by_cases e : x = y
              · subst e; simp
              · rw [decide_eq_false e]; exact beq_eq_false_iff_ne.2 e
            simp [hx, hy, remitterlaw06_DateOrder.j0, wakes_ok, e0, e1, o1, o2, o3, le]
          · simp [hx, hy, remitterlaw06_DateOrder.j0, wakes_ok, ck, ck']
        · simp [hx, remitterlaw06_DateOrder.j0, wakes_ok, ck]
      · rw [day_other l' h2, day_ten]
        have ck := checkXML_ten c0 c1 c2 c3 c4 c5 c6 c7 c8 c9
        have ck' := checkXML_other l' h2
        by_cases hx : 0 ≤ X10 c0 c1 c2 c3 c4 c5 c6 c7 c8 c9
        · simp [hx, remitterlaw06_DateOrder.j0, wakes_ok, ck, ck']
        · simp [hx, remitterlaw06_DateOrder.j0, wakes_ok, ck, ck']
    · have ck := checkXML_other l h1
      rw [day_other l h1]
      by_cases h2 : l'.length = 10
      · obtain ⟨d0, d1, d2, d3, d4, d5, d6, d7, d8, d9, rfl⟩ := ten l' h2
        rw [day_ten]
        simp [remitterlaw06_DateOrder.j0, wakes_ok, ck]
      · rw [day_other l' h2]
        simp [remitterlaw06_DateOrder.j0, wakes_ok, ck]

/-! ### the document's texts -/
/-- The byte of a number's last digit. -/
def dg (n : Nat) : UInt8 := UInt8.ofNat (48 + n % 10)
theorem dg_toNat (n : Nat) : (dg n).toNat = 48 + n % 10 := by
  unfold dg
  rw [UInt8.toNat_ofNat']
  omega
theorem dg_isD (n : Nat) : isD (dg n) := by unfold isD; rw [dg_toNat]; omega
theorem two_step (k n w : Nat) (l : List UInt8) (i : Nat) (hi : i < w) (hw : w ≤ 100) (hn : n ≤ 1000000) (hl : l.length ≤ 1000) :
    remitterref06_two.l0 (k + 1) n w (bs l) i = remitterref06_two.l0 k ((n / 10 : Nat) : Int) w (bs (dg n :: l)) ((i + 1 : Nat) : Int) := by
  rw [remitterref06_two.l0, if_pos (by omega)]
  have e1 : Int.tmod (n : Int) 10 = ((n % 10 : Nat) : Int) := by rw [Int.tmod_eq_emod_of_nonneg (by omega)]; omega
  have e2 : Int.tdiv (n : Int) 10 = ((n / 10 : Nat) : Int) := by rw [Int.tdiv_eq_ediv_of_nonneg (by omega)]; omega
  rw [e1, e2, wrap_ok (x := 48 + ((n % 10 : Nat) : Int)) (by omega) (by omega), wrap_ok (x := ((n / 10 : Nat) : Int)) (by omega) (by omega), wrap_ok (by omega) (by omega), Option.bind_some]
  have e3 : strOfNums [(48 + ((n % 10 : Nat) : Int)) % 256] = bs [dg n] := by
    have : ((48 + ((n % 10 : Nat) : Int)) % 256).toNat = 48 + n % 10 := by omega
    show (⟨[UInt8.ofNat ((48 + ((n % 10 : Nat) : Int)) % 256).toNat].toArray⟩ : ByteArray) = ⟨[UInt8.ofNat (48 + n % 10)].toArray⟩
    rw [this]
  rw [e3, bs_append, bs_size, bs_size, if_pos (by simp; omega)]
  rfl
theorem two_2 (k n : Nat) (hk : 3 ≤ k) (hn : n ≤ 1000000) : remitterref06_two.f k n 2 = some (bs [dg (n / 10), dg n]) := by
  obtain ⟨k, rfl⟩ : ∃ j, k = j + 3 := ⟨k - 3, by omega⟩
  unfold remitterref06_two.f
  have s1 := two_step (k + 2) n 2 [] 0 (by omega) (by omega) hn (by simp)
  have s2 := two_step (k + 1) (n / 10) 2 [dg n] 1 (by omega) (by omega) (by omega) (by simp)
  rw [show (2 : Int) = ((2 : Nat) : Int) from rfl, show (0 : Int) = ((0 : Nat) : Int) from rfl, show (⟨#[]⟩ : ByteArray) = bs [] from rfl]
  rw [show k + 3 = k + 2 + 1 from rfl, s1, show k + 2 = k + 1 + 1 from rfl, s2, remitterref06_two.l0, if_neg (by omega)]
theorem two_4 (k n : Nat) (hk : 5 ≤ k) (hn : n ≤ 1000000) : remitterref06_two.f k n 4 = some (bs [dg (n / 10 / 10 / 10), dg (n / 10 / 10), dg (n / 10), dg n]) := by
  obtain ⟨k, rfl⟩ : ∃ j, k = j + 5 := ⟨k - 5, by omega⟩
  unfold remitterref06_two.f
  have s1 := two_step (k + 4) n 4 [] 0 (by omega) (by omega) hn (by simp)
  have s2 := two_step (k + 3) (n / 10) 4 [dg n] 1 (by omega) (by omega) (by omega) (by simp)
  have s3 := two_step (k + 2) (n / 10 / 10) 4 [dg (n / 10), dg n] 2 (by omega) (by omega) (by omega) (by simp)
  have s4 := two_step (k + 1) (n / 10 / 10 / 10) 4 [dg (n / 10 / 10), dg (n / 10), dg n] 3 (by omega) (by omega) (by omega) (by simp)
  rw [show (4 : Int) = ((4 : Nat) : Int) from rfl, show (0 : Int) = ((0 : Nat) : Int) from rfl, show (⟨#[]⟩ : ByteArray) = bs [] from rfl]
  rw [show k + 5 = k + 4 + 1 from rfl, s1, show k + 4 = k + 3 + 1 from rfl, s2, show k + 3 = k + 2 + 1 from rfl, s3, show k + 2 = k + 1 + 1 from rfl, s4, remitterref06_two.l0, if_neg (by omega)]
theorem num_dg2 (n : Nat) (h : n < 100) : numL [dg (n / 10), dg n] 0 = (n : Int) := by
  rw [numL_eq _ (by simp), if_pos ((allD_two ..).2 ⟨dg_isD _, dg_isD _⟩)]
  simp only [numN, dg_toNat]
  omega
theorem num_dg4 (n : Nat) (h : n < 10000) : numL [dg (n / 10 / 10 / 10), dg (n / 10 / 10), dg (n / 10), dg n] 0 = (n : Int) := by
  rw [numL_eq _ (by simp), if_pos ((allD_four ..).2 ⟨dg_isD _, dg_isD _, dg_isD _, dg_isD _⟩)]
  simp only [numN, dg_toNat]
  omega
theorem text_l0 (N : Nat) (hN : N ≤ 36524) (r : Nat) : ∀ (k n y m : Nat), (2080 - y) * 12 + (12 - m) ≤ r → 1980 ≤ y → y ≤ 2079 → 1 ≤ m → m ≤ 12 → (n : Int) + sumY (y - 1980) + sumM y m = N → r + 10 < k →
    ∃ c0 c1 c2 c3 c4 c5 c6 c7 c8 c9, remitterref06_Text.l0 k n y m = some (bs [c0, c1, c2, c3, c4, c5, c6, c7, c8, c9]) ∧ X10 c0 c1 c2 c3 c4 c5 c6 c7 c8 c9 = (N : Int) := by
  induction r with
  | zero => intro k n y m hr hy0 hy1; omega
  | succ r ih =>
    intro k n y m hr hy0 hy1 hm0 hm1 hs hk
    obtain ⟨k, rfl⟩ : ∃ j, k = j + 1 := ⟨k - 1, by omega⟩
    have lf := length_f k y m (by omega) (by omega) hm0 hm1
    have lb := monthsL_bd y m
    have ms := sumM_succ y m (by omega)
    have sy := sumY_bd (y - 1980) (by omega)
    have sm := sumM_bd y m (by omega)
    rw [remitterref06_Text.l0, lf, Option.bind_some]
    have hlen : monthLen y m = (monthsL y).getD m 0 := rfl
    by_cases hge : (n : Int) ≥ monthLen y m
    · rw [if_pos hge, Option.bind_some, wrap_ok (x := (m : Int) + 1) (by omega) (by omega), wrap_ok (x := (n : Int) - monthLen y m) (by omega) (by omega)]
      obtain ⟨n', hn'⟩ : ∃ n' : Nat, (n : Int) - monthLen y m = n' := ⟨((n : Int) - monthLen y m).toNat, by omega⟩
      rw [hn']
      by_cases h13 : (m : Int) + 1 = 13
      · rw [if_pos h13, wrap_ok (by omega) (by omega)]
        have h12 : m = 12 := by omega
        subst h12
        have yl := sumM_year y
        have ys : sumY (y + 1 - 1980) = sumY (y - 1980) + (if y % 4 = 0 then 366 else 365) := by
          rw [show y + 1 - 1980 = (y - 1980) + 1 by omega, sumY, show 1980 + (y - 1980) = y by omega]
        rw [← yl] at ys
        rw [show 12 + 1 = 13 from rfl] at ms
        have b1 : sumM (y + 1) 1 = 0 := by simp [sumM, monthsL]
        have hy2 : y + 1 ≤ 2079 := by
          have h100 := sumY_mono
          rcases Nat.lt_or_ge (y + 1) 2080 with h | h
          · omega
          · have e : y + 1 - 1980 = 100 := by omega
            rw [e, sumY_100] at ys
            omega
        have := ih k n' (y + 1) 1 (by omega) (by omega) hy2 (by omega) (by omega) (by omega) (by omega)
        rw [Int.natCast_add] at this
        exact this
      · rw [if_neg h13]
        have := ih k n' y (m + 1) (by omega) (by omega) hy1 (by omega) (by omega) (by omega) (by omega)
        rw [Int.natCast_add] at this
        exact this
    · rw [if_neg hge]
      have t4 := two_4 k y (by omega) (by omega)
      have t2 := two_2 k m (by omega) (by omega)
      have t2' := two_2 k (n + 1) (by omega) (by omega)
      rw [Int.natCast_add, show ((1 : Nat) : Int) = 1 from rfl] at t2'
      rw [t4, Option.bind_some, bs_size, if_pos (by simp), t2, Option.bind_some, show (⟨#[45]⟩ : ByteArray) = bs [45] from rfl, bs_append, bs_size, bs_size, if_pos (by simp), bs_append, bs_size, if_pos (by simp), wrap_ok (by omega) (by omega), t2', Option.bind_some, bs_append, bs_size, bs_size, if_pos (by simp), bs_append]
      refine ⟨_, _, _, _, _, _, _, _, _, _, rfl, ?_⟩
      have hg : goodB (y : Int) (m : Int) ((n + 1 : Nat) : Int) = true := (good_iff _ _ _).2 (by simp only [Int.toNat_natCast]; omega)
      unfold X10
      rw [if_pos ⟨rfl, rfl⟩, num_dg4 y (by omega), num_dg2 m (by omega), num_dg2 (n + 1) (by omega), dayR, if_pos hg]
      simp only [Int.toNat_natCast]
      omega
theorem text_f (N : Nat) (hN : N ≤ 36524) (k : Nat) (hk : 3000 ≤ k) :
    ∃ c0 c1 c2 c3 c4 c5 c6 c7 c8 c9, remitterref06_Text.f k N = some (bs [c0, c1, c2, c3, c4, c5, c6, c7, c8, c9]) ∧ X10 c0 c1 c2 c3 c4 c5 c6 c7 c8 c9 = (N : Int) := by
  unfold remitterref06_Text.f
  exact text_l0 N hN 1500 k N 1980 1 (by omega) (by omega) (by omega) (by omega) (by omega) (by simp [sumM, monthsL, sumY]) (by omega)
theorem same_ten {c0 c1 c2 c3 c4 c5 c6 c7 c8 c9 d0 d1 d2 d3 d4 d5 d6 d7 d8 d9 : UInt8} (h : 0 ≤ X10 c0 c1 c2 c3 c4 c5 c6 c7 c8 c9) (e : X10 c0 c1 c2 c3 c4 c5 c6 c7 c8 c9 = X10 d0 d1 d2 d3 d4 d5 d6 d7 d8 d9) :
    [c0, c1, c2, c3, c4, c5, c6, c7, c8, c9] = [d0, d1, d2, d3, d4, d5, d6, d7, d8, d9] := by
  have := (order_ten c0 c1 c2 c3 c4 c5 c6 c7 c8 c9 d0 d1 d2 d3 d4 d5 d6 d7 d8 d9 h (e ▸ h)).2
  rw [decide_eq_true e] at this
  exact eq_of_beq this
theorem moment_zero (c0 c1 c2 c3 c4 c5 c6 c7 c8 c9 : UInt8) (h : 0 ≤ X10 c0 c1 c2 c3 c4 c5 c6 c7 c8 c9) : date_CheckMoment.f (bs [c0, c1, c2, c3, c4, c5, c6, c7, c8, c9, 84, 48, 48, 58, 48, 48, 58, 48, 48]) = some 0 := by
  unfold date_CheckMoment.f
  have x0 : (bs [c0, c1, c2, c3, c4, c5, c6, c7, c8, c9, 84, 48, 48, 58, 48, 48, 58, 48, 48]).extract 0 10 = bs [c0, c1, c2, c3, c4, c5, c6, c7, c8, c9] := bs_extract _ _ _
  have x1 : (bs [c0, c1, c2, c3, c4, c5, c6, c7, c8, c9, 84, 48, 48, 58, 48, 48, 58, 48, 48]).extract 11 13 = bs [48, 48] := bs_extract _ _ _
  have x2 : (bs [c0, c1, c2, c3, c4, c5, c6, c7, c8, c9, 84, 48, 48, 58, 48, 48, 58, 48, 48]).extract 14 16 = bs [48, 48] := bs_extract _ _ _
  have x3 : (bs [c0, c1, c2, c3, c4, c5, c6, c7, c8, c9, 84, 48, 48, 58, 48, 48, 58, 48, 48]).extract 17 19 = bs [48, 48] := bs_extract _ _ _
  have b1 : bt (bs [c0, c1, c2, c3, c4, c5, c6, c7, c8, c9, 84, 48, 48, 58, 48, 48, 58, 48, 48]) 10 = 84 := bt_nat _ 10
  have b2 : bt (bs [c0, c1, c2, c3, c4, c5, c6, c7, c8, c9, 84, 48, 48, 58, 48, 48, 58, 48, 48]) 13 = 58 := bt_nat _ 13
  have b3 : bt (bs [c0, c1, c2, c3, c4, c5, c6, c7, c8, c9, 84, 48, 48, 58, 48, 48, 58, 48, 48]) 16 = 58 := bt_nat _ 16
  have n0 : date_number.f (bs [48, 48]) = some 0 := by decide +kernel
  rw [bs_size, if_pos (by rfl), x0, x1, x2, x3, checkXML_ten, if_pos h, n0, b1, b2, b3]
  rfl
theorem DateTurns' : remitterlaw06_DateTurns.Pure := by
  intro a0 h0
  have hw : 0 ≤ a0 ∧ a0 ≤ 65535 := by
    have h1 := h0
    simp only [Lit.wf, Bool.and_eq_true, decide_eq_true_eq] at h1
    exact h1
  refine ⟨10000, ?_⟩
  obtain ⟨N, hN⟩ : ∃ N : Nat, Int.tmod (wrap64 a0) 36525 = (N : Int) := by
    rw [wrap_ok (by omega) (by omega), Int.tmod_eq_emod_of_nonneg hw.1]
    exact ⟨(a0 % 36525).toNat, by omega⟩
  have hle : N ≤ 36524 := by
    rw [wrap_ok (by omega) (by omega), Int.tmod_eq_emod_of_nonneg hw.1] at hN
    omega
  unfold remitterlaw06_DateTurns.f
  rw [hN]
  obtain ⟨c0, c1, c2, c3, c4, c5, c6, c7, c8, c9, ht, hx⟩ := text_f N hle 10000 (by omega)
  have hx0 : 0 ≤ X10 c0 c1 c2 c3 c4 c5 c6 c7 c8 c9 := by omega
  have hm := m6_of_ten hx0
  have hm0 : 0 ≤ M6 c2 c3 c5 c6 c8 c9 := by omega
  have hc := cent_x10 c2 c3 c5 c6 c8 c9
  have hsame := same_ten (d0 := (cent c2 c3).1) (d1 := (cent c2 c3).2) (d2 := c2) (d3 := c3) (d4 := 45) (d5 := c5) (d6 := c6) (d7 := 45) (d8 := c8) (d9 := c9) hx0 (by omega)
  have mz := moment_zero c0 c1 c2 c3 c4 c5 c6 c7 c8 c9 hx0
  rw [ht, Option.bind_some, toMT_ten, if_pos hx0, Option.bind_some]
  simp only [toXML_six, if_pos hm0, Option.bind_some, day_ten, if_pos hx0, ← hsame, if_true, bs_size]
  rw [if_pos hx, if_pos (by rfl), if_pos (by simp), show (⟨#[84, 48, 48, 58, 48, 48, 58, 48, 48]⟩ : ByteArray) = bs [84, 48, 48, 58, 48, 48, 58, 48, 48] from rfl, bs_append]
  simp only [List.cons_append, List.nil_append]
  rw [mz, Option.bind_some, remitterlaw06_DateTurns.j0, if_neg (by decide)]
  by_cases hl : N = 36524
  · rw [if_pos (by omega)]
    have e0 : X10 50 48 55 57 45 49 50 45 51 49 = 36524 := by decide +kernel
    have := same_ten (d0 := 50) (d1 := 48) (d2 := 55) (d3 := 57) (d4 := 45) (d5 := 49) (d6 := 50) (d7 := 45) (d8 := 51) (d9 := 49) hx0 (by omega)
    rw [this, bs_toList, if_pos rfl, wakes_ok]
    rfl
  · rw [if_neg (by omega), wrap_ok (by omega) (by omega)]
    obtain ⟨d0, d1, d2, d3, d4, d5, d6, d7, d8, d9, ht', hy⟩ := text_f (N + 1) (by omega) 9999 (by omega)
    rw [Int.natCast_add, show ((1 : Nat) : Int) = 1 from rfl] at ht' hy
    have hy0 : 0 ≤ X10 d0 d1 d2 d3 d4 d5 d6 d7 d8 d9 := by omega
    have o := (order_ten c0 c1 c2 c3 c4 c5 c6 c7 c8 c9 d0 d1 d2 d3 d4 d5 d6 d7 d8 d9 hx0 hy0).1
    rw [decide_eq_true (show X10 c0 c1 c2 c3 c4 c5 c6 c7 c8 c9 < X10 d0 d1 d2 d3 d4 d5 d6 d7 d8 d9 by omega)] at o
    rw [ht', Option.bind_some, day_ten, if_pos hy0, Option.bind_some]
    simp only [if_true]
    rw [if_pos hy, bs_toList, bs_toList, o, if_pos rfl, wakes_ok]
    rfl
end Go.Proofs.YtjemnphmjbodfaaDoor.PAll

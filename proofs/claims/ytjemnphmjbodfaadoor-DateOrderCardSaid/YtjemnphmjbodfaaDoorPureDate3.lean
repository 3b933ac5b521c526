/- What date's functions and the document's give, on. -/
import Derived.Test.YtjemnphmjbodfaaDoorPureDate2
import Derived.Lib.SplitLaws
import Derived.Lib.IndexBytes
namespace Go.Proofs.YtjemnphmjbodfaaDoor.PAll
open Go.RowKit Go.Proofs.YtjemnphmjbodfaaDoorW.PrintWords GPlain
set_option linter.unusedSimpArgs false

theorem numL_bd2 (a b : UInt8) : -1 ≤ numL [a, b] 0 ∧ numL [a, b] 0 ≤ 99 := by
  rw [numL_eq _ (by simp)]
  split
  · rename_i hd
    have := numN_lt [a, b] 0 hd
    simp at this
    omega
  · omega
theorem numL_allD (l : List UInt8) (hl : l.length ≤ 8) (h : 0 ≤ numL l 0) : allD l := by
  rw [numL_eq l hl] at h
  split at h
  · assumption
  · exact absurd h (by decide)
theorem allD_two (a b : UInt8) : allD [a, b] ↔ isD a ∧ isD b := by simp [allD]
theorem allD_four (a b c d : UInt8) : allD [a, b, c, d] ↔ isD a ∧ isD b ∧ isD c ∧ isD d := by simp [allD]
theorem num_four (a b c d : UInt8) : numL [a, b, c, d] 0 = if numL [a, b] 0 < 0 ∨ numL [c, d] 0 < 0 then -1 else 100 * numL [a, b] 0 + numL [c, d] 0 := by
  rw [numL_eq [a, b, c, d] (by simp), numL_eq [a, b] (by simp), numL_eq [c, d] (by simp)]
  by_cases h1 : allD [a, b]
  · by_cases h2 : allD [c, d]
    · have h4 : allD [a, b, c, d] := (allD_four ..).2 ⟨((allD_two ..).1 h1).1, ((allD_two ..).1 h1).2, (allD_two ..).1 h2⟩
      rw [if_pos h1, if_pos h2, if_pos h4, if_neg (by omega)]
      simp only [numN]
      omega
    · have h4 : ¬ allD [a, b, c, d] := fun e => h2 ((allD_two ..).2 ((allD_four ..).1 e).2.2)
      rw [if_pos h1, if_neg h2, if_neg h4, if_pos (.inr (by decide))]
  · have h4 : ¬ allD [a, b, c, d] := fun e => h1 ((allD_two ..).2 ⟨((allD_four ..).1 e).1, ((allD_four ..).1 e).2.1⟩)
    rw [if_neg h1, if_neg h4, if_pos (.inl (by decide))]
theorem ref_xml_ten (c0 c1 c2 c3 c4 c5 c6 c7 c8 c9 : UInt8) (k : Nat) (hk : 4000 ≤ k) :
    remitterref06_XML.f k (bs [c0, c1, c2, c3, c4, c5, c6, c7, c8, c9]) = some (X10 c0 c1 c2 c3 c4 c5 c6 c7 c8 c9) := by
  obtain ⟨k, rfl⟩ : ∃ j, k = j + 1 := ⟨k - 1, by omega⟩
  unfold remitterref06_XML.f X10
  have e4 : bt (bs [c0, c1, c2, c3, c4, c5, c6, c7, c8, c9]) 4 = (c4.toNat : Int) := bt_nat _ 4
  have e7 : bt (bs [c0, c1, c2, c3, c4, c5, c6, c7, c8, c9]) 7 = (c7.toNat : Int) := bt_nat _ 7
  have d1 := digits_f [c0, c1, c2, c3, c4, c5, c6, c7, c8, c9] 0 4 (by simp) (by simp) k (by omega)
  have d2 := digits_f [c0, c1, c2, c3, c4, c5, c6, c7, c8, c9] 5 2 (by simp) (by simp) k (by omega)
  have d3 := digits_f [c0, c1, c2, c3, c4, c5, c6, c7, c8, c9] 8 2 (by simp) (by simp) k (by omega)
  have hz : (bs [c0, c1, c2, c3, c4, c5, c6, c7, c8, c9]).size = 10 := bs_size _
  have bad : remitterref06_XML.j0 (k + 1) (bs [c0, c1, c2, c3, c4, c5, c6, c7, c8, c9]) true = some (-1) := by rw [remitterref06_XML.j0, if_pos rfl]
  rw [hz, e4, e7]
  rw [if_pos (by rfl), if_pos (by decide)]
  simp only [c45]
  by_cases h4 : c4 = 45
  · rw [if_pos h4, if_pos (by decide)]
    by_cases h7 : c7 = 45
    · have e : ((c7.toNat : Int) != 45) = false := by subst h7; rfl
      rw [e, if_pos ⟨h4, h7⟩, remitterref06_XML.j0, if_neg (by decide)]
      rw [show ((0 : Nat) : Int) = 0 from rfl, show ((4 : Nat) : Int) = 4 from rfl] at d1
      rw [show ((5 : Nat) : Int) = 5 from rfl, show ((2 : Nat) : Int) = 2 from rfl] at d2
      rw [show ((8 : Nat) : Int) = 8 from rfl, show ((2 : Nat) : Int) = 2 from rfl] at d3
      rw [d1, d2, d3]
      simp only [Option.bind_some]
      have b := numL_bd2 c8 c9
      rw [ref_day k (by omega) _ _ _ (by simp; omega)]
      rfl
    · have e : ((c7.toNat : Int) != 45) = true := bne_iff_ne.2 (fun e => h7 ((c45 c7) ▸ e))
      rw [e, bad, if_neg (fun x => h7 x.2)]
  · rw [if_neg h4, bad, if_neg (fun x => h4 x.1)]
theorem ref_xml_other (l : List UInt8) (h : l.length ≠ 10) (k : Nat) (hk : 0 < k) : remitterref06_XML.f k (bs l) = some (-1) := by
  obtain ⟨k, rfl⟩ : ∃ j, k = j + 1 := ⟨k - 1, by omega⟩
  unfold remitterref06_XML.f
  rw [bs_size, if_neg (by omega), remitterref06_XML.j0, if_pos rfl]
/-- The day of a text of six bytes. -/
def M6 (c0 c1 c2 c3 c4 c5 : UInt8) : Int :=
  if numL [c0, c1] 0 < 0 then -1 else dayR (if 80 ≤ numL [c0, c1] 0 then 1900 + numL [c0, c1] 0 else 2000 + numL [c0, c1] 0) (numL [c2, c3] 0) (numL [c4, c5] 0)
theorem ref_mt_six (c0 c1 c2 c3 c4 c5 : UInt8) (k : Nat) (hk : 4000 ≤ k) : remitterref06_MT.f k (bs [c0, c1, c2, c3, c4, c5]) = some (M6 c0 c1 c2 c3 c4 c5) := by
  unfold remitterref06_MT.f M6
  have d1 := digits_f [c0, c1, c2, c3, c4, c5] 0 2 (by simp) (by simp) k (by omega)
  have d2 := digits_f [c0, c1, c2, c3, c4, c5] 2 2 (by simp) (by simp) k (by omega)
  have d3 := digits_f [c0, c1, c2, c3, c4, c5] 4 2 (by simp) (by simp) k (by omega)
  have hz : (bs [c0, c1, c2, c3, c4, c5]).size = 6 := bs_size _
  rw [show ((0 : Nat) : Int) = 0 from rfl, show ((2 : Nat) : Int) = 2 from rfl] at d1
  rw [show ((2 : Nat) : Int) = 2 from rfl] at d2
  rw [show ((4 : Nat) : Int) = 4 from rfl, show ((2 : Nat) : Int) = 2 from rfl] at d3
  have s1 : ([c0, c1, c2, c3, c4, c5].take (0 + 2)).drop 0 = [c0, c1] := rfl
  have s2 : ([c0, c1, c2, c3, c4, c5].take (2 + 2)).drop 2 = [c2, c3] := rfl
  have s3 : ([c0, c1, c2, c3, c4, c5].take (4 + 2)).drop 4 = [c4, c5] := rfl
  rw [s1] at d1
  rw [s2] at d2
  rw [s3] at d3
  rw [hz, if_pos (by rfl), d1, Option.bind_some]
  have b0 := numL_bd2 c0 c1
  have b := numL_bd2 c4 c5
  by_cases h0 : numL [c0, c1] 0 < 0
  · rw [if_pos h0, if_pos h0]
  · rw [if_neg h0, if_neg h0, d2, d3]
    simp only [Option.bind_some]
    by_cases h8 : 80 ≤ numL [c0, c1] 0
    · rw [if_pos h8, if_pos h8, wrap_ok (x := numL [c0, c1] 0 - 100) (by omega) (by omega), wrap_ok (by omega) (by omega), ref_day k (by omega) _ _ _ (by omega)]
      rw [show 2000 + (numL [c0, c1] 0 - 100) = 1900 + numL [c0, c1] 0 by omega]
      rfl
    · rw [if_neg h8, if_neg (by omega), wrap_ok (by omega) (by omega), ref_day k (by omega) _ _ _ (by omega)]
      rfl
theorem ref_mt_other (l : List UInt8) (h : l.length ≠ 6) (k : Nat) : remitterref06_MT.f k (bs l) = some (-1) := by
  unfold remitterref06_MT.f
  rw [bs_size, if_neg (by omega)]
theorem dayR_neg (m d : Int) : dayR (-1) m d = -1 := by
  unfold dayR
  rw [if_neg (fun e => by have := (good_iff _ _ _).1 e; omega)]
/-- The text of XML of six bytes. -/
theorem x10_of_six (c0 c1 c2 c3 c4 c5 : UInt8) :
    (80 ≤ numL [c0, c1] 0 → X10 49 57 c0 c1 45 c2 c3 45 c4 c5 = M6 c0 c1 c2 c3 c4 c5) ∧ (¬ 80 ≤ numL [c0, c1] 0 → X10 50 48 c0 c1 45 c2 c3 45 c4 c5 = M6 c0 c1 c2 c3 c4 c5) := by
  have n19 : numL [49, 57] 0 = 19 := by decide +kernel
  have n20 : numL [50, 48] 0 = 20 := by decide +kernel
  unfold X10 M6
  have hc : (45 : UInt8) = 45 ∧ (45 : UInt8) = 45 := ⟨rfl, rfl⟩
  rw [if_pos hc, if_pos hc, num_four, num_four, n19, n20]
  constructor
  · intro h
    rw [if_neg (by omega), if_neg (by omega), if_pos h]
    rfl
  · intro h
    rw [if_neg h]
    by_cases h0 : numL [c0, c1] 0 < 0
    · rw [if_pos (.inr h0), if_pos h0, dayR_neg]
    · rw [if_neg (by omega), if_neg h0]
      rfl
theorem xmlB_19 (c0 c1 c2 c3 c4 c5 : UInt8) : xmlB (bs [c0, c1, c2, c3, c4, c5]) (⟨#[49, 57]⟩ : ByteArray) = bs [49, 57, c0, c1, 45, c2, c3, 45, c4, c5] := by
  unfold xmlB
  rw [show (⟨#[49, 57]⟩ : ByteArray) = bs [49, 57] from rfl, show (⟨#[45]⟩ : ByteArray) = bs [45] from rfl]
  simp only [bs_extract, bs_append]
  rfl
theorem xmlB_20 (c0 c1 c2 c3 c4 c5 : UInt8) : xmlB (bs [c0, c1, c2, c3, c4, c5]) (⟨#[50, 48]⟩ : ByteArray) = bs [50, 48, c0, c1, 45, c2, c3, 45, c4, c5] := by
  unfold xmlB
  rw [show (⟨#[50, 48]⟩ : ByteArray) = bs [50, 48] from rfl, show (⟨#[45]⟩ : ByteArray) = bs [45] from rfl]
  simp only [bs_extract, bs_append]
  rfl
/-- The century of two digits. -/
def cent (c0 c1 : UInt8) : UInt8 × UInt8 := if 80 ≤ numL [c0, c1] 0 then (49, 57) else (50, 48)
theorem toXML_six (c0 c1 c2 c3 c4 c5 : UInt8) :
    date_ToXML.f (bs [c0, c1, c2, c3, c4, c5]) = some (if 0 ≤ M6 c0 c1 c2 c3 c4 c5 then (bs [(cent c0 c1).1, (cent c0 c1).2, c0, c1, 45, c2, c3, 45, c4, c5], 0) else (bs [], 16)) := by
  unfold date_ToXML.f cent
  have hz : (bs [c0, c1, c2, c3, c4, c5]).size = 6 := bs_size _
  have x0 : (bs [c0, c1, c2, c3, c4, c5]).extract 0 2 = bs [c0, c1] := bs_extract _ _ _
  have hx := x10_of_six c0 c1 c2 c3 c4 c5
  rw [if_pos hz, x0, num_f _ (by simp), Option.bind_some]
  by_cases h : 80 ≤ numL [c0, c1] 0
  · rw [if_pos h, if_pos h, xmlB_19, checkXML_ten, Option.bind_some, hx.1 h]
    by_cases hm : 0 ≤ M6 c0 c1 c2 c3 c4 c5
    · rw [if_pos hm, if_pos hm, if_pos rfl]
    · rw [if_neg hm, if_neg hm, if_neg (by decide)]
      rfl
  · rw [if_neg h, if_neg h, xmlB_20, checkXML_ten, Option.bind_some, hx.2 h]
    by_cases hm : 0 ≤ M6 c0 c1 c2 c3 c4 c5
    · rw [if_pos hm, if_pos hm, if_pos rfl]
    · rw [if_neg hm, if_neg hm, if_neg (by decide)]
      rfl
theorem toXML_other (l : List UInt8) (h : l.length ≠ 6) : date_ToXML.f (bs l) = some (bs [], 16) := by
  unfold date_ToXML.f
  rw [bs_size, if_neg h]
  rfl
theorem cent_x10 (c0 c1 c2 c3 c4 c5 : UInt8) : X10 (cent c0 c1).1 (cent c0 c1).2 c0 c1 45 c2 c3 45 c4 c5 = M6 c0 c1 c2 c3 c4 c5 := by
  have hx := x10_of_six c0 c1 c2 c3 c4 c5
  unfold cent
  by_cases h : 80 ≤ numL [c0, c1] 0
  · rw [if_pos h]; exact hx.1 h
  · rw [if_neg h]; exact hx.2 h
theorem isD_ne (c : UInt8) (h : isD c) : c ≠ 45 := fun e => by subst e; exact absurd h (by decide)
theorem index_at (a b : UInt8) (r : List UInt8) (ha : a ≠ 45) (hb : b ≠ 45) : Lib.index (a :: b :: 45 :: r) [45] = ((2 : Nat) : Int) := by
  rw [Lib.index_one]
  simp [Lib.indexByte, ha, hb]
theorem replace_all (a b c d e f : UInt8) (ha : a ≠ 45) (hb : b ≠ 45) (hc : c ≠ 45) (hd : d ≠ 45) (he : e ≠ 45) (hf : f ≠ 45) :
    Lib.replaceAll [a, b, 45, c, d, 45, e, f] [45] [] = [a, b, c, d, e, f] := by
  have hc2 : Lib.count [a, b, 45, c, d, 45, e, f] [45] = 2 := by
    rw [Lib.count_one]
    simp [ha, hb, hc, hd, he, hf]
  unfold Lib.replaceAll Lib.replace Lib.replaceNum
  rw [hc2, if_neg (by decide), if_pos (.inl (by decide)), Lib.replaceK_hit _ _ _ _ 2 (index_at a b _ ha hb)]
  simp only [List.take_succ_cons, List.take_zero, List.drop_succ_cons, List.drop_zero, List.length_cons, List.length_nil, Nat.zero_add, Nat.reduceAdd]
  rw [Lib.replaceK_hit _ _ _ _ 2 (index_at c d _ hc hd)]
  rfl
theorem x10_digits {c0 c1 c2 c3 c4 c5 c6 c7 c8 c9 : UInt8} (h : 0 ≤ X10 c0 c1 c2 c3 c4 c5 c6 c7 c8 c9) :
    c4 = 45 ∧ c7 = 45 ∧ isD c0 ∧ isD c1 ∧ isD c2 ∧ isD c3 ∧ isD c5 ∧ isD c6 ∧ isD c8 ∧ isD c9 := by
  obtain ⟨h4, h7, hg, _⟩ := X10_good h
  have g := (good_iff _ _ _).1 hg
  have d1 := (allD_four ..).1 (numL_allD [c0, c1, c2, c3] (by simp) (by omega))
  have d2 := (allD_two ..).1 (numL_allD [c5, c6] (by simp) (by omega))
  have d3 := (allD_two ..).1 (numL_allD [c8, c9] (by simp) (by omega))
  exact ⟨h4, h7, d1.1, d1.2.1, d1.2.2.1, d1.2.2.2, d2.1, d2.2, d3.1, d3.2⟩
theorem toMT_ten (c0 c1 c2 c3 c4 c5 c6 c7 c8 c9 : UInt8) :
    date_ToMT.f (bs [c0, c1, c2, c3, c4, c5, c6, c7, c8, c9]) = some (if 0 ≤ X10 c0 c1 c2 c3 c4 c5 c6 c7 c8 c9 then (bs [c2, c3, c5, c6, c8, c9], 0) else (bs [], 16)) := by
  unfold date_ToMT.f
  have hz : (bs [c0, c1, c2, c3, c4, c5, c6, c7, c8, c9]).size = 10 := bs_size _
  have x0 : (bs [c0, c1, c2, c3, c4, c5, c6, c7, c8, c9]).extract 2 10 = bs [c2, c3, c4, c5, c6, c7, c8, c9] := bs_extract _ _ _
  rw [checkXML_ten, Option.bind_some, hz, x0]
  by_cases h : 0 ≤ X10 c0 c1 c2 c3 c4 c5 c6 c7 c8 c9
  · obtain ⟨rfl, rfl, _, _, d2, d3, d5, d6, d8, d9⟩ := x10_digits h
    rw [if_pos h, if_pos h, if_pos rfl, if_pos (by decide)]
    unfold strings_ReplaceAll.f
    rw [show (⟨#[45]⟩ : ByteArray) = bs [45] from rfl, show (⟨#[]⟩ : ByteArray) = bs [] from rfl]
    rw [if_pos ⟨by rw [bs_size]; simp, by rw [bs_size]; simp, by rw [bs_size, bs_size]; simp⟩, bs_data, bs_data, bs_data, Option.bind_some, replace_all _ _ _ _ _ _ (isD_ne _ d2) (isD_ne _ d3) (isD_ne _ d5) (isD_ne _ d6) (isD_ne _ d8) (isD_ne _ d9)]
  · rw [if_neg h, if_neg h, if_neg (by decide)]
    rfl
theorem toMT_other (l : List UInt8) (h : l.length ≠ 10) : date_ToMT.f (bs l) = some (bs [], 16) := by
  unfold date_ToMT.f
  rw [checkXML_other l h, Option.bind_some, if_neg (by decide)]
  rfl
theorem m6_of_ten {c0 c1 c2 c3 c4 c5 c6 c7 c8 c9 : UInt8} (h : 0 ≤ X10 c0 c1 c2 c3 c4 c5 c6 c7 c8 c9) : M6 c2 c3 c5 c6 c8 c9 = X10 c0 c1 c2 c3 c4 c5 c6 c7 c8 c9 := by
  obtain ⟨_, _, hg, he⟩ := X10_good h
  have g := (good_iff _ _ _).1 hg
  rw [he]
  have e := num_four c0 c1 c2 c3
  have b1 := numL_bd2 c0 c1
  have b2 := numL_bd2 c2 c3
  unfold M6
  by_cases hn : numL [c0, c1] 0 < 0 ∨ numL [c2, c3] 0 < 0
  · rw [if_pos hn] at e; omega
  · rw [if_neg hn] at e
    rw [if_neg (by omega), e]
    by_cases h8 : 80 ≤ numL [c2, c3] 0
    · rw [if_pos h8, show 1900 + numL [c2, c3] 0 = 100 * numL [c0, c1] 0 + numL [c2, c3] 0 by omega]
    · rw [if_neg h8, show 2000 + numL [c2, c3] 0 = 100 * numL [c0, c1] 0 + numL [c2, c3] 0 by omega]
theorem moment_all (l : List UInt8) : ∃ B : Bool, date_CheckMoment.f (bs l) = some (if B = true then 0 else 16) ∧ ∀ k, 5000 ≤ k → remitterref06_Moment.f k (bs l) = some B := by
  by_cases h : l.length = 19
  · obtain ⟨c0, c1, c2, c3, c4, c5, c6, c7, c8, c9, hten⟩ := ten ((l.take 10).drop 0) (by simp; omega)
    have x0 : (bs l).extract 0 10 = bs [c0, c1, c2, c3, c4, c5, c6, c7, c8, c9] := by rw [bs_extract, hten]
    have q1 : (bs l).extract 11 13 = bs ((l.take 13).drop 11) := bs_extract _ _ _
    have q2 : (bs l).extract 14 16 = bs ((l.take 16).drop 14) := bs_extract _ _ _
    have q3 : (bs l).extract 17 19 = bs ((l.take 19).drop 17) := bs_extract _ _ _
    generalize hX : X10 c0 c1 c2 c3 c4 c5 c6 c7 c8 c9 = X
    generalize hn1 : numL ((l.take 13).drop 11) 0 = n1
    generalize hn2 : numL ((l.take 16).drop 14) 0 = n2
    generalize hn3 : numL ((l.take 19).drop 17) 0 = n3
    refine ⟨all7 (decide (0 ≤ X)) (bt (bs l) 10 == 84) (bt (bs l) 13 == 58) (bt (bs l) 16 == 58) (decide (0 ≤ n1) && decide (n1 < 24)) (decide (0 ≤ n2) && decide (n2 < 60)) (decide (0 ≤ n3) && decide (n3 < 60)), ?_, ?_⟩
    · unfold date_CheckMoment.f
      rw [bs_size, if_pos h, x0, checkXML_ten, q1, q2, q3, num_f _ (by simp; omega), num_f _ (by simp; omega), num_f _ (by simp; omega), hX, hn1, hn2, hn3]
      simp only [Option.bind_some]
      have e : ((if 0 ≤ X then (0 : Int) else 16) == 0) = decide (0 ≤ X) := by
        by_cases hx : 0 ≤ X
        · rw [if_pos hx, decide_eq_true hx]; rfl
        · rw [if_neg hx, decide_eq_false hx]; rfl
      rw [e]
    · intro k hk
      obtain ⟨k, rfl⟩ : ∃ j, k = j + 1 := ⟨k - 1, by omega⟩
      have d1 := digits_f l 11 2 (by omega) (by omega) k (by omega)
      have d2 := digits_f l 14 2 (by omega) (by omega) k (by omega)
      have d3 := digits_f l 17 2 (by omega) (by omega) k (by omega)
      rw [show ((11 : Nat) : Int) = 11 from rfl, show ((2 : Nat) : Int) = 2 from rfl, hn1] at d1
      rw [show ((14 : Nat) : Int) = 14 from rfl, show ((2 : Nat) : Int) = 2 from rfl, hn2] at d2
      rw [show ((17 : Nat) : Int) = 17 from rfl, show ((2 : Nat) : Int) = 2 from rfl, hn3] at d3
      have bad : remitterref06_Moment.j0 (k + 1) (bs l) true = some false := by rw [remitterref06_Moment.j0, if_pos rfl]
      have good : remitterref06_Moment.j0 (k + 1) (bs l) false = some ((decide (0 ≤ n1) && decide (n1 < 24)) && (decide (0 ≤ n2) && decide (n2 < 60)) && (decide (0 ≤ n3) && decide (n3 < 60))) := by
        rw [remitterref06_Moment.j0, if_neg (by decide), d1, d2, d3]
        simp only [Option.bind_some]
        by_cases a1 : 0 ≤ n1
        · by_cases a2 : n1 < 24
          · by_cases a3 : 0 ≤ n2
            · by_cases a4 : n2 < 60
              · by_cases a5 : 0 ≤ n3
                · simp [a1, a2, a3, a4, a5]
                · simp [a1, a2, a3, a4, a5]
              · simp [a1, a2, a3, a4]
            · simp [a1, a2, a3]
          · simp [a1, a2]
        · simp [a1]
      unfold remitterref06_Moment.f
      rw [bs_size, h, x0, ref_xml_ten _ _ _ _ _ _ _ _ _ _ (k + 1) (by omega), hX]
      simp only [Option.bind_some]
      rw [if_pos (by rfl), if_pos (by decide), if_pos (by decide)]
      by_cases b0 : 0 ≤ X
      · rw [if_neg (by omega), if_pos (by decide)]
        by_cases b1 : bt (bs l) 10 = 84
        · rw [if_pos b1, if_pos (by decide)]
          by_cases b2 : bt (bs l) 13 = 58
          · rw [if_pos b2, if_pos (by decide)]
            by_cases b3 : bt (bs l) 16 = 58
            · rw [show (bt (bs l) 16 != 58) = false by rw [b3]; rfl, good]
              simp [all7, b0, b1, b2, b3, Bool.and_assoc]
            · rw [show (bt (bs l) 16 != 58) = true from bne_iff_ne.2 b3, bad]
              simp [all7, b3]
          · rw [if_neg b2, bad]
            simp [all7, b2]
        · rw [if_neg b1, bad]
          simp [all7, b1]
      · rw [if_pos (by omega), bad]
        simp [all7, b0]
  · refine ⟨false, ?_, ?_⟩
    · unfold date_CheckMoment.f
      rw [bs_size, if_neg h, if_neg (by decide)]
    · intro k hk
      obtain ⟨k, rfl⟩ : ∃ j, k = j + 1 := ⟨k - 1, by omega⟩
      unfold remitterref06_Moment.f
      rw [bs_size, if_neg (by omega), remitterref06_Moment.j0, if_pos rfl]
end Go.Proofs.YtjemnphmjbodfaaDoor.PAll

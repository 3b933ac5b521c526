/- DateTells, in plain Lean. -/
import Derived.Test.YtjemnphmjbodfaaDoorPureDate3
namespace Go.Proofs.YtjemnphmjbodfaaDoor.PAll
open Go.RowKit Go.Proofs.YtjemnphmjbodfaaDoorW.PrintWords GPlain
set_option linter.unusedSimpArgs false
set_option maxRecDepth 100000 in
theorem wakes_ok : remitterlaw06_wakes.f = some true := by decide +kernel
theorem say_f (b : Bool) : remitterref06_Say.f b = some (if b = true then 0 else 16) := by
  unfold remitterref06_Say.f
  cases b <;> rfl
theorem mt_facts (l : List UInt8) : ∃ (mt : Int) (A : List UInt8), date_ToXML.f (bs l) = some (if 0 ≤ mt then (bs A, 0) else (bs [], 16)) ∧ remitterref06_MT.f 10000 (bs l) = some mt ∧ (0 ≤ mt → ∀ k, 4000 ≤ k → remitterref06_XML.f k (bs A) = some mt) := by
  by_cases h : l.length = 6
  · obtain ⟨c0, c1, c2, c3, c4, c5, rfl⟩ := six l h
    refine ⟨M6 c0 c1 c2 c3 c4 c5, _, toXML_six .., ref_mt_six _ _ _ _ _ _ _ (by omega), fun _ k hk => ?_⟩
    rw [ref_xml_ten _ _ _ _ _ _ _ _ _ _ k hk, cent_x10]
  · refine ⟨-1, [], ?_, ref_mt_other l h _, fun e => absurd e (by decide)⟩
    rw [toXML_other l h, if_neg (by decide)]
theorem xml_facts (l : List UInt8) : ∃ (x : Int) (B : List UInt8), date_ToMT.f (bs l) = some (if 0 ≤ x then (bs B, 0) else (bs [], 16)) ∧ date_Day.f (bs l) = some (if 0 ≤ x then (x, 0) else (0, 16)) ∧
    date_CheckXML.f (bs l) = some (if 0 ≤ x then 0 else 16) ∧ remitterref06_XML.f 10000 (bs l) = some x ∧ (0 ≤ x → ∀ k, 4000 ≤ k → remitterref06_MT.f k (bs B) = some x) := by
  by_cases h : l.length = 10
  · obtain ⟨c0, c1, c2, c3, c4, c5, c6, c7, c8, c9, rfl⟩ := ten l h
    refine ⟨X10 c0 c1 c2 c3 c4 c5 c6 c7 c8 c9, _, toMT_ten .., day_ten .., checkXML_ten .., ref_xml_ten _ _ _ _ _ _ _ _ _ _ _ (by omega), fun hx k hk => ?_⟩
    rw [ref_mt_six _ _ _ _ _ _ k hk, m6_of_ten hx]
  · refine ⟨-1, [], ?_, ?_, ?_, ref_xml_other l h _ (by omega), fun e => absurd e (by decide)⟩
    · rw [toMT_other l h, if_neg (by decide)]
    · rw [day_other l h, if_neg (by decide)]
    · rw [checkXML_other l h, if_neg (by decide)]
theorem DateTells' : remitterlaw06_DateTells.Pure := by
  intro a0 _
  refine ⟨10000, ?_⟩
  obtain ⟨l, rfl⟩ := bs_ex a0
  unfold remitterlaw06_DateTells.f
  by_cases hl : ((bs l).size : Int) > 100
  · rw [if_pos hl, wakes_ok]
    rfl
  · rw [if_neg hl]
    obtain ⟨mt, A, hA1, hA2, hA3⟩ := mt_facts l
    obtain ⟨x, B, hB1, hB2, hB3, hB4, hB5⟩ := xml_facts l
    obtain ⟨Bm, hm1, hm2⟩ := moment_all l
    rw [hA1, hB1, hB2, hA2, hB4, date_CheckMT.f, hA1, hB3, hm1, hm2 10000 (by omega)]
    simp only [Option.bind_some, say_f]
    have e0 : (bs ([] : List UInt8)).toList = [] := bs_toList _
    by_cases m : 0 ≤ mt <;> by_cases hx : 0 ≤ x
    · have a3 := hA3 m
      have b5 := hB5 hx
      simp [m, hx, remitterlaw06_DateTells.j0, remitterlaw06_DateTells.j1, remitterlaw06_DateTells.j2, say_f, wakes_ok, a3, b5, e0, Int.not_lt.2 m, Int.not_lt.2 hx]
    · have a3 := hA3 m
      simp [m, hx, remitterlaw06_DateTells.j0, remitterlaw06_DateTells.j1, remitterlaw06_DateTells.j2, say_f, wakes_ok, a3, e0, Int.not_lt.2 m, Int.not_le.1 hx]
    · have b5 := hB5 hx
      simp [m, hx, remitterlaw06_DateTells.j0, remitterlaw06_DateTells.j1, remitterlaw06_DateTells.j2, say_f, wakes_ok, b5, e0, Int.not_le.1 m, Int.not_lt.2 hx]
    · simp [m, hx, remitterlaw06_DateTells.j0, remitterlaw06_DateTells.j1, remitterlaw06_DateTells.j2, say_f, wakes_ok, e0, Int.not_le.1 m, Int.not_le.1 hx]
end Go.Proofs.YtjemnphmjbodfaaDoor.PAll

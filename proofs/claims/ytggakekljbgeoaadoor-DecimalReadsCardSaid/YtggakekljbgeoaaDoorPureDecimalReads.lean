/- Plain law: the program's readers answer as the document's. -/
import Derived.Test.YtggakekljbgeoaaDoorPAllx4
import Derived.Test.YtggakekljbgeoaaDoorPureDec2
namespace Go.Proofs.YtggakekljbgeoaaDoor.Pure
open Go.RowKit Go.Proofs.YtggakekljbgeoaaDoor.PAll Go.Proofs.YtggakekljbgeoaaDoorW.PrintWords Go.Proofs.YtggakekljbgeoaaDoorW.PrintLast GPlain
set_option linter.unusedSimpArgs false

theorem digs_mem {l : List UInt8} (h : l.all digB = true) : ∀ d ∈ digs l, 0 ≤ d ∧ d ≤ 9 := by
  intro d hd
  obtain ⟨c, hc, rfl⟩ := List.mem_map.1 hd
  have := List.all_eq_true.1 h c hc
  unfold digB at this
  simp only [Bool.and_eq_true, decide_eq_true_eq] at this
  exact ⟨by omega, by omega⟩
theorem digs_len (l : List UInt8) : (digs l).length = l.length := List.length_map ..
/-- What the document answers once the text is cut. -/
def refN (mt : Bool) (t : Int) (a b : List UInt8) : Bool × Int × Int × Int :=
  if (a ++ b).all digB = false then (false, 0, 0, 10) else if a = [] then (false, 0, 0, 10)
  else if mt = true then (if t < 0 then (false, 0, 0, 10) else numN (digs (a ++ b)) b.length)
  else if t ≥ 0 then (if b = [] then (false, 0, 0, 10) else numN (digs (a ++ b)) b.length) else numN (digs (a ++ b)) b.length
theorem ref_j1 (mt : Bool) (t : Int) (a b : List UInt8) (h : a.length + b.length ≤ 1000) (k : Nat) (hk : 3000 ≤ k) : remitterref01_Parse.j1 k mt t (bs a) (bs b) = some (refN mt t a b) := by
  obtain ⟨k, rfl⟩ : ∃ m, k = m + 1 := ⟨k - 1, by omega⟩
  have hl : (a ++ b).length ≤ 1000 := by rw [List.length_append]; exact h
  have hr : remitterref01_read.f k (bs (a ++ b)) = some (if (a ++ b).all digB = true then (digs (a ++ b), true) else ([], false)) := read_l0 (a ++ b) hl (a ++ b).length k 0 (by omega) (by omega) (by omega)
  rw [remitterref01_Parse.j1, if_pos (by rw [bs_size, bs_size]; omega), bs_append, hr, Option.bind_some, bs_toList, bs_toList, bs_size]
  unfold refN
  by_cases ha : (a ++ b).all digB = true
  · rw [if_pos ha, if_pos rfl, if_neg (show ¬ (a ++ b).all digB = false by rw [ha]; decide)]
    have hn : remitterref01_number.f k (digs (a ++ b)) (b.length : Int) = some (numN (digs (a ++ b)) b.length) :=
      num_l0 (digs (a ++ b)) (digs_mem ha) (by rw [digs_len]; exact hl) b.length (by omega) (digs (a ++ b)).length k 0 (by omega) (by omega) (by rw [List.drop_zero, Nat.zero_add]) (by rw [digs_len]; omega)
    by_cases h1 : a = []
    · rw [if_pos h1, if_pos h1]
    · rw [if_neg h1, if_neg h1]
      dsimp only
      rw [hn, Option.bind_some]
      by_cases h2 : mt = true
      · rw [if_pos h2, if_pos h2]
        by_cases h3 : t < 0
        · rw [if_pos h3, if_pos h3]
        · rw [if_neg h3, if_neg h3]
      · rw [if_neg h2, if_neg h2]
        by_cases h3 : t ≥ 0
        · rw [if_pos h3, if_pos h3]
          by_cases h4 : b = []
          · rw [if_pos h4, if_pos h4]
          · rw [if_neg h4, if_neg h4]
        · rw [if_neg h3, if_neg h3]
  · rw [if_neg ha, if_neg (by simp), if_pos (by simpa using ha)]
theorem ref_j0 (mt : Bool) (l : List UInt8) (hl : l.length ≤ 1000) (c : UInt8) (k : Nat) (hk : 4000 ≤ k) :
    remitterref01_Parse.j0 k (bs l) mt (c.toNat : Int) = some (refN mt (if (cutC c l).2.2 = true then ((cutC c l).1.length : Int) else -1) (cutC c l).1 (cutC c l).2.1) := by
  obtain ⟨k, rfl⟩ : ∃ m, k = m + 1 := ⟨k - 1, by omega⟩
  have hc : remitterref01_cut.f k (bs l) (c.toNat : Int) = some (if (cutC c l).2.2 = true then ((cutC c l).1.length : Int) else -1) := by
    have := cut_l0 l hl c l.length k 0 (by omega) (by omega) (by omega)
    rw [List.drop_zero, Nat.zero_add] at this
    exact this
  have hcl := cutC_len c l
  rw [remitterref01_Parse.j0, hc, Option.bind_some, bs_size]
  rcases hcc : cutC c l with ⟨a, b, f⟩
  rw [hcc] at hcl
  cases f
  · obtain ⟨rfl, rfl, -⟩ := cutC_false hcc
    dsimp only
    have e : (if false = true then ((a.length : Nat) : Int) else -1) = -1 := rfl
    rw [e, if_neg (by decide)]
    exact ref_j1 mt (-1) a [] (by simp; omega) k (by omega)
  · obtain ⟨rfl, -⟩ := cutC_true hcc
    dsimp only at hcl ⊢
    simp only [List.length_append, List.length_cons] at hl
    rw [if_pos rfl, wrap_ok (by omega) (by omega), if_pos (by omega), if_pos (by omega), if_pos (by rw [List.length_append]; omega), if_pos (by omega), if_pos (by rw [List.length_append, List.length_cons]; omega)]
    have e1 : (bs (a ++ c :: b)).extract 0 ((a.length : Int)).toNat = bs a := by
      rw [bs_extract, Int.toNat_natCast, List.drop_zero, List.take_left]
    have e2 : (bs (a ++ c :: b)).extract (((a.length : Int) + 1)).toNat (a ++ c :: b).length = bs b := by
      rw [bs_extract, List.take_length, show ((a.length : Int) + 1).toNat = a.length + 1 by omega, List.drop_append, List.drop_of_length_le (show a.length ≤ a.length + 1 by omega)]
      simp
    rw [e1, e2]
    exact ref_j1 mt _ a b (by omega) k (by omega)
theorem refMT (l : List UInt8) (hl : l.length ≤ 1000) : remitterref01_Parse.f 5000 (bs l) true = some (readMT l) := by
  rw [remitterref01_Parse.f, if_pos rfl]
  refine (ref_j0 true l hl 44 5000 (by decide)).trans (congrArg some ?_)
  unfold refN readMT
  by_cases h : (cutC 44 l).2.2 = true
  · rw [if_pos h, if_pos h, if_pos rfl, if_neg (show ¬ (((cutC 44 l).1.length : Nat) : Int) < 0 by omega)]
    rfl
  · rw [if_neg h, if_neg h, if_pos rfl, if_pos (show (-1 : Int) < 0 by decide)]
    split
    · rfl
    · split <;> rfl
theorem refXML (l : List UInt8) (hl : l.length ≤ 1000) : remitterref01_Parse.f 5000 (bs l) false = some (readXML l) := by
  rw [remitterref01_Parse.f, if_neg (by decide)]
  refine (ref_j0 false l hl 46 5000 (by decide)).trans (congrArg some ?_)
  unfold refN readXML
  rw [if_neg (show ¬ false = true by decide)]
  by_cases h : (cutC 46 l).2.2 = true
  · rw [if_pos h, if_pos (show (((cutC 46 l).1.length : Nat) : Int) ≥ 0 by omega)]
    by_cases h2 : (cutC 46 l).2.1 = []
    · rw [if_pos h2, if_pos (show (cutC 46 l).2.2 = true ∧ (cutC 46 l).2.1 = [] from ⟨h, h2⟩)]
      split
      · rfl
      · split <;> rfl
    · rw [if_neg h2, if_neg (show ¬ ((cutC 46 l).2.2 = true ∧ (cutC 46 l).2.1 = []) from fun h3 => h2 h3.2)]
      rfl
  · rw [if_neg h, if_neg (show ¬ ((cutC 46 l).2.2 = true ∧ (cutC 46 l).2.1 = []) from fun h3 => h h3.1), if_neg (show ¬ (-1 : Int) ≥ 0 by decide)]
    rfl
theorem DecimalReads : remitterlaw01_DecimalReads.Pure := by
  intro a0 _
  refine ⟨5000, ?_⟩
  obtain ⟨l, rfl⟩ := bs_ex a0
  unfold remitterlaw01_DecimalReads.f
  rw [bs_size, wakes_ok]
  by_cases h : (l.length : Int) > 60
  · rw [if_pos h]
    rfl
  · have hl : l.length ≤ 1000 := by omega
    rw [if_neg h, parseMT_f l hl, parseXML_f l hl, refMT l hl, refXML l hl]
    simp
end Go.Proofs.YtggakekljbgeoaaDoor.Pure

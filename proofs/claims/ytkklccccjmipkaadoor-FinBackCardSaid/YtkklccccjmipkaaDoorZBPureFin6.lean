/- A message is written alike by the program and by the document. -/
import Derived.Test.YtkklccccjmipkaaDoorZVGPlain2
import Derived.Test.YtkklccccjmipkaaDoorZPureFin2
import Derived.Test.YtkklccccjmipkaaDoorZGWriteC
namespace Go.Proofs.YtkklccccjmipkaaDoor.Pure
open Go.RowKit Go.Proofs.YtkklccccjmipkaaDoor.PAll Go.Proofs.YtkklccccjmipkaaDoorW.PrintWords GPlain
open Go.Proofs.YtkklccccjmipkaaDoor.Fin
set_option linter.unusedSimpArgs false
/-- Are all of a text digits? -/
def dg (l : List UInt8) : Bool := l.all fun c => decide (0 ≤ Lib.indexByte digsL c)
theorem digs_c : ∀ c : Fin 256, digs10.contains (UInt8.ofNat c.val) = decide (0 ≤ Lib.indexByte digsL (UInt8.ofNat c.val)) := by decide +kernel
theorem digs_eq (c : UInt8) : digs10.contains c = decide (0 ≤ Lib.indexByte digsL c) := by
  have h := digs_c ⟨c.toNat, c.toNat_lt⟩
  simpa using h
theorem dw_nil {α : Type} (p : α → Bool) : ∀ l : List α, l.dropWhile p = [] ↔ ∀ x ∈ l, p x = true
  | [] => by simp
  | a :: r => by
    have ih := dw_nil p r
    by_cases h : p a = true
    · rw [List.dropWhile_cons_of_pos h, ih]
      constructor
      · intro h2 x hx
        rcases List.mem_cons.1 hx with rfl | hx
        · exact h
        · exact h2 x hx
      · intro h2 x hx; exact h2 x (List.mem_cons_of_mem _ hx)
    · rw [List.dropWhile_cons_of_neg h]
      constructor
      · intro h2; cases h2
      · intro h2; exact absurd (h2 a (List.mem_cons_self ..)) h
theorem dw_head {α : Type} (p : α → Bool) : ∀ (l : List α) (a : α) (r : List α), l.dropWhile p = a :: r → ¬ p a = true
  | [], _, _, h => by cases h
  | b :: l, a, r, h => by
    by_cases hb : p b = true
    · rw [List.dropWhile_cons_of_pos hb] at h
      exact dw_head p l a r h
    · rw [List.dropWhile_cons_of_neg hb] at h
      rw [← (List.cons.inj h).1]
      exact hb
theorem trim_nil (l : List UInt8) : (Lib.trimS l digs10 == ([] : List UInt8)) = dg l := by
  rw [Bool.eq_iff_iff, beq_iff_eq]
  unfold Lib.trimS Lib.trimLeftS Lib.trimRightS dg
  rw [dw_nil, List.all_eq_true]
  constructor
  · intro h
    have hn : l.reverse.dropWhile (digs10.contains ·) = [] := by
      cases hd : l.reverse.dropWhile (digs10.contains ·) with
      | nil => rfl
      | cons a r =>
        have h1 := h a (by rw [hd]; simp)
        exact absurd h1 (dw_head _ _ _ _ hd)
    rw [dw_nil] at hn
    intro c hc
    rw [← digs_eq]
    exact hn c (List.mem_reverse.2 hc)
  · intro h
    have hn : l.reverse.dropWhile (digs10.contains ·) = [] := by
      rw [dw_nil]
      intro c hc
      rw [digs_eq]
      exact h c (List.mem_reverse.1 hc)
    rw [hn]
    intro c hc
    cases hc
theorem faultFrom_all (l : List UInt8) : ∀ (n i : Nat), i + n = l.length → faultFrom l n i = l.length → ∀ j, i ≤ j → j < l.length → badB l j = false
  | 0, i, h, _, j, h1, h2 => by omega
  | n + 1, i, h, hf, j, h1, h2 => by
    have e : faultFrom l (n + 1) i = if badB l i = true then i else faultFrom l n (i + 1) := rfl
    rw [e] at hf
    by_cases hb : badB l i = true
    · rw [if_pos hb] at hf; omega
    · rw [if_neg hb] at hf
      by_cases hj : j = i
      · rw [hj]; exact Bool.eq_false_iff.2 hb
      · exact faultFrom_all l n (i + 1) (by omega) hf j (by omega) h2
theorem suffix_f (l : List UInt8) (hl : l.length ≤ 4000) (h0 : l ≠ []) (hf : ¬ (faultL l < l.length)) : strings_HasSuffix.f (bs l) (⟨#[13]⟩ : ByteArray) = some false := by
  have hpos : 0 < l.length := List.length_pos_iff.2 h0
  have hfe : faultFrom l l.length 0 = l.length := by have := faultL_le l; unfold faultL at hf this; omega
  have hb := faultFrom_all l l.length 0 (by omega) hfe (l.length - 1) (by omega) (by omega)
  have hlast : ¬ (l.getD (l.length - 1) 0).toNat = 13 := by
    intro h13
    have := (badB_iff l (l.length - 1)).2 (.inr (.inr (.inl ⟨h13, fun h => by omega⟩)))
    rw [hb] at this
    cases this
  have e1 : (⟨#[13]⟩ : ByteArray) = bs [13] := rfl
  unfold strings_HasSuffix.f stringslite_HasSuffix.f
  rw [e1, bs_size, bs_size]
  have hw : wrap64 ((l.length : Int) - (([13] : List UInt8).length : Int)) = ((l.length - 1 : Nat) : Int) := by
    have : ([13] : List UInt8).length = 1 := rfl
    rw [this, wrap_ok (by omega) (by omega)]; omega
  rw [hw, if_pos (by have : ([13] : List UInt8).length = 1 := rfl; omega), if_pos (by omega), if_pos (by omega)]
  rw [Option.bind_some, bs_extract, bs_toList, bs_toList, show (((l.length - 1 : Nat) : Int)).toNat = l.length - 1 by omega, List.take_of_length_le (by omega)]
  have hd : l.drop (l.length - 1) = [l.getD (l.length - 1) 0] := by
    rw [List.drop_eq_getElem_cons (by omega), List.drop_of_length_le (by omega), getD_at (by omega)]
  rw [hd]
  refine congrArg some (beq_eq_false_iff_ne.2 ?_)
  intro h
  have := (List.cons.inj h).1
  rw [this] at hlast
  exact hlast rfl
/-- What a message is written as. -/
def okW (l0 l1 l2 l3 l4 : List UInt8) : Bool := decide (cA (bs l0) = 0) && decide (cA (bs l2) = 0) && decide (l1.length = 3) && dg l1 && (decide (l3 = []) || decide (cU (bs l3) = 0)) && !decide (l4 = []) && !decide (faultL l4 < l4.length)
def wv (l0 l1 l2 l3 l4 : List UInt8) : ByteArray × Int := if okW l0 l1 l2 l3 l4 = true then (wtext (bs l0) (bs l1) (bs l2) (bs l3) (bs l4), 0) else ((⟨#[]⟩ : ByteArray), 30)
section
variable (l0 l1 l2 l3 l4 : List UInt8) (h0 : l0.length ≤ 4000) (h1 : l1.length ≤ 4000) (h2 : l2.length ≤ 4000) (h3 : l3.length ≤ 4000) (h4 : l4.length ≤ 4000)
include h0 h1 h2 h3 h4
theorem fin_w : fin_Write.f (bs l0) (bs l1) (bs l2) (bs l3) (bs l4) = some (wv l0 l1 l2 l3 l4) := by
  unfold fin_Write.f fin_WriteP.f
  rw [if_pos (by rw [bs_size, bs_size, bs_size, bs_size, bs_size]; omega)]
  have ej : ∀ b, fin_WriteP.j1 4 b (bs l0) (bs l1) (bs l2) (bs l3) (bs l4) = if b = true then some ((⟨#[]⟩ : ByteArray), 30) else some (wtext (bs l0) (bs l1) (bs l2) (bs l3) (bs l4), 0) := fun b => rfl
  have hcu : ref_CheckUETR.f (bs l3) = some (cU (bs l3)) := rfl
  have hff : fin_fault.f (bs l4) = some ((faultL l4 : Nat) : Int) := by
    unfold fin_fault.f
    rw [if_pos (by rw [bs_size]; omega), bs_data]
  have key : ∀ b, fin_WriteP.j0 5 b (bs l0) (bs l1) (bs l2) (bs l3) (bs l4) = if (decide (cA (bs l0) = 0) && decide (cA (bs l2) = 0) && b && (decide (l3 = []) || decide (cU (bs l3) = 0)) && !decide (l4 = []) && !decide (faultL l4 < l4.length)) = true then some (wtext (bs l0) (bs l1) (bs l2) (bs l3) (bs l4), 0) else some ((⟨#[]⟩ : ByteArray), 30) := by
    intro b
    rw [fin_WriteP.j0]
    simp only [bic_CheckAddress.f, Option.bind_some, bs_toList, hcu, hff, bs_size, ej]
    by_cases hB : l4 = []
    · by_cases hA : cA (bs l0) = 0 <;> by_cases hC : cA (bs l2) = 0 <;> cases b <;> by_cases hU : l3 = [] <;> by_cases hV : cU (bs l3) = 0 <;> simp [hA, hC, hU, hV, hB]
    · by_cases hF : faultL l4 < l4.length
      · by_cases hA : cA (bs l0) = 0 <;> by_cases hC : cA (bs l2) = 0 <;> cases b <;> by_cases hU : l3 = [] <;> by_cases hV : cU (bs l3) = 0 <;> simp [hA, hC, hU, hV, hB, hF]
      · have hs := suffix_f l4 h4 hB hF
        by_cases hA : cA (bs l0) = 0 <;> by_cases hC : cA (bs l2) = 0 <;> cases b <;> by_cases hU : l3 = [] <;> by_cases hV : cU (bs l3) = 0 <;> simp [hA, hC, hU, hV, hB, hF, hs]
  have hout : ∀ b : Bool, (if b = true then some (wtext (bs l0) (bs l1) (bs l2) (bs l3) (bs l4), (0 : Int)) else some ((⟨#[]⟩ : ByteArray), 30)) = some (if b = true then (wtext (bs l0) (bs l1) (bs l2) (bs l3) (bs l4), (0 : Int)) else ((⟨#[]⟩ : ByteArray), 30)) := fun b => by cases b <;> rfl
  unfold wv
  rw [bs_size]
  by_cases hz : l1.length = 3
  · have ht : strings_Trim.f (bs l1) (⟨#[48, 49, 50, 51, 52, 53, 54, 55, 56, 57]⟩ : ByteArray) = some (bs (Lib.trimS l1 digs10)) := by
      unfold strings_Trim.f
      rw [if_pos ⟨by rw [bs_size]; omega, rfl⟩, bs_data]
    rw [if_pos (by omega), ht, Option.bind_some, bs_toList, trim_nil, key, hout]
    have e : okW l0 l1 l2 l3 l4 = (decide (cA (bs l0) = 0) && decide (cA (bs l2) = 0) && dg l1 && (decide (l3 = []) || decide (cU (bs l3) = 0)) && !decide (l4 = []) && !decide (faultL l4 < l4.length)) := by
      unfold okW
      rw [decide_eq_true hz, Bool.and_true]
    rw [e]
  · rw [if_neg (by omega), key, hout]
    have e : okW l0 l1 l2 l3 l4 = false := by
      unfold okW
      rw [decide_eq_false hz]
      simp
    rw [e]
    simp
end
end Go.Proofs.YtkklccccjmipkaaDoor.Pure

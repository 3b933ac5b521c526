/- Plain law under decimal's readers: texts and digits. -/
import Derived.Test.YtggakekljbgeoaaDoorGParse
import Derived.Test.YtggakekljbgeoaaDoorGCut
import Derived.Test.YtggakekljbgeoaaDoorGPlain
import Derived.Lib.IndexBytes
namespace Go.Proofs.YtggakekljbgeoaaDoor.Pure
open Go.RowKit Go.Proofs.YtggakekljbgeoaaDoor.PAll GPlain
set_option linter.unusedSimpArgs false

/-- A text cut at a byte. -/
def cutC (c : UInt8) : List UInt8 → List UInt8 × List UInt8 × Bool
  | [] => ([], [], false)
  | b :: r => if b = c then ([], r, true) else (b :: (cutC c r).1, (cutC c r).2.1, (cutC c r).2.2)
theorem indexByte_ge (c : UInt8) : ∀ l : List UInt8, -1 ≤ Lib.indexByte l c
  | [] => by unfold Lib.indexByte; decide
  | x :: l => by
    have := indexByte_ge c l
    unfold Lib.indexByte
    split
    · decide
    · split <;> omega
theorem cut_eq (c : UInt8) : ∀ l : List UInt8, Lib.cut l [c] = cutC c l
  | [] => rfl
  | b :: r => by
    have ih := cut_eq c r
    unfold Lib.cut at ih ⊢
    rw [Lib.index_one] at ih ⊢
    unfold Lib.indexByte cutC
    by_cases h : b = c
    · subst h
      simp
    · have e : (b == c) = false := by simpa using h
      rw [if_neg h, ← ih]
      obtain ⟨i, hi⟩ : ∃ i, Lib.indexByte r c = i := ⟨_, rfl⟩
      have hge : -1 ≤ i := by rw [← hi]; exact indexByte_ge c r
      rw [hi]
      simp only [e, Bool.false_eq_true, if_false]
      by_cases h1 : i = -1
      · subst h1
        simp
      · have e1 : (i == -1) = false := by simpa using h1
        simp only [e1, Bool.false_eq_true, if_false]
        rw [if_pos (by omega), if_pos (by omega), show (i + 1).toNat = i.toNat + 1 by omega]
        simp only [List.take_succ_cons, List.length_cons, List.length_nil]
        rw [show i.toNat + 1 + (0 + 1) = (i.toNat + (0 + 1)) + 1 by omega, List.drop_succ_cons]
theorem cutC_true {c : UInt8} : ∀ {l a b : List UInt8}, cutC c l = (a, b, true) → l = a ++ c :: b ∧ c ∉ a
  | [], a, b, h => by simp [cutC] at h
  | x :: r, a, b, h => by
    unfold cutC at h
    by_cases e : x = c
    · rw [if_pos e] at h
      simp only [Prod.mk.injEq] at h
      obtain ⟨rfl, rfl, _⟩ := h
      exact ⟨by rw [e]; rfl, by simp⟩
    · rw [if_neg e] at h
      simp only [Prod.mk.injEq] at h
      obtain ⟨rfl, rfl, h3⟩ := h
      obtain ⟨h1, h2⟩ := cutC_true (l := r) (a := (cutC c r).1) (b := (cutC c r).2.1) (by rw [← h3])
      exact ⟨by rw [List.cons_append, ← h1], by simp [h2]; exact fun h => e h.symm⟩
theorem cutC_false {c : UInt8} : ∀ {l a b : List UInt8}, cutC c l = (a, b, false) → a = l ∧ b = [] ∧ c ∉ l
  | [], a, b, h => by
    simp [cutC] at h
    exact ⟨h.1, h.2, by simp⟩
  | x :: r, a, b, h => by
    unfold cutC at h
    by_cases e : x = c
    · rw [if_pos e] at h
      simp at h
    · rw [if_neg e] at h
      simp only [Prod.mk.injEq] at h
      obtain ⟨rfl, rfl, h3⟩ := h
      obtain ⟨h1, h2, h4⟩ := cutC_false (l := r) (a := (cutC c r).1) (b := (cutC c r).2.1) (by rw [← h3])
      exact ⟨by rw [h1], h2, by simp [h4]; exact fun h => e h.symm⟩
theorem cutC_mid {c : UInt8} : ∀ {a b : List UInt8}, c ∉ a → cutC c (a ++ c :: b) = (a, b, true)
  | [], b, _ => by simp [cutC]
  | x :: a, b, h => by
    have e : ¬ x = c := fun e => h (by simp [e])
    have := cutC_mid (c := c) (a := a) (b := b) (fun h2 => h (by simp [h2]))
    rw [List.cons_append, cutC, if_neg e, this]
theorem cutC_none {c : UInt8} : ∀ {l : List UInt8}, c ∉ l → cutC c l = (l, [], false)
  | [], _ => rfl
  | x :: r, h => by
    have e : ¬ x = c := fun e => h (by simp [e])
    rw [cutC, if_neg e, cutC_none (fun h2 => h (by simp [h2]))]
def digB (c : UInt8) : Bool := decide (48 ≤ c.toNat) && decide (c.toNat ≤ 57)
def digs (l : List UInt8) : List Int := l.map fun c => (c.toNat : Int) - 48
def valI (ds : List Int) (n : Int) : Int := ds.foldl (fun n d => 10 * n + d) n
theorem dgB_dig {c : UInt8} (h : digB c = true) : (dgB c).1 = (c.toNat : Int) - 48 := by
  unfold digB at h
  simp only [Bool.and_eq_true, decide_eq_true_eq] at h
  unfold dgB
  rw [dif_pos h]
theorem dgB_not {c : UInt8} (h : digB c = false) : (dgB c).1 = -1 := by
  unfold digB at h
  unfold dgB
  rw [dif_neg]
  intro h2
  rw [decide_eq_true h2.1, decide_eq_true h2.2] at h
  cases h
theorem seqD_all : ∀ {l : List UInt8}, (∀ c ∈ l, digB c = true) → (seqD l).map (·.1) = digs l
  | [], _ => rfl
  | c :: r, h => by
    have h0 := dgB_dig (h c List.mem_cons_self)
    have hd := h c List.mem_cons_self
    unfold digB at hd
    simp only [Bool.and_eq_true, decide_eq_true_eq] at hd
    unfold seqD
    rw [if_pos (by rw [h0]; omega), List.map_cons, seqD_all (fun x hx => h x (List.mem_cons_of_mem _ hx)), h0]
    rfl
theorem seqD_nonneg {l : List UInt8} (h : ∀ c ∈ l, digB c = true) : NonNegD (seqD l) := by
  intro x hx
  have hm : x.1 ∈ (seqD l).map (·.1) := List.mem_map_of_mem hx
  rw [seqD_all h] at hm
  obtain ⟨c, hc, e⟩ := List.mem_map.1 hm
  have hd := h c hc
  unfold digB at hd
  simp only [Bool.and_eq_true, decide_eq_true_eq] at hd
  omega
theorem seqD_neg : ∀ {l : List UInt8}, (¬ ∀ c ∈ l, digB c = true) → HasNegD (seqD l)
  | [], h => absurd (fun _ h => by cases h) h
  | c :: r, h => by
    unfold seqD
    cases hd : digB c
    · rw [if_neg (by rw [dgB_not hd]; decide)]
      exact ⟨_, List.mem_cons_self, by rw [dgB_not hd]; decide⟩
    · have h0 := dgB_dig hd
      have hd2 := hd
      unfold digB at hd2
      simp only [Bool.and_eq_true, decide_eq_true_eq] at hd2
      rw [if_pos (by rw [h0]; omega)]
      obtain ⟨x, hx, hn⟩ := seqD_neg (l := r) (fun h2 => h (fun x hx => by
        rcases List.mem_cons.1 hx with rfl | hx
        · exact hd
        · exact h2 x hx))
      exact ⟨x, List.mem_cons_of_mem _ hx, hn⟩
def InvP (lg : Bool) (st : Int × Bool) (v : Int) : Prop := 0 ≤ v ∧ ((v < 1000000000000000000 ∧ st = (v, lg)) ∨ (1000000000000000000 ≤ v ∧ st.2 = true))
theorem inv_step {lg : Bool} {st : Int × Bool} {v d : Int} (h : InvP lg st v) (hd : 0 ≤ d ∧ d ≤ 9) : InvP lg (stepP st d) (10 * v + d) := by
  obtain ⟨h0, ⟨h1, rfl⟩ | ⟨h1, h2⟩⟩ := h
  · unfold stepP
    by_cases h17 : v ≥ 100000000000000000
    · rw [if_pos h17]
      exact ⟨by omega, .inr ⟨by omega, rfl⟩⟩
    · rw [if_neg h17]
      exact ⟨by omega, .inl ⟨by omega, by rw [Int.mul_comm]⟩⟩
  · refine ⟨by omega, .inr ⟨by omega, ?_⟩⟩
    unfold stepP
    split
    · rfl
    · exact h2
theorem inv_fold {lg : Bool} : ∀ (xs : List DI) (st : Int × Bool) (v : Int), NonNegD xs → InvP lg st v → InvP lg (xs.foldl (fun st x => stepP st x.1) st) (valI (xs.map (·.1)) v)
  | [], _, _, _, h => h
  | x :: r, _, _, hn, h => inv_fold r _ _ (fun y hy => hn y (List.mem_cons_of_mem _ hy)) (inv_step h ⟨hn x List.mem_cons_self, x.2.2⟩)
/-- What decimal.parse reckons: the value, if it is below 10^18; else it is too long. -/
theorem foldP_val (lg : Bool) {l : List UInt8} (h : ∀ c ∈ l, digB c = true) : InvP lg (foldP lg (seqD l)) (valI (digs l) 0) := by
  rw [← seqD_all h]
  exact inv_fold _ _ _ (seqD_nonneg h) ⟨Int.le_refl _, .inl ⟨by decide, rfl⟩⟩
/-- What a text of digits is read as. -/
def readN (a b : List UInt8) : Bool × Int × Int × Int :=
  if (a ++ b).all digB = false then (false, 0, 0, 10) else if a = [] then (false, 0, 0, 10)
  else if 5 < b.length ∨ 1000000000000000000 ≤ valI (digs (a ++ b)) 0 then (false, 0, 0, 11) else (false, valI (digs (a ++ b)) 0, (b.length : Int), 0)
theorem parseR_eq (a b : List UInt8) : parseR a b = readN a b := by
  unfold parseR readN
  cases hd : (a ++ b).all digB
  · rw [if_pos rfl, if_pos (hasNeg_any.2 (seqD_neg (fun h => by rw [List.all_eq_true.2 h] at hd; cases hd)))]
  · have hall := List.all_eq_true.1 hd
    rw [if_neg (nonNeg_any (seqD_nonneg hall)), if_neg (show ¬ true = false by decide)]
    by_cases ha : a = []
    · rw [if_pos ha, if_pos ha]
    · rw [if_neg ha, if_neg ha]
      obtain ⟨h0, ⟨h1, h2⟩ | ⟨h1, h2⟩⟩ := foldP_val (decide (5 < (b.length : Int))) hall
      · rw [h2]
        by_cases h5 : 5 < b.length
        · rw [if_pos (show decide (5 < (b.length : Int)) = true from decide_eq_true (by omega)), if_pos (.inl h5)]
        · rw [if_neg (show ¬ decide (5 < (b.length : Int)) = true by simp; omega), if_neg (by omega)]
      · rw [if_pos h2, if_pos (.inr h1)]
def readMT (l : List UInt8) : Bool × Int × Int × Int := if (cutC 44 l).2.2 = true then readN (cutC 44 l).1 (cutC 44 l).2.1 else (false, 0, 0, 10)
def readXML (l : List UInt8) : Bool × Int × Int × Int := if (cutC 46 l).2.2 = true ∧ (cutC 46 l).2.1 = [] then (false, 0, 0, 10) else readN (cutC 46 l).1 (cutC 46 l).2.1
theorem cutC_len (c : UInt8) : ∀ l : List UInt8, (cutC c l).1.length + (cutC c l).2.1.length ≤ l.length
  | [] => by simp [cutC]
  | b :: r => by
    have := cutC_len c r
    unfold cutC
    split
    · simp
    · simp
      omega
end Go.Proofs.YtggakekljbgeoaaDoor.Pure

/- Plain law under the Currency laws: what fits a currency, and the document's look-up. -/
import Derived.Test.YtggakekljbgeoaaDoorPRfdx1
import Derived.Test.YtggakekljbgeoaaDoorGReads
import Derived.Test.YtggakekljbgeoaaDoorGAll
import Derived.Test.YtggakekljbgeoaaDoorPureDec1
namespace Go.Proofs.YtggakekljbgeoaaDoor.Pure
open Go.RowKit Go.Proofs.YtggakekljbgeoaaDoor.PAll Go.Proofs.YtggakekljbgeoaaDoorW.PrintWords Go.Proofs.YtggakekljbgeoaaDoorW.PrintLast GPlain
set_option linter.unusedSimpArgs false

theorem cut_f (l : List UInt8) (hl : l.length ≤ 1000) (c : UInt8) : strings_Cut.f (bs l) ⟨#[c]⟩ = some (bs (cutC c l).1, bs (cutC c l).2.1, (cutC c l).2.2) := by
  unfold strings_Cut.f
  rw [if_pos (by rw [bs_size]; omega), bs_data]
  show some (bs (Lib.cut l [c]).1, bs (Lib.cut l [c]).2.1, (Lib.cut l [c]).2.2) = _
  rw [cut_eq]
theorem parse_f (a b : List UInt8) (h : a.length + b.length ≤ 1000) : decimal_parse.f (bs a) (bs b) = some (readN a b) := by
  unfold decimal_parse.f
  rw [if_pos (by rw [bs_size, bs_size]; omega), bs_data, bs_data, parseR_eq]
theorem parseMT_f (l : List UInt8) (hl : l.length ≤ 1000) : decimal_ParseMT.f (bs l) = some (readMT l) := by
  have := cutC_len 44 l
  unfold decimal_ParseMT.f readMT
  rw [cut_f l hl, Option.bind_some]
  dsimp only
  by_cases h : (cutC 44 l).2.2 = true
  · rw [if_pos h, if_pos h, parse_f _ _ (by omega)]
    rfl
  · rw [if_neg h, if_neg h]
theorem parseXML_f (l : List UInt8) (hl : l.length ≤ 1000) : decimal_ParseXML.f (bs l) = some (readXML l) := by
  have := cutC_len 46 l
  unfold decimal_ParseXML.f readXML
  rw [cut_f l hl, Option.bind_some]
  dsimp only
  by_cases h : (cutC 46 l).2.2 = true
  · rw [if_pos h, bs_toList]
    by_cases h2 : (cutC 46 l).2.1 = []
    · rw [if_pos h2, if_pos ⟨h, h2⟩]
    · rw [if_neg h2, if_neg (fun h3 => h2 h3.2), parse_f _ _ (by omega)]
      rfl
  · rw [if_neg h, if_neg (fun h3 => h h3.1), parse_f _ _ (by omega)]
    rfl
theorem good_f (n : Bool) (c s : Int) : decimal_Good.f n c s = some (goodB n c s) := by
  unfold decimal_Good.f goodB
  by_cases h1 : c ≥ 0
  · rw [if_pos h1, decide_eq_true (show 0 ≤ c from h1)]
    by_cases h2 : c < 1000000000000000000
    · rw [if_pos h2, decide_eq_true h2]
      by_cases h3 : s ≥ 0
      · rw [if_pos h3, decide_eq_true (show 0 ≤ s from h3)]
        by_cases h4 : s ≤ 5
        · rw [if_pos h4, decide_eq_true h4]
          cases n <;> simp
        · rw [if_neg h4, decide_eq_false h4]
          rfl
      · rw [if_neg h3, decide_eq_false (show ¬ 0 ≤ s from h3)]
        rfl
    · rw [if_neg h2, decide_eq_false h2]
      rfl
  · rw [if_neg h1, decide_eq_false (show ¬ 0 ≤ c from h1)]
    rfl
/-- The number of least scale, by its digits. -/
def lsN (c : Nat) : Nat → Nat × Nat
  | 0 => (c, 0)
  | s + 1 => if c % 10 = 0 then lsN (c / 10) s else (c, s + 1)
theorem lsN_le (d : Nat) : ∀ (s c : Nat), (lsN c s).2 ≤ d ↔ s ≤ d ∨ 10 ^ (s - d) ∣ c := by
  intro s
  induction s with
  | zero => intro c; simp [lsN]
  | succ s ih =>
    intro c
    unfold lsN
    by_cases h : c % 10 = 0
    · rw [if_pos h, ih]
      rcases Nat.lt_trichotomy s d with h1 | h1 | h1
      · exact ⟨fun _ => .inl h1, fun _ => .inl (by omega)⟩
      · subst h1
        refine ⟨fun _ => .inr ?_, fun _ => .inl (Nat.le_refl _)⟩
        rw [show s + 1 - s = 1 by omega, Nat.pow_one]
        exact Nat.dvd_of_mod_eq_zero h
      · have e : c = 10 * (c / 10) := by omega
        have e2 : 10 ^ (s + 1 - d) = 10 * 10 ^ (s - d) := by rw [show s + 1 - d = (s - d) + 1 by omega, Nat.pow_succ, Nat.mul_comm]
        rw [e2]
        constructor
        · rintro (h2 | h2)
          · omega
          · right
            rw [e]
            exact Nat.mul_dvd_mul_left 10 h2
        · rintro (h2 | h2)
          · omega
          · right
            rw [e] at h2
            exact Nat.dvd_of_mul_dvd_mul_left (by decide) h2
    · rw [if_neg h]
      refine ⟨fun h2 => .inl h2, fun h2 => ?_⟩
      rcases h2 with h2 | h2
      · exact h2
      · rcases Nat.lt_or_ge d (s + 1) with h3 | h3
        · exfalso
          have : 10 ∣ c := Nat.dvd_trans (by rw [show s + 1 - d = (s - d) + 1 by omega, Nat.pow_succ]; exact Nat.dvd_mul_left _ _) h2
          omega
        · exact h3
theorem lsN_good {n : Bool} : ∀ (s c : Nat), GoodN n c s → GoodN n (lsN c s).1 (lsN c s).2 := by
  intro s
  induction s with
  | zero => intro c h; exact h
  | succ s ih =>
    intro c h
    unfold lsN
    by_cases h1 : c % 10 = 0
    · rw [if_pos h1]
      refine ih _ ⟨by have := h.1; omega, by have := h.2.1; omega, fun hn => ?_⟩
      have := h.2.2 hn
      omega
    · rw [if_neg h1]
      exact h
theorem lsN_again : ∀ (s c : Nat), lsN (lsN c s).1 (lsN c s).2 = lsN c s := by
  intro s
  induction s with
  | zero => intro c; rfl
  | succ s ih =>
    intro c
    rw [lsN]
    by_cases h1 : c % 10 = 0
    · rw [if_pos h1]
      exact ih _
    · rw [if_neg h1]
      show lsN c (s + 1) = _
      rw [lsN, if_neg h1]
theorem least_l0 (n : Bool) : ∀ (s c k : Nat), GoodN n c s → s < k → decimal_Least.l0 k n c s = some (n, ((lsN c s).1 : Int), ((lsN c s).2 : Int)) := by
  intro s
  induction s with
  | zero =>
    intro c k h hk
    obtain ⟨k, rfl⟩ : ∃ m, k = m + 1 := ⟨k - 1, by omega⟩
    rw [decimal_Least.l0, good_f, goodB_of h, Option.bind_some, if_pos rfl, if_neg (by decide)]
    rfl
  | succ s ih =>
    intro c k h hk
    obtain ⟨k, rfl⟩ : ∃ m, k = m + 1 := ⟨k - 1, by omega⟩
    have hc := h.1
    have hs := h.2.1
    rw [decimal_Least.l0, good_f, goodB_of h, Option.bind_some, if_pos rfl, if_pos (by omega), lsN, Int.tmod_eq_emod_of_nonneg (by omega)]
    by_cases h1 : c % 10 = 0
    · rw [if_pos h1, if_pos (by omega), wrap_ok (x := (((s + 1 : Nat) : Int) - 1)) (by omega) (by omega), show (((s + 1 : Nat) : Int) - 1) = (s : Int) by omega, Int.tdiv_eq_ediv_of_nonneg (by omega), wrap_ok (by omega) (by omega), show (c : Int) / 10 = ((c / 10 : Nat) : Int) by omega]
      refine ih _ _ ⟨by omega, by omega, fun hn => ?_⟩ (by omega)
      have := h.2.2 hn
      omega
    · rw [if_neg h1, if_neg (by omega)]
/-- What Fits tells. -/
def fitsV (n : Bool) (c s : Int) (od : Option Int) : Int :=
  if goodB n c s = true ∧ n = false then (match od with | some d => if ((lsN c.toNat s.toNat).2 : Int) > d then 12 else 0 | none => 12) else 1
theorem digits_f (ccy : ByteArray) (h : ccy.size ≤ 9223372036854775807) : currency_Digits.f ccy = some (match digitsC ccy.data.toList with | some n => (n, true) | none => (0, false)) := by
  unfold currency_Digits.f
  rw [if_pos h]
  cases digitsC ccy.data.toList <;> rfl
theorem fits_f (n : Bool) (c s : Int) (ccy : ByteArray) (h : ccy.size ≤ 9223372036854775807) (k : Nat) (hk : 10 ≤ k) : currency_Fits.f k n c s ccy = some (fitsV n c s (digitsC ccy.data.toList)) := by
  obtain ⟨k, rfl⟩ : ∃ m, k = m + 1 := ⟨k - 1, by omega⟩
  unfold currency_Fits.f fitsV
  rw [digits_f ccy h, Option.bind_some, good_f, Option.bind_some]
  generalize digitsC ccy.data.toList = od
  cases g : goodB n c s
  · rw [if_neg (by decide), currency_Fits.j0, if_pos rfl, if_neg (by simp)]
  · rw [if_pos rfl]
    cases n
    · obtain ⟨e1, e2, hg⟩ := goodN_of g
      have hl := least_l0 false s.toNat c.toNat k hg (by have := hg.2.1; omega)
      rw [← e1, ← e2] at hl
      rw [if_pos ⟨rfl, rfl⟩]
      cases od with
      | none => rw [currency_Fits.j0, if_neg (by decide), if_neg (by decide)]
      | some d =>
        rw [currency_Fits.j0, if_neg (by decide), if_pos rfl]
        unfold decimal_Least.f
        rw [hl, Option.bind_some]
        dsimp only
        split <;> rfl
    · rw [currency_Fits.j0, if_pos rfl, if_neg (by simp)]
/-! The document's look-up. -/
def wordR (wd : ByteArray) (q : Nat) : List UInt8 := (wd.extract (4 * q) (4 * q + 3)).toList
theorem l1_step (c : ByteArray) (n : Int) (wd : ByteArray) (m : Nat) (hs : wd.size = 4 * m) (hm : m ≤ 1000) (k q : Nat) (hq : q < m) :
    remitterref02_Digits.l1 (k + 1) c n wd ((4 * q : Nat) : Int) = if wordR wd q = c.toList then some (n, true) else remitterref02_Digits.l1 k c n wd ((4 * (q + 1) : Nat) : Int) := by
  rw [remitterref02_Digits.l1, hs, wrap_ok (x := ((4 * q : Nat) : Int) + 4) (by omega) (by omega), wrap_ok (x := ((4 * q : Nat) : Int) + 3) (by omega) (by omega), if_pos (by omega), if_pos (by omega), if_pos (by omega), if_pos (by omega),
    show (((4 * q : Nat) : Int) + 4) = ((4 * (q + 1) : Nat) : Int) by omega, show (((4 * q : Nat) : Int) + 3).toNat = 4 * q + 3 by omega, Int.toNat_natCast]
  rfl
theorem l1_end (c : ByteArray) (n : Int) (wd : ByteArray) (m : Nat) (hs : wd.size = 4 * m) (hm : m ≤ 1000) (k : Nat) :
    remitterref02_Digits.l1 (k + 1) c n wd ((4 * m : Nat) : Int) = remitterref02_Digits.l0 k c (wrap64 (n + 1)) := by
  rw [remitterref02_Digits.l1, hs, wrap_ok (x := ((4 * m : Nat) : Int) + 4) (by omega) (by omega), if_neg (by omega)]
theorem l1_all (c : ByteArray) (n : Int) (wd : ByteArray) (m : Nat) (hs : wd.size = 4 * m) (hm : m ≤ 1000) (k : Nat) : ∀ d q : Nat, m - q = d → q ≤ m →
    remitterref02_Digits.l1 (d + (k + 1)) c n wd ((4 * q : Nat) : Int) = if c.toList ∈ (List.range' q d).map (wordR wd) then some (n, true) else remitterref02_Digits.l0 k c (wrap64 (n + 1)) := by
  intro d
  induction d with
  | zero =>
    intro q hd hq
    obtain rfl : q = m := by omega
    rw [Nat.zero_add, l1_end c n wd q hs hm, if_neg (by simp)]
  | succ d ih =>
    intro q hd hq
    rw [show d + 1 + (k + 1) = (d + (k + 1)) + 1 by omega, l1_step c n wd m hs hm _ q (by omega), ih (q + 1) (by omega) (by omega), List.range'_succ, List.map_cons]
    by_cases h : wordR wd q = c.toList
    · rw [if_pos h, if_pos (by rw [h]; exact List.mem_cons_self)]
    · rw [if_neg h]
      by_cases h2 : c.toList ∈ (List.range' (q + 1) d).map (wordR wd)
      · rw [if_pos h2, if_pos (List.mem_cons_of_mem _ h2)]
      · rw [if_neg h2, if_neg (fun h3 => by rcases List.mem_cons.1 h3 with e | e; exact h e.symm; exact h2 e)]
theorem wordR_eq (wd : ByteArray) (q : Nat) : wordR wd q = (wd.extract (4 * q) (4 * q + 3)).data.toList := by unfold wordR; rw [ByteArray.toList_eq]
set_option maxRecDepth 100000 in
theorem words0 : (List.range' 0 16).map (wordR wd0) = wordsC ccy0 16 := by rw [funext (wordR_eq wd0)]; decide +kernel
set_option maxRecDepth 100000 in
theorem words2 : (List.range' 0 36).map (wordR wd2) = wordsC ccy2 36 := by rw [funext (wordR_eq wd2)]; decide +kernel
set_option maxRecDepth 100000 in
theorem words3 : (List.range' 0 7).map (wordR wd3) = wordsC ccy3 7 := by rw [funext (wordR_eq wd3)]; decide +kernel
set_option maxRecDepth 100000 in
theorem words4 : (List.range' 0 2).map (wordR wd4) = wordsC ccy4 2 := by rw [funext (wordR_eq wd4)]; decide +kernel
set_option maxRecDepth 100000 in
theorem words_apart : (∀ c ∈ wordsC ccy0 16, c ∉ wordsC ccy4 2 ∧ c ∉ wordsC ccy3 7 ∧ c ∉ wordsC ccy2 36) ∧ (∀ c ∈ wordsC ccy2 36, c ∉ wordsC ccy4 2 ∧ c ∉ wordsC ccy3 7) ∧ (∀ c ∈ wordsC ccy3 7, c ∉ wordsC ccy4 2) := by decide +kernel
theorem l0_word (c : ByteArray) (n : Nat) (hn : n ≤ 4) (wd : ByteArray) (hw : remitterref02_Words.f n = some wd) (m : Nat) (hs : wd.size = 4 * m) (hm : m ≤ 100) (L : List (List UInt8)) (hL : (List.range' 0 m).map (wordR wd) = L) (k : Nat) :
    remitterref02_Digits.l0 (m + (k + 1) + 1) c n = if c.data.toList ∈ L then some ((n : Int), true) else remitterref02_Digits.l0 k c ((n + 1 : Nat) : Int) := by
  rw [remitterref02_Digits.l0, if_pos (by omega), hw, Option.bind_some]
  have h := l1_all c n wd m hs (by omega) k m 0 rfl (Nat.zero_le _)
  rw [hL, ByteArray.toList_eq, wrap_ok (by omega) (by omega)] at h
  exact h
theorem refDigits_f (c : ByteArray) (e : Nat) : remitterref02_Digits.f (80 + e) c = some (match digitsC c.data.toList with | some n => (n, true) | none => (0, false)) := by
  unfold remitterref02_Digits.f
  have sz2 : wd2.size = 4 * 36 := by rfl
  have h0 := l0_word c 0 (by decide) wd0 rfl 16 (by decide) (by decide) _ words0 (62 + e)
  have h1 := l0_word c 1 (by decide) ⟨#[]⟩ rfl 0 (by decide) (by decide) _ rfl (60 + e)
  have h2 := l0_word c 2 (by decide) wd2 rfl 36 sz2 (by decide) _ words2 (22 + e)
  have h3 := l0_word c 3 (by decide) wd3 rfl 7 (by decide) (by decide) _ words3 (13 + e)
  have h4 := l0_word c 4 (by decide) wd4 rfl 2 (by decide) (by decide) _ words4 (9 + e)
  have h5 : remitterref02_Digits.l0 (9 + e) c ((4 + 1 : Nat) : Int) = some (0, false) := by rw [show 9 + e = (8 + e) + 1 by omega, remitterref02_Digits.l0, if_neg (by decide)]
  obtain ⟨a0, a2, a3⟩ := words_apart
  unfold digitsC
  rw [show 80 + e = 16 + (62 + e + 1) + 1 by omega]
  refine h0.trans ?_
  by_cases c0 : c.data.toList ∈ wordsC ccy0 16
  · obtain ⟨n4, n3, n2⟩ := a0 _ c0
    rw [if_pos c0, if_neg n4, if_neg n3, if_neg n2, if_pos c0]
    rfl
  · rw [if_neg c0]
    rw [show 62 + e = 0 + (60 + e + 1) + 1 by omega]
    refine h1.trans ?_
    rw [if_neg (by simp)]
    rw [show 60 + e = 36 + (22 + e + 1) + 1 by omega]
    refine h2.trans ?_
    by_cases c2 : c.data.toList ∈ wordsC ccy2 36
    · obtain ⟨n4, n3⟩ := a2 _ c2
      rw [if_pos c2, if_neg n4, if_neg n3, if_pos c2]
      rfl
    · rw [if_neg c2]
      rw [show 22 + e = 7 + (13 + e + 1) + 1 by omega]
      refine h3.trans ?_
      by_cases c3 : c.data.toList ∈ wordsC ccy3 7
      · rw [if_pos c3, if_neg (a3 _ c3), if_pos c3]
        rfl
      · rw [if_neg c3]
        rw [show 13 + e = 2 + (9 + e + 1) + 1 by omega]
        refine h4.trans ?_
        by_cases c4 : c.data.toList ∈ wordsC ccy4 2
        · rw [if_pos c4, if_pos c4]
          rfl
        · rw [if_neg c4, if_neg c4, if_neg c3, if_neg c2, if_neg c0]
          exact h5
theorem fits_ok {n : Bool} {c s : Int} {od : Option Int} (h : fitsV n c s od = 0) : n = false ∧ c = (c.toNat : Int) ∧ s = (s.toNat : Int) ∧ GoodN false c.toNat s.toNat ∧ ∃ d, od = some d ∧ ((lsN c.toNat s.toNat).2 : Int) ≤ d := by
  unfold fitsV at h
  by_cases g : goodB n c s = true ∧ n = false
  · rw [if_pos g] at h
    obtain ⟨g, rfl⟩ := g
    obtain ⟨e1, e2, hg⟩ := goodN_of g
    refine ⟨rfl, e1, e2, hg, ?_⟩
    cases od with
    | none =>
      have h : (12 : Int) = 0 := h
      omega
    | some d =>
      refine ⟨d, rfl, ?_⟩
      dsimp only at h
      by_cases hd : ((lsN c.toNat s.toNat).2 : Int) > d
      · rw [if_pos hd] at h
        exact absurd h (by decide)
      · omega
  · rw [if_neg g] at h
    exact absurd h (by decide)
theorem fits_mk {c s : Nat} {d : Int} (h : GoodN false c s) (hd : ((lsN c s).2 : Int) ≤ d) : fitsV false c s (some d) = 0 := by
  unfold fitsV
  rw [if_pos ⟨goodB_of h, rfl⟩, Int.toNat_natCast, Int.toNat_natCast]
  dsimp only
  rw [if_neg (by omega)]
theorem digits_nonneg {c : List UInt8} {d : Int} (h : digitsC c = some d) : 0 ≤ d := by
  unfold digitsC at h
  repeat' split at h
  all_goals first | (cases h; done) | (have := Option.some.inj h; omega)
theorem readN_cases (a b : List UInt8) : (∃ e, (e = 10 ∨ e = 11) ∧ readN a b = (false, 0, 0, e)) ∨ ∃ c s : Nat, readN a b = (false, (c : Int), (s : Int), 0) ∧ GoodN false c s := by
  unfold readN
  by_cases h1 : (a ++ b).all digB = false
  · rw [if_pos h1]
    exact .inl ⟨10, .inl rfl, rfl⟩
  · rw [if_neg h1]
    by_cases h2 : a = []
    · rw [if_pos h2]
      exact .inl ⟨10, .inl rfl, rfl⟩
    · rw [if_neg h2]
      by_cases h3 : 5 < b.length ∨ 1000000000000000000 ≤ valI (digs (a ++ b)) 0
      · rw [if_pos h3]
        exact .inl ⟨11, .inr rfl, rfl⟩
      · rw [if_neg h3]
        have hd : ∀ (l : List UInt8) (n : Int), l.all digB = true → 0 ≤ n → 0 ≤ valI (digs l) n := by
          intro l
          induction l with
          | nil => intro n _ hn; exact hn
          | cons x r ih =>
            intro n h hn
            simp only [List.all_cons, Bool.and_eq_true] at h
            have hx := h.1
            unfold digB at hx
            simp only [Bool.and_eq_true, decide_eq_true_eq] at hx
            exact ih _ h.2 (show 0 ≤ 10 * n + ((x.toNat : Int) - 48) by omega)
        have h0 := hd (a ++ b) 0 (by simpa using h1) (Int.le_refl _)
        refine .inr ⟨(valI (digs (a ++ b)) 0).toNat, b.length, ?_, by omega, by omega, fun h => by cases h⟩
        rw [Int.toNat_of_nonneg h0]
theorem readMT_cases (l : List UInt8) : (∃ e, (e = 10 ∨ e = 11) ∧ readMT l = (false, 0, 0, e)) ∨ ∃ c s : Nat, readMT l = (false, (c : Int), (s : Int), 0) ∧ GoodN false c s := by
  unfold readMT
  split
  · exact readN_cases _ _
  · exact .inl ⟨10, .inl rfl, rfl⟩
theorem readXML_cases (l : List UInt8) : (∃ e, (e = 10 ∨ e = 11) ∧ readXML l = (false, 0, 0, e)) ∨ ∃ c s : Nat, readXML l = (false, (c : Int), (s : Int), 0) ∧ GoodN false c s := by
  unfold readXML
  split
  · exact .inl ⟨10, .inl rfl, rfl⟩
  · exact readN_cases _ _
/-- What an amount is read as. -/
def amtV (r : Bool × Int × Int × Int) (od : Option Int) : Bool × Int × Int × Int :=
  if r.2.2.2 = 0 then (if fitsV r.1 r.2.1 r.2.2.1 od = 0 then (r.1, r.2.1, r.2.2.1, 0) else (false, 0, 0, fitsV r.1 r.2.1 r.2.2.1 od)) else (false, 0, 0, r.2.2.2)
theorem readF_eq (r : Bool × Int × Int × Int) (ccy : ByteArray) (h : ccy.size ≤ 9223372036854775807) : readF r ccy = some (amtV r (digitsC ccy.data.toList)) := by
  unfold readF amtV
  by_cases h0 : r.2.2.2 = 0
  · rw [if_pos h0, if_pos h0, fits_f _ _ _ _ h 20 (by decide), Option.bind_some]
    split <;> rfl
  · rw [if_neg h0, if_neg h0]
theorem amtMT_f (l : List UInt8) (hl : l.length ≤ 1000) (ccy : ByteArray) (h : ccy.size ≤ 9223372036854775807) : currency_ParseMT.f (bs l) ccy = some (amtV (readMT l) (digitsC ccy.data.toList)) := by
  unfold currency_ParseMT.f
  rw [parseMT_f l hl, Option.bind_some, readF_eq _ _ h]
theorem amtXML_f (l : List UInt8) (hl : l.length ≤ 1000) (ccy : ByteArray) (h : ccy.size ≤ 9223372036854775807) : currency_ParseXML.f (bs l) ccy = some (amtV (readXML l) (digitsC ccy.data.toList)) := by
  unfold currency_ParseXML.f
  rw [parseXML_f l hl, Option.bind_some, readF_eq _ _ h]
/-! What the known case asks. -/
set_option maxRecDepth 100000 in
theorem known1 : currency_Digits.f (⟨#[75, 87, 68]⟩ : ByteArray) = some (3, true) := by rw [digits_f _ (by decide)]; decide +kernel
set_option maxRecDepth 100000 in
theorem known2 : currency_Digits.f (⟨#[88, 88, 88]⟩ : ByteArray) = some (0, false) := by rw [digits_f _ (by decide)]; decide +kernel
set_option maxRecDepth 100000 in
theorem known3 : currency_ParseMT.f (⟨#[49, 50, 44, 48, 48]⟩ : ByteArray) (⟨#[74, 80, 89]⟩ : ByteArray) = some (false, 1200, 2, 0) := by
  refine (amtMT_f [49, 50, 44, 48, 48] (by decide) _ (by decide)).trans ?_
  decide +kernel
set_option maxRecDepth 100000 in
theorem known4 : currency_ParseMT.f (⟨#[49, 50, 44, 53]⟩ : ByteArray) (⟨#[74, 80, 89]⟩ : ByteArray) = some (false, 0, 0, 12) := by
  refine (amtMT_f [49, 50, 44, 53] (by decide) _ (by decide)).trans ?_
  decide +kernel
theorem known5 : (ccyAll.length : Int) = 61 := by rfl
end Go.Proofs.YtggakekljbgeoaaDoor.Pure

/- Plain law under decimal's readers: the program's and the document's answers. -/
import Derived.Test.YtggakekljbgeoaaDoorPAllx3
import Derived.Test.YtggakekljbgeoaaDoorPureDec1
namespace Go.Proofs.YtggakekljbgeoaaDoor.Pure
open Go.RowKit Go.Proofs.YtggakekljbgeoaaDoor.PAll Go.Proofs.YtggakekljbgeoaaDoorW.PrintWords Go.Proofs.YtggakekljbgeoaaDoorW.PrintLast GPlain
set_option linter.unusedSimpArgs false

theorem cut_f (l : List UInt8) (hl : l.length ≤ 1000) (c : UInt8) : strings_Cut.f (bs l) ⟨#[c]⟩ = some (bs (cutC c l).1, bs (cutC c l).2.1, (cutC c l).2.2) := by
  unfold strings_Cut.f
  rw [if_pos (by rw [bs_size]; omega), bs_data]
  show some (bs (Lib.cut l [c]).1, bs (Lib.cut l [c]).2.1, (Lib.cut l [c]).2.2) = _
  rw [cut_eq]
theorem parse_f (a b : List UInt8) (h : a.length + b.length ≤ 1000) : decimal_parse.f (bs a) (bs b) = some (readN a b) := by
  unfold decimal_parse.f
  rw [if_pos (by rw [bs_size, bs_size]; omega), bs_data, bs_data, parseR_eq]
theorem parseMT_f (l : List UInt8) (hl : l.length ≤ 1000) : decimal_ParseMT.f (bs l) = some (readMT l) := by
  have := cutC_len 44 l
  unfold decimal_ParseMT.f readMT
  rw [cut_f l hl, Option.bind_some]
  dsimp only
  by_cases h : (cutC 44 l).2.2 = true
  · rw [if_pos h, if_pos h, parse_f _ _ (by omega)]
    rfl
  · rw [if_neg h, if_neg h]
theorem parseXML_f (l : List UInt8) (hl : l.length ≤ 1000) : decimal_ParseXML.f (bs l) = some (readXML l) := by
  have := cutC_len 46 l
  unfold decimal_ParseXML.f readXML
  rw [cut_f l hl, Option.bind_some]
  dsimp only
  by_cases h : (cutC 46 l).2.2 = true
  · rw [if_pos h, bs_toList]
    by_cases h2 : (cutC 46 l).2.1 = []
    · rw [if_pos h2, if_pos ⟨h, h2⟩]
    · rw [if_neg h2, if_neg (fun h3 => h2 h3.2), parse_f _ _ (by omega)]
      rfl
  · rw [if_neg h, if_neg (fun h3 => h h3.1), parse_f _ _ (by omega)]
    rfl
theorem wakes_ok : remitterlaw01_wakes.f = some true := by
  have e1 : decimal_ParseMT.f (⟨#[48, 48, 49, 50, 44, 53]⟩ : ByteArray) = some (false, 125, 1, 0) := parseMT_f [48, 48, 49, 50, 44, 53] (by decide)
  have e2 : decimal_ParseXML.f (⟨#[49, 50, 46]⟩ : ByteArray) = some (false, 0, 0, 10) := parseXML_f [49, 50, 46] (by decide)
  have e3 : decimal_ParseMT.f (⟨#[49, 44, 49, 50, 51, 52, 53, 54]⟩ : ByteArray) = some (false, 0, 0, 11) := parseMT_f [49, 44, 49, 50, 51, 52, 53, 54] (by decide)
  have e4 : decimal_MT.f false 7 0 = some (⟨#[55, 44]⟩, 0) := by
    unfold decimal_MT.f decimal_text.f
    rw [if_pos (by decide), Option.bind_some, if_pos (by decide)]
    show some (bs (textL 7 0 [44] true), (0 : Int)) = _
    unfold textL behindL
    rw [if_neg (by decide), if_pos rfl, show (7 : Nat) / 10 ^ 0 = 7 from rfl, Lib.decDigits_one (by decide)]
    rfl
  have e5 : decimal_Add.f false 1250 2 true 125 1 = some (false, 0, 2, 0) := by decide
  unfold remitterlaw01_wakes.f
  have e6 : decimal_Good.f false 125 1 = some true := by decide
  rw [e1, e2, e3, e4, e5]
  simp only [Option.bind_some]
  rw [if_pos (by decide), if_pos (by decide), if_pos (by decide), if_pos (by decide), if_pos (by decide), if_pos (show (⟨#[55, 44]⟩ : ByteArray).toList = [55, 44] from bs_toList [55, 44]), if_pos (by decide), if_pos (by decide), e6]
  rfl
theorem cut_l0 (l : List UInt8) (hl : l.length ≤ 1000) (c : UInt8) (d : Nat) : ∀ (k i : Nat), l.length - i = d → i ≤ l.length → d < k →
    remitterref01_cut.l0 k (bs l) (c.toNat : Int) (i : Int) = some (if (cutC c (l.drop i)).2.2 = true then ((i + (cutC c (l.drop i)).1.length : Nat) : Int) else -1) := by
  induction d with
  | zero =>
    intro k i hd hi hk
    obtain ⟨k, rfl⟩ : ∃ m, k = m + 1 := ⟨k - 1, by omega⟩
    rw [remitterref01_cut.l0, bs_size, if_neg (by omega), List.drop_of_length_le (by omega)]
    rfl
  | succ d ih =>
    intro k i hd hi hk
    obtain ⟨k, rfl⟩ : ∃ m, k = m + 1 := ⟨k - 1, by omega⟩
    have hlt : i < l.length := by omega
    rw [remitterref01_cut.l0, bs_size, if_pos (by omega), if_pos (by omega), bt_nat]
    rw [List.drop_eq_getElem_cons hlt]
    have hg : l.getD i 0 = l[i] := by rw [List.getD_eq_getElem?_getD, List.getElem?_eq_getElem hlt]; rfl
    rw [hg]
    unfold cutC
    by_cases h : l[i] = c
    · rw [if_pos (by rw [h]), if_pos h]
      simp
    · rw [if_neg (fun e => h (UInt8.toNat_inj.1 (by omega))), if_neg h, wrap_ok (by omega) (by omega)]
      have := ih k (i + 1) (by omega) (by omega) (by omega)
      rw [show ((i : Int) + 1) = ((i + 1 : Nat) : Int) by omega, this]
      dsimp only
      congr 2
      simp only [List.length_cons]
      congr 1
      omega
theorem read_l0 (l : List UInt8) (hl : l.length ≤ 1000) (d : Nat) : ∀ (k i : Nat), l.length - i = d → i ≤ l.length → d < k →
    remitterref01_read.l0 k (bs l) (digs (l.take i)) (i : Int) = some (if (l.drop i).all digB = true then (digs l, true) else ([], false)) := by
  induction d with
  | zero =>
    intro k i hd hi hk
    obtain ⟨k, rfl⟩ : ∃ m, k = m + 1 := ⟨k - 1, by omega⟩
    rw [remitterref01_read.l0, bs_size, if_neg (by omega), List.drop_of_length_le (by omega), List.take_of_length_le (by omega)]
    rfl
  | succ d ih =>
    intro k i hd hi hk
    obtain ⟨k, rfl⟩ : ∃ m, k = m + 1 := ⟨k - 1, by omega⟩
    have hlt : i < l.length := by omega
    have hg : l.getD i 0 = l[i] := by rw [List.getD_eq_getElem?_getD, List.getElem?_eq_getElem hlt]; rfl
    rw [remitterref01_read.l0, bs_size, if_pos (by omega), if_pos (by omega), bt_nat, hg, List.drop_eq_getElem_cons hlt, List.all_cons]
    have hb := l[i].toNat_lt
    by_cases h1 : (l[i].toNat : Int) < 48
    · rw [if_pos h1, show digB l[i] = false by unfold digB; rw [decide_eq_false (by omega)]; rfl]
      rfl
    · rw [if_neg h1]
      by_cases h2 : (l[i].toNat : Int) > 57
      · rw [if_pos h2, show digB l[i] = false by unfold digB; rw [decide_eq_false (show ¬ l[i].toNat ≤ 57 by omega), Bool.and_false]]
        rfl
      · rw [if_neg h2, if_pos (by unfold digs; rw [List.length_map, List.length_take]; omega), wrap_ok (by omega) (by omega), show digB l[i] = true by unfold digB; rw [decide_eq_true (by omega), decide_eq_true (by omega)]; rfl, Bool.true_and]
        have hs : digs (l.take i) ++ [((l[i].toNat : Int) - 48) % 256] = digs (l.take (i + 1)) := by
          unfold digs
          rw [List.take_succ_eq_append_getElem hlt, List.map_append, Int.emod_eq_of_lt (by omega) (by omega)]
          rfl
        rw [hs, show ((i : Int) + 1) = ((i + 1 : Nat) : Int) by omega]
        exact ih k (i + 1) (by omega) (by omega) (by omega)
/-! ### the document's numbers -/
theorem valI_snoc (ds : List Int) (d n : Int) : valI (ds ++ [d]) n = 10 * valI ds n + d := by unfold valI; rw [List.foldl_append]; rfl
theorem valI_nonneg : ∀ (ds : List Int) (n : Int), (∀ d ∈ ds, 0 ≤ d ∧ d ≤ 9) → 0 ≤ n → 0 ≤ valI ds n
  | [], _, _, h => h
  | d :: r, n, hd, h => valI_nonneg r (10 * n + d) (fun x hx => hd x (List.mem_cons_of_mem _ hx)) (by have := hd d List.mem_cons_self; omega)
theorem valI_ge : ∀ (ds : List Int) (n : Int), (∀ d ∈ ds, 0 ≤ d ∧ d ≤ 9) → 0 ≤ n → n ≤ valI ds n
  | [], _, _, _ => Int.le_refl _
  | d :: r, n, hd, h => by
    have h1 := hd d List.mem_cons_self
    have := valI_ge r (10 * n + d) (fun x hx => hd x (List.mem_cons_of_mem _ hx)) (by omega)
    show n ≤ valI r (10 * n + d)
    omega
/-- How large a value of so many digits is. -/
theorem valI_bd : ∀ (ds : List Int) (n : Int), (∀ d ∈ ds, 0 ≤ d ∧ d ≤ 9) → 0 ≤ n → n * (10 : Int) ^ ds.length ≤ valI ds n ∧ valI ds n < (n + 1) * (10 : Int) ^ ds.length
  | [], n, _, _ => by simp [valI]; omega
  | d :: r, n, hd, h => by
    have h1 := hd d List.mem_cons_self
    obtain ⟨h2, h3⟩ := valI_bd r (10 * n + d) (fun x hx => hd x (List.mem_cons_of_mem _ hx)) (by omega)
    have hp : (0 : Int) < (10 : Int) ^ r.length := Int.pow_pos (by decide)
    refine ⟨?_, ?_⟩
    · show n * 10 ^ (r.length + 1) ≤ valI r (10 * n + d)
      refine Int.le_trans ?_ h2
      rw [Int.pow_succ, Int.mul_comm ((10 : Int) ^ r.length) 10, ← Int.mul_assoc]
      exact Int.mul_le_mul_of_nonneg_right (by omega) (Int.le_of_lt hp)
    · show valI r (10 * n + d) < (n + 1) * 10 ^ (r.length + 1)
      refine Int.lt_of_lt_of_le h3 ?_
      rw [Int.pow_succ, Int.mul_comm ((10 : Int) ^ r.length) 10, ← Int.mul_assoc]
      exact Int.mul_le_mul_of_nonneg_right (by omega) (Int.le_of_lt hp)
theorem pow_mono {m n : Nat} (h : m ≤ n) : (10 : Int) ^ m ≤ (10 : Int) ^ n := by
  have := Nat.pow_le_pow_right (n := 10) (by decide) h
  exact_mod_cast this
def zerosN : List Int → Nat
  | [] => 0
  | d :: r => if d = 0 then zerosN r + 1 else 0
theorem zerosN_zero (d : Int) (r : List Int) (h : d = 0) : zerosN (d :: r) = zerosN r + 1 := if_pos h
theorem zerosN_pos (d : Int) (r : List Int) (h : ¬ d = 0) : zerosN (d :: r) = 0 := if_neg h
theorem zerosN_le : ∀ ds : List Int, zerosN ds ≤ ds.length
  | [] => Nat.le_refl _
  | d :: r => by
    have := zerosN_le r
    unfold zerosN
    split
    · simp; omega
    · simp
/-- More than 18 digits behind the zeros: the value is 10^18 at least. -/
theorem long_iff : ∀ (ds : List Int), (∀ d ∈ ds, 0 ≤ d ∧ d ≤ 9) → (18 < ds.length - zerosN ds ↔ 1000000000000000000 ≤ valI ds 0)
  | [], _ => by simp [zerosN, valI]
  | d :: r, hd => by
    have h1 := hd d List.mem_cons_self
    have hr : ∀ x ∈ r, 0 ≤ x ∧ x ≤ 9 := fun x hx => hd x (List.mem_cons_of_mem _ hx)
    unfold zerosN
    by_cases h0 : d = 0
    · subst h0
      rw [if_pos rfl, show (0 :: r : List Int).length - (zerosN r + 1) = r.length - zerosN r by simp]
      exact long_iff r hr
    · rw [if_neg h0]
      obtain ⟨h2, h3⟩ := valI_bd r (10 * 0 + d) hr (by omega)
      have e : valI (d :: r) 0 = valI r (10 * 0 + d) := rfl
      rw [e]
      simp only [List.length_cons, Nat.sub_zero]
      have hp : (0 : Int) < (10 : Int) ^ r.length := Int.pow_pos (by decide)
      by_cases hl : 18 ≤ r.length
      · refine ⟨fun _ => Int.le_trans ?_ h2, fun _ => by omega⟩
        have hpw : (1000000000000000000 : Int) ≤ (10 : Int) ^ r.length := by
          have : (10 : Int) ^ 18 ≤ (10 : Int) ^ r.length := pow_mono hl
          exact this
        have := Int.mul_le_mul_of_nonneg_right (show (1 : Int) ≤ 10 * 0 + d by omega) (Int.le_of_lt hp)
        omega
      · refine ⟨fun h => by omega, fun h => absurd h ?_⟩
        have hpw : (10 : Int) ^ r.length ≤ 100000000000000000 := by
          have : (10 : Int) ^ r.length ≤ (10 : Int) ^ 17 := pow_mono (by omega)
          exact this
        have h4 := Int.mul_le_mul_of_nonneg_right (show (10 * 0 + d + 1) ≤ 10 by omega) (Int.le_of_lt hp)
        omega
theorem num_l1 (ds : List Int) (hd : ∀ d ∈ ds, 0 ≤ d ∧ d ≤ 9) (hl : ds.length ≤ 1000) (hv : valI ds 0 < 1000000000000000000) (b : Int) (e : Nat) : ∀ (k i : Nat), ds.length - i = e → i ≤ ds.length → e < k →
    remitterref01_number.l1 k ds (i : Int) false (valI (ds.take i) 0) b = some (false, valI ds 0, b, 0) := by
  induction e with
  | zero =>
    intro k i he hi hk
    obtain ⟨k, rfl⟩ : ∃ m, k = m + 1 := ⟨k - 1, by omega⟩
    rw [remitterref01_number.l1, if_neg (by omega), List.take_of_length_le (by omega)]
  | succ e ih =>
    intro k i he hi hk
    obtain ⟨k, rfl⟩ : ∃ m, k = m + 1 := ⟨k - 1, by omega⟩
    have hlt : i < ds.length := by omega
    have hr : rd ds (i : Int) = ds[i] := by
      show ds.getD i 0 = _
      rw [List.getD_eq_getElem?_getD, List.getElem?_eq_getElem hlt]
      rfl
    have hs : 10 * valI (ds.take i) 0 + ds[i] = valI (ds.take (i + 1)) 0 := by rw [List.take_succ_eq_append_getElem hlt, valI_snoc]
    have hdi := hd _ (List.getElem_mem hlt)
    have h0 := valI_nonneg (ds.take i) 0 (fun d h => hd d (List.take_subset _ _ h)) (Int.le_refl _)
    have hle : valI (ds.take (i + 1)) 0 ≤ valI ds 0 := by
      have e2 : valI ds 0 = valI (ds.drop (i + 1)) (valI (ds.take (i + 1)) 0) := by
        unfold valI
        rw [← List.foldl_append, List.take_append_drop]
      rw [e2]
      exact valI_ge _ _ (fun d h => hd d (List.drop_subset _ _ h)) (valI_nonneg _ 0 (fun d h => hd d (List.take_subset _ _ h)) (Int.le_refl _))
    rw [remitterref01_number.l1, if_pos (by omega), if_pos (by omega), hr, wrap_ok (x := 10 * valI (ds.take i) 0) (by omega) (by omega), hs, wrap_ok (x := valI (ds.take (i + 1)) 0) (by omega) (by omega), wrap_ok (x := (i : Int) + 1) (by omega) (by omega), show ((i : Int) + 1) = ((i + 1 : Nat) : Int) by omega]
    exact ih k (i + 1) (by omega) (by omega) (by omega)
/-- The document's number. -/
def numN (ds : List Int) (b : Nat) : Bool × Int × Int × Int := if 5 < b ∨ 1000000000000000000 ≤ valI ds 0 then (false, 0, 0, 11) else (false, valI ds 0, (b : Int), 0)
theorem num_j1 (ds : List Int) (hd : ∀ d ∈ ds, 0 ≤ d ∧ d ≤ 9) (hl : ds.length ≤ 1000) (b : Nat) (hb : b ≤ 1000) (k : Nat) (hk : 1100 ≤ k) : remitterref01_number.j1 k ds (b : Int) ((zerosN ds : Nat) : Int) = some (numN ds b) := by
  have hz := zerosN_le ds
  have hli := long_iff ds hd
  obtain ⟨k, rfl⟩ : ∃ m, k = m + 2 := ⟨k - 2, by omega⟩
  unfold numN
  have hbig : remitterref01_number.j2 (k + 1) ds (b : Int) true = some (false, 0, 0, 11) := by rw [remitterref01_number.j2, if_pos rfl]
  rw [remitterref01_number.j1, wrap_ok (by omega) (by omega)]
  by_cases h5 : (b : Int) > 5
  · rw [if_pos h5, hbig, if_pos (.inl (by omega))]
  · rw [if_neg h5]
    by_cases hlong : 18 < ds.length - zerosN ds
    · rw [decide_eq_true (by omega), hbig, if_pos (.inr (hli.1 hlong))]
    · have hv : ¬ 1000000000000000000 ≤ valI ds 0 := fun h => hlong (hli.2 h)
      rw [decide_eq_false (by omega), if_neg (by omega), remitterref01_number.j2, if_neg (by decide)]
      exact num_l1 ds hd hl (by omega) b ds.length k 0 (by omega) (by omega) (by omega)
theorem num_l0 (ds : List Int) (hd : ∀ d ∈ ds, 0 ≤ d ∧ d ≤ 9) (hl : ds.length ≤ 1000) (b : Nat) (hb : b ≤ 1000) (e : Nat) : ∀ (k i : Nat), ds.length - i = e → i ≤ ds.length → zerosN ds = i + zerosN (ds.drop i) → e + 1101 < k →
    remitterref01_number.l0 k ds (b : Int) (i : Int) = some (numN ds b) := by
  induction e with
  | zero =>
    intro k i he hi hz hk
    obtain ⟨k, rfl⟩ : ∃ m, k = m + 1 := ⟨k - 1, by omega⟩
    rw [List.drop_of_length_le (by omega)] at hz
    have hz : zerosN ds = i := hz
    rw [remitterref01_number.l0, if_neg (by omega), ← hz]
    exact num_j1 ds hd hl b hb k (by omega)
  | succ e ih =>
    intro k i he hi hz hk
    obtain ⟨k, rfl⟩ : ∃ m, k = m + 1 := ⟨k - 1, by omega⟩
    have hlt : i < ds.length := by omega
    have hr : rd ds (i : Int) = ds[i] := by
      show ds.getD i 0 = _
      rw [List.getD_eq_getElem?_getD, List.getElem?_eq_getElem hlt]
      rfl
    rw [List.drop_eq_getElem_cons hlt] at hz
    rw [remitterref01_number.l0, if_pos (by omega), if_pos (by omega), hr]
    by_cases h0 : ds[i] = 0
    · rw [zerosN_zero _ _ h0] at hz
      rw [if_pos h0, wrap_ok (by omega) (by omega), show ((i : Int) + 1) = ((i + 1 : Nat) : Int) by omega]
      exact ih k (i + 1) (by omega) (by omega) (by omega) (by omega)
    · rw [zerosN_pos _ _ h0] at hz
      rw [if_neg h0, show (i : Int) = ((zerosN ds : Nat) : Int) by omega]
      exact num_j1 ds hd hl b hb k (by omega)
end Go.Proofs.YtggakekljbgeoaaDoor.Pure

/- Plain law: CurrencyTells. -/
import Derived.Test.YtggakekljbgeoaaDoorPCTellsx4
import Derived.Test.YtggakekljbgeoaaDoorPureCur
namespace Go.Proofs.YtggakekljbgeoaaDoor.Pure
open Go.RowKit Go.Proofs.YtggakekljbgeoaaDoor.PAll Go.Proofs.YtggakekljbgeoaaDoorW.PrintWords Go.Proofs.YtggakekljbgeoaaDoorW.PrintLast GPlain
set_option linter.unusedSimpArgs false
theorem wakes_ok : remitterlaw02_wakes.f = some true := by
  unfold remitterlaw02_wakes.f
  rw [known1, known2, known3, known4]
  have hA : currency_All.f.bind (fun t : List ByteArray => some ((t.length : Int) == 61)) = some true := by
    rw [show currency_All.f = some ccyAll from rfl, Option.bind_some, known5]
    rfl
  exact hA
theorem cut_l0 (l : List UInt8) (hl : l.length ≤ 1000) (c : UInt8) (d : Nat) : ∀ (k i : Nat), l.length - i = d → i ≤ l.length → d < k →
    remitterref01_cut.l0 k (bs l) (c.toNat : Int) (i : Int) = some (if (cutC c (l.drop i)).2.2 = true then ((i + (cutC c (l.drop i)).1.length : Nat) : Int) else -1) := by
  induction d with
  | zero =>
    intro k i hd hi hk
    obtain ⟨k, rfl⟩ : ∃ m, k = m + 1 := ⟨k - 1, by omega⟩
    rw [remitterref01_cut.l0, bs_size, if_neg (by omega), List.drop_of_length_le (by omega)]
    rfl
  | succ d ih =>
    intro k i hd hi hk
    obtain ⟨k, rfl⟩ : ∃ m, k = m + 1 := ⟨k - 1, by omega⟩
    have hlt : i < l.length := by omega
    rw [remitterref01_cut.l0, bs_size, if_pos (by omega), if_pos (by omega), bt_nat]
    rw [List.drop_eq_getElem_cons hlt]
    have hg : l.getD i 0 = l[i] := by rw [List.getD_eq_getElem?_getD, List.getElem?_eq_getElem hlt]; rfl
    rw [hg]
    unfold cutC
    by_cases h : l[i] = c
    · rw [if_pos (by rw [h]), if_pos h]
      simp
    · rw [if_neg (fun e => h (UInt8.toNat_inj.1 (by omega))), if_neg h, wrap_ok (by omega) (by omega)]
      have := ih k (i + 1) (by omega) (by omega) (by omega)
      rw [show ((i : Int) + 1) = ((i + 1 : Nat) : Int) by omega, this]
      dsimp only
      congr 2
      simp only [List.length_cons]
      congr 1
      omega
theorem read_l0 (l : List UInt8) (hl : l.length ≤ 1000) (d : Nat) : ∀ (k i : Nat), l.length - i = d → i ≤ l.length → d < k →
    remitterref01_read.l0 k (bs l) (digs (l.take i)) (i : Int) = some (if (l.drop i).all digB = true then (digs l, true) else ([], false)) := by
  induction d with
  | zero =>
    intro k i hd hi hk
    obtain ⟨k, rfl⟩ : ∃ m, k = m + 1 := ⟨k - 1, by omega⟩
    rw [remitterref01_read.l0, bs_size, if_neg (by omega), List.drop_of_length_le (by omega), List.take_of_length_le (by omega)]
    rfl
  | succ d ih =>
    intro k i hd hi hk
    obtain ⟨k, rfl⟩ : ∃ m, k = m + 1 := ⟨k - 1, by omega⟩
    have hlt : i < l.length := by omega
    have hg : l.getD i 0 = l[i] := by rw [List.getD_eq_getElem?_getD, List.getElem?_eq_getElem hlt]; rfl
    rw [remitterref01_read.l0, bs_size, if_pos (by omega), if_pos (by omega), bt_nat, hg, List.drop_eq_getElem_cons hlt, List.all_cons]
    have hb := l[i].toNat_lt
    by_cases h1 : (l[i].toNat : Int) < 48
    · rw [if_pos h1, show digB l[i] = false by unfold digB; rw [decide_eq_false (by omega)]; rfl]
      rfl
    · rw [if_neg h1]
      by_cases h2 : (l[i].toNat : Int) > 57
      · rw [if_pos h2, show digB l[i] = false by unfold digB; rw [decide_eq_false (show ¬ l[i].toNat ≤ 57 by omega), Bool.and_false]]
        rfl
      · rw [if_neg h2, if_pos (by unfold digs; rw [List.length_map, List.length_take]; omega), wrap_ok (by omega) (by omega), show digB l[i] = true by unfold digB; rw [decide_eq_true (by omega), decide_eq_true (by omega)]; rfl, Bool.true_and]
        have hs : digs (l.take i) ++ [((l[i].toNat : Int) - 48) % 256] = digs (l.take (i + 1)) := by
          unfold digs
          rw [List.take_succ_eq_append_getElem hlt, List.map_append, Int.emod_eq_of_lt (by omega) (by omega)]
          rfl
        rw [hs, show ((i : Int) + 1) = ((i + 1 : Nat) : Int) by omega]
        exact ih k (i + 1) (by omega) (by omega) (by omega)
/-! ### the document's numbers -/
theorem valI_snoc (ds : List Int) (d n : Int) : valI (ds ++ [d]) n = 10 * valI ds n + d := by unfold valI; rw [List.foldl_append]; rfl
theorem valI_nonneg : ∀ (ds : List Int) (n : Int), (∀ d ∈ ds, 0 ≤ d ∧ d ≤ 9) → 0 ≤ n → 0 ≤ valI ds n
  | [], _, _, h => h
  | d :: r, n, hd, h => valI_nonneg r (10 * n + d) (fun x hx => hd x (List.mem_cons_of_mem _ hx)) (by have := hd d List.mem_cons_self; omega)
theorem valI_ge : ∀ (ds : List Int) (n : Int), (∀ d ∈ ds, 0 ≤ d ∧ d ≤ 9) → 0 ≤ n → n ≤ valI ds n
  | [], _, _, _ => Int.le_refl _
  | d :: r, n, hd, h => by
    have h1 := hd d List.mem_cons_self
    have := valI_ge r (10 * n + d) (fun x hx => hd x (List.mem_cons_of_mem _ hx)) (by omega)
    show n ≤ valI r (10 * n + d)
    omega
/-- How large a value of so many digits is. -/
theorem valI_bd : ∀ (ds : List Int) (n : Int), (∀ d ∈ ds, 0 ≤ d ∧ d ≤ 9) → 0 ≤ n → n * (10 : Int) ^ ds.length ≤ valI ds n ∧ valI ds n < (n + 1) * (10 : Int) ^ ds.length
  | [], n, _, _ => by simp [valI]; omega
  | d :: r, n, hd, h => by
    have h1 := hd d List.mem_cons_self
    obtain ⟨h2, h3⟩ := valI_bd r (10 * n + d) (fun x hx => hd x (List.mem_cons_of_mem _ hx)) (by omega)
    have hp : (0 : Int) < (10 : Int) ^ r.length := Int.pow_pos (by decide)
    refine ⟨?_, ?_⟩
    · show n * 10 ^ (r.length + 1) ≤ valI r (10 * n + d)
      refine Int.le_trans ?_ h2
      rw [Int.pow_succ, Int.mul_comm ((10 : Int) ^ r.length) 10, ← Int.mul_assoc]
      exact Int.mul_le_mul_of_nonneg_right (by omega) (Int.le_of_lt hp)
    · show valI r (10 * n + d) < (n + 1) * 10 ^ (r.length + 1)
      refine Int.lt_of_lt_of_le h3 ?_
      rw [Int.pow_succ, Int.mul_comm ((10 : Int) ^ r.length) 10, ← Int.mul_assoc]
      exact Int.mul_le_mul_of_nonneg_right (by omega) (Int.le_of_lt hp)
theorem pow_mono {m n : Nat} (h : m ≤ n) : (10 : Int) ^ m ≤ (10 : Int) ^ n := by
  have := Nat.pow_le_pow_right (n := 10) (by decide) h
  exact_mod_cast this
def zerosN : List Int → Nat
  | [] => 0
  | d :: r => if d = 0 then zerosN r + 1 else 0
theorem zerosN_zero (d : Int) (r : List Int) (h : d = 0) : zerosN (d :: r) = zerosN r + 1 := if_pos h
theorem zerosN_pos (d : Int) (r : List Int) (h : ¬ d = 0) : zerosN (d :: r) = 0 := if_neg h
theorem zerosN_le : ∀ ds : List Int, zerosN ds ≤ ds.length
  | [] => Nat.le_refl _
  | d :: r => by
    have := zerosN_le r
    unfold zerosN
    split
    · simp; omega
    · simp
/-- More than 18 digits behind the zeros: the value is 10^18 at least. -/
theorem long_iff : ∀ (ds : List Int), (∀ d ∈ ds, 0 ≤ d ∧ d ≤ 9) → (18 < ds.length - zerosN ds ↔ 1000000000000000000 ≤ valI ds 0)
  | [], _ => by simp [zerosN, valI]
  | d :: r, hd => by
    have h1 := hd d List.mem_cons_self
    have hr : ∀ x ∈ r, 0 ≤ x ∧ x ≤ 9 := fun x hx => hd x (List.mem_cons_of_mem _ hx)
    unfold zerosN
    by_cases h0 : d = 0
    · subst h0
      rw [if_pos rfl, show (0 :: r : List Int).length - (zerosN r + 1) = r.length - zerosN r by simp]
      exact long_iff r hr
    · rw [if_neg h0]
      obtain ⟨h2, h3⟩ := valI_bd r (10 * 0 + d) hr (by omega)
      have e : valI (d :: r) 0 = valI r (10 * 0 + d) := rfl
      rw [e]
      simp only [List.length_cons, Nat.sub_zero]
      have hp : (0 : Int) < (10 : Int) ^ r.length := Int.pow_pos (by decide)
      by_cases hl : 18 ≤ r.length
      · refine ⟨fun _ => Int.le_trans ?_ h2, fun _ => by omega⟩
        have hpw : (1000000000000000000 : Int) ≤ (10 : Int) ^ r.length := by
          have : (10 : Int) ^ 18 ≤ (10 : Int) ^ r.length := pow_mono hl
          exact this
        have := Int.mul_le_mul_of_nonneg_right (show (1 : Int) ≤ 10 * 0 + d by omega) (Int.le_of_lt hp)
        omega
      · refine ⟨fun h => by omega, fun h => absurd h ?_⟩
        have hpw : (10 : Int) ^ r.length ≤ 100000000000000000 := by
          have : (10 : Int) ^ r.length ≤ (10 : Int) ^ 17 := pow_mono (by omega)
          exact this
        have h4 := Int.mul_le_mul_of_nonneg_right (show (10 * 0 + d + 1) ≤ 10 by omega) (Int.le_of_lt hp)
        omega
theorem num_l1 (ds : List Int) (hd : ∀ d ∈ ds, 0 ≤ d ∧ d ≤ 9) (hl : ds.length ≤ 1000) (hv : valI ds 0 < 1000000000000000000) (b : Int) (e : Nat) : ∀ (k i : Nat), ds.length - i = e → i ≤ ds.length → e < k →
    remitterref01_number.l1 k ds (i : Int) false (valI (ds.take i) 0) b = some (false, valI ds 0, b, 0) := by
  induction e with
  | zero =>
    intro k i he hi hk
    obtain ⟨k, rfl⟩ : ∃ m, k = m + 1 := ⟨k - 1, by omega⟩
    rw [remitterref01_number.l1, if_neg (by omega), List.take_of_length_le (by omega)]
  | succ e ih =>
    intro k i he hi hk
    obtain ⟨k, rfl⟩ : ∃ m, k = m + 1 := ⟨k - 1, by omega⟩
    have hlt : i < ds.length := by omega
    have hr : rd ds (i : Int) = ds[i] := by
      show ds.getD i 0 = _
      rw [List.getD_eq_getElem?_getD, List.getElem?_eq_getElem hlt]
      rfl
    have hs : 10 * valI (ds.take i) 0 + ds[i] = valI (ds.take (i + 1)) 0 := by rw [List.take_succ_eq_append_getElem hlt, valI_snoc]
    have hdi := hd _ (List.getElem_mem hlt)
    have h0 := valI_nonneg (ds.take i) 0 (fun d h => hd d (List.take_subset _ _ h)) (Int.le_refl _)
    have hle : valI (ds.take (i + 1)) 0 ≤ valI ds 0 := by
      have e2 : valI ds 0 = valI (ds.drop (i + 1)) (valI (ds.take (i + 1)) 0) := by
        unfold valI
        rw [← List.foldl_append, List.take_append_drop]
      rw [e2]
      exact valI_ge _ _ (fun d h => hd d (List.drop_subset _ _ h)) (valI_nonneg _ 0 (fun d h => hd d (List.take_subset _ _ h)) (Int.le_refl _))
    rw [remitterref01_number.l1, if_pos (by omega), if_pos (by omega), hr, wrap_ok (x := 10 * valI (ds.take i) 0) (by omega) (by omega), hs, wrap_ok (x := valI (ds.take (i + 1)) 0) (by omega) (by omega), wrap_ok (x := (i : Int) + 1) (by omega) (by omega), show ((i : Int) + 1) = ((i + 1 : Nat) : Int) by omega]
    exact ih k (i + 1) (by omega) (by omega) (by omega)
/-- The document's number. -/
def numN (ds : List Int) (b : Nat) : Bool × Int × Int × Int := if 5 < b ∨ 1000000000000000000 ≤ valI ds 0 then (false, 0, 0, 11) else (false, valI ds 0, (b : Int), 0)
theorem num_j1 (ds : List Int) (hd : ∀ d ∈ ds, 0 ≤ d ∧ d ≤ 9) (hl : ds.length ≤ 1000) (b : Nat) (hb : b ≤ 1000) (k : Nat) (hk : 1100 ≤ k) : remitterref01_number.j1 k ds (b : Int) ((zerosN ds : Nat) : Int) = some (numN ds b) := by
  have hz := zerosN_le ds
  have hli := long_iff ds hd
  obtain ⟨k, rfl⟩ : ∃ m, k = m + 2 := ⟨k - 2, by omega⟩
  unfold numN
  have hbig : remitterref01_number.j2 (k + 1) ds (b : Int) true = some (false, 0, 0, 11) := by rw [remitterref01_number.j2, if_pos rfl]
  rw [remitterref01_number.j1, wrap_ok (by omega) (by omega)]
  by_cases h5 : (b : Int) > 5
  · rw [if_pos h5, hbig, if_pos (.inl (by omega))]
  · rw [if_neg h5]
    by_cases hlong : 18 < ds.length - zerosN ds
    · rw [decide_eq_true (by omega), hbig, if_pos (.inr (hli.1 hlong))]
    · have hv : ¬ 1000000000000000000 ≤ valI ds 0 := fun h => hlong (hli.2 h)
      rw [decide_eq_false (by omega), if_neg (by omega), remitterref01_number.j2, if_neg (by decide)]
      exact num_l1 ds hd hl (by omega) b ds.length k 0 (by omega) (by omega) (by omega)
theorem num_l0 (ds : List Int) (hd : ∀ d ∈ ds, 0 ≤ d ∧ d ≤ 9) (hl : ds.length ≤ 1000) (b : Nat) (hb : b ≤ 1000) (e : Nat) : ∀ (k i : Nat), ds.length - i = e → i ≤ ds.length → zerosN ds = i + zerosN (ds.drop i) → e + 1101 < k →
    remitterref01_number.l0 k ds (b : Int) (i : Int) = some (numN ds b) := by
  induction e with
  | zero =>
    intro k i he hi hz hk
    obtain ⟨k, rfl⟩ : ∃ m, k = m + 1 := ⟨k - 1, by omega⟩
    rw [List.drop_of_length_le (by omega)] at hz
    have hz : zerosN ds = i := hz
    rw [remitterref01_number.l0, if_neg (by omega), ← hz]
    exact num_j1 ds hd hl b hb k (by omega)
  | succ e ih =>
    intro k i he hi hz hk
    obtain ⟨k, rfl⟩ : ∃ m, k = m + 1 := ⟨k - 1, by omega⟩
    have hlt : i < ds.length := by omega
    have hr : rd ds (i : Int) = ds[i] := by
      show ds.getD i 0 = _
      rw [List.getD_eq_getElem?_getD, List.getElem?_eq_getElem hlt]
      rfl
    rw [List.drop_eq_getElem_cons hlt] at hz
    rw [remitterref01_number.l0, if_pos (by omega), if_pos (by omega), hr]
    by_cases h0 : ds[i] = 0
    · rw [zerosN_zero _ _ h0] at hz
      rw [if_pos h0, wrap_ok (by omega) (by omega), show ((i : Int) + 1) = ((i + 1 : Nat) : Int) by omega]
      exact ih k (i + 1) (by omega) (by omega) (by omega) (by omega)
    · rw [zerosN_pos _ _ h0] at hz
      rw [if_neg h0, show (i : Int) = ((zerosN ds : Nat) : Int) by omega]
      exact num_j1 ds hd hl b hb k (by omega)


theorem digs_mem {l : List UInt8} (h : l.all digB = true) : ∀ d ∈ digs l, 0 ≤ d ∧ d ≤ 9 := by
  intro d hd
  obtain ⟨c, hc, rfl⟩ := List.mem_map.1 hd
  have := List.all_eq_true.1 h c hc
  unfold digB at this
  simp only [Bool.and_eq_true, decide_eq_true_eq] at this
  exact ⟨by omega, by omega⟩
theorem digs_len (l : List UInt8) : (digs l).length = l.length := List.length_map ..
/-- What the document answers once the text is cut. -/
def refN (mt : Bool) (t : Int) (a b : List UInt8) : Bool × Int × Int × Int :=
  if (a ++ b).all digB = false then (false, 0, 0, 10) else if a = [] then (false, 0, 0, 10)
  else if mt = true then (if t < 0 then (false, 0, 0, 10) else numN (digs (a ++ b)) b.length)
  else if t ≥ 0 then (if b = [] then (false, 0, 0, 10) else numN (digs (a ++ b)) b.length) else numN (digs (a ++ b)) b.length
theorem ref_j1 (mt : Bool) (t : Int) (a b : List UInt8) (h : a.length + b.length ≤ 1000) (k : Nat) (hk : 3000 ≤ k) : remitterref01_Parse.j1 k mt t (bs a) (bs b) = some (refN mt t a b) := by
  obtain ⟨k, rfl⟩ : ∃ m, k = m + 1 := ⟨k - 1, by omega⟩
  have hl : (a ++ b).length ≤ 1000 := by rw [List.length_append]; exact h
  have hr : remitterref01_read.f k (bs (a ++ b)) = some (if (a ++ b).all digB = true then (digs (a ++ b), true) else ([], false)) := read_l0 (a ++ b) hl (a ++ b).length k 0 (by omega) (by omega) (by omega)
  rw [remitterref01_Parse.j1, if_pos (by rw [bs_size, bs_size]; omega), bs_append, hr, Option.bind_some, bs_toList, bs_toList, bs_size]
  unfold refN
  by_cases ha : (a ++ b).all digB = true
  · rw [if_pos ha, if_pos rfl, if_neg (show ¬ (a ++ b).all digB = false by rw [ha]; decide)]
    have hn : remitterref01_number.f k (digs (a ++ b)) (b.length : Int) = some (numN (digs (a ++ b)) b.length) :=
      num_l0 (digs (a ++ b)) (digs_mem ha) (by rw [digs_len]; exact hl) b.length (by omega) (digs (a ++ b)).length k 0 (by omega) (by omega) (by rw [List.drop_zero, Nat.zero_add]) (by rw [digs_len]; omega)
    by_cases h1 : a = []
    · rw [if_pos h1, if_pos h1]
    · rw [if_neg h1, if_neg h1]
      dsimp only
      rw [hn, Option.bind_some]
      by_cases h2 : mt = true
      · rw [if_pos h2, if_pos h2]
        by_cases h3 : t < 0
        · rw [if_pos h3, if_pos h3]
        · rw [if_neg h3, if_neg h3]
      · rw [if_neg h2, if_neg h2]
        by_cases h3 : t ≥ 0
        · rw [if_pos h3, if_pos h3]
          by_cases h4 : b = []
          · rw [if_pos h4, if_pos h4]
          · rw [if_neg h4, if_neg h4]
        · rw [if_neg h3, if_neg h3]
  · rw [if_neg ha, if_neg (by simp), if_pos (by simpa using ha)]
theorem ref_j0 (mt : Bool) (l : List UInt8) (hl : l.length ≤ 1000) (c : UInt8) (k : Nat) (hk : 4000 ≤ k) :
    remitterref01_Parse.j0 k (bs l) mt (c.toNat : Int) = some (refN mt (if (cutC c l).2.2 = true then ((cutC c l).1.length : Int) else -1) (cutC c l).1 (cutC c l).2.1) := by
  obtain ⟨k, rfl⟩ : ∃ m, k = m + 1 := ⟨k - 1, by omega⟩
  have hc : remitterref01_cut.f k (bs l) (c.toNat : Int) = some (if (cutC c l).2.2 = true then ((cutC c l).1.length : Int) else -1) := by
    have := cut_l0 l hl c l.length k 0 (by omega) (by omega) (by omega)
    rw [List.drop_zero, Nat.zero_add] at this
    exact this
  have hcl := cutC_len c l
  rw [remitterref01_Parse.j0, hc, Option.bind_some, bs_size]
  rcases hcc : cutC c l with ⟨a, b, f⟩
  rw [hcc] at hcl
  cases f
  · obtain ⟨rfl, rfl, -⟩ := cutC_false hcc
    dsimp only
    have e : (if false = true then ((a.length : Nat) : Int) else -1) = -1 := rfl
    rw [e, if_neg (by decide)]
    exact ref_j1 mt (-1) a [] (by simp; omega) k (by omega)
  · obtain ⟨rfl, -⟩ := cutC_true hcc
    dsimp only at hcl ⊢
    simp only [List.length_append, List.length_cons] at hl
    rw [if_pos rfl, wrap_ok (by omega) (by omega), if_pos (by omega), if_pos (by omega), if_pos (by rw [List.length_append]; omega), if_pos (by omega), if_pos (by rw [List.length_append, List.length_cons]; omega)]
    have e1 : (bs (a ++ c :: b)).extract 0 ((a.length : Int)).toNat = bs a := by
      rw [bs_extract, Int.toNat_natCast, List.drop_zero, List.take_left]
    have e2 : (bs (a ++ c :: b)).extract (((a.length : Int) + 1)).toNat (a ++ c :: b).length = bs b := by
      rw [bs_extract, List.take_length, show ((a.length : Int) + 1).toNat = a.length + 1 by omega, List.drop_append, List.drop_of_length_le (show a.length ≤ a.length + 1 by omega)]
      simp
    rw [e1, e2]
    exact ref_j1 mt _ a b (by omega) k (by omega)
theorem refMT (l : List UInt8) (hl : l.length ≤ 1000) : remitterref01_Parse.f 5000 (bs l) true = some (readMT l) := by
  rw [remitterref01_Parse.f, if_pos rfl]
  refine (ref_j0 true l hl 44 5000 (by decide)).trans (congrArg some ?_)
  unfold refN readMT
  by_cases h : (cutC 44 l).2.2 = true
  · rw [if_pos h, if_pos h, if_pos rfl, if_neg (show ¬ (((cutC 44 l).1.length : Nat) : Int) < 0 by omega)]
    rfl
  · rw [if_neg h, if_neg h, if_pos rfl, if_pos (show (-1 : Int) < 0 by decide)]
    split
    · rfl
    · split <;> rfl
theorem refXML (l : List UInt8) (hl : l.length ≤ 1000) : remitterref01_Parse.f 5000 (bs l) false = some (readXML l) := by
  rw [remitterref01_Parse.f, if_neg (by decide)]
  refine (ref_j0 false l hl 46 5000 (by decide)).trans (congrArg some ?_)
  unfold refN readXML
  rw [if_neg (show ¬ false = true by decide)]
  by_cases h : (cutC 46 l).2.2 = true
  · rw [if_pos h, if_pos (show (((cutC 46 l).1.length : Nat) : Int) ≥ 0 by omega)]
    by_cases h2 : (cutC 46 l).2.1 = []
    · rw [if_pos h2, if_pos (show (cutC 46 l).2.2 = true ∧ (cutC 46 l).2.1 = [] from ⟨h, h2⟩)]
      split
      · rfl
      · split <;> rfl
    · rw [if_neg h2, if_neg (show ¬ ((cutC 46 l).2.2 = true ∧ (cutC 46 l).2.1 = []) from fun h3 => h2 h3.2)]
      rfl
  · rw [if_neg h, if_neg (show ¬ ((cutC 46 l).2.2 = true ∧ (cutC 46 l).2.1 = []) from fun h3 => h h3.1), if_neg (show ¬ (-1 : Int) ≥ 0 by decide)]
    rfl
theorem ref_least_l0 (n : Bool) : ∀ (s c k : Nat), GoodN n c s → s < k → remitterref01_Least.l0 k n c s = some (n, ((lsN c s).1 : Int), ((lsN c s).2 : Int)) := by
  intro s
  induction s with
  | zero =>
    intro c k h hk
    obtain ⟨k, rfl⟩ : ∃ m, k = m + 1 := ⟨k - 1, by omega⟩
    rw [remitterref01_Least.l0, show remitterref01_Good.f n c (0 : Nat) = some (goodB n c (0 : Nat)) from rfl, goodB_of h, Option.bind_some, if_pos rfl, if_neg (by decide)]
    rfl
  | succ s ih =>
    intro c k h hk
    obtain ⟨k, rfl⟩ : ∃ m, k = m + 1 := ⟨k - 1, by omega⟩
    have hc := h.1
    have hs := h.2.1
    rw [remitterref01_Least.l0, show remitterref01_Good.f n c (s + 1 : Nat) = some (goodB n c (s + 1 : Nat)) from rfl, goodB_of h, Option.bind_some, if_pos rfl, if_pos (by omega), lsN, Int.tmod_eq_emod_of_nonneg (by omega)]
    by_cases h1 : c % 10 = 0
    · rw [if_pos h1, if_pos (by omega), wrap_ok (x := (((s + 1 : Nat) : Int) - 1)) (by omega) (by omega), show (((s + 1 : Nat) : Int) - 1) = (s : Int) by omega, Int.tdiv_eq_ediv_of_nonneg (by omega), wrap_ok (by omega) (by omega), show (c : Int) / 10 = ((c / 10 : Nat) : Int) by omega]
      refine ih _ _ ⟨by omega, by omega, fun hn => ?_⟩ (by omega)
      have := h.2.2 hn
      omega
    · rw [if_neg h1, if_neg (by omega)]
theorem ref_fits (n : Bool) (c s : Int) (ccy : ByteArray) (e : Nat) : remitterref02_Fits.f (81 + e) n c s ccy = some (fitsV n c s (digitsC ccy.data.toList)) := by
  unfold remitterref02_Fits.f fitsV
  rw [show remitterref01_Good.f n c s = some (goodB n c s) from rfl, Option.bind_some, show 81 + e = (80 + e) + 1 by omega]
  have hd := refDigits_f ccy e
  generalize digitsC ccy.data.toList = od at *
  cases g : goodB n c s
  · rw [if_neg (by decide), remitterref02_Fits.j0, if_pos rfl, if_neg (by simp)]
  · rw [if_pos rfl]
    cases n
    · obtain ⟨e1, e2, hg⟩ := goodN_of g
      have hl := ref_least_l0 false s.toNat c.toNat (80 + e) hg (by have := hg.2.1; omega)
      rw [← e1, ← e2] at hl
      rw [if_pos ⟨rfl, rfl⟩, remitterref02_Fits.j0, if_neg (by decide), hd, Option.bind_some]
      cases od with
      | none =>
        dsimp only
        rw [if_neg (by decide)]
      | some d =>
        dsimp only
        rw [if_pos rfl]
        unfold remitterref01_Least.f
        rw [hl, Option.bind_some]
        dsimp only
        split <;> rfl
    · rw [remitterref02_Fits.j0, if_pos rfl, if_neg (by simp)]
theorem ref_amt (r : Bool × Int × Int × Int) (s ccy : ByteArray) (mt : Bool) (h : remitterref01_Parse.f 5000 s mt = some r) : remitterref02_Parse.f 5000 s ccy mt = some (amtV r (digitsC ccy.data.toList)) := by
  unfold remitterref02_Parse.f amtV
  rw [h, Option.bind_some]
  by_cases h0 : r.2.2.2 = 0
  · rw [if_pos h0, if_pos h0, show (5000 : Nat) = 81 + 4919 from rfl, ref_fits, Option.bind_some]
    split <;> rfl
  · rw [if_neg h0, if_neg h0]
theorem CurrencyTells (a0 a1 : ByteArray) (a2_0 : Bool) (a2_1 a2_2 : Int) : ∃ k, remitterlaw02_CurrencyTells.f k a0 a1 a2_0 a2_1 a2_2 = some true := by
  refine ⟨5001, ?_⟩
  obtain ⟨l, rfl⟩ := bs_ex a0
  have hno : remitterlaw02_CurrencyTells.j0 5001 (bs l) a1 true a2_0 a2_1 a2_2 = some true := by
    rw [show (5001 : Nat) = 5000 + 1 from rfl, remitterlaw02_CurrencyTells.j0, if_pos rfl, wakes_ok]
    rfl
  unfold remitterlaw02_CurrencyTells.f
  rw [bs_size]
  by_cases h0 : (l.length : Int) > 60
  · rw [if_pos h0]
    exact hno
  · rw [if_neg h0]
    by_cases h1 : (a1.size : Int) > 60
    · rw [decide_eq_true h1]
      exact hno
    · have hl : l.length ≤ 1000 := by omega
      have hc : a1.size ≤ 9223372036854775807 := by omega
      have hd : remitterref02_Digits.f 5000 a1 = some (match digitsC a1.data.toList with | some n => (n, true) | none => (0, false)) := refDigits_f a1 4920
      have hf : remitterref02_Fits.f 5000 a2_0 a2_1 a2_2 a1 = some (fitsV a2_0 a2_1 a2_2 (digitsC a1.data.toList)) := ref_fits _ _ _ a1 4919
      rw [decide_eq_false h1, show (5001 : Nat) = 5000 + 1 from rfl, remitterlaw02_CurrencyTells.j0, if_neg (by decide), hd, Option.bind_some, ref_amt _ _ a1 true (refMT l hl), Option.bind_some, ref_amt _ _ a1 false (refXML l hl), Option.bind_some,
        hf, Option.bind_some, digits_f a1 hc, Option.bind_some, amtMT_f l hl a1 hc, Option.bind_some, amtXML_f l hl a1 hc, Option.bind_some, fits_f _ _ _ a1 hc 5000 (by decide), Option.bind_some, wakes_ok, Option.bind_some]
      generalize digitsC a1.data.toList = od
      cases od <;> simp
end Go.Proofs.YtggakekljbgeoaaDoor.Pure

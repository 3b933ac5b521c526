/- BicTells: for every text, whether it is a BIC or an address, and what is made of it, is what the reference says. -/
import Derived.Test.YtjemnphmjbodfaaPAllx3
import Derived.Test.YtjemnphmjbodfaaPureBic
namespace Go.Proofs.Ytjemnphmjbodfaa.Pure
open Go.RowKit Go.Proofs.Ytjemnphmjbodfaa.PAll Go.Proofs.YtjemnphmjbodfaaW.PrintWords Go.Proofs.YtjemnphmjbodfaaW.PrintLast GPlain
set_option linter.unusedSimpArgs false

def letterB (c : UInt8) : Bool := decide (65 ≤ c.toNat) && decide (c.toNat ≤ 90)
def bothB (c : UInt8) : Bool := letterB c || (decide (48 ≤ c.toNat) && decide (c.toNat ≤ 57))
theorem letter_f (c : UInt8) : remitterref04_letter.f (c.toNat : Int) = some (letterB c) := by
  unfold remitterref04_letter.f letterB
  by_cases h : 65 ≤ c.toNat
  · rw [if_pos (by omega)]
    simp [h]
    omega
  · rw [if_neg (by omega)]
    simp [h]
theorem both_f (c : UInt8) : remitterref04_both.f (c.toNat : Int) = some (bothB c) := by
  unfold remitterref04_both.f bothB
  rw [letter_f, Option.bind_some]
  cases letterB c
  · by_cases h : 48 ≤ c.toNat
    · simp only [Bool.false_eq_true, if_false, Bool.false_or]
      rw [if_pos (by omega)]
      simp [h]
      omega
    · simp only [Bool.false_eq_true, if_false, Bool.false_or]
      rw [if_neg (by omega)]
      simp [h]
  · simp
def placeR (k : Nat) (c : UInt8) : Bool := bothB c && (!(k == 4 || k == 5) || letterB c)
theorem letters_all : ∀ n, n < 256 → decide (0 ≤ Lib.indexByte letters.data.toList (UInt8.ofNat n)) = letterB (UInt8.ofNat n) := by decide +kernel
theorem digits_all : ∀ n, n < 256 → decide (0 ≤ Lib.indexByte lettersDigits.data.toList (UInt8.ofNat n)) = bothB (UInt8.ofNat n) := by decide +kernel
theorem place_eq (k : Nat) (c : UInt8) : placeR k c = placeB k c := by
  have hc : UInt8.ofNat c.toNat = c := by simp
  have h1 := letters_all c.toNat c.toNat_lt
  have h2 := digits_all c.toNat c.toNat_lt
  rw [hc] at h1 h2
  unfold placeR placeB placeS
  by_cases h : k = 4 ∨ k = 5
  · rw [if_pos h, h1]
    have : (k == 4 || k == 5) = true := by simpa using h
    rw [this]
    unfold bothB
    cases letterB c <;> simp
  · rw [if_neg h, h2]
    have : (k == 4 || k == 5) = false := by simpa using h
    rw [this]
    simp
/-- The loop from place i on. -/
theorem shape_loop (l : List UInt8) (hl : l.length ≤ 60) (d : Nat) : ∀ (k i : Nat), l.length - i = d → i ≤ l.length → d < k →
    remitterref04_shape.l0 k (bs l) (l.length : Int) (i : Int) = some ((List.range' i d).all fun j => placeR j (l.getD j 0)) := by
  induction d with
  | zero =>
    intro k i hd hi hk
    obtain ⟨k, rfl⟩ : ∃ m, k = m + 1 := ⟨k - 1, by omega⟩
    simp only [remitterref04_shape.l0]
    rw [if_neg (by omega)]
    simp
  | succ d ih =>
    intro k i hd hi hk
    obtain ⟨k, rfl⟩ : ∃ m, k = m + 1 := ⟨k - 1, by omega⟩
    have hn := ih k (i + 1) (by omega) (by omega) (by omega)
    simp only [remitterref04_shape.l0]
    rw [if_pos (by omega), if_pos (by omega), if_pos (by rw [bs_size]; omega), bt_nat, both_f, Option.bind_some, letter_f, Option.bind_some, wrap_ok (by omega) (by omega)]
    rw [List.range'_succ, List.all_cons]
    have e : ((i : Int) + 1) = ((i + 1 : Nat) : Int) := by omega
    rw [e, hn]
    generalize hb : (List.range' (i + 1) d).all (fun j => placeR j (l.getD j 0)) = B
    have hp : placeR i (l.getD i 0) = (bothB (l.getD i 0) && (!(i == 4 || i == 5) || letterB (l.getD i 0))) := rfl
    rw [hp]
    cases bothB (l.getD i 0)
    · simp
    · by_cases h4 : i = 4
      · subst h4
        cases letterB (l.getD 4 0) <;> simp
      · by_cases h5 : i = 5
        · subst h5
          cases letterB (l.getD 5 0) <;> simp
        · rw [if_pos rfl, if_neg (by omega), if_neg (by omega)]
          simp [h4, h5]
theorem all_eq {α : Type} (l : List α) (f g : α → Bool) (h : ∀ x, f x = g x) : l.all f = l.all g := by
  rw [show f = g from funext h]
theorem shape_f (l : List UInt8) (hl : l.length ≤ 60) (n : Nat) (k : Nat) (hk : 60 < k) :
    remitterref04_shape.f k (bs l) (n : Int) = some (l.length == n && goodB l) := by
  unfold remitterref04_shape.f
  rw [bs_size]
  by_cases h : l.length = n
  · rw [if_pos (by omega)]
    subst h
    rw [show (0 : Int) = ((0 : Nat) : Int) from rfl, shape_loop l hl l.length k 0 (by omega) (by omega) (by omega)]
    have : (List.range' 0 l.length).all (fun j => placeR j (l.getD j 0)) = goodB l := by
      unfold goodB
      rw [List.range_eq_range']
      exact all_eq _ _ _ (fun j => place_eq j _)
    rw [this]
    simp
  · rw [if_neg (by omega)]
    simp [h]
theorem refCheck_f (l : List UInt8) (hl : l.length ≤ 60) (k : Nat) (hk : 60 < k) : remitterref04_Check.f k (bs l) = some (if chk l then 0 else 14) := by
  unfold remitterref04_Check.f
  have h8 := shape_f l hl 8 k hk
  have h11 := shape_f l hl 11 k hk
  rw [show (8 : Int) = ((8 : Nat) : Int) from rfl, show (11 : Int) = ((11 : Nat) : Int) from rfl, h8, h11]
  simp only [Option.bind_some]
  unfold chk
  cases goodB l
  · simp
  · by_cases a : l.length = 8
    · simp [a]
    · by_cases b : l.length = 11 <;> simp [a, b]
theorem refCheckA_f (l : List UInt8) (hl : l.length ≤ 60) (k : Nat) (hk : 60 < k) : remitterref04_CheckAddress.f k (bs l) = some (if chkA l then 0 else 14) := by
  unfold remitterref04_CheckAddress.f
  have h12 := shape_f l hl 12 k hk
  rw [show (12 : Int) = ((12 : Nat) : Int) from rfl, h12]
  simp only [Option.bind_some]
  unfold chkA
  split <;> rfl
theorem refFull_f (l : List UInt8) (hl : l.length = 8 ∨ l.length = 11) : remitterref04_Full.f (bs l) = some (bs (fullL l)) := by
  unfold remitterref04_Full.f
  rw [bs_size]
  rcases hl with h | h
  · rw [if_pos (by omega), if_pos (by omega), lit_mk, bs_append, fullL_8 h]
  · rw [if_neg (by omega), fullL_11 h]
theorem drop_three {l : List UInt8} (h : l.length = 11) : l.drop 8 = [l.getD 8 0, l.getD 9 0, l.getD 10 0] := by
  match l, h with
  | [a, b, c, d, e, f, g, x, y, z, w], _ => rfl
theorem nat_byte (c : UInt8) (n : Nat) (hn : n < 256) : ((c.toNat : Int) = (n : Int)) ↔ c = UInt8.ofNat n := by
  constructor
  · intro h
    apply UInt8.toNat_inj.1
    rw [UInt8.toNat_ofNat']
    omega
  · intro h
    subst h
    rw [UInt8.toNat_ofNat']
    omega
theorem refShort_f (l : List UInt8) : remitterref04_Short.f (bs l) = some (bs (shortL l)) := by
  unfold remitterref04_Short.f shortL
  rw [bs_size]
  by_cases h : l.length = 11
  · rw [if_pos (by omega), if_pos (by omega)]
    have e := drop_three h
    rw [show (8 : Int) = ((8 : Nat) : Int) from rfl, show (9 : Int) = ((9 : Nat) : Int) from rfl, show (10 : Int) = ((10 : Nat) : Int) from rfl, show (88 : Int) = ((88 : Nat) : Int) from rfl, bt_nat, bt_nat, bt_nat]
    simp only [nat_byte _ 88 (by omega)]
    rw [e]
    simp only [h, true_and]
    by_cases a : l.getD 8 0 = UInt8.ofNat 88
    · rw [if_pos a, if_pos (by decide)]
      by_cases b : l.getD 9 0 = UInt8.ofNat 88
      · rw [if_pos b, if_pos (by decide)]
        by_cases c : l.getD 10 0 = UInt8.ofNat 88
        · rw [if_pos c, if_pos (by decide), if_pos (by decide), if_pos (by rw [a, b, c]; rfl), bs_extract]
          simp
        · rw [if_neg c, if_neg (fun x => c (by injection x with _ x; injection x with _ x; injection x with x _))]
      · rw [if_neg b, if_neg (fun x => b (by injection x with _ x; injection x with x _))]
    · rw [if_neg a, if_neg (fun x => a (by injection x with x _))]
  · rw [if_neg (by omega), if_neg (fun x => h x.1)]


theorem bt_j2 (l : List UInt8) (k : Nat) (x9 : ByteArray) (hx : chkA l = true → chk (ofL l) = true ∧ x9 = bs (shortL (ofL l))) :
    remitterlaw04_BicTells.j2 (k + 1) (bs l) x9 (if chkA l then 0 else 14) false = some true := by
  simp only [remitterlaw04_BicTells.j2, wakes_ok, Option.bind_some]
  rw [if_neg (by decide)]
  cases h : chkA l
  · simp
  · obtain ⟨_, rfl⟩ := hx h
    have hl : l.length = 12 := by
      unfold chkA at h
      simp at h
      exact h.1
    simp only [bs_size, bs_extract, bs_append, refShort_f, Option.bind_some, List.drop_zero, if_true]
    rw [if_pos (by omega), if_pos (by omega), if_pos (by omega), if_pos (by simp; omega)]
    rw [show ((l.take 8) ++ List.drop 9 (List.take l.length l)) = ofL l by rw [List.take_length]; rfl]
    rw [if_pos rfl]
theorem good_of (l : List UInt8) (h : chkA l = true) : chk (ofL l) = true := by
  unfold chkA at h
  simp only [Bool.and_eq_true, beq_iff_eq] at h
  obtain ⟨hl, hg⟩ := h
  match l, hl with
  | [a, b, c, d, e, f, g, x, y, z, w, v], _ =>
    unfold goodB at hg
    have H : ∀ j, j < 12 → placeB j (([a, b, c, d, e, f, g, x, y, z, w, v] : List UInt8).getD j 0) = true := by
      rw [List.all_eq_true] at hg
      exact fun j hj => hg j (List.mem_range.2 hj)
    unfold chk
    rw [show ofL [a, b, c, d, e, f, g, x, y, z, w, v] = [a, b, c, d, e, f, g, x, z, w, v] from rfl]
    simp only [List.length_cons, List.length_nil]
    rw [goodB_of _ ?_]
    · rfl
    · intro j hj
      simp only [List.length_cons, List.length_nil] at hj
      have back : ∀ i, 8 ≤ i → ∀ i', 8 ≤ i' → ∀ q, placeB i q = placeB i' q := by
        intro i hi i' hi' q
        unfold placeB placeS
        rw [if_neg (by omega), if_neg (by omega)]
      rcases (show j = 0 ∨ j = 1 ∨ j = 2 ∨ j = 3 ∨ j = 4 ∨ j = 5 ∨ j = 6 ∨ j = 7 ∨ j = 8 ∨ j = 9 ∨ j = 10 by omega) with r | r | r | r | r | r | r | r | r | r | r <;> subst r
      · exact H 0 (by omega)
      · exact H 1 (by omega)
      · exact H 2 (by omega)
      · exact H 3 (by omega)
      · exact H 4 (by omega)
      · exact H 5 (by omega)
      · exact H 6 (by omega)
      · exact H 7 (by omega)
      · rw [back 8 (by omega) 9 (by omega)]; exact H 9 (by omega)
      · rw [back 9 (by omega) 10 (by omega)]; exact H 10 (by omega)
      · rw [back 10 (by omega) 11 (by omega)]; exact H 11 (by omega)
theorem bt_j1 (l : List UInt8) (k : Nat) (x3 x5 x7 x9 : ByteArray) (hs : chk l = true → x3 = bs (fullL l) ∧ x5 = bs (shortL l) ∧ x7 = bs (addrL l)) (hx : chkA l = true → chk (ofL l) = true ∧ x9 = bs (shortL (ofL l))) :
    remitterlaw04_BicTells.j1 (k + 1 + 1) (bs l) x3 x5 x7 x9 (if chk l then 0 else 14) (if chkA l then 0 else 14) false = some true := by
  simp only [remitterlaw04_BicTells.j1]
  rw [if_neg (by decide)]
  cases h : chk l
  · simp only [Bool.false_eq_true, if_false]
    rw [if_neg (by decide)]
    exact bt_j2 l k x9 hx
  · obtain ⟨rfl, rfl, rfl⟩ := hs h
    have e := chk_len h
    have hl := fullL_len e
    simp only [refFull_f l e, refShort_f, Option.bind_some, if_true, lit_mk, bs_size, bs_extract, bs_append, bs_toList, List.drop_zero, List.length_append, List.length_take, List.length_drop, List.length_cons, List.length_nil, List.take_length]
    rw [if_pos (by omega), if_pos (by omega), if_pos (by omega), if_pos (by omega), if_pos (by omega)]
    have : (addrL l != List.take 8 (fullL l) ++ [88] ++ List.drop 8 (fullL l)) = false := by
      unfold addrL
      simp
    rw [this]
    exact bt_j2 l k x9 hx
theorem bt_j0 (l : List UInt8) (k : Nat) :
    remitterlaw04_BicTells.j0 (k + 1 + 1 + 1) (bs l) (if chk l then bs (fullL l) else bs []) (if chk l then bs (shortL l) else bs []) (if chk l then bs (addrL l) else bs []) (if chkA l then bs (shortL (ofL l)) else bs []) (if chk l then 0 else 14) (if chkA l then 0 else 14) false = some true := by
  have hj := bt_j1 l k (if chk l then bs (fullL l) else bs []) (if chk l then bs (shortL l) else bs []) (if chk l then bs (addrL l) else bs []) (if chkA l then bs (shortL (ofL l)) else bs [])
    (fun h => by simp [h]) (fun h => ⟨good_of l h, by simp [h]⟩)
  simp only [remitterlaw04_BicTells.j0]
  rw [if_neg (by decide)]
  cases h : chk l
  · rw [h] at hj
    simp only [Bool.false_eq_true, if_false] at hj ⊢
    rw [if_neg (by decide)]
    simp only [bs_append, bs_size, bs_toList, List.append_nil, List.length_nil, if_true]
    rw [if_pos (by omega), if_pos (by omega)]
    cases ha : chkA l
    · rw [ha] at hj
      simp only [Bool.false_eq_true, if_false] at hj ⊢
      rw [if_neg (by decide)]
      simpa [bs_toList] using hj
    · rw [ha] at hj
      simp only [if_true] at hj ⊢
      exact hj
  · rw [h] at hj
    simp only [if_true] at hj ⊢
    cases ha : chkA l
    · rw [ha] at hj
      simp only [Bool.false_eq_true, if_false] at hj ⊢
      rw [if_neg (by decide)]
      simpa [bs_toList] using hj
    · rw [ha] at hj
      simp only [if_true] at hj ⊢
      exact hj
theorem pair_if {α : Type} (b : Bool) (x y : α) (m n : Int) : (if b then (x, m) else (y, n)) = ((if b then x else y), (if b then m else n)) := by cases b <;> rfl

theorem BicTells : remitterlaw04_BicTells.Pure := by
  intro s _
  obtain ⟨l, rfl⟩ := bs_ex s
  refine ⟨61 + 1 + 1 + 1, ?_⟩
  unfold remitterlaw04_BicTells.f
  by_cases hl : l.length ≤ 60
  · rw [if_neg (by rw [bs_size]; omega)]
    rw [full_f, short_f, address_f, of_f, refCheck_f l hl _ (by omega), refCheckA_f l hl _ (by omega), check_f, checkA_f]
    have ho : (if chkA l then (if chk (ofL l) then (bs (shortL (ofL l)), (0 : Int)) else (bs [], 14)) else (bs [], 14)) = ((if chkA l then bs (shortL (ofL l)) else bs []), (if chkA l then 0 else 14)) := by
      cases ha : chkA l
      · rfl
      · simp [good_of l ha]
    rw [ho, pair_if, pair_if, pair_if]
    simp only [Option.bind_some, if_true, bne_self_eq_false]
    exact bt_j0 l 61
  · rw [if_pos (by rw [bs_size]; omega), wakes_ok]
    rfl

end Go.Proofs.Ytjemnphmjbodfaa.Pure

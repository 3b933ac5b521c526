/- RefTells, in plain Lean. -/
import Derived.Test.YtiadcjdpeegbbaaDoorPAllx3
import Derived.Test.YtiadcjdpeegbbaaDoorGPlain
import Derived.Lib.SplitLaws
import Derived.Lib.IndexBytes
namespace Go.Proofs.YtiadcjdpeegbbaaDoor.PAll
open Go.RowKit Go.Proofs.YtiadcjdpeegbbaaDoorW.PrintWords GPlain GHex
set_option linter.unusedSimpArgs false

set_option maxRecDepth 100000 in
theorem wakes7_ok : remitterlaw07_wakes.f = some true := by decide +kernel
theorem say7_f (b : Bool) : remitterlaw07_say.f b = some (if b = true then 0 else 17) := by
  unfold remitterlaw07_say.f
  cases b <;> rfl
theorem lift_mono {α : Type} {f : Nat → Option α} (h : ∀ k, LeO (f k) (f (k + 1))) {k : Nat} {r : α} (hf : f k = some r) : ∀ n, f (k + n) = some r
  | 0 => hf
  | n + 1 => h _ _ (lift_mono h hf n)
set_option maxRecDepth 100000 in
theorem inX60 : ∀ n : Nat, n < 256 → remitterref05_In.f 60 88 (n : Int) = some (decide (0 ≤ Lib.indexByte setX (UInt8.ofNat n))) := by decide +kernel
theorem inX_ok (c : UInt8) (k : Nat) : remitterref05_In.f (k + 60) 88 (c.toNat : Int) = some (decide (0 ≤ Lib.indexByte setX c)) := by
  have h := inX60 c.toNat c.toNat_lt
  rw [show UInt8.ofNat c.toNat = c by simp] at h
  rw [Nat.add_comm k 60]
  exact lift_mono (fun k => remitterref05_In.mono 88 (c.toNat : Int) k) h k

/-- A text's bytes that may not stand so: another byte, or a slash at an end or behind a slash. -/
def badAt (l : List UInt8) (i : Nat) : Bool := !(decide (0 ≤ Lib.indexByte setX (l.getD i 0))) || (l.getD i 0 == 47 && (i == 0 || i == l.length - 1 || l.getD (i - 1) 0 == 47))
def goodL (l : List UInt8) : Bool := (List.range l.length).all fun i => !badAt l i
theorem good_l0 (l : List UInt8) (hl : l.length ≤ 1000) (d : Nat) : ∀ (k i : Nat) (ok : Bool), l.length - i = d → i ≤ l.length → d + 70 < k →
    remitterlaw07_good.l0 k (bs l) ok i = some (ok && (List.range d).all fun j => !badAt l (i + j)) := by
  induction d with
  | zero =>
    intro k i ok hd hi hk
    obtain ⟨k, rfl⟩ : ∃ m, k = m + 1 := ⟨k - 1, by omega⟩
    rw [remitterlaw07_good.l0, bs_size, if_neg (by omega)]
    simp
  | succ d ih =>
    intro k i ok hd hi hk
    obtain ⟨k, rfl⟩ : ∃ m, k = m + 60 + 1 := ⟨k - 61, by omega⟩
    have hih := fun b => ih (k + 60) (i + 1) b (by omega) (by omega) (by omega)
    rw [Int.natCast_add, show ((1 : Nat) : Int) = 1 from rfl] at hih
    have hr : ((List.range (d + 1)).all fun j => !badAt l (i + j)) = ((!badAt l i) && (List.range d).all fun j => !badAt l (i + 1 + j)) := by
      rw [List.range_succ_eq_map, List.all_cons, List.all_map]
      congr 2
      funext j
      simp [Nat.add_comm, Nat.add_left_comm]
    rw [hr, remitterlaw07_good.l0, bs_size, if_pos (by omega), if_pos (by omega), bt_nat, inX_ok]
    rw [wrap_ok (x := (i : Int) + 1) (by omega) (by omega), wrap_ok (x := (l.length : Int) - 1) (by omega) (by omega)]
    have c47 : (((l.getD i 0).toNat : Int) = 47) = (l.getD i 0 = 47) := propext ⟨fun h => UInt8.toNat_inj.1 (by have : (47 : UInt8).toNat = 47 := rfl; omega), fun h => by rw [h]; rfl⟩
    cases ok
    · rw [if_neg (by decide), hih]
      simp
    · rw [if_pos rfl, Option.bind_some]
      by_cases hx : 0 ≤ Lib.indexByte setX (l.getD i 0)
      · rw [if_pos (by simpa using hx)]
        simp only [c47]
        by_cases h7 : l.getD i 0 = 47
        · rw [if_pos h7]
          by_cases h0 : i = 0
          · rw [if_pos (by omega), Bool.not_true, hih]
            have hz : badAt l i = true := by unfold badAt; rw [show (l.getD i 0 == 47) = true from beq_iff_eq.2 h7, show (i == 0) = true from beq_iff_eq.2 h0]; simp
            rw [hz]
            rfl
          · rw [if_neg (by omega)]
            by_cases he : i = l.length - 1
            · rw [if_pos (by omega), Bool.not_true, hih]
              have hz : badAt l i = true := by unfold badAt; rw [show (l.getD i 0 == 47) = true from beq_iff_eq.2 h7, show (i == l.length - 1) = true from beq_iff_eq.2 he]; simp
              rw [hz]
              rfl
            · rw [if_neg (by omega), wrap_ok (x := (i : Int) - 1) (by omega) (by omega), if_pos (by omega), if_pos (by omega), show ((i : Int) - 1) = ((i - 1 : Nat) : Int) by omega, bt_nat, hih]
              have hb : (((l.getD (i - 1) 0).toNat : Int) == 47) = (l.getD (i - 1) 0 == 47) := by
                by_cases e : l.getD (i - 1) 0 = 47
                · rw [e]; rfl
                · rw [beq_eq_false_iff_ne.2 e]
                  exact beq_eq_false_iff_ne.2 (fun x => e (UInt8.toNat_inj.1 (by have : (47 : UInt8).toNat = 47 := rfl; omega)))
              rw [hb]
              have hz : badAt l i = (l.getD (i - 1) 0 == 47) := by
                unfold badAt
                rw [h7] at hx
                rw [decide_eq_true (by rw [h7]; exact hx), h7]
                simp [h0, he]
              rw [hz]
              simp
        · rw [if_neg h7, Bool.not_false, hih]
          have hz : badAt l i = false := by
            unfold badAt
            rw [decide_eq_true hx, beq_eq_false_iff_ne.2 h7]
            rfl
          rw [hz]
          simp
      · rw [if_neg (by simpa using hx), hih]
        have hz : badAt l i = true := by
          unfold badAt
          rw [decide_eq_false hx]
          rfl
        rw [hz]
        simp
theorem good_f (l : List UInt8) (hl : l.length ≤ 1000) (most : Nat) (k : Nat) (hk : 2000 ≤ k) :
    remitterlaw07_good.f k (bs l) most = some (decide (1 ≤ l.length ∧ l.length ≤ most) && goodL l) := by
  obtain ⟨k, rfl⟩ : ∃ m, k = m + 1 := ⟨k - 1, by omega⟩
  unfold remitterlaw07_good.f
  have h0 := fun b => good_l0 l hl l.length k 0 b (by omega) (by omega) (by omega)
  rw [show ((0 : Nat) : Int) = 0 from rfl] at h0
  rw [bs_size]
  have e : ((List.range l.length).all fun j => !badAt l (0 + j)) = goodL l := by
    unfold goodL
    congr 1
    funext j
    rw [Nat.zero_add]
  by_cases h1 : (l.length : Int) ≥ 1
  · rw [if_pos h1, remitterlaw07_good.j0, h0, e]
    congr 2
    exact decide_eq_decide.2 (by omega)
  · rw [if_neg h1, remitterlaw07_good.j0, h0]
    rw [decide_eq_false (show ¬ (1 ≤ l.length ∧ l.length ≤ most) by omega)]
    rfl
/-! ### the program's check -/
theorem slash2 (l : List UInt8) : Lib.contains l [47, 47] = true ↔ ∃ i : Nat, l[i]? = some 47 ∧ l[i + 1]? = some 47 := by
  unfold Lib.contains
  rw [decide_eq_true_iff]
  rcases Lib.index_spec l [47, 47] with ⟨h1, h2⟩ | ⟨i, h1, _, h3, _⟩
  · constructor
    · intro h; omega
    · rintro ⟨i, a, b⟩
      have hi : i + 1 < l.length := (List.getElem?_eq_some_iff.1 b).1
      have := h2 i (by omega)
      have ea : l[i] = 47 := by have := List.getElem?_eq_getElem (l := l) (i := i) (by omega); rw [this] at a; exact Option.some.inj a
      have eb : l[i + 1] = 47 := by have := List.getElem?_eq_getElem (l := l) (i := i + 1) hi; rw [this] at b; exact Option.some.inj b
      unfold Lib.occAt at this
      rw [List.drop_eq_getElem_cons (show i < l.length by omega), List.drop_eq_getElem_cons hi, ea, eb] at this
      simp at this
  · constructor
    · intro _
      exact ⟨i, Lib.occAt_head rfl h3, Lib.occAt_second rfl h3⟩
    · intro _; omega
theorem getD_some {l : List UInt8} {i : Nat} (h : i < l.length) : l[i]? = some (l.getD i 0) := by
  rw [List.getD_eq_getElem?_getD, List.getElem?_eq_getElem h]
  rfl
theorem c47 (c : UInt8) : ((c.toNat : Int) = 47) = (c = 47) := propext ⟨fun h => UInt8.toNat_inj.1 (by have : (47 : UInt8).toNat = 47 := rfl; omega), fun h => by rw [h]; rfl⟩
theorem goodL_bad {l : List UInt8} (i : Nat) (hi : i < l.length) (h : badAt l i = true) : goodL l = false := by
  cases hg : goodL l
  · rfl
  · have := List.all_eq_true.1 hg i (List.mem_range.2 hi)
    rw [h] at this
    cases this
theorem check_f (l : List UInt8) (hl : l.length ≤ 1000) (most : Nat) :
    ref_check.f (bs l) most = some (if (decide (1 ≤ l.length ∧ l.length ≤ most) && goodL l) = true then 0 else 17) := by
  have hck : charset_Check.f 88 (bs l) = some (((firstBad setX l : Nat) : Int), badE setX l) := by
    unfold charset_Check.f
    rw [if_pos (by omega), bs_size, if_pos (by omega), bs_data]
    rfl
  unfold ref_check.f
  rw [hck, Option.bind_some]
  by_cases hb : firstBad setX l < l.length
  · have e15 : badE setX l = 15 := by unfold badE; rw [if_pos hb]
    have hg : goodL l = false := by
      refine goodL_bad (firstBad setX l) hb ?_
      have := List.findIdx_getElem (p := fun c => decide (Lib.indexByte setX c < 0)) (xs := l) (w := hb)
      unfold badAt
      have e : l.getD (firstBad setX l) 0 = l[List.findIdx (fun c => decide (Lib.indexByte setX c < 0)) l] := by
        rw [List.getD_eq_getElem?_getD, List.getElem?_eq_getElem hb]
        rfl
      rw [e]
      have h0 := of_decide_eq_true this
      rw [decide_eq_false (by omega)]
      rfl
    rw [e15, hg, Bool.and_false]
    rfl
  · have e0 : badE setX l = 0 := by unfold badE; rw [if_neg hb]
    have hall : ∀ i, i < l.length → 0 ≤ Lib.indexByte setX (l.getD i 0) := by
      intro i hi
      have := List.not_of_lt_findIdx (p := fun c => decide (Lib.indexByte setX c < 0)) (xs := l) (i := i) (by unfold firstBad at hb; omega)
      have e : l.getD i 0 = l[i] := by
        rw [List.getD_eq_getElem?_getD, List.getElem?_eq_getElem hi]
        rfl
      rw [e]
      simp at this
      omega
    rw [e0, if_pos rfl, bs_toList, bs_size]
    by_cases hn : l = []
    · subst hn
      rw [if_pos rfl]
      rfl
    · have hpos : 0 < l.length := List.length_pos_iff.2 hn
      rw [if_neg hn]
      by_cases hmo : (l.length : Int) > most
      · rw [if_pos hmo, decide_eq_false (show ¬ (1 ≤ l.length ∧ l.length ≤ most) by omega)]
        rfl
      · rw [if_neg hmo, if_pos (by omega), decide_eq_true (show 1 ≤ l.length ∧ l.length ≤ most by omega), Bool.true_and, wrap_ok (x := (l.length : Int) - 1) (by omega) (by omega)]
        have b0 : bt (bs l) 0 = ((l.getD 0 0).toNat : Int) := bt_nat l 0
        rw [b0, show ((l.length : Int) - 1) = ((l.length - 1 : Nat) : Int) by omega, bt_nat]
        simp only [c47]
        by_cases h0 : l.getD 0 0 = 47
        · rw [if_pos h0, goodL_bad 0 hpos (by unfold badAt; rw [h0]; simp)]
          rfl
        · rw [if_neg h0, if_pos (by omega), if_pos (by omega)]
          by_cases h1 : l.getD (l.length - 1) 0 = 47
          · rw [if_pos h1, goodL_bad (l.length - 1) (by omega) (by unfold badAt; rw [h1]; simp)]
            rfl
          · rw [if_neg h1]
            have hcn : strings_Contains.f (bs l) (⟨#[47, 47]⟩ : ByteArray) = some (Lib.contains l [47, 47]) := by
              unfold strings_Contains.f
              rw [bs_size, if_pos (by omega), bs_data]
            rw [hcn, Option.bind_some]
            by_cases hc : Lib.contains l [47, 47] = true
            · rw [if_pos hc]
              obtain ⟨i, a, b⟩ := (slash2 l).1 hc
              have hi : i + 1 < l.length := (List.getElem?_eq_some_iff.1 b).1
              rw [getD_some (by omega)] at a
              rw [getD_some hi] at b
              rw [goodL_bad (i + 1) hi (by unfold badAt; rw [Option.some.inj b, show i + 1 - 1 = i by omega, Option.some.inj a]; simp)]
              rfl
            · rw [if_neg hc]
              have hg : goodL l = true := by
                refine List.all_eq_true.2 fun i hi => ?_
                have hi := List.mem_range.1 hi
                unfold badAt
                rw [decide_eq_true (hall i hi)]
                by_cases h7 : l.getD i 0 = 47
                · have n0 : i ≠ 0 := fun e => h0 (e ▸ h7)
                  have n1 : i ≠ l.length - 1 := fun e => h1 (e ▸ h7)
                  have n2 : l.getD (i - 1) 0 ≠ 47 := fun e => hc ((slash2 l).2 ⟨i - 1, by rw [getD_some (by omega), e], by rw [show i - 1 + 1 = i by omega, getD_some hi, h7]⟩)
                  rw [h7, show (i == 0) = false from beq_eq_false_iff_ne.2 n0, show (i == l.length - 1) = false from beq_eq_false_iff_ne.2 n1, show (l.getD (i - 1) 0 == 47) = false from beq_eq_false_iff_ne.2 n2]
                  rfl
                · rw [beq_eq_false_iff_ne.2 h7]
                  rfl
              rw [hg, if_pos rfl]
/-! ### UETRs -/
/-- The document's test of a byte at a place. -/
theorem okU_eq : ∀ i : Nat, i < 36 → ∀ n : Nat, n < 256 → okU i (UInt8.ofNat n) = (if i = 8 ∨ i = 13 ∨ i = 18 ∨ i = 23 then n == 45 else if i = 14 then n == 52 else if i = 19 then (n == 56 || n == 57 || n == 97 || n == 98) else (decide (48 ≤ n) && decide (n ≤ 57)) || (decide (97 ≤ n) && decide (n ≤ 102))) := by decide +kernel
theorem okU_nat (i : Nat) (hi : i < 36) (c : UInt8) : okU i c = (if i = 8 ∨ i = 13 ∨ i = 18 ∨ i = 23 then ((c.toNat : Int) == 45) else if i = 14 then ((c.toNat : Int) == 52) else if i = 19 then (((c.toNat : Int) == 56) || ((c.toNat : Int) == 57) || ((c.toNat : Int) == 97) || ((c.toNat : Int) == 98)) else (decide (48 ≤ (c.toNat : Int)) && decide ((c.toNat : Int) ≤ 57)) || (decide (97 ≤ (c.toNat : Int)) && decide ((c.toNat : Int) ≤ 102))) := by
  have h := okU_eq i hi c.toNat c.toNat_lt
  rw [show UInt8.ofNat c.toNat = c by simp] at h
  rw [h]
  have q : ∀ m : Nat, ((c.toNat : Int) == (m : Int)) = (c.toNat == m) := fun m => by
    by_cases e : c.toNat = m
    · rw [e]; simp
    · rw [beq_eq_false_iff_ne.2 e]; exact beq_eq_false_iff_ne.2 (by omega)
  have q45 : ((c.toNat : Int) == 45) = (c.toNat == 45) := q 45
  have q52 : ((c.toNat : Int) == 52) = (c.toNat == 52) := q 52
  have q56 : ((c.toNat : Int) == 56) = (c.toNat == 56) := q 56
  have q57 : ((c.toNat : Int) == 57) = (c.toNat == 57) := q 57
  have q97 : ((c.toNat : Int) == 97) = (c.toNat == 97) := q 97
  have q98 : ((c.toNat : Int) == 98) = (c.toNat == 98) := q 98
  rw [q45, q52, q56, q57, q97, q98]
  have r1 : decide (48 ≤ (c.toNat : Int)) = decide (48 ≤ c.toNat) := decide_eq_decide.2 (by omega)
  have r2 : decide ((c.toNat : Int) ≤ 57) = decide (c.toNat ≤ 57) := decide_eq_decide.2 (by omega)
  have r3 : decide (97 ≤ (c.toNat : Int)) = decide (97 ≤ c.toNat) := decide_eq_decide.2 (by omega)
  have r4 : decide ((c.toNat : Int) ≤ 102) = decide (c.toNat ≤ 102) := decide_eq_decide.2 (by omega)
  rw [r1, r2, r3, r4]
theorem uetr_round (l : List UInt8) (hl : l.length = 36) (k i : Nat) (hi : i < 36) : remitterlaw07_uetr.l0 (k + 3) (bs l) true i = remitterlaw07_uetr.l0 k (bs l) (okU i (l.getD i 0)) ((i + 1 : Nat) : Int) := by
  rw [okU_nat i hi, remitterlaw07_uetr.l0, bs_size, if_pos (by omega), remitterlaw07_uetr.j1, if_pos rfl, if_pos (by omega), bs_size, if_pos (by omega), bt_nat]
  generalize ((l.getD i 0).toNat : Int) = c
  have e : wrap64 ((i : Int) + 1) = ((i + 1 : Nat) : Int) := by rw [wrap_ok (by omega) (by omega)]; rfl
  by_cases h8 : i = 8
  · rw [if_pos (by omega), if_pos (.inl h8), remitterlaw07_uetr.j2, if_pos rfl, e]
  rw [if_neg (by omega)]
  by_cases h13 : i = 13
  · rw [if_pos (by omega), if_pos (.inr (.inl h13)), remitterlaw07_uetr.j2, if_pos rfl, e]
  rw [if_neg (by omega)]
  by_cases h18 : i = 18
  · rw [if_pos (by omega), if_pos (.inr (.inr (.inl h18))), remitterlaw07_uetr.j2, if_pos rfl, e]
  rw [if_neg (by omega)]
  by_cases h23 : i = 23
  · have e23 : ((i : Int) == 23) = true := beq_iff_eq.2 (by omega)
    rw [e23, if_pos (.inr (.inr (.inr h23))), remitterlaw07_uetr.j2, if_pos rfl, e]
  have e23 : ((i : Int) == 23) = false := beq_eq_false_iff_ne.2 (by omega)
  rw [e23, if_neg (show ¬ (i = 8 ∨ i = 13 ∨ i = 18 ∨ i = 23) by omega), remitterlaw07_uetr.j2, if_neg (by decide), e]
  by_cases h14 : i = 14
  · rw [if_pos (by omega), if_pos h14]
  rw [if_neg (by omega), if_neg h14]
  by_cases h19 : i = 19
  · rw [if_pos (by omega), if_pos h19]
    by_cases a1 : c = 56
    · rw [if_pos a1, a1]; rfl
    rw [if_neg a1]
    by_cases a2 : c = 57
    · rw [if_pos a2, a2]; rfl
    rw [if_neg a2]
    by_cases a3 : c = 97
    · rw [if_pos a3, a3]; rfl
    rw [if_neg a3, beq_eq_false_iff_ne.2 a1, beq_eq_false_iff_ne.2 a2, beq_eq_false_iff_ne.2 a3]
    rfl
  rw [if_neg (by omega), if_neg h19]
  by_cases a1 : c ≥ 48
  · rw [if_pos a1, decide_eq_true a1]
    by_cases a2 : c ≤ 57
    · rw [if_pos a2, decide_eq_true a2]; rfl
    rw [if_neg a2, decide_eq_false a2]
    by_cases a3 : c ≥ 97
    · rw [if_pos a3, decide_eq_true a3]; rfl
    rw [if_neg a3, decide_eq_false a3]
    rfl
  rw [if_neg a1, decide_eq_false a1, if_neg (show ¬ c ≥ 97 by omega), decide_eq_false (show ¬ 97 ≤ c by omega)]
  rfl
theorem uetr_false (l : List UInt8) (k i : Nat) : remitterlaw07_uetr.l0 (k + 2) (bs l) false i = some false := by
  rw [remitterlaw07_uetr.l0]
  by_cases h : (i : Int) < ((bs l).size : Int)
  · rw [if_pos h, remitterlaw07_uetr.j1, if_neg (by decide)]
  · rw [if_neg h, remitterlaw07_uetr.j1, if_neg (by decide)]
theorem uetr_l0 (l : List UInt8) (hl : l.length = 36) (d : Nat) : ∀ (k i : Nat) (ok : Bool), 36 - i = d → i ≤ 36 → 3 * d + 5 < k →
    remitterlaw07_uetr.l0 k (bs l) ok i = some (ok && (List.range d).all fun j => okU (i + j) (l.getD (i + j) 0)) := by
  induction d with
  | zero =>
    intro k i ok hd hi hk
    obtain ⟨k, rfl⟩ : ∃ m, k = m + 2 := ⟨k - 2, by omega⟩
    rw [remitterlaw07_uetr.l0, bs_size, if_neg (by omega), remitterlaw07_uetr.j1, if_neg (by decide)]
    simp
  | succ d ih =>
    intro k i ok hd hi hk
    cases ok
    · obtain ⟨k, rfl⟩ : ∃ m, k = m + 2 := ⟨k - 2, by omega⟩
      rw [uetr_false]
      rfl
    · obtain ⟨k, rfl⟩ : ∃ m, k = m + 3 := ⟨k - 3, by omega⟩
      have hr : ((List.range (d + 1)).all fun j => okU (i + j) (l.getD (i + j) 0)) = (okU i (l.getD i 0) && (List.range d).all fun j => okU (i + 1 + j) (l.getD (i + 1 + j) 0)) := by
        rw [List.range_succ_eq_map, List.all_cons, List.all_map]
        congr 2
        funext j
        simp [Nat.add_comm, Nat.add_left_comm]
      rw [uetr_round l hl k i (by omega), ih k (i + 1) _ (by omega) (by omega) (by omega), hr]
      rfl
theorem uetr_f (l : List UInt8) (k : Nat) (hk : 200 ≤ k) : remitterlaw07_uetr.f k (bs l) = some (decide (l.length = 36 ∧ allU l = true)) := by
  unfold remitterlaw07_uetr.f
  rw [bs_size]
  by_cases h : l.length = 36
  · have e : ((l.length : Int) == 36) = true := beq_iff_eq.2 (by omega)
    have := uetr_l0 l h 36 k 0 true rfl (by omega) (by omega)
    rw [e, show (0 : Int) = ((0 : Nat) : Int) from rfl, this]
    have ea : ((List.range 36).all fun j => okU (0 + j) (l.getD (0 + j) 0)) = allU l := by
      unfold allU
      congr 1
      funext j
      rw [Nat.zero_add]
    rw [ea, Bool.true_and]
    congr 1
    cases allU l <;> simp [h]
  · have e : ((l.length : Int) == 36) = false := beq_eq_false_iff_ne.2 (by omega)
    obtain ⟨k, rfl⟩ : ∃ m, k = m + 2 := ⟨k - 2, by omega⟩
    rw [e, show (0 : Int) = ((0 : Nat) : Int) from rfl, uetr_false, decide_eq_false (fun x => h x.1)]
theorem RefTells' : remitterlaw07_RefTells.Pure := by
  intro a0 _
  refine ⟨3000, ?_⟩
  obtain ⟨l, rfl⟩ := bs_ex a0
  unfold remitterlaw07_RefTells.f
  by_cases hl : ((bs l).size : Int) > 100
  · rw [if_pos hl, wakes7_ok]
    rfl
  · rw [if_neg hl]
    rw [bs_size] at hl
    have c16 := check_f l (by omega) 16
    have c35 := check_f l (by omega) 35
    have g16 := good_f l (by omega) 16 3000 (by omega)
    have g35 := good_f l (by omega) 35 3000 (by omega)
    have u := uetr_f l 3000 (by omega)
    rw [show ((16 : Nat) : Int) = 16 from rfl] at c16 g16
    rw [show ((35 : Nat) : Int) = 35 from rfl] at c35 g35
    have cu : ref_CheckUETR.f (bs l) = some (if (decide (l.length = 36 ∧ allU l = true)) = true then 0 else 17) := by
      unfold ref_CheckUETR.f
      rw [bs_size, bs_data]
      simp only [decide_eq_true_eq]
    rw [ref_Check.f, ref_CheckId.f, c16, c35, g16, g35, u, cu]
    simp only [Option.bind_some, say7_f, if_true, wakes7_ok]
end Go.Proofs.YtiadcjdpeegbbaaDoor.PAll

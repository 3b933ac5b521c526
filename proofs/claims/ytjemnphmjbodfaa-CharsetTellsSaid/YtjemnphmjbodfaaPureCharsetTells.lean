import Derived.Test.YtjemnphmjbodfaaPAllx6
import Derived.Test.YtjemnphmjbodfaaPureCs2
namespace Go.Proofs.Ytjemnphmjbodfaa.Pure
open Go.RowKit Go.Proofs.Ytjemnphmjbodfaa.PAll Go.Proofs.YtjemnphmjbodfaaW.PrintWords Go.Proofs.YtjemnphmjbodfaaW.PrintLast
open Go.Proofs.Ytjemnphmjbodfaa.GPlain
set_option linter.unusedSimpArgs false

theorem u8r {x : Int} (h : (Lit.int .u8 x).wf = true) : 0 ≤ x ∧ x ≤ 255 := by
  have hmin : IntKind.u8.min = 0 := rfl
  have hmax : IntKind.u8.max = 255 := rfl
  simp only [Lit.wf, Bool.and_eq_true, decide_eq_true_eq] at h
  omega
theorem tells_l0 (a0 : Int) (X l : List UInt8) (hl : l.length ≤ 2000) (hIn : ∀ c : UInt8, ∀ k, remitterref05_In.f (k + 60) a0 (c.toNat : Int) = some (decide (0 ≤ Lib.indexByte X c))) :
    ∀ (f i k : Nat), l.length ≤ i + f → i ≤ firstBad X l → i ≤ l.length → remitterlaw05_CharsetTells.l0 (k + f + 61) a0 (bs l) (firstBad X l : Nat) (badE X l) (i : Int) = some true := by
  have hw : remitterlaw05_wakes.f = some true := wakes5_ok
  have hend : ∀ (k i : Nat), l.length ≤ i → i ≤ firstBad X l → i ≤ l.length → remitterlaw05_CharsetTells.l0 (k + 1) a0 (bs l) (firstBad X l : Nat) (badE X l) (i : Int) = some true := fun k i h1 h2 h3 => by
    have hn : firstBad X l = i := by
      have := List.findIdx_le_length (xs := l) (p := fun c => decide (Lib.indexByte X c < 0))
      unfold firstBad at h2 ⊢
      omega
    have he : badE X l = 0 := by unfold badE; rw [if_neg (by omega)]
    rw [remitterlaw05_CharsetTells.l0, bs_size, if_neg (by omega), hn, if_pos rfl, he, hw]
    have : (((0 : Int) == 0) == ((i : Int) == (l.length : Int))) = true := by
      rw [show (i : Int) = (l.length : Int) by omega]
      simp
    rw [if_pos this, if_pos rfl]
    rfl
  intro f
  induction f with
  | zero => exact fun i k h1 h2 h3 => hend (k + 60) i (by omega) h2 h3
  | succ f ih =>
    intro i k h1 h2 h3
    by_cases h : i < l.length
    · rw [show k + (f + 1) + 61 = (k + f + 61) + 1 by omega, remitterlaw05_CharsetTells.l0, bs_size, if_pos (by omega), if_pos (by omega), bt_nat, show k + f + 61 = (k + f + 1) + 60 by omega, hIn, Option.bind_some, show (k + f + 1) + 60 = k + f + 61 by omega]
      have hg : l.getD i 0 = l[i] := by
        rw [List.getD_eq_getElem?_getD, List.getElem?_eq_getElem h]
        rfl
      by_cases hb : decide (0 ≤ Lib.indexByte X (l.getD i 0)) = true
      · rw [if_pos hb, wrap_ok (by omega) (by omega), show (i : Int) + 1 = ((i + 1 : Nat) : Int) by omega]
        refine ih (i + 1) k (by omega) ?_ (by omega)
        rcases Nat.lt_or_eq_of_le h2 with hlt | heq
        · omega
        · exfalso
          have h5 : firstBad X l < l.length := by omega
          have h4 := List.findIdx_getElem (xs := l) (p := fun c => decide (Lib.indexByte X c < 0)) (w := h5)
          have e : l[List.findIdx (fun c => decide (Lib.indexByte X c < 0)) l]'h5 = l[i] := getElem_congr_idx heq.symm
          rw [e] at h4
          rw [hg] at hb
          simp only [decide_eq_true_eq] at h4 hb
          omega
      · rw [if_neg hb]
        have hn : firstBad X l = i := by
          refine firstBad_at h (fun j hj => ?_) (decide_eq_true (by simp only [decide_eq_true_eq] at hb; omega))
          have h4 := List.not_of_lt_findIdx (xs := l) (p := fun c => decide (Lib.indexByte X c < 0)) (i := j) (show j < firstBad X l by omega)
          rw [List.getD_eq_getElem?_getD, List.getElem?_eq_getElem (by omega)]
          exact h4
        have he : badE X l = 15 := by unfold badE; rw [if_pos (by omega)]
        rw [hn, if_pos rfl, he, hw]
        have : (((15 : Int) == 0) == ((i : Int) == (l.length : Int))) = true := by
          have e1 : ((i : Int) == (l.length : Int)) = false := beq_eq_false_iff_ne.2 (by omega)
          rw [e1]
          decide
        rw [if_pos this, if_neg (by decide), if_pos rfl]
        rfl
    · exact (show k + (f + 1) + 61 = (k + f + 61) + 1 by omega) ▸ hend (k + f + 61) i (by omega) h2 h3

/-- YOURS: ∀ (a0 : Int) (a1 : ByteArray), (Lit.int .u8 a0).wf = true → a1.size ≤ 140737488351232 → ∃ k, remitterlaw05_CharsetTells.f k a0 a1 = some true -/
theorem CharsetTells : remitterlaw05_CharsetTells.Pure := by
  intro a0 a1 h0 _h1
  obtain ⟨l, rfl⟩ := bs_ex a1
  have hr := u8r h0
  have hw : remitterlaw05_wakes.f = some true := wakes5_ok
  by_cases hbig : l.length > 2000
  · refine ⟨0, ?_⟩
    unfold remitterlaw05_CharsetTells.f
    rw [bs_size, if_pos (by omega), hw]
    rfl
  · refine ⟨l.length + 70, ?_⟩
    have hlen : ((bs l).size : Int) ≤ 2000 := by rw [bs_size]; omega
    unfold remitterlaw05_CharsetTells.f
    rw [if_neg (by omega)]
    have hS : charset_Substitute.f (bs l) = some (bs (subst (bs l))) := by
      unfold charset_Substitute.f
      rw [if_pos (by omega)]
    have hJ : charset_Join.f [bs l, (⟨#[]⟩ : ByteArray), bs l] = some (bs (l ++ l)) := by
      unfold charset_Join.f
      have e : joinL [bs l, (⟨#[]⟩ : ByteArray), bs l] = l ++ l := by
        unfold joinL
        simp [bs_data]
      rw [e, if_pos (by simp), if_pos (by rw [List.length_append]; omega)]
    have hJ0 : charset_Join.f ([] : List ByteArray) = some (bs []) := rfl
    rw [hS, hJ, hJ0, show l.length + 70 = 9 + l.length + 61 by omega, sub_f l (by omega)]
    have hne : ((bs []).toList != ([] : List UInt8)) = false := by rw [bs_toList]; rfl
    unfold charset_Check.f
    rw [if_pos hr, if_pos (by omega), bs_data]
    have key : ∀ (X : List UInt8), (a0 = 88 ∨ a0 = 89 ∨ a0 = 90) → (∀ c : UInt8, ∀ k, remitterref05_In.f (k + 60) a0 (c.toNat : Int) = some (decide (0 ≤ Lib.indexByte X c))) →
        remitterlaw05_CharsetTells.j0 (9 + l.length + 61) a0 (bs l) (firstBad X l : Nat) (badE X l) false = some true := fun X hset hIn => by
      rw [show 9 + l.length + 61 = (7 + l.length + 61) + 1 + 1 by omega, remitterlaw05_CharsetTells.j0, if_neg (by decide)]
      have hj1 : remitterlaw05_CharsetTells.j1 ((7 + l.length + 61) + 1) a0 (bs l) (firstBad X l : Nat) (badE X l) false = some true := by
        rw [remitterlaw05_CharsetTells.j1, if_neg (by decide)]
        exact tells_l0 a0 X l (by omega) hIn l.length 0 7 (by omega) (Nat.zero_le _) (Nat.zero_le _)
      by_cases h1 : a0 = 88
      · rw [if_pos h1]
        exact hj1
      · rw [if_neg h1]
        by_cases h2 : a0 = 89
        · rw [if_pos h2]
          exact hj1
        · rw [if_neg h2]
          have h3 : a0 = 90 := by omega
          have : (a0 != 90) = false := by rw [h3]; decide
          rw [this]
          exact hj1
    have tail : ∀ (x5 x6 : Int), (some (x5, x6)).bind (fun bt193 : Int × Int => (some (bs (subst (bs l)))).bind fun t195 => (some (bs (subst (bs l)))).bind fun t196 => (if t195.toList = t196.toList then ((some (bs (l ++ l))).bind fun t200 => (if (bs l).size + (bs l).size ≤ 9223372036854775807 then (if t200.toList = (bs l ++ bs l).toList then ((some (bs [])).bind fun t201 => (remitterlaw05_CharsetTells.j0 (9 + l.length + 61) a0 (bs l) bt193.1 bt193.2 (t201.toList != ([] : List UInt8)))) else (remitterlaw05_CharsetTells.j0 (9 + l.length + 61) a0 (bs l) bt193.1 bt193.2 true)) else (none))) else (remitterlaw05_CharsetTells.j0 (9 + l.length + 61) a0 (bs l) bt193.1 bt193.2 true))) = remitterlaw05_CharsetTells.j0 (9 + l.length + 61) a0 (bs l) x5 x6 false := fun x5 x6 => by
      simp only [Option.bind_some]
      rw [if_pos trivial, if_pos (by omega), bs_append, if_pos rfl, hne]
    unfold setOf
    by_cases h1 : a0 = 88
    · subst h1
      rw [if_pos rfl]
      exact (tail _ _).trans (key setX (.inl rfl) inX_ok)
    · rw [if_neg h1]
      by_cases h2 : a0 = 89
      · subst h2
        rw [if_pos rfl]
        exact (tail _ _).trans (key setY (.inr (.inl rfl)) inY_ok)
      · rw [if_neg h2]
        by_cases h3 : a0 = 90
        · subst h3
          rw [if_pos rfl]
          exact (tail _ _).trans (key setZ (.inr (.inr rfl)) inZ_ok)
        · rw [if_neg h3]
          refine (tail _ _).trans ?_
          rw [show 9 + l.length + 61 = (7 + l.length + 61) + 1 + 1 by omega, remitterlaw05_CharsetTells.j0, if_neg (by decide), if_neg h1, if_neg h2]
          have : (a0 != 90) = true := bne_iff_ne.2 h3
          rw [this, remitterlaw05_CharsetTells.j1, if_pos rfl, if_pos rfl, if_pos rfl, hw]
          rfl
end Go.Proofs.Ytjemnphmjbodfaa.Pure

/- The document's answer for messages: the body. -/
import Derived.Test.YtkklccccjmipkaaDoorZPureFin3
namespace Go.Proofs.YtkklccccjmipkaaDoor.Pure
open Go.RowKit Go.Proofs.YtkklccccjmipkaaDoor.PAll Go.Proofs.YtkklccccjmipkaaDoorW.PrintWords GPlain
open Go.Proofs.YtkklccccjmipkaaDoor.Fin
set_option linter.unusedSimpArgs false
theorem com_pre : ∀ x t : List UInt8, com x t = t.length ↔ t.isPrefixOf x = true
  | x, [] => by rw [com_end]; simp
  | [], b :: y => by
    constructor
    · intro h; cases h
    · intro h; cases h
  | a :: x, b :: y => by
    have ih := com_pre x y
    have e : com (a :: x) (b :: y) = if a = b then com x y + 1 else 0 := rfl
    rw [e]
    by_cases h : a = b
    · rw [if_pos h]
      subst h
      simp only [List.length_cons, List.isPrefixOf, beq_self_eq_true, Bool.true_and]
      rw [← ih]
      omega
    · rw [if_neg h]
      have hb : (b == a) = false := beq_eq_false_iff_ne.2 (fun h2 => h h2.symm)
      simp only [List.length_cons, List.isPrefixOf, hb, Bool.false_and]
      constructor
      · intro h; omega
      · intro h; cases h
theorem ext_take (L : List UInt8) (a d : Nat) : (bs L).extract a (a + d) = bs ((L.drop a).take d) := by
  apply ByteArray.ext
  apply Array.ext'
  rw [ByteArray.data_extract, Array.toList_extract]
  show List.extract L a (a + d) = _
  unfold List.extract
  rw [Nat.add_sub_cancel_left]
  rfl
section
variable (L : List UInt8) (hL : L.length ≤ 4000)
include hL
/-- What comes behind a body. -/
def tailL : List Go.Proofs.YtkklccccjmipkaaDoor.Fin.Sem := [textS (bs L) ⟨#[125]⟩, maybeS (bs L) ⟨#[123]⟩ (lastL L), endS (bs L)]
theorem j2_f (a i : Nat) (body : ByteArray) (t : Int) (st : FS) (k : Nat) (hi : i + 3 ≤ L.length) (hst : st.at_ = i + 3) (hk : 500 ≤ k) :
    remitterref14_rest.j2 (k + 1) (bs L) (a : Int) (i : Int) body t false st.se st.ki st.re st.ue body = some (F7 L.length (runS (tailL L) { st with bo := body })) := by
  obtain ⟨k, rfl⟩ : ∃ k', k = k' + 1 := ⟨k - 1, by omega⟩
  have hw : wrap64 ((i : Int) + 3) = ((({ st with bo := body } : FS).at_ : Nat) : Int) := by
    show _ = ((st.at_ : Nat) : Int)
    rw [wrap_ok (by omega) (by omega), hst]; omega
  have hb : body = ({ st with bo := body } : FS).bo := rfl
  have h1 : st.se = ({ st with bo := body } : FS).se := rfl
  have h2 : st.ki = ({ st with bo := body } : FS).ki := rfl
  have h3 : st.re = ({ st with bo := body } : FS).re := rfl
  have h4 : st.ue = ({ st with bo := body } : FS).ue := rfl
  have hat : ({ st with bo := body } : FS).at_ ≤ L.length := by show st.at_ ≤ _; omega
  rw [remitterref14_rest.j2]
  simp only [Bool.false_eq_true, ↓reduceIte]
  rw [hw, h1, h2, h3, h4]
  generalize hs : ({ st with bo := body } : FS) = s1 at hat hb
  subst hb
  rw [text_s L hL _ s1 (k + 1) (by decide) hat (by omega), Option.bind_some]
  unfold tailL
  rw [runS_c]
  have hpa := text_at L ⟨#[125]⟩ s1 hat
  obtain ⟨p, hp⟩ : ∃ p, textS (bs L) ⟨#[125]⟩ s1 = p := ⟨_, rfl⟩
  have f1 : p.2.se = s1.se ∧ p.2.ki = s1.ki ∧ p.2.re = s1.re ∧ p.2.ue = s1.ue ∧ p.2.bo = s1.bo := by rw [← hp]; exact ⟨rfl, rfl, rfl, rfl, rfl⟩
  rw [hp] at hpa ⊢
  obtain ⟨b, st1⟩ := p
  dsimp only at hpa f1 ⊢
  rw [← f1.1, ← f1.2.1, ← f1.2.2.1, ← f1.2.2.2.1, ← f1.2.2.2.2, bs_size]
  cases b
  · simp only [Bool.false_eq_true, ↓reduceIte]
    rfl
  · simp only [↓reduceIte]
    have hbr := brace_s L st1 hpa
    by_cases h : st1.at_ < L.length
    · rw [if_pos (by omega), if_pos (by omega)]
      refine j3_f L hL st1 k hpa (by omega) _ ?_
      rw [bt_nat, Bool.eq_iff_iff, beq_iff_eq, decide_eq_true_iff, hbr]
      constructor
      · intro h2; exact ⟨h, by omega⟩
      · intro h2; omega
    · rw [if_neg (by omega)]
      refine j3_f L hL st1 k hpa (by omega) _ ?_
      rw [decide_eq_false]
      intro h2
      exact h (hbr.1 h2).1
/-- A body and what comes behind. -/
def bodyL : List Go.Proofs.YtkklccccjmipkaaDoor.Fin.Sem := bodyS (bs L) :: tailL L
theorem j1_f (d : Nat) (st : FS) (k : Nat) (hd : st.at_ + d ≤ L.length) (hc : (cutS (L.drop st.at_)).1 = (L.drop st.at_).take d) (hf : (cutS (L.drop st.at_)).2.2 = decide (st.at_ + d < L.length))
    (h3 : st.at_ + d < L.length → st.at_ + d + 3 ≤ L.length) (hk : 4600 ≤ k) :
    remitterref14_rest.j1 (k + 1) (bs L) (st.at_ : Int) ((st.at_ + d : Nat) : Int) st.se st.ki st.re st.ue st.bo = some (F7 L.length (runS (bodyL L) st)) := by
  obtain ⟨k, rfl⟩ : ∃ k', k = k' + 1 := ⟨k - 1, by omega⟩
  have ex : (bs L).extract ((st.at_ : Int)).toNat (((st.at_ + d : Nat) : Int)).toNat = bs ((L.drop st.at_).take d) := by
    rw [show ((st.at_ : Int)).toNat = st.at_ by omega, show (((st.at_ + d : Nat) : Int)).toNat = st.at_ + d by omega]
    exact ext_take L st.at_ d
  have hlen : ((L.drop st.at_).take d).length = d := by rw [List.length_take, List.length_drop]; omega
  have hfl : faultL ((L.drop st.at_).take d) ≤ d := by have := faultL_le ((L.drop st.at_).take d); omega
  rw [remitterref14_rest.j1]
  rw [if_pos (by omega), if_pos (by omega), bs_size, if_pos (by omega), ex, fault_f _ _ (by omega) (by omega), Option.bind_some, bs_size, hlen]
  have ebo : bodyS (bs L) st = if (cutS (L.drop st.at_)).2.2 = true ∧ faultL (cutS (L.drop st.at_)).1 = (cutS (L.drop st.at_)).1.length ∧ (cutS (L.drop st.at_)).1 ≠ [] then (true, { st with at_ := st.at_ + (cutS (L.drop st.at_)).1.length + 3, bo := ⟨(cutS (L.drop st.at_)).1.toArray⟩ }) else (false, { st with at_ := st.at_ + faultL (cutS (L.drop st.at_)).1 }) := by
    unfold bodyS
    simp only [bs_data]
  rw [hc, hf, hlen] at ebo
  unfold bodyL
  rw [runS_c, ebo]
  have hw : wrap64 ((st.at_ : Int) + ((faultL ((L.drop st.at_).take d) : Nat) : Int)) = ((st.at_ + faultL ((L.drop st.at_).take d) : Nat) : Int) := by rw [wrap_ok (by omega) (by omega)]; omega
  generalize hB : (L.drop st.at_).take d = B at *
  have bad : (if decide (st.at_ + d < L.length) = true ∧ faultL B = d ∧ B ≠ [] then (true, { st with at_ := st.at_ + d + 3, bo := ⟨B.toArray⟩ }) else (false, { st with at_ := st.at_ + faultL B })) = (false, { st with at_ := st.at_ + faultL B }) → remitterref14_rest.j2 (k + 1) (bs L) (st.at_ : Int) ((st.at_ + d : Nat) : Int) (bs B) ((faultL B : Nat) : Int) true st.se st.ki st.re st.ue st.bo =
      some (F7 L.length (if (if decide (st.at_ + d < L.length) = true ∧ faultL B = d ∧ B ≠ [] then (true, { st with at_ := st.at_ + d + 3, bo := ⟨B.toArray⟩ }) else (false, { st with at_ := st.at_ + faultL B })).1 = true then runS (tailL L) (if decide (st.at_ + d < L.length) = true ∧ faultL B = d ∧ B ≠ [] then (true, { st with at_ := st.at_ + d + 3, bo := ⟨B.toArray⟩ }) else (false, { st with at_ := st.at_ + faultL B })).2 else (false, (if decide (st.at_ + d < L.length) = true ∧ faultL B = d ∧ B ≠ [] then (true, { st with at_ := st.at_ + d + 3, bo := ⟨B.toArray⟩ }) else (false, { st with at_ := st.at_ + faultL B })).2))) := by
    intro h
    rw [h, remitterref14_rest.j2]
    simp only [Bool.false_eq_true, ↓reduceIte]
    rw [hw]
    rfl
  by_cases h1 : st.at_ + d < L.length
  · rw [if_neg (by omega)]
    by_cases h2 : faultL B < d
    · rw [if_pos (by omega)]
      exact bad (if_neg (fun h => by omega))
    · rw [if_neg (by omega), bs_toList]
      by_cases h4 : B = []
      · have e : (B == ([] : List UInt8)) = true := beq_iff_eq.2 h4
        rw [e]
        exact bad (if_neg (fun h => h.2.2 h4))
      · have e : (B == ([] : List UInt8)) = false := beq_eq_false_iff_ne.2 h4
        rw [e, if_pos (show decide (st.at_ + d < L.length) = true ∧ faultL B = d ∧ B ≠ [] from ⟨decide_eq_true h1, by omega, h4⟩)]
        simp only [↓reduceIte]
        have h := j2_f L hL st.at_ (st.at_ + d) (bs B) ((faultL B : Nat) : Int) { st with at_ := st.at_ + d + 3 } k (h3 h1) rfl (by omega)
        exact h
  · rw [if_pos (by omega)]
    exact bad (if_neg (fun h => h1 (of_decide_eq_true h.1)))
theorem l0_f (st : FS) (ha : st.at_ ≤ L.length) : ∀ (n d k : Nat), st.at_ + d + n = L.length → (∀ j, j < d → Lib.occAt (L.drop st.at_) [13, 10, 45] j = false) → 4700 + n ≤ k →
    remitterref14_rest.l0 k (bs L) (st.at_ : Int) ((st.at_ + d : Nat) : Int) st.se st.ki st.re st.ue st.bo = some (F7 L.length (runS (bodyL L) st))
  | 0, d, k, hn, hno, hk => by
    obtain ⟨k, rfl⟩ : ∃ k', k = k' + 1 := ⟨k - 1, by omega⟩
    obtain ⟨k, rfl⟩ : ∃ k', k = k' + 1 := ⟨k - 1, by omega⟩
    have hidx : Lib.index (L.drop st.at_) [13, 10, 45] = -1 := by
      rcases Lib.index_spec (L.drop st.at_) [13, 10, 45] with h | ⟨i, h1, h2, h3, _⟩
      · exact h.1
      · rcases Lib.occAt_room h3 with h4 | h4
        · have hl : (L.drop st.at_).length = d := by rw [List.length_drop]; omega
          have h5 : i + 3 ≤ (L.drop st.at_).length := h4
          have := hno i (by omega)
          rw [h3] at this
          cases this
        · cases h4
    have hcut : cutS (L.drop st.at_) = (L.drop st.at_, [], false) := by
      unfold cutS Lib.cut
      rw [hidx]
      rfl
    rw [remitterref14_rest.l0, bs_size, if_neg (by omega)]
    refine j1_f L hL d st k (by omega) ?_ ?_ (by omega) (by omega)
    · rw [hcut, List.take_of_length_le (by rw [List.length_drop]; omega)]
    · rw [hcut, decide_eq_false (by omega)]
  | n + 1, d, k, hn, hno, hk => by
    obtain ⟨k, rfl⟩ : ∃ k', k = k' + 1 := ⟨k - 1, by omega⟩
    obtain ⟨k, rfl⟩ : ∃ k', k = k' + 1 := ⟨k - 1, by omega⟩
    have h13 : (⟨#[13, 10, 45]⟩ : ByteArray) = bs [13, 10, 45] := rfl
    have ht := text_f L [13, 10, 45] (st.at_ + d) (k + 1) hL (by decide) (by omega) (by omega)
    have hpre := com_pre (L.drop (st.at_ + d)) [13, 10, 45]
    have hoc : Lib.occAt (L.drop st.at_) [13, 10, 45] d = List.isPrefixOf [13, 10, 45] (L.drop (st.at_ + d)) := by
      unfold Lib.occAt
      rw [List.drop_drop]
    rw [remitterref14_rest.l0, bs_size, if_pos (by omega), h13, ht, Option.bind_some]
    dsimp only
    by_cases h : com (L.drop (st.at_ + d)) [13, 10, 45] = ([13, 10, 45] : List UInt8).length
    · simp only [decide_eq_true_eq]
      rw [if_pos h]
      have ho : Lib.occAt (L.drop st.at_) [13, 10, 45] d = true := by rw [hoc]; exact hpre.1 h
      have hidx := Lib.index_first (show d ≤ (L.drop st.at_).length by rw [List.length_drop]; omega) ho hno
      have hcut : cutS (L.drop st.at_) = ((L.drop st.at_).take d, (L.drop st.at_).drop (d + 3), true) := by
        unfold cutS Lib.cut
        rw [hidx, if_pos (by omega)]
        rfl
      have hroom : d + 3 ≤ L.length - st.at_ := by
        rcases Lib.occAt_room ho with h4 | h4
        · rw [List.length_drop] at h4; exact h4
        · cases h4
      refine j1_f L hL d st k (by omega) ?_ ?_ (by omega) (by omega)
      · rw [hcut]
      · rw [hcut, decide_eq_true (by omega)]
    · simp only [decide_eq_true_eq]
      rw [if_neg h]
      have hw : wrap64 (((st.at_ + d : Nat) : Int) + 1) = ((st.at_ + (d + 1) : Nat) : Int) := by rw [wrap_ok (by omega) (by omega)]; omega
      rw [hw]
      refine l0_f st ha n (d + 1) (k + 1) (by omega) (fun j hj => ?_) (by omega)
      by_cases hj2 : j = d
      · rw [hj2, hoc]
        cases hb : List.isPrefixOf [13, 10, 45] (L.drop (st.at_ + d))
        · rfl
        · exact absurd (hpre.2 hb) h
      · exact hno j (by omega)
theorem rest_f (st : FS) (k : Nat) (ha : st.at_ ≤ L.length) (hk : 9000 ≤ k) :
    remitterref14_rest.f k (bs L) (st.at_ : Int) st.se st.ki st.re st.ue st.bo = some (F7 L.length (runS (textS (bs L) ⟨#[123, 52, 58, 13, 10]⟩ :: bodyL L) st)) := by
  unfold remitterref14_rest.f
  rw [text_s L hL _ st k (by decide) ha (by omega), Option.bind_some, runS_c]
  have hpa := text_at L ⟨#[123, 52, 58, 13, 10]⟩ st ha
  obtain ⟨p, hp⟩ : ∃ p, textS (bs L) ⟨#[123, 52, 58, 13, 10]⟩ st = p := ⟨_, rfl⟩
  have f1 : p.2.se = st.se ∧ p.2.ki = st.ki ∧ p.2.re = st.re ∧ p.2.ue = st.ue ∧ p.2.bo = st.bo := by rw [← hp]; exact ⟨rfl, rfl, rfl, rfl, rfl⟩
  rw [hp] at hpa ⊢
  obtain ⟨b, st1⟩ := p
  dsimp only at hpa f1 ⊢
  rw [← f1.1, ← f1.2.1, ← f1.2.2.1, ← f1.2.2.2.1, ← f1.2.2.2.2]
  cases b
  · simp only [Bool.false_eq_true, ↓reduceIte]
    rfl
  · simp only [↓reduceIte]
    exact l0_f L hL st1 hpa (L.length - st1.at_) 0 k (by omega) (fun j hj => absurd hj (Nat.not_lt_zero j)) (by omega)
end
end Go.Proofs.YtkklccccjmipkaaDoor.Pure

/- The reference's Fold: the same as the program's. -/
import Derived.Test.YtjemnphmjbodfaaPAllx7
import Derived.Test.YtjemnphmjbodfaaPureCs2
namespace Go.Proofs.Ytjemnphmjbodfaa.PAll
open Go.RowKit Go.Proofs.YtjemnphmjbodfaaW.PrintWords GPlain
set_option linter.unusedSimpArgs false

theorem common_snoc : ∀ (a s : List UInt8) (c : UInt8), common (a ++ [c]) s = if common a s = a.length ∧ a.length < s.length ∧ s.getD a.length 0 = c then a.length + 1 else common a s
  | [], s, c => by
    cases s with
    | nil => simp [common]
    | cons y t =>
      by_cases h : y = c
      · subst h
        simp [common]
      · have h' : ¬ c = y := fun e => h e.symm
        simp [common, h, h']
  | x :: a, s, c => by
    cases s with
    | nil => simp [common]
    | cons y t =>
      by_cases h : x = y
      · subst h
        have := common_snoc a t c
        simp only [List.cons_append, common, if_true, List.length_cons, List.getD_cons_succ]
        rw [this]
        by_cases h1 : common a t = a.length ∧ a.length < t.length ∧ t.getD a.length 0 = c
        · rw [if_pos h1, if_pos ⟨by omega, by omega, h1.2.2⟩]
        · rw [if_neg h1, if_neg (fun e => h1 ⟨by omega, by omega, e.2.2⟩)]
      · have e1 : common (x :: a ++ [c]) (y :: t) = 0 := by simp [common, h]
        have e2 : common (x :: a) (y :: t) = 0 := by simp [common, h]
        rw [e1, e2, if_neg (by simp)]
theorem common_le : ∀ (a s : List UInt8), common a s ≤ a.length
  | [], s => by simp [common]
  | x :: a, s => by
    cases s with
    | nil => simp [common]
    | cons y t =>
      have := common_le a t
      unfold common
      split
      · simp only [List.length_cons]; omega
      · omega
theorem single (l : List UInt8) (i : Nat) (h : i < l.length) : (l.take (i + 1)).drop i = [l.getD i 0] := by
  rw [List.getD_eq_getElem?_getD, List.getElem?_eq_getElem h]
  rw [List.drop_take, Nat.add_sub_cancel_left, List.drop_eq_getElem_cons h]
  rfl
theorem dotHead_snoc (x : List UInt8) (c : UInt8) : dotHead (x ++ [c]) = dotHead x ++ [if x = [] then dot c else c] := by
  cases x with
  | nil => simp [dotHead]
  | cons a r => simp [dotHead]
theorem wrap_succ (a : Nat) (h : a ≤ 2000) : wrap64 ((a : Int) + 1) = ((a + 1 : Nat) : Int) := by
  rw [wrap_ok (by omega) (by omega)]
  omega
/-- What is put at a place. -/
def putC (r : Nat) (c : UInt8) : UInt8 := if r = 0 then dot c else c
theorem fold_end (T : List UInt8) (w n q r : Nat) (hw : 1 ≤ w) (hn : 1 ≤ n) (hr : r < w) (hi : q * w + r ≤ T.length) (hq : q < n ∨ (q = n ∧ r = 0)) (hend : ¬ (q * w + r < T.length ∧ q < n)) :
    keepN w n T.length = q * w + r ∧ foldL (T.take (q * w + r)) w = (List.range q).map (piece T w) ++ (if r = 0 then [] else [dotHead ((T.drop (q * w)).take r)]) := by
  have hqn : q * w + r ≤ n * w := by
    rcases hq with h | ⟨h, h0⟩
    · have : (q + 1) * w ≤ n * w := Nat.mul_le_mul_right w h
      rw [Nat.succ_mul] at this
      omega
    · subst h h0
      omega
  constructor
  · unfold keepN
    rw [Nat.mul_comm w n]
    by_cases hT : q * w + r < T.length
    · have hq' : q = n ∧ r = 0 := by
        rcases hq with h | h
        · exact absurd ⟨hT, h⟩ hend
        · exact h
      obtain ⟨rfl, rfl⟩ := hq'
      have h1 : w ≤ q * w := Nat.le_mul_of_pos_left w hn
      have h2 : q ≤ q * w := Nat.le_mul_of_pos_right q hw
      rw [if_neg (by omega)]
      omega
    · rw [if_pos (.inr (.inr (by omega)))]
      omega
  · have hlen : (T.take (q * w + r)).length = q * w + r := by rw [List.length_take]; omega
    have hp : ∀ j, j < q → piece (T.take (q * w + r)) w j = piece T w j := fun j hj => by
      unfold piece
      have : (j + 1) * w ≤ q * w := Nat.mul_le_mul_right w hj
      rw [Nat.succ_mul] at this
      rw [List.drop_take, List.take_take, Nat.min_eq_left (by omega)]
    have hmap : (List.range q).map (piece (T.take (q * w + r)) w) = (List.range q).map (piece T w) := List.map_congr_left (fun j hj => hp j (List.mem_range.1 hj))
    unfold foldL
    by_cases h0 : r = 0
    · subst h0
      rw [if_pos rfl, List.append_nil, foldL_len _ w q hw (by rw [hlen]; omega) (by
        rw [hlen]
        rcases Nat.eq_zero_or_pos q with h | h
        · exact .inl h
        · right
          have : (q - 1 + 1) * w = q * w := by rw [Nat.sub_add_cancel h]
          rw [Nat.succ_mul] at this
          omega)]
      exact hmap
    · rw [if_neg h0, foldL_len _ w (q + 1) hw (by rw [hlen, Nat.succ_mul]; omega) (by rw [hlen]; right; rw [Nat.add_sub_cancel]; omega), List.range_succ, List.map_append, hmap]
      congr 1
      show [piece (T.take (q * w + r)) w q] = _
      congr 1
      unfold piece
      rw [List.drop_take, List.take_take, Nat.min_eq_right (by omega), Nat.add_sub_cancel_left]

set_option maxHeartbeats 1000000 in
/-- One round: the state of the loop behind it. -/
theorem fold_step (s T : List UInt8) (w n : Nat) (hT : T.length ≤ 2000) (q r : Nat) (hi : q * w + r < T.length) (hq : q < n) (O L : List (List UInt8)) (F line : List UInt8) (hO : O.length = q) (hr : r < w) (hlr : line.length = r) (hF : F.length = q * w + r) (hL : L = O) (k : Nat) :
    remitterref05_Fold.l0 (k + 5) (bs s) (w : Int) (n : Int) (bs T) (L.map bs) ((common F s : Nat) : Int) (decide (common F s = q * w + r)) (bs line) ((q * w + r : Nat) : Int) =
      if r + 1 = w then remitterref05_Fold.l0 k (bs s) (w : Int) (n : Int) (bs T) ((O ++ [line ++ [putC r (T.getD (q * w + r) 0)]]).map bs) ((common (F ++ [putC r (T.getD (q * w + r) 0)]) s : Nat) : Int) (decide (common (F ++ [putC r (T.getD (q * w + r) 0)]) s = q * w + r + 1)) (bs []) ((q * w + r + 1 : Nat) : Int)
      else remitterref05_Fold.l0 k (bs s) (w : Int) (n : Int) (bs T) (O.map bs) ((common (F ++ [putC r (T.getD (q * w + r) 0)]) s : Nat) : Int) (decide (common (F ++ [putC r (T.getD (q * w + r) 0)]) s = q * w + r + 1)) (bs (line ++ [putC r (T.getD (q * w + r) 0)])) ((q * w + r + 1 : Nat) : Int) := by
  subst hL
  obtain ⟨i, hie⟩ : ∃ i, q * w + r = i := ⟨_, rfl⟩
  rw [hie] at hi hF ⊢
  obtain ⟨c, hc⟩ : ∃ c, T.getD i 0 = c := ⟨_, rfl⟩
  rw [hc]
  have hcl := common_le F s
  have hsn := common_snoc F s
  obtain ⟨cm, hcm⟩ : ∃ cm, common F s = cm := ⟨_, rfl⟩
  simp only [hcm] at hcl hsn ⊢
  clear hcm
  have hLq : L.length < 8796093022208 := by
    have : q ≤ q * w := Nat.le_mul_of_pos_right q (by omega)
    omega
  have E1 := Lib.hid (wrap_succ i (Nat.le_trans (Nat.le_of_lt hi) hT))
  have E2 := Lib.hid (wrap_succ cm (Nat.le_trans hcl (by rw [hF]; exact Nat.le_trans (Nat.le_of_lt hi) hT)))
  -- the last part: the line grows
  have j4 : ∀ (b : Bool) (p : UInt8), remitterref05_Fold.j4 (k + 1) (bs s) (w : Int) (n : Int) (bs T) (L.map bs) ((cm : Nat) : Int) b (bs line) (i : Int) (bs [p]) =
      if r + 1 = w then remitterref05_Fold.l0 k (bs s) (w : Int) (n : Int) (bs T) ((L ++ [line ++ [p]]).map bs) ((if b = true then ((cm + 1 : Nat) : Int) else ((cm : Nat) : Int))) b (bs []) ((i + 1 : Nat) : Int)
      else remitterref05_Fold.l0 k (bs s) (w : Int) (n : Int) (bs T) (L.map bs) ((if b = true then ((cm + 1 : Nat) : Int) else ((cm : Nat) : Int))) b (bs (line ++ [p])) ((i + 1 : Nat) : Int) := fun b p => by
    have hw2 : ((bs line ++ bs [p]).size : Int) = (w : Int) ↔ r + 1 = w := by
      rw [bs_append, bs_size, List.length_append, List.length_singleton]
      omega
    rw [remitterref05_Fold.j4]
    have hsz : (bs line).size + (bs [p]).size ≤ 9223372036854775807 := by
      rw [bs_size, bs_size, List.length_singleton]
      have : r ≤ 2000 := by omega
      omega
    have hm : (L.map bs).length < 8796093022208 := by rw [List.length_map]; exact hLq
    have hmm : L.map bs ++ [bs line ++ bs [p]] = (L ++ [line ++ [p]]).map bs := by rw [List.map_append, bs_append]; rfl
    by_cases hb : b = true
    · subst hb
      rw [if_pos rfl, if_pos hsz, if_pos rfl]
      by_cases h : r + 1 = w
      · rw [if_pos (hw2.2 h), if_pos hm, if_pos h, hmm, E1.out, E2.out]
        rfl
      · rw [if_neg (fun e => h (hw2.1 e)), if_neg h, bs_append, E1.out, E2.out]
    · rw [if_neg hb, if_pos hsz, if_neg hb]
      have hb' : b = false := by simpa using hb
      subst hb'
      by_cases h : r + 1 = w
      · rw [if_pos (hw2.2 h), if_pos hm, if_pos h, hmm, E1.out]
        rfl
      · rw [if_neg (fun e => h (hw2.1 e)), if_neg h, bs_append, E1.out]
  -- what the comparison makes of it
  have j3 : ∀ (p : UInt8), remitterref05_Fold.j3 (k + 2) (bs s) (w : Int) (n : Int) (bs T) (L.map bs) ((cm : Nat) : Int) (decide (cm = i)) (bs line) (i : Int) (bs [p]) =
      remitterref05_Fold.j4 (k + 1) (bs s) (w : Int) (n : Int) (bs T) (L.map bs) ((cm : Nat) : Int) (decide (cm = i ∧ i < s.length ∧ s.getD i 0 = p)) (bs line) (i : Int) (bs [p]) := fun p => by
    rw [remitterref05_Fold.j3]
    by_cases h1 : cm = i
    · rw [if_pos (decide_eq_true h1), bs_size]
      by_cases h2 : i < s.length
      · rw [if_pos (by omega), if_pos (by omega), E1.out, if_pos (by omega), if_pos (by omega), Int.toNat_natCast, Int.toNat_natCast, bs_extract, single s i h2, bs_toList, bs_toList]
        congr 1
        rw [Bool.eq_iff_iff, beq_iff_eq, decide_eq_true_eq]
        constructor
        · intro e
          exact ⟨h1, h2, by injection e⟩
        · rintro ⟨_, _, e⟩
          rw [e]
      · rw [if_neg (by omega), decide_eq_false (p := _ ∧ _ ∧ _) (by omega)]
    · rw [if_neg (by simpa using h1), decide_eq_false (p := _ ∧ _ ∧ _) (fun e => h1 e.1)]
  have fin : ∀ p : UInt8, p = putC r c → remitterref05_Fold.j3 (k + 2) (bs s) (w : Int) (n : Int) (bs T) (L.map bs) ((cm : Nat) : Int) (decide (cm = i)) (bs line) (i : Int) (bs [p]) =
      if r + 1 = w then remitterref05_Fold.l0 k (bs s) (w : Int) (n : Int) (bs T) ((L ++ [line ++ [putC r c]]).map bs) ((common (F ++ [putC r c]) s : Nat) : Int) (decide (common (F ++ [putC r c]) s = i + 1)) (bs []) ((i + 1 : Nat) : Int)
      else remitterref05_Fold.l0 k (bs s) (w : Int) (n : Int) (bs T) (L.map bs) ((common (F ++ [putC r c]) s : Nat) : Int) (decide (common (F ++ [putC r c]) s = i + 1)) (bs (line ++ [putC r c])) ((i + 1 : Nat) : Int) := fun p hp => by
    rw [j3, j4, ← hp, hsn, hF]
    by_cases hh : cm = i ∧ i < s.length ∧ s.getD i 0 = p
    · rw [if_pos (decide_eq_true hh), if_pos hh, decide_eq_true hh, decide_eq_true rfl, hh.1]
    · rw [decide_eq_false hh, if_neg hh, decide_eq_false (p := cm = i + 1) (by omega)]
      simp only [Bool.false_eq_true, if_false]
  rw [show k + 5 = (k + 4) + 1 by omega, remitterref05_Fold.l0, bs_size, if_pos (by omega), List.length_map, decide_eq_true (p := ((L.length : Nat) : Int) < (n : Int)) (by omega), remitterref05_Fold.j1, if_pos rfl, if_pos (by omega), E1.out, if_pos (by omega), bs_size, if_pos (by omega), Int.toNat_natCast, Int.toNat_natCast, bs_extract, single T i hi, hc, bs_toList, bs_toList]
  have j2f : ∀ b, remitterref05_Fold.j2 (k + 3) (bs s) (w : Int) (n : Int) (bs T) (L.map bs) ((cm : Nat) : Int) (decide (cm = i)) (bs line) (i : Int) (bs [c]) b = remitterref05_Fold.j3 (k + 2) (bs s) (w : Int) (n : Int) (bs T) (L.map bs) ((cm : Nat) : Int) (decide (cm = i)) (bs line) (i : Int) (bs [if b = true then 46 else c]) := fun b => by
    rw [remitterref05_Fold.j2]
    cases b
    · rfl
    · rfl
  by_cases h0 : r = 0
  · have hln : line = [] := List.eq_nil_of_length_eq_zero (by omega)
    rw [if_pos hln]
    by_cases h58 : c = 58
    · rw [if_pos (by rw [h58]), j2f]
      exact fin _ (by unfold putC; rw [if_pos h0, h58]; rfl)
    · rw [if_neg (fun e => h58 (by injection e)), j2f]
      refine fin _ ?_
      unfold putC
      rw [if_pos h0]
      by_cases h45 : c = 45
      · subst h45
        rfl
      · have : (([c] : List UInt8) == [45]) = false := beq_eq_false_iff_ne.2 (fun e => h45 (by injection e))
        rw [this, dot_miss (by simp [h58, h45])]
        rfl
  · rw [if_neg (fun e => h0 (by rw [e] at hlr; simpa using hlr.symm)), j2f]
    exact fin _ (by unfold putC; rw [if_neg h0]; rfl)
def linesAt (T : List UInt8) (w q : Nat) : List (List UInt8) := (List.range q).map (piece T w)
def lineAt (T : List UInt8) (w q r : Nat) : List UInt8 := dotHead ((T.drop (q * w)).take r)
def flatAt (T : List UInt8) (w q r : Nat) : List UInt8 := (linesAt T w q).flatten ++ lineAt T w q r
theorem lineAt_zero (T : List UInt8) (w q : Nat) : lineAt T w q 0 = [] := by simp [lineAt, dotHead]
theorem lineAt_snoc (T : List UInt8) (w q r : Nat) (h : q * w + r < T.length) : lineAt T w q (r + 1) = lineAt T w q r ++ [putC r (T.getD (q * w + r) 0)] := by
  have e : (T.drop (q * w)).take (r + 1) = (T.drop (q * w)).take r ++ [T.getD (q * w + r) 0] := by
    rw [List.take_add_one, List.getElem?_drop, List.getD_eq_getElem?_getD, List.getElem?_eq_getElem h]
    rfl
  unfold lineAt
  rw [e, dotHead_snoc]
  congr 2
  unfold putC
  by_cases h0 : r = 0
  · subst h0
    simp
  · rw [if_neg h0, if_neg]
    intro e'
    have := congrArg List.length e'
    rw [List.length_take, List.length_drop, List.length_nil] at this
    omega
theorem lineAt_len (T : List UInt8) (w q r : Nat) (h : q * w + r ≤ T.length) : (lineAt T w q r).length = r := by
  unfold lineAt
  rw [dotHead_length, List.length_take, List.length_drop]
  omega
theorem linesAt_succ (T : List UInt8) (w q : Nat) : linesAt T w (q + 1) = linesAt T w q ++ [lineAt T w q w] := by
  unfold linesAt
  rw [List.range_succ, List.map_append]
  rfl
theorem flatAt_len (T : List UInt8) (w : Nat) : ∀ (q r : Nat), q * w + r ≤ T.length → (flatAt T w q r).length = q * w + r
  | 0, r, h => by
    unfold flatAt
    rw [List.length_append, lineAt_len T w 0 r h]
    simp [linesAt]
  | q + 1, r, h => by
    have hs : (q + 1) * w = q * w + w := Nat.succ_mul q w
    have := flatAt_len T w q w (by omega)
    unfold flatAt at this ⊢
    rw [List.length_append, lineAt_len T w (q + 1) r h, linesAt_succ, List.flatten_append, List.flatten_singleton, this, hs]
theorem fold_stop (s T : List UInt8) (w n : Nat) (hw : 1 ≤ w) (hn : 1 ≤ n) (hT : T.length ≤ 2000) (q r k : Nat) (h2 : q * w + r ≤ T.length) (hr : r < w) (hq : q < n ∨ (q = n ∧ r = 0)) (hend : ¬ (q * w + r < T.length ∧ q < n)) (b : Bool) :
    remitterref05_Fold.l0 (k + 2) (bs s) (w : Int) (n : Int) (bs T) ((linesAt T w q).map bs) ((common (flatAt T w q r) s : Nat) : Int) b (bs (lineAt T w q r)) ((q * w + r : Nat) : Int) =
      some ((foldL (T.take (keepN w n T.length)) w).map bs, ((common (foldL (T.take (keepN w n T.length)) w).flatten s : Nat) : Int)) := by
  obtain ⟨e1, e2⟩ := fold_end T w n q r hw hn hr h2 hq hend
  have hq2 : q ≤ 2000 := by
    have : q ≤ q * w := Nat.le_mul_of_pos_right q hw
    omega
  have hll := lineAt_len T w q r h2
  have hj : remitterref05_Fold.j1 (k + 1) (bs s) (w : Int) (n : Int) (bs T) ((linesAt T w q).map bs) ((common (flatAt T w q r) s : Nat) : Int) b (bs (lineAt T w q r)) ((q * w + r : Nat) : Int) false =
      some ((foldL (T.take (keepN w n T.length)) w).map bs, ((common (foldL (T.take (keepN w n T.length)) w).flatten s : Nat) : Int)) := by
    rw [remitterref05_Fold.j1, if_neg (by decide), bs_toList, e1, e2]
    show _ = some ((linesAt T w q ++ (if r = 0 then [] else [lineAt T w q r])).map bs, ((common (linesAt T w q ++ (if r = 0 then [] else [lineAt T w q r])).flatten s : Nat) : Int))
    by_cases h0 : r = 0
    · subst h0
      rw [if_pos (lineAt_zero T w q), if_pos rfl, List.append_nil]
      unfold flatAt
      rw [lineAt_zero, List.append_nil]
    · rw [if_neg (fun e => h0 (by rw [e] at hll; simpa using hll.symm)), if_neg h0, if_pos (by rw [List.length_map]; unfold linesAt; rw [List.length_map, List.length_range]; omega), List.map_append, List.flatten_append, List.flatten_singleton]
      rfl
  rw [remitterref05_Fold.l0, bs_size]
  by_cases h : q * w + r < T.length
  · have hqn : ¬ q < n := fun e => hend ⟨h, e⟩
    rw [if_pos (by omega), decide_eq_false (by rw [List.length_map]; unfold linesAt; rw [List.length_map, List.length_range]; omega)]
    exact hj
  · rw [if_neg (by omega)]
    exact hj
theorem fold_l0 (s T : List UInt8) (w n : Nat) (hw : 1 ≤ w) (hn : 1 ≤ n) (hT : T.length ≤ 2000) : ∀ (f q r k : Nat), T.length ≤ q * w + r + f → q * w + r ≤ T.length → r < w → (q < n ∨ (q = n ∧ r = 0)) →
    remitterref05_Fold.l0 (k + 5 * f + 5) (bs s) (w : Int) (n : Int) (bs T) ((linesAt T w q).map bs) ((common (flatAt T w q r) s : Nat) : Int) (decide (common (flatAt T w q r) s = q * w + r)) (bs (lineAt T w q r)) ((q * w + r : Nat) : Int) =
      some ((foldL (T.take (keepN w n T.length)) w).map bs, ((common (foldL (T.take (keepN w n T.length)) w).flatten s : Nat) : Int)) := by
  intro f
  induction f with
  | zero =>
    intro q r k h1 h2 hr hq
    exact fold_stop s T w n hw hn hT q r (k + 3) h2 hr hq (by omega) _
  | succ f ih =>
    intro q r k h1 h2 hr hq
    by_cases hc : q * w + r < T.length ∧ q < n
    · have hO : (linesAt T w q).length = q := by unfold linesAt; rw [List.length_map, List.length_range]
      rw [show k + 5 * (f + 1) + 5 = (k + 5 * f + 5) + 5 by omega, fold_step s T w n hT q r hc.1 hc.2 (linesAt T w q) (linesAt T w q) (flatAt T w q r) (lineAt T w q r) hO hr (lineAt_len T w q r h2) (flatAt_len T w q r h2) rfl, ← lineAt_snoc T w q r hc.1]
      have hfl : flatAt T w q r ++ [putC r (T.getD (q * w + r) 0)] = flatAt T w q (r + 1) := by
        unfold flatAt
        rw [lineAt_snoc T w q r hc.1, List.append_assoc]
      rw [hfl]
      by_cases hw1 : r + 1 = w
      · rw [if_pos hw1]
        have hs : (q + 1) * w + 0 = q * w + r + 1 := by rw [Nat.succ_mul]; omega
        have e1 : linesAt T w q ++ [lineAt T w q (r + 1)] = linesAt T w (q + 1) := by rw [linesAt_succ, hw1]
        have e2 : flatAt T w q (r + 1) = flatAt T w (q + 1) 0 := by
          unfold flatAt
          rw [← e1, List.flatten_append, List.flatten_singleton, lineAt_zero, List.append_nil]
        rw [e1, e2, ← lineAt_zero T w (q + 1), ← hs]
        exact ih (q + 1) 0 k (by omega) (by omega) (by omega) (by omega)
      · rw [if_neg hw1, show q * w + r + 1 = q * w + (r + 1) by omega]
        exact ih q (r + 1) k (by omega) (by omega) (by omega) (.inl hc.2)
    · exact fold_stop s T w n hw hn hT q r (k + 5 * (f + 1) + 3) h2 hr hq hc _
/-- The reference folds as the program does. -/
theorem fold_f (l : List UInt8) (hl : l.length ≤ 2000) (w n k : Nat) (hw : 1 ≤ w) (hn : 1 ≤ n) :
    remitterref05_Fold.f (k + 5 * l.length + 70) (bs l) (w : Int) (n : Int) = some ((foldL (keptL (bs l) w n) w).map bs, ((common (foldL (keptL (bs l) w n) w).flatten l : Nat) : Int)) := by
  have hsl : (subst (bs l)).length ≤ l.length := by
    have := subst_len (bs l)
    rw [bs_size] at this
    exact this
  unfold remitterref05_Fold.f
  rw [show k + 5 * l.length + 70 = (k + 4 * l.length + 9) + l.length + 61 by omega, sub_f l (by omega), Option.bind_some]
  obtain ⟨T, hT⟩ : ∃ T, subst (bs l) = T := ⟨_, rfl⟩
  rw [hT] at hsl ⊢
  have := fold_l0 l T w n hw hn (by omega) l.length 0 0 (k + 65) (by omega) (by omega) (by omega) (.inl (by omega))
  have e1 : linesAt T w 0 = [] := rfl
  have e2 : flatAt T w 0 0 = [] := by unfold flatAt; rw [lineAt_zero]; rfl
  rw [e1, e2, lineAt_zero] at this
  unfold keptL
  rw [hT]
  have e3 : common [] l = 0 := by cases l <;> rfl
  rw [e3] at this
  rw [show k + 4 * l.length + 9 + l.length + 61 = k + 65 + 5 * l.length + 5 by omega]
  simpa [bs] using this
end Go.Proofs.Ytjemnphmjbodfaa.PAll

/- The lines' laws in plain Lean: a text's lines, a line's tag, the set of a line. -/
import Derived.Test.YtkklccccjmipkaaDoorLLReadC
import Derived.Test.YtkklccccjmipkaaDoorLPLRfx4
import Derived.Lib.SplitLaws
namespace Go.Proofs.YtkklccccjmipkaaDoor.Pure
open Go.RowKit Go.Proofs.YtkklccccjmipkaaDoor.PAll Go.Proofs.YtkklccccjmipkaaDoorW.PrintWords GPlain
open Go.Proofs.YtkklccccjmipkaaDoor.Lin
set_option linter.unusedSimpArgs false
/-- A text's lines, byte by byte. -/
def pre (p : List UInt8) : List (List UInt8) → List (List UInt8)
  | [] => [p]
  | x :: xs => (p ++ x) :: xs
def cl : List UInt8 → List (List UInt8)
  | [] => [[]]
  | [a] => [[a]]
  | a :: b :: r => if a = 13 ∧ b = 10 then [] :: cl r else pre [a] (cl (b :: r))
theorem cl2 (a b : UInt8) (r : List UInt8) : cl (a :: b :: r) = if a = 13 ∧ b = 10 then [] :: cl r else pre [a] (cl (b :: r)) := by rw [cl]
theorem cl_ne : ∀ l, cl l ≠ []
  | [] => by unfold cl; exact List.cons_ne_nil _ _
  | [a] => by unfold cl; exact List.cons_ne_nil _ _
  | a :: b :: r => by
    unfold cl
    split
    · exact List.cons_ne_nil _ _
    · cases h : cl (b :: r) with
      | nil => exact List.cons_ne_nil _ _
      | cons x xs => exact List.cons_ne_nil _ _
theorem pre_nil {L : List (List UInt8)} (h : L ≠ []) : pre [] L = L := by
  cases L with
  | nil => exact absurd rfl h
  | cons x xs => rfl
theorem pre_pre (a b : List UInt8) : ∀ L, pre a (pre b L) = pre (a ++ b) L
  | [] => rfl
  | x :: xs => by simp only [pre, List.append_assoc]
theorem pre_append (a : List UInt8) : ∀ (L R : List (List UInt8)), L ≠ [] → pre a (L ++ R) = pre a L ++ R
  | [], R, h => absurd rfl h
  | x :: xs, R, _ => rfl
theorem cl_append : ∀ (s t : List UInt8), cl (s ++ 13 :: 10 :: t) = cl s ++ cl t
  | [], t => by
    show cl (13 :: 10 :: t) = _
    rw [cl2, if_pos ⟨rfl, rfl⟩]
    rfl
  | [a], t => by
    show cl (a :: 13 :: 10 :: t) = _
    rw [cl2, if_neg (by rintro ⟨_, h⟩; exact absurd h (by decide)), cl2, if_pos ⟨rfl, rfl⟩]
    show pre [a] ([[]] ++ cl t) = _
    rfl
  | a :: b :: r, t => by
    show cl (a :: b :: (r ++ 13 :: 10 :: t)) = _
    rw [cl2, cl2]
    by_cases h : a = 13 ∧ b = 10
    · rw [if_pos h, if_pos h, cl_append r t]; rfl
    · rw [if_neg h, if_neg h]
      have ih := cl_append (b :: r) t
      rw [List.cons_append] at ih
      rw [ih, pre_append _ _ _ (cl_ne _)]
theorem cl_join : ∀ (l : List UInt8), List.intercalate [13, 10] (cl l) = l
  | [] => rfl
  | [a] => rfl
  | a :: b :: r => by
    rw [cl]
    by_cases h : a = 13 ∧ b = 10
    · rw [if_pos h]
      have ih := cl_join r
      cases hc : cl r with
      | nil => exact absurd hc (cl_ne r)
      | cons x xs => rw [hc] at ih; rw [List.intercalate_cons_cons, ih, h.1, h.2]; rfl
    · rw [if_neg h]
      have ih := cl_join (b :: r)
      cases hc : cl (b :: r) with
      | nil => exact absurd hc (cl_ne _)
      | cons x xs =>
        rw [hc] at ih
        cases xs with
        | nil => rw [List.intercalate_singleton] at ih; show List.intercalate [13, 10] [[a] ++ x] = _; rw [List.intercalate_singleton, ih]; rfl
        | cons y ys => rw [List.intercalate_cons_cons] at ih; show List.intercalate [13, 10] (([a] ++ x) :: y :: ys) = _; rw [List.intercalate_cons_cons, List.append_assoc, List.append_assoc, ← List.append_assoc x, ih]; rfl
theorem cl_index : ∀ l : List UInt8, (Lib.index l [13, 10] = -1 → cl l = [l]) ∧ ∀ i : Nat, Lib.index l [13, 10] = i → cl l = l.take i :: cl (l.drop (i + 2))
  | [] => ⟨fun _ => rfl, fun i h => by have : Lib.index [] [13, 10] = -1 := rfl; omega⟩
  | [a] => by
    have e : Lib.index [a] [13, 10] = -1 := by
      have := Lib.index_room [a] [13, 10]
      have h2 := Lib.index_ge [a] [13, 10]
      simp only [List.length_cons, List.length_nil] at this
      by_cases h : 0 ≤ Lib.index [a] [13, 10]
      · have := this h; omega
      · omega
    exact ⟨fun _ => rfl, fun i h => by omega⟩
  | a :: b :: r => by
    have ih := cl_index (b :: r)
    rw [Lib.index]
    by_cases h : a = 13 ∧ b = 10
    · have hp : [13, 10].isPrefixOf (a :: b :: r) = true := by rw [h.1, h.2]; rfl
      rw [if_pos hp]
      refine ⟨fun h => absurd h (by decide), fun i hi => ?_⟩
      obtain rfl : i = 0 := by omega
      rw [cl2, if_pos h]
      rfl
    · have hp : ¬ [13, 10].isPrefixOf (a :: b :: r) = true := by
        intro hp
        simp only [List.isPrefixOf, Bool.and_eq_true, beq_iff_eq, Bool.and_true] at hp
        exact h ⟨hp.1.symm, hp.2.symm⟩
      rw [if_neg hp, cl2, if_neg h]
      by_cases hm : Lib.index (b :: r) [13, 10] = -1
      · rw [if_pos (beq_iff_eq.2 hm), ih.1 hm]
        exact ⟨fun _ => rfl, fun i hi => by omega⟩
      · rw [if_neg (fun e => hm (beq_iff_eq.1 e))]
        have hg := Lib.index_ge (b :: r) [13, 10]
        refine ⟨fun e => by omega, fun i hi => ?_⟩
        obtain ⟨j, rfl⟩ : ∃ j, i = j + 1 := ⟨i - 1, by omega⟩
        rw [ih.2 j (by omega)]
        rfl
theorem splitK_cl : ∀ (k : Nat) (l : List UInt8), l.length ≤ k → Lib.splitK [13, 10] 0 k l = cl l
  | 0, l, h => by
    cases l with
    | nil => rfl
    | cons a r => simp at h
  | k + 1, l, h => by
    rw [Lib.splitK]
    have hc := cl_index l
    by_cases hm : Lib.index l [13, 10] = -1
    · rw [if_pos (beq_iff_eq.2 hm), hc.1 hm]
    · rw [if_neg (fun e => hm (beq_iff_eq.1 e))]
      have hg := Lib.index_ge l [13, 10]
      obtain ⟨i, hi⟩ : ∃ i : Nat, Lib.index l [13, 10] = i := ⟨(Lib.index l [13, 10]).toNat, by omega⟩
      rw [hc.2 i hi, hi]
      have hr := Lib.index_room l [13, 10] (by omega)
      rw [hi] at hr
      simp only [List.length_cons, List.length_nil] at hr
      rw [splitK_cl k _ (by rw [List.length_drop]; simp only [List.length_cons, List.length_nil]; omega)]
      rfl
theorem linesB_cl (l : List UInt8) : linesB (bs l) = (cl l).map bs := by
  have h := Lib.splitB_data crlf 0 (bs l).size (bs l)
  have e : crlf.data.toList = [13, 10] := rfl
  rw [e, bs_data, splitK_cl _ _ (by rw [bs_size]; exact Nat.le_refl _)] at h
  rw [← h, List.map_map]
  unfold linesB
  rw [show (bs ∘ fun (x : ByteArray) => x.data.toList) = id from funext fun x => (bs_of x).symm, List.map_id]
theorem cl_length : ∀ l : List UInt8, (cl l).length ≤ l.length + 1
  | [] => Nat.le_refl _
  | [a] => by show 1 ≤ _; omega
  | a :: b :: r => by
    rw [cl]
    split
    · have := cl_length r; simp only [List.length_cons]; omega
    · have := cl_length (b :: r)
      cases hc : cl (b :: r) with
      | nil => exact absurd hc (cl_ne _)
      | cons x xs => rw [hc] at this; simp only [pre, List.length_cons] at this ⊢; omega
theorem drop_at {l : List UInt8} {i : Nat} (h : i < l.length) : l.drop i = l[i] :: l.drop (i + 1) := List.drop_eq_getElem_cons h
theorem getD_at {l : List UInt8} {i : Nat} (h : i < l.length) : l.getD i 0 = l[i] := by rw [List.getD_eq_getElem?_getD, List.getElem?_eq_getElem h]; rfl
theorem piece_next (s : List UInt8) (a i : Nat) (ha : a ≤ i) (hi : i < s.length) : (s.take (i + 1)).drop a = (s.take i).drop a ++ [s[i]] := by
  rw [List.take_add_one, List.getElem?_eq_getElem hi, List.drop_append_of_le_length (by rw [List.length_take]; omega)]; rfl
theorem cut_l0 (s : List UInt8) (hs : s.length ≤ 1000000) : ∀ (m i a k : Nat) (out : List ByteArray), s.length - i ≤ m → i ≤ s.length → a ≤ i → out.length ≤ i → m < k →
    remitterref15_Cut.l0 k (bs s) out (a : Int) (i : Int) = some (out ++ (pre ((s.take i).drop a) (cl (s.drop i))).map bs) := by
  intro m
  induction m using Nat.strongRecOn with
  | ind m ih =>
    intro i a k out hm hi ha ho hk
    obtain ⟨k, rfl⟩ : ∃ k', k = k' + 1 := ⟨k - 1, by omega⟩
    rw [remitterref15_Cut.l0, wrap_ok (x := (i : Int) + 1) (by omega) (by omega), bs_size]
    by_cases h1 : i + 1 < s.length
    · rw [if_pos (by omega), if_pos (by omega), if_pos (by omega), bt_nat]
      have hd1 : s.drop i = s[i] :: s[i + 1] :: s.drop (i + 2) := by rw [drop_at (by omega), drop_at h1]
      have g0 : s.getD i 0 = s[i] := getD_at (by omega)
      have g1 : s.getD (i + 1) 0 = s[i + 1] := getD_at h1
      have e1 : ((i : Int) + 1) = ((i + 1 : Nat) : Int) := by omega
      rw [e1, bt_nat, g0, g1]
      have miss : ¬ (s[i] = 13 ∧ s[i + 1] = 10) → remitterref15_Cut.l0 k (bs s) out (a : Int) ((i + 1 : Nat) : Int) = some (out ++ (pre ((s.take i).drop a) (cl (s.drop i))).map bs) := by
        intro hn
        rw [ih (m - 1) (by omega) (i + 1) a k out (by omega) (by omega) (by omega) (by omega) (by omega), piece_next s a i ha (by omega), hd1, cl2, if_neg hn, pre_pre, ← drop_at h1]
      by_cases h13 : s[i] = 13
      · rw [if_pos (by rw [h13]; rfl), if_pos (by omega)]
        by_cases h10 : s[i + 1] = 10
        · rw [if_pos (by rw [h10]; rfl), if_pos (by omega), if_pos (by omega), if_pos (by omega), if_pos (by omega), if_pos (by omega), wrap_ok (x := (i : Int) + 2) (by omega) (by omega)]
          rw [show ((a : Int)).toNat = a by omega, show ((i : Int)).toNat = i by omega, show ((i : Int) + 2) = ((i + 2 : Nat) : Int) by omega]
          obtain ⟨k, rfl⟩ : ∃ k', k = k' + 1 := ⟨k - 1, by omega⟩
          have hgoal : some ((out ++ [(bs s).extract a i]) ++ (cl (s.drop (i + 2))).map bs) = some (out ++ (pre ((s.take i).drop a) (cl (s.drop i))).map bs) := by
            rw [hd1, cl2, if_pos ⟨h13, h10⟩, bs_extract, List.append_assoc]
            show _ = some (out ++ (((s.take i).drop a ++ []) :: cl (s.drop (i + 2))).map bs)
            rw [List.append_nil, List.map_cons]
            rfl
          rw [← hgoal, remitterref15_Cut.l0, wrap_ok (x := ((i + 1 : Nat) : Int) + 1) (by omega) (by omega), bs_size]
          by_cases h2 : i + 2 < s.length
          · rw [if_pos (by omega), if_pos (by omega), if_pos (by omega), bt_nat, g1, if_neg (by rw [h10]; decide), show (((i + 1 : Nat) : Int) + 1) = ((i + 2 : Nat) : Int) by omega]
            rw [ih (m - 2) (by omega) (i + 2) (i + 2) k (out ++ [(bs s).extract a i]) (by omega) (by omega) (by omega) (by rw [List.length_append]; simp only [List.length_cons, List.length_nil]; omega) (by omega)]
            rw [List.drop_of_length_le (by rw [List.length_take]; omega), pre_nil (cl_ne _)]
          · rw [if_neg (by omega), if_pos (by omega), if_pos (by omega), if_pos (by rw [List.length_append]; simp only [List.length_cons, List.length_nil]; omega)]
            have e2 : (bs s).extract (i + 2) s.length = bs [] := by rw [bs_extract, List.take_of_length_le (Nat.le_refl _), List.drop_of_length_le (by omega)]
            rw [show (((i + 2 : Nat) : Int)).toNat = i + 2 by omega, List.drop_of_length_le (l := s) (i := i + 2) (by omega), e2]
            rfl
        · rw [if_neg (by intro h; apply h10; apply UInt8.toNat_inj.1; show _ = 10; omega)]
          exact miss (fun h => h10 h.2)
      · rw [if_neg (by intro h; apply h13; apply UInt8.toNat_inj.1; show _ = 13; omega)]
        exact miss (fun h => h13 h.1)
    · rw [if_neg (by omega), if_pos (by omega), if_pos (by omega), if_pos (by omega), show ((a : Int)).toNat = a by omega, bs_extract, List.take_of_length_le (Nat.le_refl _)]
      have hl : cl (s.drop i) = [s.drop i] := by
        by_cases h2 : i < s.length
        · rw [drop_at h2, List.drop_of_length_le (by omega)]; rfl
        · rw [List.drop_of_length_le (by omega)]; rfl
      rw [hl]
      show _ = some (out ++ [bs ((s.take i).drop a ++ s.drop i)])
      have : (s.take i).drop a ++ s.drop i = s.drop a := by
        rw [← List.drop_append_of_le_length (by rw [List.length_take]; omega), List.take_append_drop]
      rw [this]
theorem cut_f (s : List UInt8) (hs : s.length ≤ 1000000) (k : Nat) (hk : s.length < k) : remitterref15_Cut.f k (bs s) = some ((cl s).map bs) := by
  unfold remitterref15_Cut.f
  have := cut_l0 s hs s.length 0 0 k [] (by omega) (by omega) (by omega) (by simp) hk
  rw [show ((0 : Nat) : Int) = 0 from rfl] at this
  rw [this]
  show some ([] ++ (pre [] (cl s)).map bs) = _
  rw [pre_nil (cl_ne _)]
  rfl
theorem in_all : ∀ c : Fin 256, remitterref05_In.f 14 88 (c.val : Int) = some (decide (0 ≤ Lib.indexByte setX (UInt8.ofNat c.val))) := by decide +kernel
theorem in_f (c : UInt8) (k : Nat) (hk : 14 ≤ k) : remitterref05_In.f k 88 (c.toNat : Int) = some (decide (0 ≤ Lib.indexByte setX c)) := by
  have h := in_all ⟨c.toNat, c.toNat_lt⟩
  rw [UInt8.ofNat_toNat] at h
  exact at_rounds (g := fun k => remitterref05_In.f k 88 (c.toNat : Int)) (fun k => remitterref05_In.mono _ _ k) hk h
theorem firstBad_cons (c : UInt8) (s : List UInt8) : badE setX (c :: s) = if 0 ≤ Lib.indexByte setX c then badE setX s else 15 := by
  unfold badE firstBad
  rw [List.findIdx_cons, List.length_cons]
  by_cases h : 0 ≤ Lib.indexByte setX c
  · rw [decide_eq_false (by omega), if_pos h]
    show (if _ + 1 < _ then _ else _) = _
    by_cases h2 : List.findIdx (fun c => decide (Lib.indexByte setX c < 0)) s < s.length
    · rw [if_pos (by omega), if_pos h2]
    · rw [if_neg (by omega), if_neg h2]
  · rw [decide_eq_true (by omega), if_neg h]
    show (if 0 < _ then _ else _) = _
    rw [if_pos (by omega)]
theorem xok_cons (c : UInt8) (s : List UInt8) : xokL (bs (c :: s)) = (decide (0 ≤ Lib.indexByte setX c) && xokL (bs s)) := by
  unfold xokL
  rw [bs_data, bs_data, firstBad_cons]
  by_cases h : 0 ≤ Lib.indexByte setX c
  · rw [if_pos h, decide_eq_true h]; rfl
  · rw [if_neg h, decide_eq_false h]; rfl
theorem x_l0 (s : List UInt8) (hs : s.length ≤ 1000000) : ∀ (n i k : Nat), i + n = s.length → n + 20 < k → remitterref12_X.l0 k (bs s) 78 (i : Int) = some (xokL (bs (s.drop i)) && decide (0 < s.length ∧ s.length ≤ 78)) := by
  intro n
  induction n with
  | zero =>
    intro i k hi hk
    obtain ⟨k, rfl⟩ : ∃ k', k = k' + 1 := ⟨k - 1, by omega⟩
    rw [remitterref12_X.l0, bs_size, if_neg (by omega), List.drop_of_length_le (by omega)]
    rw [show xokL (bs []) = true from rfl, Bool.true_and]
    by_cases h : 0 < s.length
    · rw [if_pos (by omega)]
      congr 1
      by_cases h2 : s.length ≤ 78
      · rw [decide_eq_true (p := 0 < s.length ∧ s.length ≤ 78) ⟨h, h2⟩, decide_eq_true (by omega)]
      · rw [decide_eq_false (p := 0 < s.length ∧ s.length ≤ 78) (fun h => h2 h.2), decide_eq_false (by omega)]
    · rw [if_neg (by omega), decide_eq_false (p := 0 < s.length ∧ s.length ≤ 78) (fun h2 => h h2.1)]
  | succ n ih =>
    intro i k hi hk
    obtain ⟨k, rfl⟩ : ∃ k', k = k' + 1 := ⟨k - 1, by omega⟩
    rw [remitterref12_X.l0, bs_size, if_pos (by omega), if_pos (by omega), bt_nat, getD_at (by omega), in_f _ k (by omega), Option.bind_some, wrap_ok (x := (i : Int) + 1) (by omega) (by omega), show ((i : Int) + 1) = ((i + 1 : Nat) : Int) by omega, ih (i + 1) k (by omega) (by omega)]
    rw [drop_at (l := s) (i := i) (by omega), xok_cons]
    by_cases h : 0 ≤ Lib.indexByte setX s[i]
    · rw [decide_eq_true (p := 0 ≤ Lib.indexByte setX s[i]) h, if_pos rfl, Bool.true_and]
    · rw [decide_eq_false (p := 0 ≤ Lib.indexByte setX s[i]) h]; rfl
theorem x_f (s : List UInt8) (hs : s.length ≤ 1000000) (k : Nat) (hk : s.length + 20 < k) : remitterref12_X.f k (bs s) 78 = some (xokL (bs s) && decide (0 < s.length ∧ s.length ≤ 78)) := by
  unfold remitterref12_X.f
  exact x_l0 s hs s.length 0 k (by omega) hk
def dg (c : UInt8) : Bool := decide (48 ≤ c.toNat ∧ c.toNat ≤ 57)
theorem digs_all : ∀ c : Fin 256, digs10.contains (UInt8.ofNat c.val) = decide (48 ≤ c.val ∧ c.val ≤ 57) := by decide +kernel
theorem digs_in (c : UInt8) : digs10.contains c = dg c := by
  have h := digs_all ⟨c.toNat, c.toNat_lt⟩
  rw [UInt8.ofNat_toNat] at h
  exact h
theorem digit_f (c : UInt8) : remitterref15_digit.f (c.toNat : Int) = some (dg c) := by
  unfold remitterref15_digit.f dg
  by_cases h : 48 ≤ c.toNat
  · rw [if_pos (by omega)]
    congr 1
    by_cases h2 : c.toNat ≤ 57
    · rw [decide_eq_true (by omega), decide_eq_true (p := 48 ≤ c.toNat ∧ c.toNat ≤ 57) ⟨h, h2⟩]
    · rw [decide_eq_false (by omega), decide_eq_false (p := 48 ≤ c.toNat ∧ c.toNat ≤ 57) (fun h => h2 h.2)]
  · rw [if_neg (by omega), decide_eq_false (p := 48 ≤ c.toNat ∧ c.toNat ≤ 57) (fun h2 => h h2.1)]
theorem dropWhile_nil (p : UInt8 → Bool) : ∀ l : List UInt8, l.dropWhile p = [] ↔ ∀ c ∈ l, p c = true
  | [] => by simp
  | a :: l => by
    rw [List.dropWhile_cons]
    by_cases h : p a = true
    · rw [if_pos h, dropWhile_nil p l]; simp [h]
    · rw [if_neg h]; simp [h]
theorem trim2 (a b : UInt8) : (Lib.trimS [a, b] digs10).isEmpty = (dg a && dg b) := by
  have hc := digs_in
  unfold Lib.trimS Lib.trimLeftS Lib.trimRightS
  simp only [List.reverse_cons, List.reverse_nil, List.nil_append, List.cons_append]
  rw [List.dropWhile_cons, List.dropWhile_cons]
  rw [hc a, hc b]
  have ea := hc a
  have eb := hc b
  cases ha : dg a <;> cases hb : dg b <;> rw [ha] at ea <;> rw [hb] at eb <;> simp only [Bool.false_eq_true, ↓reduceIte, List.dropWhile_nil, List.reverse_nil, List.reverse_cons, List.nil_append, List.cons_append, List.dropWhile_cons, ea, eb] <;> rfl
/-- Does a line begin a field, and how long is its tag? -/
def tagN : List UInt8 → Nat
  | 58 :: a :: b :: c :: r => if dg a = true ∧ dg b = true then (if c = 58 then 2 else if 65 ≤ c.toNat ∧ c.toNat ≤ 90 ∧ r.head? = some 58 then 3 else 0) else 0
  | _ => 0
theorem tg_cons (u : List UInt8) : tgL (bs (58 :: u)) = (bs (Lib.cut u [58]).1, bs (Lib.cut u [58]).2.1, (Lib.cut u [58]).2.2 && decide (2 ≤ (Lib.cut u [58]).1.length) && (Lib.trimS ((Lib.cut u [58]).1.take 2) digs10).isEmpty && (decide ((Lib.cut u [58]).1.length = 2) || (decide ((Lib.cut u [58]).1.length = 3) && decide (65 ≤ (((Lib.cut u [58]).1.getD 2 0).toNat : Int)) && decide ((((Lib.cut u [58]).1.getD 2 0).toNat : Int) ≤ 90)))) := by
  unfold tgL
  have hp : Lib.hasPrefix (bs (58 :: u)).data.toList [58] = true := by rw [bs_data]; unfold Lib.hasPrefix; simp [List.isPrefixOf]
  rw [if_pos hp]
  have e : (bs (58 :: u)).extract 1 (bs (58 :: u)).size = bs u := by rw [bs_size, bs_extract, List.take_of_length_le (Nat.le_refl _)]; rfl
  rw [e]
  unfold cutV
  rw [bs_data, show (⟨#[58]⟩ : ByteArray).data.toList = [58] from rfl]
  dsimp only
  have e2 : ((bs (Lib.cut u [58]).1).extract 0 2).data.toList = (Lib.cut u [58]).1.take 2 := by rw [bs_extract, bs_data]; rfl
  rw [e2, bs_size, bs_toList, show (2 : Int) = ((2 : Nat) : Int) from rfl, bt_nat]
theorem cut_hit (u : List UInt8) (i : Nat) (h : Lib.indexByte u 58 = i) : Lib.cut u [58] = (u.take i, u.drop (i + 1), true) := by
  unfold Lib.cut
  rw [Lib.index_one, h, if_pos (by omega)]
  rfl
theorem cut_miss (u : List UInt8) (h : Lib.indexByte u 58 = -1) : Lib.cut u [58] = (u, [], false) := by
  unfold Lib.cut
  rw [Lib.index_one, h, if_neg (by omega)]
theorem ib_cons (a : UInt8) (u : List UInt8) (h : a ≠ 58) : Lib.indexByte (a :: u) 58 = if Lib.indexByte u 58 = -1 then -1 else Lib.indexByte u 58 + 1 := by
  rw [Lib.indexByte, if_neg (fun e => h (beq_iff_eq.1 e))]
  by_cases hm : Lib.indexByte u 58 = -1
  · rw [if_pos hm, if_pos (beq_iff_eq.2 hm)]
  · rw [if_neg hm, if_neg (fun e => hm (beq_iff_eq.1 e))]
theorem ib_hit (u : List UInt8) : Lib.indexByte (58 :: u) 58 = 0 := by rw [Lib.indexByte, if_pos (beq_self_eq_true _)]
theorem dg58 : dg 58 = false := by decide
theorem tagN_c (a b c : UInt8) (r : List UInt8) : tagN (58 :: a :: b :: c :: r) = if dg a = true ∧ dg b = true then (if c = 58 then 2 else if 65 ≤ c.toNat ∧ c.toNat ≤ 90 ∧ r.head? = some 58 then 3 else 0) else 0 := by rw [tagN]
theorem tagN_other (c : UInt8) (u : List UInt8) (h : c ≠ 58) : tagN (c :: u) = 0 := by
  unfold tagN
  split
  · rename_i e; injection e with e1; exact absurd e1 h
  · rfl
theorem tagN_short (x : UInt8) (u : List UInt8) (h : u.length ≤ 2) : tagN (x :: u) = 0 := by
  by_cases hx : x = 58
  · subst hx
    match u with
    | [] => rfl
    | [a] => rfl
    | [a, b] => rfl
    | a :: b :: c :: r => simp only [List.length_cons] at h; omega
  · exact tagN_other x u hx
theorem tg_spec (s : List UInt8) : (tgL (bs s)).2.2 = decide (0 < tagN s) ∧ (0 < tagN s → (tgL (bs s)).1 = (bs s).extract 1 (1 + tagN s) ∧ (tgL (bs s)).2.1 = (bs s).extract (2 + tagN s) s.length ∧ 2 + tagN s ≤ s.length ∧ (tagN s = 2 ∨ tagN s = 3)) := by
  have none : ∀ u : List UInt8, (tgL (bs u)).2.2 = false → tagN u = 0 → (tgL (bs u)).2.2 = decide (0 < tagN u) ∧ (0 < tagN u → (tgL (bs u)).1 = (bs u).extract 1 (1 + tagN u) ∧ (tgL (bs u)).2.1 = (bs u).extract (2 + tagN u) u.length ∧ 2 + tagN u ≤ u.length ∧ (tagN u = 2 ∨ tagN u = 3)) := by
    intro u h1 h2
    rw [h1, h2]
    exact ⟨rfl, fun h => absurd h (Nat.lt_irrefl 0)⟩
  cases s with
  | nil => exact none [] (by decide) rfl
  | cons x u =>
    by_cases hx : x = 58
    · subst hx
      have short : ∀ v : List UInt8, v.length ≤ 2 → (tgL (bs (58 :: v))).2.2 = false := by
        intro v hv
        rw [tg_cons]
        have hl : (Lib.cut v [58]).2.2 = true → (Lib.cut v [58]).1.length < 2 := by
          intro h
          have hg := Lib.indexByte_ge v 58
          by_cases hm : Lib.indexByte v 58 = -1
          · rw [cut_miss v hm] at h; cases h
          · obtain ⟨i, hi⟩ : ∃ i : Nat, Lib.indexByte v 58 = i := ⟨(Lib.indexByte v 58).toNat, by omega⟩
            have hr := Lib.index_room v [58] (by rw [Lib.index_one]; omega)
            rw [Lib.index_one, hi] at hr
            simp only [List.length_cons, List.length_nil] at hr
            rw [cut_hit v i hi, List.length_take]
            omega
        cases hb : (Lib.cut v [58]).2.2 with
        | false => rfl
        | true => rw [decide_eq_false (p := 2 ≤ (Lib.cut v [58]).1.length) (by have := hl hb; omega)]; rfl
      match u with
      | [] => exact none _ (short _ (by simp)) rfl
      | [a] => exact none _ (short _ (by simp)) rfl
      | [a, b] => exact none _ (short _ (by simp)) rfl
      | a :: b :: c :: r =>
        by_cases ha : a = 58
        · subst ha
          refine none _ ?_ (by rw [tagN_c, if_neg (by rintro ⟨h, _⟩; rw [dg58] at h; cases h)])
          rw [tg_cons, cut_hit _ 0 (ib_hit _)]
          rfl
        · by_cases hb : b = 58
          · subst hb
            refine none _ ?_ (by rw [tagN_c, if_neg (by rintro ⟨_, h⟩; rw [dg58] at h; cases h)])
            rw [tg_cons, cut_hit _ 1 (by rw [ib_cons a _ ha, ib_hit]; rfl)]
            rfl
          · have key : ∀ i : Nat, 2 ≤ i → Lib.indexByte (a :: b :: c :: r) 58 = i → (tgL (bs (58 :: a :: b :: c :: r))).2.2 = (dg a && dg b && (decide (((a :: b :: c :: r).take i).length = 2) || (decide (((a :: b :: c :: r).take i).length = 3) && decide (65 ≤ (((((a :: b :: c :: r).take i)).getD 2 0).toNat : Int)) && decide ((((((a :: b :: c :: r).take i)).getD 2 0).toNat : Int) ≤ 90)))) := by
              intro i hi h
              have hr := Lib.index_room (a :: b :: c :: r) [58] (by rw [Lib.index_one]; omega)
              rw [Lib.index_one, h] at hr
              simp only [List.length_cons, List.length_nil] at hr
              rw [tg_cons, cut_hit _ i h]
              have e3 : ((a :: b :: c :: r).take i).take 2 = [a, b] := by rw [List.take_take, Nat.min_eq_left hi]; rfl
              dsimp only
              rw [e3, trim2, decide_eq_true (p := 2 ≤ ((a :: b :: c :: r).take i).length) (by rw [List.length_take]; simp only [List.length_cons]; omega), Bool.true_and, Bool.true_and]
            by_cases hc : c = 58
            · subst hc
              have hi : Lib.indexByte (a :: b :: 58 :: r) 58 = ((2 : Nat) : Int) := by rw [ib_cons a _ ha, ib_cons b _ hb, ib_hit]; rfl
              have hk := key 2 (Nat.le_refl _) hi
              rw [tagN_c, if_pos rfl]
              by_cases hd : dg a = true ∧ dg b = true
              · rw [if_pos hd, hk, hd.1, hd.2]
                refine ⟨rfl, fun _ => ⟨?_, ?_, by simp only [List.length_cons]; omega, .inl rfl⟩⟩
                · rw [tg_cons, cut_hit _ 2 hi, bs_extract]; rfl
                · rw [tg_cons, cut_hit _ 2 hi, bs_extract, List.take_of_length_le (Nat.le_refl _)]; rfl
              · rw [if_neg hd, hk]
                refine ⟨?_, fun h => absurd h (Nat.lt_irrefl 0)⟩
                cases h1 : dg a
                · rfl
                · cases h2 : dg b
                  · rfl
                  · exact absurd ⟨h1, h2⟩ hd
            · rw [tagN_c, if_neg hc]
              cases r with
              | nil =>
                have hi : Lib.indexByte [a, b, c] 58 = -1 := by rw [ib_cons a _ ha, ib_cons b _ hb, ib_cons c _ hc]; rfl
                have h0 : (if dg a = true ∧ dg b = true then (if 65 ≤ c.toNat ∧ c.toNat ≤ 90 ∧ ([] : List UInt8).head? = some 58 then 3 else 0) else 0) = 0 := by
                  split
                  · exact if_neg (by rintro ⟨_, _, h⟩; cases h)
                  · rfl
                rw [h0]
                refine ⟨?_, fun h => absurd h (Nat.lt_irrefl 0)⟩
                rw [tg_cons, cut_miss _ hi]
                rfl
              | cons d r =>
                by_cases hd : d = 58
                · subst hd
                  have hi : Lib.indexByte (a :: b :: c :: 58 :: r) 58 = ((3 : Nat) : Int) := by rw [ib_cons a _ ha, ib_cons b _ hb, ib_cons c _ hc, ib_hit]; rfl
                  have hk := key 3 (by omega) hi
                  have hk2 : (tgL (bs (58 :: a :: b :: c :: 58 :: r))).2.2 = (dg a && dg b && (decide (65 ≤ (c.toNat : Int)) && decide ((c.toNat : Int) ≤ 90))) := hk.trans (by
                    show (dg a && dg b && (false || (true && decide (65 ≤ (c.toNat : Int)) && decide ((c.toNat : Int) ≤ 90)))) = _
                    rw [Bool.false_or, Bool.true_and])
                  by_cases hg : (dg a = true ∧ dg b = true) ∧ (65 ≤ c.toNat ∧ c.toNat ≤ 90)
                  · rw [if_pos hg.1, if_pos ⟨hg.2.1, hg.2.2, rfl⟩, hk2, hg.1.1, hg.1.2, decide_eq_true (p := 65 ≤ (c.toNat : Int)) (by have := hg.2.1; omega), decide_eq_true (p := (c.toNat : Int) ≤ 90) (by have := hg.2.2; omega)]
                    refine ⟨rfl, fun _ => ⟨?_, ?_, by simp only [List.length_cons]; omega, .inr rfl⟩⟩
                    · rw [tg_cons, cut_hit _ 3 hi, bs_extract]; rfl
                    · rw [tg_cons, cut_hit _ 3 hi, bs_extract, List.take_of_length_le (Nat.le_refl _)]; rfl
                  · have h0 : (if dg a = true ∧ dg b = true then (if 65 ≤ c.toNat ∧ c.toNat ≤ 90 ∧ ((58 :: r) : List UInt8).head? = some 58 then 3 else 0) else 0) = 0 := by
                      split
                      · rename_i h1; exact if_neg (by rintro ⟨h2, h3, _⟩; exact hg ⟨h1, h2, h3⟩)
                      · rfl
                    rw [h0, hk2]
                    refine ⟨?_, fun h => absurd h (Nat.lt_irrefl 0)⟩
                    show _ = false
                    rw [Bool.eq_false_iff]
                    intro h
                    simp only [Bool.and_eq_true, decide_eq_true_eq] at h
                    exact hg ⟨h.1, by have := h.2.1; omega, by have := h.2.2; omega⟩
                · have h0 : (if dg a = true ∧ dg b = true then (if 65 ≤ c.toNat ∧ c.toNat ≤ 90 ∧ ((d :: r) : List UInt8).head? = some 58 then 3 else 0) else 0) = 0 := by
                    split
                    · exact if_neg (by rintro ⟨_, _, h⟩; injection h with h; exact hd h)
                    · rfl
                  rw [h0]
                  refine ⟨?_, fun h => absurd h (Nat.lt_irrefl 0)⟩
                  show _ = false
                  have hg := Lib.indexByte_ge r 58
                  by_cases hm : Lib.indexByte r 58 = -1
                  · rw [tg_cons, cut_miss _ (by rw [ib_cons a _ ha, ib_cons b _ hb, ib_cons c _ hc, ib_cons d _ hd, hm]; rfl)]
                    rfl
                  · obtain ⟨j, hj⟩ : ∃ j : Nat, Lib.indexByte r 58 = j := ⟨(Lib.indexByte r 58).toNat, by omega⟩
                    have hi : Lib.indexByte (a :: b :: c :: d :: r) 58 = ((j + 4 : Nat) : Int) := by
                      rw [ib_cons a _ ha, ib_cons b _ hb, ib_cons c _ hc, ib_cons d _ hd, hj, if_neg (by omega), if_neg (by omega), if_neg (by omega), if_neg (by omega)]
                      omega
                    have hr := Lib.index_room (a :: b :: c :: d :: r) [58] (by rw [Lib.index_one]; omega)
                    rw [Lib.index_one, hi] at hr
                    simp only [List.length_cons, List.length_nil] at hr
                    rw [key _ (by omega) hi, List.length_take, decide_eq_false (p := min (j + 4) (a :: b :: c :: d :: r).length = 2) (by simp only [List.length_cons]; omega), decide_eq_false (p := min (j + 4) (a :: b :: c :: d :: r).length = 3) (by simp only [List.length_cons]; omega)]
                    simp
    · refine none _ ?_ (tagN_other x u hx)
      have hp : ¬ Lib.hasPrefix (bs (x :: u)).data.toList [58] = true := by
        rw [bs_data]
        unfold Lib.hasPrefix
        intro h
        simp only [List.isPrefixOf, Bool.and_eq_true, beq_iff_eq, Bool.and_true] at h
        exact hx h.symm
      unfold tgL
      rw [if_neg hp]
/-- The document's tag. -/
theorem tag_r (s : List UInt8) (k : Nat) (hk : 1 ≤ k) : remitterref15_tag.f k (bs s) = some ((tagN s : Nat) : Int) := by
  obtain ⟨k, rfl⟩ : ∃ k', k = k' + 1 := ⟨k - 1, by omega⟩
  have jf : remitterref15_tag.j0 (k + 1) (bs s) false = some 0 := by rw [remitterref15_tag.j0]; rfl
  unfold remitterref15_tag.f
  rw [jf, bs_size]
  match s with
  | [] => rfl
  | [x] => rw [if_neg (by simp only [List.length_cons, List.length_nil]; omega), tagN_short x [] (by simp)]; rfl
  | [x, a] => rw [if_neg (by simp only [List.length_cons, List.length_nil]; omega), tagN_short x [a] (by simp)]; rfl
  | [x, a, b] => rw [if_neg (by simp only [List.length_cons, List.length_nil]; omega), tagN_short x [a, b] (by simp)]; rfl
  | x :: a :: b :: c :: r =>
    have hl : ((x :: a :: b :: c :: r).length : Int) = (r.length : Int) + 4 := by simp only [List.length_cons]; omega
    have b0 : bt (bs (x :: a :: b :: c :: r)) 0 = (x.toNat : Int) := by rw [show (0 : Int) = ((0 : Nat) : Int) from rfl, bt_nat]; rfl
    have b1 : bt (bs (x :: a :: b :: c :: r)) 1 = (a.toNat : Int) := by rw [show (1 : Int) = ((1 : Nat) : Int) from rfl, bt_nat]; rfl
    have b2 : bt (bs (x :: a :: b :: c :: r)) 2 = (b.toNat : Int) := by rw [show (2 : Int) = ((2 : Nat) : Int) from rfl, bt_nat]; rfl
    have b3 : bt (bs (x :: a :: b :: c :: r)) 3 = (c.toNat : Int) := by rw [show (3 : Int) = ((3 : Nat) : Int) from rfl, bt_nat]; rfl
    rw [hl, if_pos (by omega), if_pos (by omega), b0]
    by_cases hx : x = 58
    · subst hx
      rw [if_pos (show ((UInt8.toNat 58 : Nat) : Int) = 58 from rfl), if_pos (by omega), b1, digit_f, Option.bind_some, tagN_c]
      by_cases ha : dg a = true
      · rw [if_pos ha, if_pos (by omega), b2, digit_f, Option.bind_some]
        by_cases hb : dg b = true
        · rw [if_pos ⟨ha, hb⟩, remitterref15_tag.j0, if_pos hb, bs_size, hl, if_pos (by omega), b3]
          by_cases hc : c = 58
          · subst hc; rfl
          · rw [if_neg (by intro h; apply hc; apply UInt8.toNat_inj.1; show _ = 58; omega), if_neg hc]
            cases r with
            | nil =>
              rw [if_neg (by simp only [List.length_nil]; omega), if_neg (by rintro ⟨_, _, h⟩; cases h)]; rfl
            | cons d r =>
              have b4 : bt (bs (58 :: a :: b :: c :: d :: r)) 4 = (d.toNat : Int) := by rw [show (4 : Int) = ((4 : Nat) : Int) from rfl, bt_nat]; rfl
              rw [b4, if_pos (by simp only [List.length_cons]; omega)]
              by_cases h65 : 65 ≤ c.toNat
              · rw [if_pos (by omega)]
                by_cases h90 : c.toNat ≤ 90
                · rw [if_pos (by omega), if_pos (by simp only [List.length_cons]; omega)]
                  by_cases hd : d = 58
                  · subst hd; rw [if_pos (show ((UInt8.toNat 58 : Nat) : Int) = 58 from rfl), if_pos ⟨h65, h90, rfl⟩]; rfl
                  · rw [if_neg (by intro h; apply hd; apply UInt8.toNat_inj.1; show _ = 58; omega), if_neg (by rintro ⟨_, _, h⟩; injection h with h; exact hd h)]; rfl
                · rw [if_neg (by omega), if_neg (by rintro ⟨_, h, _⟩; exact h90 h)]; rfl
              · rw [if_neg (by omega), if_neg (by rintro ⟨h, _, _⟩; exact h65 h)]; rfl
        · rw [if_neg (fun h => hb h.2), Bool.eq_false_iff.2 hb, jf]; rfl
      · rw [if_neg ha, if_neg (fun h => ha h.1)]; rfl
    · rw [if_neg (by intro h; apply hx; apply UInt8.toNat_inj.1; show _ = 58; omega), tagN_other x _ hx]; rfl
end Go.Proofs.YtkklccccjmipkaaDoor.Pure

/- The contract of decimal.text, by hand. -/
import Derived.Test.YtggakekljbgeoaaDoorGWide
import Derived.Test.YtggakekljbgeoaaDoorGWorld
import Derived.Test.YtggakekljbgeoaaDoorGAdd
namespace Go.Proofs.YtggakekljbgeoaaDoor.PAll
open Go.RowKit Go.Sort GPlain
set_option linter.unusedSimpArgs false
set_option linter.unusedVariables false

theorem join_plain (a b c d : List UInt8) : Lib.join [a, b, c, d] [] = a ++ b ++ c ++ d := by
  simp [Lib.join, List.intercalate, List.intersperse]
theorem join4_walk (bk : Nat) (a b c d : List UInt8) (w : World) (h1 : w.cell? ⟨bk, 0, none⟩ = some (.string (bs a))) (h2 : w.cell? ⟨bk, 1, none⟩ = some (.string (bs b))) (h3 : w.cell? ⟨bk, 2, none⟩ = some (.string (bs c))) (h4 : w.cell? ⟨bk, 3, none⟩ = some (.string (bs d)))
    (hl : a.length + b.length + c.length + d.length ≤ 1048576) :
    Calls Tryd.prog 64 #[.slice (some ⟨bk, 0, none⟩) 4 4, .string ⟨#[]⟩] w fun e w' => e = .returned (.string (bs (a ++ b ++ c ++ d))) ∧ Below w.heap.size w w' := by
  have hj : Lib.join (([bs a, bs b, bs c, bs d] : List ByteArray).map (·.data.toList)) (⟨#[]⟩ : ByteArray).data.toList = a ++ b ++ c ++ d := by
    simp only [List.map_cons, List.map_nil, bs_data]
    exact join_plain a b c d
  have := Tryd.strings_Join bk 0 4 [bs a, bs b, bs c, bs d] ⟨#[]⟩ w (fun j x hx => by
    match j, hx with
    | 0, hx => obtain rfl : bs a = x := by simpa using hx
               exact h1
    | 1, hx => obtain rfl : bs b = x := by simpa using hx
               exact h2
    | 2, hx => obtain rfl : bs c = x := by simpa using hx
               exact h3
    | 3, hx => obtain rfl : bs d = x := by simpa using hx
               exact h4
    | j + 4, hx => simp at hx) (World.block_lt_of_cell? _ _ h1) (by simp) (by simp) (by rw [hj]; simp; omega)
  rw [hj] at this
  exact this
theorem joinc_walk (bk : Nat) (a b c d : List UInt8) (w : World) (h1 : w.cell? ⟨bk, 0, none⟩ = some (.string (bs a))) (h2 : w.cell? ⟨bk, 1, none⟩ = some (.string (bs b))) (h3 : w.cell? ⟨bk, 2, none⟩ = some (.string (bs c))) (h4 : w.cell? ⟨bk, 3, none⟩ = some (.string (bs d)))
    (hl : a.length + b.length + c.length + d.length ≤ 1048576) (T : ByteArray) (hT : Hid (bs (a ++ b ++ c ++ d) = T)) :
    Calls Tryd.prog 63 #[.slice (some ⟨bk, 0, none⟩) 4 4] w fun e w' => e = .returned (.string T) ∧ Below w.heap.size w w' := by
  have J := join4_walk bk a b c d w h1 h2 h3 h4 hl
  rw [hT.out] at J
  have J := Lib.hid J
  clear h1 h2 h3 h4 hT
  go_enter Tryd.func63, Tryd.ntmps63
  go_wp2_with (go_at_call 64; refine J.out.mono ?_; rintro e w1 ⟨rfl, hb1⟩)
  go_ret
  exact ⟨rfl, hb1⟩
theorem below_grow1 (w : World) (k : Nat) (os : Array Obj) : Below w.heap.size w (grow (w.drewN k) os) := by
  refine ⟨rfl, rfl, rfl, ?_, fun i hi => ?_⟩
  · show w.heap.size ≤ (w.heap ++ os).size
    simp
  · show (w.heap ++ os)[i]? = w.heap[i]?
    rw [Array.getElem?_append_left hi]
theorem format_walk (n : Nat) (hn : n < 1000000000000000000) (x : Int) (hx : x = (n : Int)) (T : ByteArray) (hT : bs (Lib.decDigits n) = T) (w : World) (hG : GWP w) :
    Calls Tryd.prog 65 #[.int .i64 x, .int .i64 10] w fun e w' => e = .returned (.string T) ∧ Below w.heap.size w w' := by
  subst hx hT
  refine (Tryd.strconv_FormatInt_10 n (by omega) (by omega) w hG).mono ?_
  rintro e w' ⟨rfl, k, os, rfl⟩
  refine ⟨?_, below_grow1 _ _ _⟩
  unfold Lib.itoa
  rw [if_neg (by omega)]
  rfl
theorem repeat_zero (c : Nat) : Lib.repeatL [48] c = List.replicate c 48 := by
  induction c with
  | zero => rfl
  | succ c ih => simp only [Lib.repeatL, ih, List.replicate_succ]; rfl
theorem repeat_walk (c : Nat) (hc : c ≤ 1000) (x : Int) (hx : x = (c : Int)) (w : World) :
    Calls Tryd.prog 66 #[.string ⟨#[48]⟩, .int .i64 x] w fun e w' => e = .returned (.string (bs (List.replicate c 48))) ∧ Below w.heap.size w w' := by
  subst hx
  refine (Tryd.strings_Repeat ⟨#[48]⟩ c w (by omega) (by show 1 * c ≤ _; omega)).mono ?_
  rintro e w' ⟨rfl, hb⟩
  exact ⟨by show Ending.returned (Value.string ⟨(Lib.repeatL [48] c).toArray⟩) = _; rw [repeat_zero]; rfl, hb⟩
theorem joinT (bk : Nat) (x1 x2 x3 x4 T : ByteArray) (a b c d : List UInt8) (e1 : bs a = x1) (e2 : bs b = x2) (e3 : bs c = x3) (e4 : bs d = x4) (hT : bs (a ++ b ++ c ++ d) = T) (hl : a.length + b.length + c.length + d.length ≤ 1048576) (w : World)
    (h1 : w.cell? ⟨bk, 0, none⟩ = some (.string x1)) (h2 : w.cell? ⟨bk, 1, none⟩ = some (.string x2)) (h3 : w.cell? ⟨bk, 2, none⟩ = some (.string x3)) (h4 : w.cell? ⟨bk, 3, none⟩ = some (.string x4)) :
    Calls Tryd.prog 63 #[.slice (some ⟨bk, 0, none⟩) 4 4] w fun e w' => e = .returned (.string T) ∧ Below w.heap.size w w' := by
  subst e1 e2 e3 e4
  exact joinc_walk bk a b c d w h1 h2 h3 h4 hl T (Lib.hid hT)
/-- What is behind the sign. -/
def behindL (c s : Nat) : List UInt8 := if s = 0 then [] else List.replicate (s - (Lib.decDigits (c % 10 ^ s)).length) 48 ++ Lib.decDigits (c % 10 ^ s)
/-- A number's text. -/
def textL (c s : Nat) (sign : List UInt8) (always : Bool) : List UInt8 := if s = 0 ∧ always = false then Lib.decDigits (c / 10 ^ s) else Lib.decDigits (c / 10 ^ s) ++ sign ++ behindL c s
theorem digits_len10 (k : Nat) : ∀ (n : Nat), n < 10 ^ (k + 1) → (Lib.decDigits n).length ≤ k + 1 := by
  induction k with
  | zero =>
    intro n h
    rw [Lib.decDigits, dif_pos (by simpa using h)]
    simp
  | succ k ih =>
    intro n h
    rw [Lib.decDigits]
    split
    · simp
    · rw [List.length_append]
      have := ih (n / 10) (by rw [Nat.div_lt_iff_lt_mul (by decide)]; rw [Nat.pow_succ] at h; omega)
      simp
      omega
theorem digits_len (n : Nat) (h : n < 1000000000000000000) : (Lib.decDigits n).length ≤ 100 := Nat.le_trans (digits_len10 17 n (by exact h)) (by decide)
set_option maxRecDepth 100000 in
set_option maxHeartbeats 2000000 in
theorem text_zero (c : Nat) (hg : GoodN false c 0) (sign : List UInt8) (hsl : sign.length ≤ 1000) (always : Bool) (T : ByteArray) (hT : bs (textL c 0 sign always) = T) (w : World) (hG : GWP w) :
    Calls Tryd.prog 45 #[numV false c 0, .string (bs sign), .bool always] w fun e w' => e = .returned (.tuple #[.string T, .int .i64 0]) ∧ Below w.heap.size w w' := by
  have g1 : Hid (goodB false (c : Int) 0 = true) := Lib.hid (goodB_of hg)
  have hc18 : c < 1000000000000000000 := hg.1
  have HP : ∀ W : World, Hid (Calls Tryd.prog 62 #[.int .i64 0] W fun e w' => e = .returned (.int .i64 ((10 ^ 0 : Nat) : Int)) ∧ w' = W) := fun W => Lib.hid (power_walk 0 (by omega) W)
  obtain ⟨X, hX⟩ : ∃ X : Nat, (10 : Nat) ^ 0 = X := ⟨_, rfl⟩
  have hX0 : 0 < X := by rw [← hX]; exact Nat.pow_pos (by decide)
  have hXl : X ≤ 100000 := by rw [← hX]; exact by decide
  unfold textL behindL at hT
  rw [hX] at HP hT
  obtain ⟨T1, hT1⟩ : ∃ T1, bs (Lib.decDigits (c / X)) = T1 := ⟨_, rfl⟩
  obtain ⟨T2, hT2⟩ : ∃ T2, bs (Lib.decDigits (c % X)) = T2 := ⟨_, rfl⟩
  have hqI : (c : Int) / (X : Int) = ((c / X : Nat) : Int) := by rw [Int.natCast_ediv]
  have hrI : (c : Int) % (X : Int) = ((c % X : Nat) : Int) := by rw [Int.natCast_emod]
  have hq : c / X < 1000000000000000000 := Nat.lt_of_le_of_lt (Nat.div_le_self _ _) hc18
  have hr : c % X < 1000000000000000000 := Nat.lt_of_le_of_lt (Nat.mod_le _ _) hc18
  have hqW : wrap64 ((c : Int) / (X : Int)) = ((c / X : Nat) : Int) := by
    rw [hqI]
    generalize c / X = q at hq
    exact wrap_ok (by omega) (by omega)
  have F1 := fun (W : World) (h : GWP W) => Lib.hid (format_walk (c / X) hq (wrap64 ((c : Int) / (X : Int))) hqW T1 hT1 W h)
  have F2 := fun (W : World) (h : GWP W) => Lib.hid (format_walk (c % X) hr ((c : Int) % (X : Int)) hrI T2 hT2 W h)
  have L1 := digits_len _ hq
  have L2 := digits_len _ hr
  have HX0 : 0 < (X : Int) := by omega
  have HXL : (X : Int) ≤ 100000 := by omega
  have hcI : (c : Int) < 1000000000000000000 := by omega
  obtain ⟨SG, hSG⟩ : ∃ SG, bs sign = SG := ⟨_, rfl⟩
  rw [hSG]
  have HG := Lib.hid hG
  have HSG := Lib.hid hSG
  have HT := Lib.hid hT
  have HT1 := Lib.hid hT1
  have HT2 := Lib.hid hT2
  have hL1 := Lib.hid L1
  have hL2 := Lib.hid L2
  clear hG hSG hT hT1 hT2 hqW hqI hrI hq hr hX L1 L2 hg hc18
  cases always
  · have HT' : Hid (T1 = T) := Lib.hid (by have := HT.out; rw [if_pos ⟨rfl, rfl⟩] at this; rw [← HT1.out]; exact this)
    clear HT
    go_enter Tryd.func45, Tryd.ntmps45
    go_upto_region 5 with (first | (go_at_call 23; refine (good_true _ (by with_reducible exact g1)).mono ?_; rintro e w1 ⟨rfl, rfl⟩) | (go_at_call 62; refine (HP _).out.mono ?_; rintro e w1 ⟨rfl, rfl⟩))
    obtain ⟨W0, hW0⟩ : ∃ W0, ((w.alloc (.cells #[.bool false, .int .i64 (c : Int), .int .i64 0] 24)).alloc (.cells #[.bool false, .int .i64 (c : Int), .int .i64 0] 24)) = W0 := ⟨_, rfl⟩
    have xa : Box3 W0 w.heap.size 24 (.bool false) (.int .i64 c) (.int .i64 0) := by rw [← hW0]; exact (Box3.new w 24 _ _ _).alloc _
    have hB0 : Below w.heap.size w W0 := by
      rw [← hW0]
      exact ((Below.refl _ w).alloc (Nat.le_refl _) _).alloc (by simp) _
    rw [hW0]
    clear hW0
    have k1 := xa.cell1
    have k2 := xa.cell2
    have HG1 := Lib.hid (GWP_below HG.out hB0)
    go_wp2_with (go_at_call_of 65 (Value.int .i64 (wrap64 ((c : Int) / (X : Int)))); refine (F1 _ HG1.out).out.mono ?_; rintro e w2 ⟨rfl, hb2⟩; have HG2 := Lib.hid (GWP_below HG1.out hb2); have x2 := xa.below hb2; have j1 := x2.cell1; have j2 := x2.cell2)
    go_ret2
    exact ⟨by rw [← HT'.out]; rfl, hB0.trans (hb2.mono hB0.size)⟩
  · have HT' : Hid (bs (Lib.decDigits (c / X) ++ sign ++ [] ++ []) = T) := Lib.hid (by have := HT.out; rw [if_neg (by simp), if_pos rfl] at this; rw [← this, List.append_nil])
    clear HT
    have RZ : ∀ W : World, Hid (Calls Tryd.prog 66 #[.string ⟨#[48]⟩, .int .i64 0] W fun e w' => e = .returned (.string (bs [])) ∧ Below W.heap.size W w') := fun W => Lib.hid (repeat_walk 0 (by omega) 0 rfl W)
    go_enter Tryd.func45, Tryd.ntmps45
    go_upto_region 5 with (first | (go_at_call 23; refine (good_true _ (by with_reducible exact g1)).mono ?_; rintro e w1 ⟨rfl, rfl⟩) | (go_at_call 62; refine (HP _).out.mono ?_; rintro e w1 ⟨rfl, rfl⟩))
    obtain ⟨W0, hW0⟩ : ∃ W0, ((w.alloc (.cells #[.bool false, .int .i64 (c : Int), .int .i64 0] 24)).alloc (.cells #[.bool false, .int .i64 (c : Int), .int .i64 0] 24)) = W0 := ⟨_, rfl⟩
    have xa : Box3 W0 w.heap.size 24 (.bool false) (.int .i64 c) (.int .i64 0) := by rw [← hW0]; exact (Box3.new w 24 _ _ _).alloc _
    have hB0 : Below w.heap.size w W0 := by
      rw [← hW0]
      exact ((Below.refl _ w).alloc (Nat.le_refl _) _).alloc (by simp) _
    rw [hW0]
    clear hW0
    have k1 := xa.cell1
    have k2 := xa.cell2
    have HG1 := Lib.hid (GWP_below HG.out hB0)
    go_wp2_with (first | (go_at_call_of 65 (Value.int .i64 (wrap64 ((c : Int) / (X : Int)))); refine (F1 _ HG1.out).out.mono ?_; rintro e w2 ⟨rfl, hb2⟩; have HG2 := Lib.hid (GWP_below HG1.out hb2); have x2 := xa.below hb2; have j1 := x2.cell1; have j2 := x2.cell2) | (go_at_call_of 65 (Value.int .i64 ((c : Int) % (X : Int))); refine (F2 _ HG2.out).out.mono ?_; rintro e w3 ⟨rfl, hb3⟩; have x3 := x2.below hb3; have i2 := x3.cell2) | (go_at_call 66; refine (RZ _).out.mono ?_; rintro e w4 ⟨rfl, hb4⟩) | (go_at_call 63; refine (joinT w4.heap.size T1 SG (bs []) ⟨#[]⟩ T _ sign [] [] HT1.out HSG.out rfl rfl HT'.out (by have := hL1.out; simp; omega) _ ?_ ?_ ?_ ?_).mono ?_; (go_simp); (go_simp); (go_simp); (go_simp); rintro e w5 ⟨rfl, hb5⟩))
    go_ret2
    have hB2 := hB0.trans (hb2.mono hB0.size)
    have hB3 := hB2.trans (hb3.mono hB2.size)
    have hB4 := hB3.trans (hb4.mono hB3.size)
    have hB5 := hB4.alloc hB4.size (.cells #[Value.string T1, Value.string SG, Value.string (bs []), Value.string ⟨#[]⟩] 9)
    exact ⟨rfl, hB5.trans (hb5.mono hB5.size)⟩
set_option maxRecDepth 100000 in
set_option maxHeartbeats 2000000 in
theorem text_pos (c s : Nat) (hg : GoodN false c s) (hs0 : 0 < s) (sign : List UInt8) (hsl : sign.length ≤ 1000) (always : Bool) (T : ByteArray) (hT : bs (textL c s sign always) = T) (w : World) (hG : GWP w) :
    Calls Tryd.prog 45 #[numV false c s, .string (bs sign), .bool always] w fun e w' => e = .returned (.tuple #[.string T, .int .i64 0]) ∧ Below w.heap.size w w' := by
  have g1 := Lib.hid (goodB_of hg)
  have hs5 : s ≤ 5 := hg.2.1
  have hc18 : c < 1000000000000000000 := hg.1
  have HP := fun (W : World) => Lib.hid (power_walk s (by omega) W)
  obtain ⟨X, hX⟩ : ∃ X : Nat, (10 : Nat) ^ s = X := ⟨_, rfl⟩
  have hX0 : 0 < X := by rw [← hX]; exact Nat.pow_pos (by decide)
  have hXl : X ≤ 100000 := by rw [← hX]; exact Nat.le_trans (Nat.pow_le_pow_right (by decide) hs5) (by decide)
  unfold textL behindL at hT
  rw [hX] at HP hT
  obtain ⟨T1, hT1⟩ : ∃ T1, bs (Lib.decDigits (c / X)) = T1 := ⟨_, rfl⟩
  obtain ⟨T2, hT2⟩ : ∃ T2, bs (Lib.decDigits (c % X)) = T2 := ⟨_, rfl⟩
  have hqI : (c : Int) / (X : Int) = ((c / X : Nat) : Int) := by rw [Int.natCast_ediv]
  have hrI : (c : Int) % (X : Int) = ((c % X : Nat) : Int) := by rw [Int.natCast_emod]
  have hq : c / X < 1000000000000000000 := Nat.lt_of_le_of_lt (Nat.div_le_self _ _) hc18
  have hr : c % X < 1000000000000000000 := Nat.lt_of_le_of_lt (Nat.mod_le _ _) hc18
  have hqW : wrap64 ((c : Int) / (X : Int)) = ((c / X : Nat) : Int) := by
    rw [hqI]
    generalize c / X = q at hq
    exact wrap_ok (by omega) (by omega)
  have F1 := fun (W : World) (h : GWP W) => Lib.hid (format_walk (c / X) hq (wrap64 ((c : Int) / (X : Int))) hqW T1 hT1 W h)
  have F2 := fun (W : World) (h : GWP W) => Lib.hid (format_walk (c % X) hr ((c : Int) % (X : Int)) hrI T2 hT2 W h)
  have L1 := digits_len _ hq
  have L2 := digits_len _ hr
  have HX0 : 0 < (X : Int) := by omega
  have HXL : (X : Int) ≤ 100000 := by omega
  have hcI : (c : Int) < 1000000000000000000 := by omega
  obtain ⟨SG, hSG⟩ : ∃ SG, bs sign = SG := ⟨_, rfl⟩
  rw [hSG]
  have HG := Lib.hid hG
  have HSG := Lib.hid hSG
  have HT := Lib.hid hT
  have HT1 := Lib.hid hT1
  have HT2 := Lib.hid hT2
  have hL1 := Lib.hid L1
  have hL2 := Lib.hid L2
  clear hG hSG hT hT1 hT2 hqW hqI hrI hq hr hX L1 L2 hg hc18
  obtain ⟨T3, hT3⟩ : ∃ T3, bs (List.replicate (s - (Lib.decDigits (c % X)).length) 48) = T3 := ⟨_, rfl⟩
  have hT2s : (T2.size : Int) = ((Lib.decDigits (c % X)).length : Int) := by rw [← HT2.out, bs_size]
  have RZ := fun (W : World) => Lib.hid (repeat_walk (s - (Lib.decDigits (c % X)).length) (by omega) (max ((s : Int) - (T2.size : Int)) 0) (by rw [hT2s]; omega) W)
  rw [hT3] at RZ
  have HT3 := Lib.hid hT3
  have hT2b : (T2.size : Int) ≤ 100 := by rw [hT2s]; have := hL2.out; omega
  have HT' : Hid (bs (Lib.decDigits (c / X) ++ sign ++ List.replicate (s - (Lib.decDigits (c % X)).length) 48 ++ Lib.decDigits (c % X)) = T) := Lib.hid (by have := HT.out; rw [if_neg (by omega), if_neg (by omega)] at this; rw [← this]; simp [List.append_assoc])
  clear HT hT3 hT2s
  have hsI : (0 : Int) < (s : Int) := by omega
  have hsI5 : (s : Int) ≤ 5 := by omega
  have hse : ((s : Int) == 0) = false := beq_eq_false_iff_ne.2 (by omega)
  go_enter Tryd.func45, Tryd.ntmps45
  go_upto_region 5 with (first | (go_at_call 23; refine (good_true _ (by with_reducible exact g1)).mono ?_; rintro e w1 ⟨rfl, rfl⟩) | (go_at_call 62; refine (HP _).out.mono ?_; rintro e w1 ⟨rfl, rfl⟩))
  obtain ⟨W0, hW0⟩ : ∃ W0, ((w.alloc (.cells #[.bool false, .int .i64 (c : Int), .int .i64 (s : Int)] 24)).alloc (.cells #[.bool false, .int .i64 (c : Int), .int .i64 (s : Int)] 24)) = W0 := ⟨_, rfl⟩
  have xa : Box3 W0 w.heap.size 24 (.bool false) (.int .i64 c) (.int .i64 (s : Int)) := by rw [← hW0]; exact (Box3.new w 24 _ _ _).alloc _
  have hB0 : Below w.heap.size w W0 := by
    rw [← hW0]
    exact ((Below.refl _ w).alloc (Nat.le_refl _) _).alloc (by simp) _
  rw [hW0]
  clear hW0
  have k1 := xa.cell1
  have k2 := xa.cell2
  have HG1 := Lib.hid (GWP_below HG.out hB0)
  go_upto_region 11 with (first | (go_at_call_of 65 (Value.int .i64 (wrap64 ((c : Int) / (X : Int)))); refine (F1 _ HG1.out).out.mono ?_; rintro e w2 ⟨rfl, hb2⟩; have HG2 := Lib.hid (GWP_below HG1.out hb2); have x2 := xa.below hb2; have j1 := x2.cell1; have j2 := x2.cell2) | (go_at_call_of 65 (Value.int .i64 ((c : Int) % (X : Int))); refine (F2 _ HG2.out).out.mono ?_; rintro e w3 ⟨rfl, hb3⟩; have x3 := x2.below hb3; have i2 := x3.cell2))
  have i2' := i2
  clear k1 k2 j1 j2
  go_wp2_with (first | (go_at_call 66; refine (RZ _).out.mono ?_; rintro e w4 ⟨rfl, hb4⟩) | (go_at_call 63; refine (joinT w4.heap.size T1 SG T3 T2 T _ sign _ _ HT1.out HSG.out HT3.out HT2.out HT'.out (by have := hL1.out; have := hL2.out; rw [List.length_replicate]; omega) _ ?_ ?_ ?_ ?_).mono ?_; (go_simp); (go_simp); (go_simp); (go_simp); rintro e w5 ⟨rfl, hb5⟩))
  go_ret2
  have hB2 := hB0.trans (hb2.mono hB0.size)
  have hB3 := hB2.trans (hb3.mono hB2.size)
  have hB4 := hB3.trans (hb4.mono hB3.size)
  have hB5 := hB4.alloc hB4.size (.cells #[Value.string T1, Value.string SG, Value.string T3, Value.string T2] 9)
  exact ⟨rfl, hB5.trans (hb5.mono hB5.size)⟩
theorem text_bad1 (n : Bool) (c s : Int) (g1 : Hid (goodB n c s = false)) (SG : ByteArray) (always : Bool) (w : World) :
    Calls Tryd.prog 45 #[numV n c s, .string SG, .bool always] w fun e w' => e = .returned (.tuple #[.string ⟨#[]⟩, .int .i64 1]) ∧ Below w.heap.size w w' := by
  go_enter Tryd.func45, Tryd.ntmps45
  go_wp2_with (go_at_call 23; refine (good_false _ (by with_reducible exact g1)).mono ?_; rintro e w1 ⟨rfl, rfl⟩)
  go_ret2
  exact ⟨rfl, ((Below.refl _ w).alloc (Nat.le_refl _) _).alloc (by simp) _⟩
theorem text_bad2 (c s : Int) (g1 : Hid (goodB true c s = true)) (SG : ByteArray) (always : Bool) (w : World) :
    Calls Tryd.prog 45 #[numV true c s, .string SG, .bool always] w fun e w' => e = .returned (.tuple #[.string ⟨#[]⟩, .int .i64 1]) ∧ Below w.heap.size w w' := by
  go_enter Tryd.func45, Tryd.ntmps45
  go_wp2_with (go_at_call 23; refine (good_true _ (by with_reducible exact g1)).mono ?_; rintro e w1 ⟨rfl, rfl⟩)
  go_ret2
  exact ⟨rfl, ((Below.refl _ w).alloc (Nat.le_refl _) _).alloc (by simp) _⟩
def decimal_text.f (a0_0 : Bool) (a0_1 a0_2 : Int) (a1 : ByteArray) (a2 : Bool) : Option (ByteArray × Int) :=
  if a1.size ≤ 1000 then some (if goodB a0_0 a0_1 a0_2 = true ∧ a0_0 = false then (bs (textL a0_1.toNat a0_2.toNat a1.data.toList a2), 0) else (⟨#[]⟩, 1)) else none
theorem decimal_text.calls (a0_0 : Bool) (a0_1 a0_2 : Int) (a1 : ByteArray) (a2 : Bool) (r1 : ByteArray) (r2 : Int) (w : World) (h : decimal_text.f a0_0 a0_1 a0_2 a1 a2 = some (r1, r2)) (hGP : GWP w) :
    Calls Tryd.prog 45 #[.agg #[.bool a0_0, .int .i64 a0_1, .int .i64 a0_2], .string a1, .bool a2] w fun e w' => e = .returned (.tuple #[.string r1, .int .i64 r2]) ∧ Below w.heap.size w w' := by
  unfold decimal_text.f at h
  by_cases hc : a1.size ≤ 1000
  · rw [if_pos hc] at h
    have h := Option.some.inj h
    obtain ⟨sg, rfl⟩ := bs_ex a1
    rw [bs_size] at hc
    cases g1 : goodB a0_0 a0_1 a0_2
    · rw [if_neg (by rw [g1]; simp)] at h
      simp only [Prod.mk.injEq] at h
      obtain ⟨rfl, rfl⟩ := h
      exact text_bad1 _ _ _ (Lib.hid g1) _ _ w
    · cases a0_0
      · rw [if_pos ⟨g1, rfl⟩, bs_data] at h
        simp only [Prod.mk.injEq] at h
        obtain ⟨hT, rfl⟩ := h
        obtain ⟨e1, e2, h1⟩ := goodN_of g1
        rw [e1, e2]
        by_cases h0 : a0_2.toNat = 0
        · rw [h0] at h1 hT ⊢
          exact text_zero _ h1 sg hc a2 r1 hT w hGP
        · exact text_pos _ _ h1 (by omega) sg hc a2 r1 hT w hGP
      · rw [if_neg (by simp)] at h
        simp only [Prod.mk.injEq] at h
        obtain ⟨rfl, rfl⟩ := h
        exact text_bad2 _ _ (Lib.hid g1) _ _ w
  · rw [if_neg hc] at h
    cases h
end Go.Proofs.YtggakekljbgeoaaDoor.PAll

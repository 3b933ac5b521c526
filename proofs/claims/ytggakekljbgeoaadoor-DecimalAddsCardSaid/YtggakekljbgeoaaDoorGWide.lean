/- decimal: Good, power, and the sizes of two words (worth, plus, minus, cmp): contracts by hand. -/
import Derived.Test.YtggakekljbgeoaaDoorProg
import Derived.Test.YtggakekljbgeoaaDoorShelf
import Derived.Test.YtggakekljbgeoaaDoorGPlain
import Derived.WalkKit
import Derived.Deep.QuietTactic
import Derived.BigQuiet
import Derived.Deep.RegionHeld3
import Derived.Lib.Hide
import Derived.Shelf.Spec.BitsCarry
import Derived.IntWalk
namespace Go.Proofs.YtggakekljbgeoaaDoor.PAll
open Go.RowKit GPlain
set_option linter.unusedSimpArgs false

abbrev numV (n : Bool) (c s : Int) : Value := .agg #[.bool n, .int .i64 c, .int .i64 s]
def goodB (n : Bool) (c s : Int) : Bool := decide (0 ≤ c) && decide (c < 1000000000000000000) && decide (0 ≤ s) && decide (s ≤ 5) && (!n || decide (0 < c))
theorem good_walk (n : Bool) (c s : Int) (w : World) :
    Calls Tryd.prog 23 #[numV n c s] w fun e w' => e = .returned (.bool (goodB n c s)) ∧ w' = w.alloc (.cells #[.bool n, .int .i64 c, .int .i64 s] 24) := by
  unfold goodB
  by_cases h1 : 0 ≤ c
  · rw [decide_eq_true h1]
    by_cases h2 : c < 1000000000000000000
    · rw [decide_eq_true h2]
      by_cases h3 : 0 ≤ s
      · rw [decide_eq_true h3]
        by_cases h4 : s ≤ 5
        · rw [decide_eq_true h4]
          cases n
          · go_enter Tryd.func23, Tryd.ntmps23
            go_wp2
            go_ret
            exact ⟨rfl, rfl⟩
          · by_cases h5 : 0 < c
            · rw [decide_eq_true h5]
              go_enter Tryd.func23, Tryd.ntmps23
              go_wp2
              go_ret
              exact ⟨rfl, rfl⟩
            · rw [decide_eq_false h5]
              go_enter Tryd.func23, Tryd.ntmps23
              go_wp2
              go_ret
              exact ⟨rfl, rfl⟩
        · rw [decide_eq_false h4]
          go_enter Tryd.func23, Tryd.ntmps23
          go_wp2
          go_ret
          exact ⟨rfl, rfl⟩
      · rw [decide_eq_false h3]
        go_enter Tryd.func23, Tryd.ntmps23
        go_wp2
        go_ret
        exact ⟨rfl, rfl⟩
    · rw [decide_eq_false h2]
      go_enter Tryd.func23, Tryd.ntmps23
      go_wp2
      go_ret
      exact ⟨rfl, rfl⟩
  · rw [decide_eq_false h1]
    go_enter Tryd.func23, Tryd.ntmps23
    go_wp2
    go_ret
    exact ⟨rfl, rfl⟩
theorem pow_le (k : Nat) (h : k ≤ 17) : (10 : Nat) ^ k ≤ 100000000000000000 := Nat.pow_le_pow_right (by decide) h
theorem power_walk (n : Nat) (hn : n ≤ 17) (w : World) :
    Calls Tryd.prog 62 #[.int .i64 (n : Int)] w fun e w' => e = .returned (.int .i64 ((10 ^ n : Nat) : Int)) ∧ w' = w := by
  obtain ⟨X, hX⟩ : ∃ X : Nat, (10 : Nat) ^ n = X := ⟨_, rfl⟩
  rw [hX]
  have HX := Lib.hid hX
  clear hX
  go_enter Tryd.func62, Tryd.ntmps62
  go_wp2
  go_loop [3, 5] (fun v i => ∃ (k x : Nat), i = .int .i64 (k : Int) ∧ v = .int .i64 (x : Int) ∧ k ≤ n ∧ Hid ((10 : Nat) ^ k = x)) (fun _ i => n - (intOf i).toNat)
  case atStart => exact ⟨0, 1, rfl, rfl, Nat.zero_le _, Lib.hid rfl⟩
  case round =>
    obtain ⟨k, x, rfl, rfl, hk, HK⟩ := hrel
    by_cases hlt : k < n
    · have hx : x ≤ 100000000000000000 := by rw [← HK.out]; exact pow_le k (by omega)
      have HK2 : Hid ((10 : Nat) ^ (k + 1) = x * 10) := Lib.hid (by rw [Nat.pow_succ, HK.out])
      clear HK
      go_wp2
      go_round
      case rel => exact ⟨k + 1, x * 10, by go_num, by go_num, hlt, HK2⟩
      case measure => simp [intOf]; omega
    · obtain rfl : k = n := by omega
      have e : x = X := by rw [← HK.out, HX.out]
      subst e
      clear HK HX
      go_wp2
      go_ret
      exact ⟨rfl, rfl⟩
/-- A size of two words. -/
abbrev wideV (v : Nat) : Value := .agg #[.int .u64 ((v / 18446744073709551616 : Nat) : Int), .int .u64 ((v % 18446744073709551616 : Nat) : Int)]
theorem add64_run (x y c : Nat) (hc : c ≤ 1) (w : World) :
    (callFunc 68 #[.int .u64 x, .int .u64 y, .int .u64 c]).run Tryd.prog w =
      .ok (.value (.tuple #[.int .u64 (((x + y + c) % 18446744073709551616 : Nat) : Int), .int .u64 (((x + y + c) / 18446744073709551616 : Nat) : Int)])) w := by
  rw [run_callFunc_extern Tryd.func68 (by kernel_rfl) (by kernel_rfl) (by kernel_rfl) (e := add64Entry) (by kernel_rfl), run_add64 x y c (by omega) (by omega) (by omega) (by omega)]
  simp only [Result.andThen]
  congr 5 <;> omega
theorem sub64_run (x y b : Nat) (hb : b ≤ 1) (w : World) :
    (callFunc 70 #[.int .u64 x, .int .u64 y, .int .u64 b]).run Tryd.prog w =
      .ok (.value (.tuple #[.int .u64 (((x + 18446744073709551616 - y - b) % 18446744073709551616 : Nat) : Int), .int .u64 ((if x < y + b then 1 else 0 : Nat) : Int)])) w := by
  rw [run_callFunc_extern Tryd.func70 (by kernel_rfl) (by kernel_rfl) (by kernel_rfl) (e := sub64Entry) (by kernel_rfl), run_sub64 x y b hb]
  rfl
theorem below_drewN {B : Nat} {w W : World} (h : Below B w W) (n : Nat) : Below B w (W.drewN n) := h.trans ⟨rfl, rfl, rfl, Nat.le_refl _, fun _ _ => rfl⟩
theorem results_wide {fn : Func} {p : Tmp} (h : fn.results = #[.cell p 64]) (tmps : Array Value) (w : World) (g : Nat) (v0 v1 : Int)
    (h1 : tmps.getD p undef = .pointer (some ⟨g, 0, none⟩)) (c0 : w.cell? ⟨g, 0, none⟩ = some (.int .u64 v0)) (c1 : w.cell? ⟨g, 1, none⟩ = some (.int .u64 v1)) :
    (results fn tmps).run Tryd.prog w = .ok (.agg #[.int .u64 v0, .int .u64 v1]) w := by
  have h1' : tmps[p]?.getD undef = .pointer (some ⟨g, 0, none⟩) := by simpa using h1
  simp only [results, h]
  simp [Sem.run_bind, Result.andThen, h1', asAddr]
  go_simp
set_option maxHeartbeats 1000000 in
theorem worth_walk (n : Bool) (C S s : Nat) (hC : C < 1000000000000000000) (hs : S ≤ s) (hs5 : s ≤ 5) (w : World) :
    Calls Tryd.prog 48 #[numV n C S, .int .i64 (s : Int)] w fun e w' => e = .returned (wideV (C * 10 ^ (s - S))) ∧ Below w.heap.size w w' := by
  obtain ⟨X, hX⟩ : ∃ X : Nat, (10 : Nat) ^ (s - S) = X := ⟨_, rfl⟩
  have hXl : X ≤ 100000000000000000 := by rw [← hX]; exact pow_le _ (by omega)
  have HP := fun (W : World) (m : Nat) => Lib.hid (power_walk (s - S) (by omega) (W.drewN m))
  rw [hX] at HP ⊢
  unfold wideV
  have HM := fun (W : World) (m : Nat) => Lib.hid (Tryd.bits_Mul64 C X (by omega) (by omega) (W.drewN m))
  obtain ⟨hi, hhi⟩ : ∃ hi : Nat, C * X / 18446744073709551616 = hi := ⟨_, rfl⟩
  obtain ⟨lo, hlo⟩ : ∃ lo : Nat, C * X % 18446744073709551616 = lo := ⟨_, rfl⟩
  rw [hhi, hlo] at HM ⊢
  clear hX hhi hlo
  have hsub : (s : Int) - (S : Int) = ((s - S : Nat) : Int) := by omega
  obtain ⟨d, hd⟩ : ∃ d : Nat, s - S = d := ⟨_, rfl⟩
  rw [hd] at HP hsub
  have hd5 : d ≤ 5 := by omega
  have hS5 : S ≤ 5 := by omega
  have hw1 : IntKind.u64.wrap (C : Int) = (C : Int) := IntWalk.u64_in _ (by omega)
  have hw2 : IntKind.u64.wrap (X : Int) = (X : Int) := IntWalk.u64_in _ (by omega)
  clear hd hs
  go_enter Tryd.func48, Tryd.ntmps48
  go_wp2_with fail
  go_quiet (first | ((go_at_call 62; exact Calls.quiet_of_same (HP _ _).out)) | ((go_at_call 67; exact Calls.quiet_of_same (HM _ _).out)))
  go_wp2
  refine bodyPost_ret (results_wide rfl _ _ (w.heap.size + 1) hi lo rfl ?_ ?_) rfl ⟨rfl, ?_⟩
  · go_simp
  · go_simp
  · exact (((below_drewN (((Below.refl _ w).alloc (Nat.le_refl _) _).alloc (by simp) _) nq).setCell (p := ⟨w.heap.size + 1, 0, none⟩) (Nat.le_succ _) _).setCell (p := ⟨w.heap.size + 1, 1, none⟩) (Nat.le_succ _) _)
set_option maxHeartbeats 1000000 in
theorem plus_walk (v u : Nat) (h : v + u < 340282366920938463463374607431768211456) (w : World) :
    Calls Tryd.prog 49 #[wideV v, wideV u] w fun e w' => e = .returned (wideV (v + u)) ∧ Below w.heap.size w w' := by
  obtain ⟨vh, hvh⟩ : ∃ x : Nat, v / 18446744073709551616 = x := ⟨_, rfl⟩
  obtain ⟨vl, hvl⟩ : ∃ x : Nat, v % 18446744073709551616 = x := ⟨_, rfl⟩
  obtain ⟨uh, huh⟩ : ∃ x : Nat, u / 18446744073709551616 = x := ⟨_, rfl⟩
  obtain ⟨ul, hul⟩ : ∃ x : Nat, u % 18446744073709551616 = x := ⟨_, rfl⟩
  obtain ⟨lo, hlo⟩ : ∃ x : Nat, (vl + ul + 0) % 18446744073709551616 = x := ⟨_, rfl⟩
  obtain ⟨c, hc⟩ : ∃ x : Nat, (vl + ul + 0) / 18446744073709551616 = x := ⟨_, rfl⟩
  obtain ⟨hi, hhi⟩ : ∃ x : Nat, (vh + uh + c) % 18446744073709551616 = x := ⟨_, rfl⟩
  obtain ⟨c2, hc2⟩ : ∃ x : Nat, (vh + uh + c) / 18446744073709551616 = x := ⟨_, rfl⟩
  have e1 : ∀ W : World, (callFunc 68 #[.int .u64 (vl : Int), .int .u64 (ul : Int), .int .u64 0]).run Tryd.prog W = .ok (.value (.tuple #[.int .u64 (lo : Int), .int .u64 (c : Int)])) W := fun W => by
    have := add64_run vl ul 0 (by omega) W
    rw [hlo, hc] at this
    exact this
  have e2 : ∀ W : World, (callFunc 68 #[.int .u64 (vh : Int), .int .u64 (uh : Int), .int .u64 (c : Int)]).run Tryd.prog W = .ok (.value (.tuple #[.int .u64 (hi : Int), .int .u64 (c2 : Int)])) W := fun W => by
    have := add64_run vh uh c (by omega) W
    rw [hhi, hc2] at this
    exact this
  have r1 : (v + u) / 18446744073709551616 = hi := by omega
  have r2 : (v + u) % 18446744073709551616 = lo := by omega
  unfold wideV
  rw [r1, r2, hvh, hvl, huh, hul]
  clear r1 r2 hvh hvl huh hul hlo hc hhi hc2 h
  go_enter Tryd.func49, Tryd.ntmps49
  go_wp2
  refine bodyPost_ret (results_wide rfl _ _ (w.heap.size + 1 + 1) hi lo rfl ?_ ?_) rfl ⟨rfl, (((Below.refl _ w).alloc (Nat.le_refl _) _).alloc (by simp) _).alloc (by simp; omega) _⟩
  · go_simp
  · go_simp
set_option maxHeartbeats 1000000 in
theorem minus_walk (v u : Nat) (h : u ≤ v) (h2 : v < 340282366920938463463374607431768211456) (w : World) :
    Calls Tryd.prog 51 #[wideV v, wideV u] w fun e w' => e = .returned (wideV (v - u)) ∧ Below w.heap.size w w' := by
  obtain ⟨vh, hvh⟩ : ∃ x : Nat, v / 18446744073709551616 = x := ⟨_, rfl⟩
  obtain ⟨vl, hvl⟩ : ∃ x : Nat, v % 18446744073709551616 = x := ⟨_, rfl⟩
  obtain ⟨uh, huh⟩ : ∃ x : Nat, u / 18446744073709551616 = x := ⟨_, rfl⟩
  obtain ⟨ul, hul⟩ : ∃ x : Nat, u % 18446744073709551616 = x := ⟨_, rfl⟩
  obtain ⟨lo, hlo⟩ : ∃ x : Nat, (vl + 18446744073709551616 - ul - 0) % 18446744073709551616 = x := ⟨_, rfl⟩
  obtain ⟨c, hc⟩ : ∃ x : Nat, (if vl < ul + 0 then 1 else 0) = x := ⟨_, rfl⟩
  obtain ⟨hi, hhi⟩ : ∃ x : Nat, (vh + 18446744073709551616 - uh - c) % 18446744073709551616 = x := ⟨_, rfl⟩
  obtain ⟨c2, hc2⟩ : ∃ x : Nat, (if vh < uh + c then 1 else 0) = x := ⟨_, rfl⟩
  have hcb : c ≤ 1 := by rw [← hc]; split <;> omega
  have e1 : ∀ W : World, (callFunc 70 #[.int .u64 (vl : Int), .int .u64 (ul : Int), .int .u64 0]).run Tryd.prog W = .ok (.value (.tuple #[.int .u64 (lo : Int), .int .u64 (c : Int)])) W := fun W => by
    have := sub64_run vl ul 0 (by omega) W
    rw [hlo, hc] at this
    exact this
  have e2 : ∀ W : World, (callFunc 70 #[.int .u64 (vh : Int), .int .u64 (uh : Int), .int .u64 (c : Int)]).run Tryd.prog W = .ok (.value (.tuple #[.int .u64 (hi : Int), .int .u64 (c2 : Int)])) W := fun W => by
    have := sub64_run vh uh c hcb W
    rw [hhi, hc2] at this
    exact this
  have r1 : (v - u) / 18446744073709551616 = hi := by split at hc <;> omega
  have r2 : (v - u) % 18446744073709551616 = lo := by omega
  unfold wideV
  rw [r1, r2, hvh, hvl, huh, hul]
  clear r1 r2 hvh hvl huh hul hlo hc hhi hc2 h h2 hcb
  go_enter Tryd.func51, Tryd.ntmps51
  go_wp2
  refine bodyPost_ret (results_wide rfl _ _ (w.heap.size + 1 + 1) hi lo rfl ?_ ?_) rfl ⟨rfl, (((Below.refl _ w).alloc (Nat.le_refl _) _).alloc (by simp) _).alloc (by simp; omega) _⟩
  · go_simp
  · go_simp
def cmpN (x y : Nat) : Int := if x < y then -1 else if y < x then 1 else 0
theorem nan64_walk (x : Nat) (w : World) :
    Calls Tryd.prog 87 #[.int .u64 (x : Int)] w fun e w' => e = .returned (.bool false) ∧ w' = w := by
  go_enter Tryd.func87, Tryd.ntmps87
  go_wp2
  go_ret
  exact ⟨rfl, rfl⟩
theorem cmp64_walk (x y : Nat) (w : World) :
    Calls Tryd.prog 69 #[.int .u64 (x : Int), .int .u64 (y : Int)] w fun e w' => e = .returned (.int .i64 (cmpN x y)) ∧ w' = w := by
  unfold cmpN
  by_cases h1 : x < y
  · rw [if_pos h1]
    go_enter Tryd.func69, Tryd.ntmps69
    go_wp2_with (go_at_call 87; refine (nan64_walk _ _).mono ?_; rintro e w' ⟨rfl, rfl⟩)
    go_ret
    exact ⟨rfl, rfl⟩
  · rw [if_neg h1]
    by_cases h2 : y < x
    · rw [if_pos h2]
      go_enter Tryd.func69, Tryd.ntmps69
      go_wp2_with (go_at_call 87; refine (nan64_walk _ _).mono ?_; rintro e w' ⟨rfl, rfl⟩)
      go_ret
      exact ⟨rfl, rfl⟩
    · rw [if_neg h2]
      go_enter Tryd.func69, Tryd.ntmps69
      go_wp2_with (go_at_call 87; refine (nan64_walk _ _).mono ?_; rintro e w' ⟨rfl, rfl⟩)
      go_ret
      exact ⟨rfl, rfl⟩
theorem or_walk (b cp : Nat) (c1 c2 : Int) (w : World) (k1 : w.cell? ⟨b, 0, none⟩ = some (.int .i64 c1)) (k2 : w.cell? ⟨b, 1, none⟩ = some (.int .i64 c2)) (r : Int) (HR : Hid ((if c1 = 0 then c2 else c1) = r)) :
    Calls Tryd.prog 52 #[.slice (some ⟨b, 0, none⟩) 2 cp] w fun e w' => e = .returned (.int .i64 r) ∧ w' = w := by
  have K1 := Lib.hid k1
  have K2 := Lib.hid k2
  clear k1 k2
  go_enter Tryd.func52, Tryd.ntmps52
  go_wp2
  go_loop [5, 8] (fun _ i => ∃ k : Nat, i = .int .i64 (k : Int) ∧ k ≤ 2 ∧ Hid (1 ≤ k → c1 = 0) ∧ Hid (2 ≤ k → c2 = 0)) (fun _ i => 2 - (intOf i).toNat)
  case atStart => exact ⟨0, rfl, by omega, Lib.hid (fun h => by omega), Lib.hid (fun h => by omega)⟩
  case round =>
    obtain ⟨k, rfl, hk, HA, HB⟩ := hrel
    rcases (show k = 0 ∨ k = 1 ∨ k = 2 by omega) with rfl | rfl | rfl
    · have k1 := K1.out
      by_cases h : c1 = 0
      · rw [h] at k1
        go_wp2
        go_round
        case rel => exact ⟨1, rfl, by omega, Lib.hid (fun _ => h), Lib.hid (fun h => by omega)⟩
        case measure => simp [intOf]
      · have h' : (c1 != 0) = true := bne_iff_ne.2 h
        go_wp2
        go_ret
        exact ⟨by have := HR.out; rw [if_neg h] at this; rw [← this]; rfl, rfl⟩
    · have k2 := K2.out
      have h1 := HA.out (Nat.le_refl _)
      by_cases h : c2 = 0
      · rw [h] at k2
        go_wp2
        go_round
        case rel => exact ⟨2, rfl, by omega, Lib.hid (fun _ => h1), Lib.hid (fun _ => h)⟩
        case measure => simp [intOf]
      · have h' : (c2 != 0) = true := bne_iff_ne.2 h
        go_wp2
        go_ret
        exact ⟨by have := HR.out; rw [if_pos h1] at this; rw [← this]; rfl, rfl⟩
    · have h1 := HA.out (by omega)
      have h2 := HB.out (by omega)
      have HE := Lib.hid (show r = 0 by rw [← HR.out, if_pos h1, h2])
      clear h1 h2
      go_wp2
      go_ret
      exact ⟨by rw [HE.out]; rfl, rfl⟩
set_option maxHeartbeats 1000000 in
theorem wcmp_walk (v u : Nat) (w : World) :
    Calls Tryd.prog 50 #[wideV v, wideV u] w fun e w' => e = .returned (.int .i64 (cmpN v u)) ∧ Below w.heap.size w w' := by
  obtain ⟨vh, hvh⟩ : ∃ x : Nat, v / 18446744073709551616 = x := ⟨_, rfl⟩
  obtain ⟨vl, hvl⟩ : ∃ x : Nat, v % 18446744073709551616 = x := ⟨_, rfl⟩
  obtain ⟨uh, huh⟩ : ∃ x : Nat, u / 18446744073709551616 = x := ⟨_, rfl⟩
  obtain ⟨ul, hul⟩ : ∃ x : Nat, u % 18446744073709551616 = x := ⟨_, rfl⟩
  have hr : cmpN v u = if cmpN vh uh = 0 then cmpN vl ul else cmpN vh uh := by
    unfold cmpN
    by_cases a1 : vh < uh
    · rw [if_pos (show v < u by omega), if_pos a1, if_neg (by decide)]
    · by_cases a2 : uh < vh
      · rw [if_neg (show ¬ v < u by omega), if_pos (show u < v by omega), if_neg a1, if_pos a2, if_neg (by decide)]
      · rw [if_neg a1, if_neg a2, if_pos rfl]
        by_cases a3 : vl < ul
        · rw [if_pos (show v < u by omega), if_pos a3]
        · by_cases a4 : ul < vl
          · rw [if_neg (show ¬ v < u by omega), if_pos (show u < v by omega), if_neg a3, if_pos a4]
          · rw [if_neg (show ¬ v < u by omega), if_neg (show ¬ u < v by omega), if_neg a3, if_neg a4]
  unfold wideV
  rw [hr, hvh, hvl, huh, hul]
  obtain ⟨c1, hc1⟩ : ∃ x, cmpN vh uh = x := ⟨_, rfl⟩
  obtain ⟨c2, hc2⟩ : ∃ x, cmpN vl ul = x := ⟨_, rfl⟩
  have H1 := fun (W : World) => Lib.hid (cmp64_walk vh uh W)
  have H2 := fun (W : World) => Lib.hid (cmp64_walk vl ul W)
  rw [hc1] at H1
  rw [hc2] at H2
  obtain ⟨r, hr2⟩ : ∃ r, (if cmpN vh uh = 0 then cmpN vl ul else cmpN vh uh) = r := ⟨_, rfl⟩
  rw [hr2]
  rw [hc1, hc2] at hr2
  have HR := Lib.hid hr2
  clear hr hvh hvl huh hul hc1 hc2 hr2
  go_enter Tryd.func50, Tryd.ntmps50
  go_wp2
  go_region_held3 (fun w' => w'.cell? ⟨w.heap.size, 0, none⟩ = some (.int .u64 (vh : Int)) ∧ w'.cell? ⟨w.heap.size, 1, none⟩ = some (.int .u64 (vl : Int)) ∧ w'.cell? ⟨w.heap.size + 1, 0, none⟩ = some (.int .u64 (uh : Int)) ∧ w'.cell? ⟨w.heap.size + 1, 1, none⟩ = some (.int .u64 (ul : Int))) (go_keep)
    (first
      | (go_at_call_of 69 (Value.int .u64 (vh : Int)); refine (H1 _).out.mono ?_; rintro e w' ⟨rfl, rfl⟩)
      | (go_at_call_of 69 (Value.int .u64 (vl : Int)); refine (H2 _).out.mono ?_; rintro e w' ⟨rfl, rfl⟩)
      | (go_at_call 52; refine (or_walk _ _ c1 c2 _ ?_ ?_ r HR).mono ?_; (go_simp); (go_simp); rintro e w' ⟨rfl, rfl⟩))
  go_wp2
  go_ret
  exact ⟨rfl, ((((Below.refl _ w).alloc (Nat.le_refl _) _).alloc (by simp) _).alloc (by simp; omega) _).drew⟩
end Go.Proofs.YtggakekljbgeoaaDoor.PAll

/- The document's Power (of 18) and Good: contracts by hand. -/
import Derived.Test.YtggakekljbgeoaaDoorGAdd
import Derived.Test.YtggakekljbgeoaaDoorPAllx0
namespace Go.Proofs.YtggakekljbgeoaaDoor.PAll
open Go.RowKit GPlain
set_option linter.unusedSimpArgs false

theorem refpower_walk (w : World) :
    Calls Tryd.prog 44 #[.int .i64 18] w fun e w' => e = .returned (.int .i64 1000000000000000000) ∧ w' = w := by
  obtain ⟨X, hX⟩ : ∃ X : Nat, (10 : Nat) ^ 18 = X := ⟨_, rfl⟩
  have hX2 : (1000000000000000000 : Int) = (X : Int) := by omega
  rw [hX2]
  have HX := Lib.hid hX
  clear hX hX2
  go_enter Tryd.func44, Tryd.ntmps44
  go_wp2
  go_loop [3, 4] (fun v i => ∃ (k x : Nat), i = .int .i64 (k : Int) ∧ v = .int .i64 (x : Int) ∧ k ≤ 18 ∧ Hid ((10 : Nat) ^ k = x)) (fun _ i => 18 - (intOf i).toNat)
  case atStart => exact ⟨0, 1, rfl, rfl, Nat.zero_le _, Lib.hid rfl⟩
  case round =>
    obtain ⟨k, x, rfl, rfl, hk, HK⟩ := hrel
    by_cases hlt : k < 18
    · have hx : x ≤ 100000000000000000 := by rw [← HK.out]; exact pow_le k (by omega)
      have HK2 : Hid ((10 : Nat) ^ (k + 1) = 10 * x) := Lib.hid (by rw [Nat.pow_succ, HK.out, Nat.mul_comm])
      clear HK
      go_wp2
      go_round
      case rel => exact ⟨k + 1, 10 * x, by go_num, by go_num, hlt, HK2⟩
      case measure => simp [intOf]; omega
    · obtain rfl : k = 18 := by omega
      have e : x = X := by rw [← HK.out, HX.out]
      subst e
      clear HK HX
      go_wp2
      go_ret
      exact ⟨rfl, rfl⟩
set_option maxRecDepth 100000 in
theorem refgood_walk (n : Bool) (c s : Int) (w : World) :
    Calls Tryd.prog 18 #[numV n c s] w fun e w' => e = .returned (.bool (goodB n c s)) ∧ Below w.heap.size w w' := by
  have HP := fun (W : World) (m : Nat) => Lib.hid (refpower_walk (W.drewN m))
  obtain ⟨r, hr⟩ : ∃ r, goodB n c s = r := ⟨_, rfl⟩
  rw [hr]
  unfold goodB at hr
  by_cases h1 : 0 ≤ c
  · have g1 : decide (0 ≤ c) = true := decide_eq_true h1
    rw [g1] at hr
    by_cases h2 : c < 1000000000000000000
    · have g2 : decide (c < 1000000000000000000) = true := decide_eq_true h2
      rw [g2] at hr
      by_cases h3 : 0 ≤ s
      · have g3 : decide (0 ≤ s) = true := decide_eq_true h3
        rw [g3] at hr
        by_cases h4 : s ≤ 5
        · have g4 : decide (s ≤ 5) = true := decide_eq_true h4
          rw [g4] at hr
          cases n
          · have hr : true = r := hr
            subst hr
            go_enter Tryd.func18, Tryd.ntmps18
            go_wp2_with fail
            go_quiet ((go_at_call 44; exact Calls.quiet_of_same (HP _ _).out))
            go_wp2
            go_ret
            exact ⟨rfl, below_drewN ((Below.refl _ w).alloc (Nat.le_refl _) _) _⟩
          · by_cases h5 : 0 < c
            · rw [decide_eq_true h5] at hr
              have hr : true = r := hr
              have g5 : (c != 0) = true := by simp; omega
              subst hr
              go_enter Tryd.func18, Tryd.ntmps18
              go_wp2_with fail
              go_quiet ((go_at_call 44; exact Calls.quiet_of_same (HP _ _).out))
              go_wp2
              go_ret
              exact ⟨rfl, below_drewN ((Below.refl _ w).alloc (Nat.le_refl _) _) _⟩
            · rw [decide_eq_false h5] at hr
              have hr : false = r := hr
              have g5 : (c != 0) = false := by simp; omega
              subst hr
              go_enter Tryd.func18, Tryd.ntmps18
              go_wp2_with fail
              go_quiet ((go_at_call 44; exact Calls.quiet_of_same (HP _ _).out))
              go_wp2
              go_ret
              exact ⟨rfl, below_drewN ((Below.refl _ w).alloc (Nat.le_refl _) _) _⟩
        · have g4 : decide (s ≤ 5) = false := decide_eq_false h4
          rw [g4] at hr
          have hr : false = r := hr
          subst hr
          go_enter Tryd.func18, Tryd.ntmps18
          go_wp2_with fail
          go_quiet ((go_at_call 44; exact Calls.quiet_of_same (HP _ _).out))
          go_wp2
          go_ret
          exact ⟨rfl, below_drewN ((Below.refl _ w).alloc (Nat.le_refl _) _) _⟩
      · have g3 : decide (0 ≤ s) = false := decide_eq_false h3
        rw [g3] at hr
        have hr : false = r := hr
        subst hr
        go_enter Tryd.func18, Tryd.ntmps18
        go_wp2_with fail
        go_quiet ((go_at_call 44; exact Calls.quiet_of_same (HP _ _).out))
        go_wp2
        go_ret
        exact ⟨rfl, below_drewN ((Below.refl _ w).alloc (Nat.le_refl _) _) _⟩
    · have g2 : decide (c < 1000000000000000000) = false := decide_eq_false h2
      rw [g2] at hr
      have hr : false = r := hr
      subst hr
      go_enter Tryd.func18, Tryd.ntmps18
      go_wp2_with fail
      go_quiet ((go_at_call 44; exact Calls.quiet_of_same (HP _ _).out))
      go_wp2
      go_ret
      exact ⟨rfl, below_drewN ((Below.refl _ w).alloc (Nat.le_refl _) _) _⟩
  · have g1 : decide (0 ≤ c) = false := decide_eq_false h1
    rw [g1] at hr
    have hr : false = r := hr
    subst hr
    go_enter Tryd.func18, Tryd.ntmps18
    go_wp2_with fail
    go_quiet ((go_at_call 44; exact Calls.quiet_of_same (HP _ _).out))
    go_wp2
    go_ret
    exact ⟨rfl, below_drewN ((Below.refl _ w).alloc (Nat.le_refl _) _) _⟩
def remitterref01_Good.f (a0_0 : Bool) (a0_1 a0_2 : Int) : Option Bool := some (goodB a0_0 a0_1 a0_2)
theorem remitterref01_Good.calls (a0_0 : Bool) (a0_1 a0_2 : Int) (r : Bool) (w : World) (h : remitterref01_Good.f a0_0 a0_1 a0_2 = some r) :
    Calls Tryd.prog 18 #[.agg #[.bool a0_0, .int .i64 a0_1, .int .i64 a0_2]] w fun e w' => e = .returned (.bool r) ∧ Below w.heap.size w w' := by
  obtain rfl := Option.some.inj h
  exact refgood_walk a0_0 a0_1 a0_2 w
end Go.Proofs.YtggakekljbgeoaaDoor.PAll

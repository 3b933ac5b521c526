/- The contract of the document's Words, by hand. -/
import Derived.Test.YtggakekljbgeoaaDoorProg
import Derived.Test.YtggakekljbgeoaaDoorGPlain
import Derived.WalkKit
import Derived.Lib.Hide
namespace Go.Proofs.YtggakekljbgeoaaDoor.PAll
open Go.RowKit GPlain
set_option linter.unusedSimpArgs false

def wd0 : ByteArray := ⟨#[66, 73, 70, 32, 67, 76, 80, 32, 68, 74, 70, 32, 71, 78, 70, 32, 73, 83, 75, 32, 74, 80, 89, 32, 75, 77, 70, 32, 75, 82, 87, 32, 80, 89, 71, 32, 82, 87, 70, 32, 85, 71, 88, 32, 86, 78, 68, 32, 86, 85, 86, 32, 88, 65, 70, 32, 88, 79, 70, 32, 88, 80, 70, 32]⟩
def wd2 : ByteArray := ⟨#[65, 69, 68, 32, 65, 85, 68, 32, 66, 82, 76, 32, 67, 65, 68, 32, 67, 72, 70, 32, 67, 78, 89, 32, 67, 90, 75, 32, 68, 75, 75, 32, 69, 71, 80, 32, 69, 85, 82, 32, 71, 66, 80, 32, 72, 75, 68, 32, 72, 85, 70, 32, 73, 68, 82, 32, 73, 76, 83, 32, 73, 78, 82, 32, 75, 69, 83, 32, 77, 65, 68, 32, 77, 88, 78, 32, 77, 89, 82, 32, 78, 71, 78, 32, 78, 79, 75, 32, 78, 90, 68, 32, 80, 72, 80, 32, 80, 76, 78, 32, 81, 65, 82, 32, 82, 79, 78, 32, 83, 65, 82, 32, 83, 69, 75, 32, 83, 71, 68, 32, 84, 72, 66, 32, 84, 82, 89, 32, 84, 87, 68, 32, 85, 65, 72, 32, 85, 83, 68, 32, 90, 65, 82, 32]⟩
def wd3 : ByteArray := ⟨#[66, 72, 68, 32, 73, 81, 68, 32, 74, 79, 68, 32, 75, 87, 68, 32, 76, 89, 68, 32, 79, 77, 82, 32, 84, 78, 68, 32]⟩
def wd4 : ByteArray := ⟨#[67, 76, 70, 32, 85, 89, 87, 32]⟩
def remitterref02_Words.f (a0 : Int) : Option ByteArray := some (if a0 = 0 then wd0 else if a0 = 2 then wd2 else if a0 = 3 then wd3 else if a0 = 4 then wd4 else ⟨#[]⟩)
set_option maxRecDepth 100000 in
theorem remitterref02_Words.calls (a0 : Int) (r : ByteArray) (w : World) (h : remitterref02_Words.f a0 = some r) :
    Calls Tryd.prog 30 #[.int .i64 a0] w fun e w' => e = .returned (.string r) ∧ w' = w := by
  obtain rfl := Option.some.inj h
  by_cases h0 : a0 = 0
  · subst h0
    rw [if_pos rfl]
    go_enter Tryd.func30, Tryd.ntmps30
    go_wp2
    go_ret
    exact ⟨rfl, rfl⟩
  · rw [if_neg h0]
    by_cases h2 : a0 = 2
    · subst h2
      rw [if_pos rfl]
      go_enter Tryd.func30, Tryd.ntmps30
      go_wp2
      go_ret
      exact ⟨rfl, rfl⟩
    · rw [if_neg h2]
      by_cases h3 : a0 = 3
      · subst h3
        rw [if_pos rfl]
        go_enter Tryd.func30, Tryd.ntmps30
        go_wp2
        go_ret
        exact ⟨rfl, rfl⟩
      · rw [if_neg h3]
        by_cases h4 : a0 = 4
        · subst h4
          rw [if_pos rfl]
          go_enter Tryd.func30, Tryd.ntmps30
          go_wp2
          go_ret
          exact ⟨rfl, rfl⟩
        · rw [if_neg h4]
          go_enter Tryd.func30, Tryd.ntmps30
          go_wp2
          go_ret
          exact ⟨rfl, rfl⟩
end Go.Proofs.YtggakekljbgeoaaDoor.PAll

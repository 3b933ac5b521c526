/- strings.Contains, by the library's contract. -/
import Derived.Test.YtiadcjdpeegbbaaDoorGWorld
import Derived.Test.YtiadcjdpeegbbaaDoorGPlain
namespace Go.Proofs.YtiadcjdpeegbbaaDoor.PAll
open Go.RowKit GPlain
/-- strings.Contains. -/
def strings_Contains.f (a b : ByteArray) : Option Bool := if a.size < 4294967281 then some (Lib.contains a.data.toList b.data.toList) else none
theorem strings_Contains.calls (a b : ByteArray) (r : Bool) (w : World) (h : strings_Contains.f a b = some r) (hG : GW w) :
    Calls Tryd.prog 21 #[.string a, .string b] w fun e w' => e = .returned (.bool r) ∧ Below w.heap.size w w' := by
  unfold strings_Contains.f at h
  by_cases hc : a.size < 4294967281
  · rw [if_pos hc] at h
    obtain rfl := Option.some.inj h
    obtain ⟨m, hm⟩ := hG
    refine (Tryd.strings_Contains a b m w hc hm).mono ?_
    rintro e w' ⟨rfl, rfl⟩
    exact ⟨rfl, Below.refl _ _⟩
  · rw [if_neg hc] at h
    cases h
end Go.Proofs.YtiadcjdpeegbbaaDoor.PAll

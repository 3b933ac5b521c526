/- strings.Cut, by the library's contract. -/
import Derived.Test.YtggakekljbgeoaaDoorGWorld
import Derived.Test.YtggakekljbgeoaaDoorGPlain
namespace Go.Proofs.YtggakekljbgeoaaDoor.PAll
open Go.RowKit GPlain
/-- strings.Cut. -/
def strings_Cut.f (a b : ByteArray) : Option (ByteArray × ByteArray × Bool) :=
  if a.size < 4294967281 then some (bs (Lib.cut a.data.toList b.data.toList).1, bs (Lib.cut a.data.toList b.data.toList).2.1, (Lib.cut a.data.toList b.data.toList).2.2) else none
theorem strings_Cut.calls (a b : ByteArray) (r1 r2 : ByteArray) (r3 : Bool) (w : World) (h : strings_Cut.f a b = some (r1, r2, r3)) (hG : GW w) :
    Calls Tryd.prog 39 #[.string a, .string b] w fun e w' => e = .returned (.tuple #[.string r1, .string r2, .bool r3]) ∧ Below w.heap.size w w' := by
  unfold strings_Cut.f at h
  by_cases hc : a.size < 4294967281
  · rw [if_pos hc] at h
    have h := Option.some.inj h
    simp only [Prod.mk.injEq] at h
    obtain ⟨rfl, rfl, rfl⟩ := h
    obtain ⟨m, hm⟩ := hG
    refine (Tryd.strings_Cut a b m w hc hm).mono ?_
    rintro e w' ⟨rfl, n, rfl⟩
    exact ⟨rfl, (Below.refl _ w).trans ⟨rfl, rfl, rfl, Nat.le_refl _, fun _ _ => rfl⟩⟩
  · rw [if_neg hc] at h
    cases h
end Go.Proofs.YtggakekljbgeoaaDoor.PAll

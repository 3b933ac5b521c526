/- strings.ReplaceAll, by the library's contract. -/
import Derived.Test.YtjemnphmjbodfaaDoorGWorld
import Derived.Test.YtjemnphmjbodfaaDoorGPlain
namespace Go.Proofs.YtjemnphmjbodfaaDoor.PAll
open Go.RowKit GPlain
/-- strings.ReplaceAll. -/
def strings_ReplaceAll.f (a b c : ByteArray) : Option ByteArray :=
  if a.size < 4294967281 ∧ 1 ≤ b.size ∧ a.size + Lib.countB a b * c.size ≤ 140737488355328 then some (bs (Lib.replaceAll a.data.toList b.data.toList c.data.toList)) else none
theorem strings_ReplaceAll.calls (a b c : ByteArray) (r : ByteArray) (w : World) (h : strings_ReplaceAll.f a b c = some r) (hG : GW w) :
    Calls Tryd.prog 20 #[.string a, .string b, .string c] w fun e w' => e = .returned (.string r) ∧ Below w.heap.size w w' := by
  unfold strings_ReplaceAll.f at h
  by_cases hc : a.size < 4294967281 ∧ 1 ≤ b.size ∧ a.size + Lib.countB a b * c.size ≤ 140737488355328
  · rw [if_pos hc] at h
    obtain rfl := Option.some.inj h
    obtain ⟨m, hm⟩ := hG
    exact Tryd.strings_ReplaceAll a b c m w hc.1 hm hc.2.1 hc.2.2
  · rw [if_neg hc] at h
    cases h
end Go.Proofs.YtjemnphmjbodfaaDoor.PAll

/- Plain law: DecimalAdds. (Over GRefAdd, whose function is decimal.Add's.) -/
import Derived.Test.YtggakekljbgeoaaDoorPAdsx4
import Derived.Test.YtggakekljbgeoaaDoorPureAt
namespace Go.Proofs.YtggakekljbgeoaaDoor.Pure
open Go.RowKit Go.Proofs.YtggakekljbgeoaaDoor.PAll Go.Proofs.YtggakekljbgeoaaDoorW.PrintWords Go.Proofs.YtggakekljbgeoaaDoorW.PrintLast GPlain
set_option linter.unusedSimpArgs false

theorem DecimalAdds (a0_0 : Bool) (a0_1 a0_2 : Int) (a1_0 : Bool) (a1_1 a1_2 : Int) :
    ∃ k, remitterlaw01_DecimalAdds.f k a0_0 a0_1 a0_2 a1_0 a1_1 a1_2 = some true := by
  refine ⟨200, ?_⟩
  obtain ⟨⟨v1, v2, v3, v4⟩, hv⟩ : ∃ v, decimal_Add.f a0_0 a0_1 a0_2 a1_0 a1_1 a1_2 = some v := ⟨_, rfl⟩
  have hv2 : remitterref01_Add.f a0_0 a0_1 a0_2 a1_0 a1_1 a1_2 = some (v1, v2, v3, v4) := hv
  have hno : ∀ k, remitterlaw01_DecimalAdds.j0 (k + 1) v4 false a0_0 a0_1 a0_2 a1_0 a1_1 a1_2 v1 v2 v3 = some true := by
    intro k
    rw [remitterlaw01_DecimalAdds.j0, if_neg (by decide), hv, Option.bind_some]
    dsimp only
    rw [if_pos (by simp), if_pos rfl, wakes_ok]
    rfl
  have h1 : remitterref01_Good.f a0_0 a0_1 a0_2 = some (goodB a0_0 a0_1 a0_2) := rfl
  have h2 : remitterref01_Good.f a1_0 a1_1 a1_2 = some (goodB a1_0 a1_1 a1_2) := rfl
  unfold remitterlaw01_DecimalAdds.f
  rw [hv2, Option.bind_some, h1, Option.bind_some, h2, Option.bind_some]
  dsimp only
  cases g0 : goodB a0_0 a0_1 a0_2
  · rw [if_neg (by decide)]
    exact hno 199
  · rw [if_pos rfl]
    cases g1 : goodB a1_0 a1_1 a1_2
    · exact hno 199
    · obtain ⟨e1, e2, ga⟩ := goodN_of g0
      obtain ⟨e3, e4, gb⟩ := goodN_of g1
      have hr := refcmp_f ga gb 199 (by decide)
      have hc := cmp_good_f ga gb
      rw [← e1, ← e2, ← e3, ← e4] at hr hc
      generalize cmpI (worthN a0_0 a0_1.toNat a0_2.toNat) (worthN a1_0 a1_1.toNat a1_2.toNat) = x at hr hc
      rw [remitterlaw01_DecimalAdds.j0, if_pos rfl, hr, Option.bind_some, hv, Option.bind_some]
      dsimp only
      rw [if_pos (by simp), if_pos rfl, hc, Option.bind_some, if_pos rfl, wakes_ok]
      rfl
end Go.Proofs.YtggakekljbgeoaaDoor.Pure

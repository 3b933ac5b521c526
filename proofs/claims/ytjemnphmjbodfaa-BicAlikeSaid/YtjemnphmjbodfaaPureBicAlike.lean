/- BicAlike: of two BICs, the full forms are one just if the short ones are, and so are the addresses; for every two texts. -/
import Derived.Test.YtjemnphmjbodfaaPAllx1
import Derived.Test.YtjemnphmjbodfaaPureBic
namespace Go.Proofs.Ytjemnphmjbodfaa.Pure
open Go.RowKit Go.Proofs.Ytjemnphmjbodfaa.PAll Go.Proofs.YtjemnphmjbodfaaW.PrintWords Go.Proofs.YtjemnphmjbodfaaW.PrintLast GPlain
set_option linter.unusedSimpArgs false

theorem j0_wake (k : Nat) (a b : ByteArray) : remitterlaw04_BicAlike.j0 (k + 1) a b true = some true := by
  simp only [remitterlaw04_BicAlike.j0, if_true, wakes_ok, Option.bind_some]

theorem BicAlike : remitterlaw04_BicAlike.Pure := by
  intro s t _ _
  obtain ⟨l, rfl⟩ := bs_ex s
  obtain ⟨m, rfl⟩ := bs_ex t
  refine ⟨1, ?_⟩
  unfold remitterlaw04_BicAlike.f
  rw [check_f, check_f]
  simp only [Option.bind_some]
  split
  · exact j0_wake 0 _ _
  · cases hl : chk l
    · simpa using j0_wake 0 _ _
    · cases hm : chk m
      · simpa using j0_wake 0 _ _
      · have el := chk_len hl
        have em := chk_len hm
        simp only [if_true, bne_self_eq_false]
        simp only [remitterlaw04_BicAlike.j0, full_f, short_f, address_f, hl, hm, if_true, Option.bind_some, bs_toList, wakes_ok]
        rw [if_neg (by decide), if_pos (beq_of (full_iff_short el em)), if_pos (beq_of (addr_iff_full el em))]
        by_cases e : l = m
        · subst e
          simp
        · rw [if_neg e]

end Go.Proofs.Ytjemnphmjbodfaa.Pure

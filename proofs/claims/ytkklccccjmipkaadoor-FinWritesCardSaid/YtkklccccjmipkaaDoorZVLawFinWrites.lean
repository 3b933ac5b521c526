-- Written by wip/tools/mkrow.py over a printed row: a law with structs by value.
import Derived.Test.YtkklccccjmipkaaDoorRows
import Derived.Test.YtkklccccjmipkaaDoorZVPFWritesx3
import Derived.Test.YtkklccccjmipkaaDoorZVPureFinWrites
import Derived.Test.YtkklccccjmipkaaDoorZVGMsgRow
import Derived.WalkKit
import Derived.ProofKit
import Derived.OpenShut
import Derived.ShutString
import Derived.ChangeOld
import Derived.Below
import Derived.SizedLaws
import Derived.HandedShaped
import Derived.LaidMore
import Derived.Lay
import Derived.Stop.Joined
import Derived.Test.YtkklccccjmipkaaDoorZGWorld
namespace Go.Proofs.YtkklccccjmipkaaDoor.finWrites
open Go.ChangeShapes Go.WideShapes Go.ChangeAt Go.RowKit
open Go.ChangeMaps (open_string shut_string)
set_option linter.unusedVariables false
theorem own : ownKnob Tryd.prog.godebug = none := by kernel_rfl
set_option maxRecDepth 100000 in
theorem lifted (os : Os) (started : os.Started) (H : Type) (enc : TypeId × Value → H) :
    ReturnsInHanded {} Tryd.checked os 4 .any (fun w args => (Rows.finWritesSpec.pre enc Tryd.prog Tryd.f4 Rows.finWritesRow.domain false w args ∧ laidMetH Tryd.prog Rows.finWritesRow.laid w) ∧ sizedMet enc Tryd.prog Tryd.f4 (OpenSpec.ofChange Rows.finWritesSpec) false w args) (Rows.finWritesSpec.post enc Tryd.prog Tryd.f4 false true false false) := by
  refine PAll.returnsIn_laid_shaped (C := Tryd.checked) (X := fun w _ => laidMetH Tryd.prog Rows.finWritesRow.laid w) (fun _ _ _ hh h => h.of_heap hh) own started (by kernel_rfl) Tryd.func4
    (ChangeSpec.witness_shaped (enc := enc) (C := Tryd.checked) (os := os) (X := fun w _ => laidMetH Tryd.prog Rows.finWritesRow.laid w) false (World.laidAll Tryd.prog os Rows.finWritesRow.laid) #[.agg #[.string ByteArray.empty, .string ByteArray.empty, .string ByteArray.empty, .string ByteArray.empty, .string ByteArray.empty]] 8 (World.laidAll_os _ _ _)
      (World.shaped_of_ZipB (by kernel_rfl) (by kernel_rfl)) (by kernel_rfl) (by kernel_rfl) (by kernel_rfl)
      (by rw [MakeChecks.laidMetH_plain _ _ _ (by kernel_rfl)]; exact laidMet_laidAll _ (by kernel_rfl) (by kernel_rfl))) ?_
  intro W base args ds gs before hval0 hW hcnd hsz0 hL hsh _
  have hsz : (DataW.weightsEach Tryd.prog (Tryd.f4.params.toList ++ Rows.finWritesSpec.plain.varTypes Tryd.prog) (ds ++ gs)).all (· ≤ reachBytes) = true := hsz0
  have hval : ∀ (j : Nat) t v, Tryd.f4.params[j]? = some t → args[j]? = some v → Value.okWide Tryd.prog W .any base t v := hval0
  have hW' := hW
  obtain ⟨p, q, hA0, hV, rfl, hfz, hnd⟩ := hW
  have hA : DataW.TrodAll enc Tryd.prog W 0 (fun _ => true) true Tryd.f4.params.toList args.toList ds p := hA0
  rw [Tryd.params4] at hA hval hsz
  obtain ⟨v0, vs0, d0, ds0, p0, q0, hargs, rfl, rfl, h0, r0⟩ := trodAll_cons hA
  obtain ⟨rfl, rfl, rfl⟩ := trodAll_nil r0
  obtain rfl : args = #[v0] := by cases args; simp_all
  obtain ⟨rfl, rfl⟩ := trodVars_none hV
  obtain ⟨a0_0, a0_1, a0_2, a0_3, a0_4, rfl, rfl, rfl, y0⟩ := MsgRow.open_msg (hval 0 24 v0 rfl rfl) h0
  have w0 := MsgRow.sized_msg hsz (j := 0) rfl rfl
  clear hA0 hval0 hsz0 hsz
  obtain ⟨k, hk⟩ := Pure.FinWrites a0_0 a0_1 a0_2 a0_3 a0_4 w0
  refine (PAll.remitterlaw14_FinWrites.calls k a0_0 a0_1 a0_2 a0_3 a0_4 true W hk (PAll.GW_of W hsh)).mono fun e W' ⟨he, bel⟩ => ?_
  subst he
  exact ⟨_, rfl, _, _, _, [], _, [], hW', trodAll_mk1 (shut_bool Tryd.underlying4 _), (trodAll_cons_mk (MsgRow.shut_msg y0) trodAll_mk0), rfl, bel.frame _, fun h => by cases h⟩
theorem over : Rows.finWritesRow.holds Tryd.pinned (OpenSpec.ofChange Rows.finWritesSpec) :=
  OpenClaim.holds_of_wide 4 Tryd.f4 rfl rfl rfl rfl rfl rfl rfl ⟨rfl, rfl, rfl, rfl, rfl⟩ rfl rfl rfl rfl rfl (by kernel_rfl) Tryd.func4 (by kernel_rfl)
    (of_decide_eq_true (by kernel_rfl)) (by unfold Func.isWrapper; first | (rw [if_pos (by decide +kernel)]; kernel_rfl) | (rw [if_neg (by decide +kernel)]; exact ⟨rfl, rfl⟩))
    (fun os started H enc _ => lifted os started H enc)
theorem proved : Rows.FinWritesSaid := over
#print axioms proved
end Go.Proofs.YtkklccccjmipkaaDoor.finWrites
namespace Go.Proofs.YtkklccccjmipkaaDoor
/-- The row, under a short name, for the claim. -/
theorem finWrites_holds : Rows.FinWritesSaid := finWrites.proved
end Go.Proofs.YtkklccccjmipkaaDoor

/- The contract of currency.All, by hand: the keys of the made table, sorted. -/
import Derived.Test.YtggakekljbgeoaaDoorGTable
import Derived.Test.YtggakekljbgeoaaDoorIter
import Derived.Test.YtggakekljbgeoaaDoorWWords
namespace Go.Proofs.YtggakekljbgeoaaDoor.PAll
open Go.RowKit Go.Shelf Go.Maps Go.Sort Go.WideMaps GPlain Go.Proofs.YtggakekljbgeoaaDoorW.PrintWords
set_option linter.unusedSimpArgs false

def ccyL : List (List UInt8) := [[65, 69, 68], [65, 85, 68], [66, 72, 68], [66, 73, 70], [66, 82, 76], [67, 65, 68], [67, 72, 70], [67, 76, 70], [67, 76, 80], [67, 78, 89], [67, 90, 75], [68, 74, 70], [68, 75, 75], [69, 71, 80], [69, 85, 82], [71, 66, 80], [71, 78, 70], [72, 75, 68], [72, 85, 70], [73, 68, 82], [73, 76, 83], [73, 78, 82], [73, 81, 68], [73, 83, 75], [74, 79, 68], [74, 80, 89], [75, 69, 83], [75, 77, 70], [75, 82, 87], [75, 87, 68], [76, 89, 68], [77, 65, 68], [77, 88, 78], [77, 89, 82], [78, 71, 78], [78, 79, 75], [78, 90, 68], [79, 77, 82], [80, 72, 80], [80, 76, 78], [80, 89, 71], [81, 65, 82], [82, 79, 78], [82, 87, 70], [83, 65, 82], [83, 69, 75], [83, 71, 68], [84, 72, 66], [84, 78, 68], [84, 82, 89], [84, 87, 68], [85, 65, 72], [85, 71, 88], [85, 83, 68], [85, 89, 87], [86, 78, 68], [86, 85, 86], [88, 65, 70], [88, 79, 70], [88, 80, 70], [90, 65, 82]]
def ccyAll : List ByteArray := ccyL.map (fun l => ⟨l.toArray⟩)
set_option maxRecDepth 100000 in
theorem keys_perm : (strKeys tabD).isPerm ccyL = true := by decide +kernel
theorem ccy_sorted : ccyL.Pairwise (fun x y => x < y) := by decide +kernel
theorem sorted_is (ss : List (List UInt8)) (h : ss.Perm (strKeys tabD)) : ss.mergeSort (fun x y => decide (x ≤ y)) = ccyL := by
  refine List.Perm.eq_of_pairwise (le := fun a b => leB a b = true) (fun a b _ _ h1 h2 => ?_) (List.pairwise_mergeSort (fun a b c h1 h2 => ?_) (fun a b => ?_) ss) (ccy_sorted.imp (fun h => ?_)) (((List.mergeSort_perm ss leB).trans h).trans (List.isPerm_iff.1 keys_perm))
  · simp only [leB, decide_eq_true_eq] at h1 h2
    exact List.le_antisymm h1 h2
  · simp only [leB, decide_eq_true_eq] at *
    exact List.le_trans h1 h2
  · simp only [leB, Bool.or_eq_true, decide_eq_true_eq]
    exact List.le_total a b
  · simp only [leB, decide_eq_true_eq]
    exact List.le_of_lt h
set_option maxHeartbeats 1000000 in
theorem all_walk (w : World) (hG : GWS w) :
    Calls Tryd.prog 29 #[] w fun e w' => ∃ v : Value, e = .returned v ∧ Kd.R Kd.string 9 w' w.heap.size (fun _ => True) v ccyAll ∧ Below w.heap.size w w' := by
  refine (callsIn_wide (n := 6)).1 ?_
  have hfK : Fence.wide.fn 57 := trivial
  have hfS : Fence.wide.fn 56 := trivial
  have hfT : Fence.wide.fn 58 := trivial
  refine callsIn_of_wp Tryd.func29 rfl trivial ?_ rfl
  simp only [Tryd.ntmps29, List.size_toArray, List.length_cons, List.length_nil, Nat.reduceAdd, Nat.reduceSub, Array.replicate_succ, Array.replicate_zero, List.push_toArray, List.append_toArray, List.nil_append, List.cons_append]
  gi_wp2_with (first
    | (gi_at_call 58; refine (callsIn_wide.2 (table_calls w hG)).mono ?_; rintro e w1 ⟨rfl, hown, hb0⟩)
    | (gi_at_call 57; refine (Tryd.maps_Keys_57 _ _).mono ?_; rintro e w' ⟨rfl, rfl⟩)
    | (gi_at_call 56; refine (Tryd.slices_Sorted_keys_56_57 w.heap.size 61 tabD _ w1 hown (by decide +kernel) (by decide +kernel)).mono ?_; rintro e w' ⟨v, ss, rfl, hS, hrow, hnil, hb⟩))
  go_ret
  refine ⟨v, rfl, Kd.R_of_own ?_ (fun _ _ => trivial), (hb0.alloc hb0.size _).trans (hb.mono (by rw [World.size_alloc]; exact Nat.le_trans hb0.size (Nat.le_succ _)))⟩
  have hs := sorted_is ss hS
  have hl : ss.length = ccyAll.length := by
    have := congrArg List.length hs
    rw [List.length_mergeSort] at this
    rw [this]
    unfold ccyAll
    rw [List.length_map]
  rw [hs, hl] at hrow
  have he : ccyL.map encStr = encs Value.string ccyAll := by
    unfold ccyAll encs
    rw [List.map_map]
    rfl
  rw [he] at hrow
  exact own_weaken hrow (by rw [World.size_alloc]; exact Nat.le_trans hb0.size (Nat.le_succ _))
/-- currency.All. -/
def currency_All.f : Option (List ByteArray) := some ccyAll
theorem currency_All.calls (r : List ByteArray) (w : World) (h : currency_All.f = some r) (hGS : GWS w) :
    Calls Tryd.prog 29 #[] w fun e w' => ∃ v0_ : Value, e = .returned (v0_) ∧ Kd.R Kd.string 9 w' w.heap.size (fun _ => True) v0_ r ∧ Below w.heap.size w w' := by
  obtain rfl := Option.some.inj h
  exact all_walk w hGS
end Go.Proofs.YtggakekljbgeoaaDoor.PAll

-- Made by this session's wip/tools/gprint.py, which runs the kit's print program; some functions' contracts are proved by hand.
import Derived.Test.YtggakekljbgeoaaDoorPAllx0
import Derived.Test.YtggakekljbgeoaaDoorPExax1
import Derived.Test.YtggakekljbgeoaaDoorPExax2
import Derived.Test.YtggakekljbgeoaaDoorGAdd
import Derived.Test.YtggakekljbgeoaaDoorGCmpN
import Derived.Test.YtggakekljbgeoaaDoorPExax3
namespace Go.Proofs.YtggakekljbgeoaaDoor.PAll
open Go.RowKit Go.Proofs.YtggakekljbgeoaaDoorW.PrintWords Go.Proofs.YtggakekljbgeoaaDoorW.PrintLast Go.Proofs.YtggakekljbgeoaaDoorW.PrintMore
attribute [local go_sem] max2_int min2_int max_two min_two max_three min_three max_four min_four   -- for this text's walks alone
set_option linter.unusedVariables false
set_option linter.unusedSimpArgs false
attribute [local go_sem high] eqA24
set_option maxHeartbeats 8000000 in
set_option maxRecDepth 100000 in
theorem remitterlaw01_DecimalExact.calls (k : Nat) (a0_0 : Bool) (a0_1 : Int) (a0_2 : Int) (a1_0 : Bool) (a1_1 : Int) (a1_2 : Int) (a2_0 : Bool) (a2_1 : Int) (a2_2 : Int) (w : World) (h : remitterlaw01_DecimalExact.f k a0_0 a0_1 a0_2 a1_0 a1_1 a1_2 a2_0 a2_1 a2_2 = some true) (hG : GW w) (hGP : GWP w) :
  Calls Tryd.prog 6 #[.agg #[.bool a0_0, .int .i64 a0_1, .int .i64 a0_2], .agg #[.bool a1_0, .int .i64 a1_1, .int .i64 a1_2], .agg #[.bool a2_0, .int .i64 a2_1, .int .i64 a2_2]] w fun e w' => e = .returned (.bool true) ∧ Below w.heap.size w w' := by
 have hu24 := Tryd.underlying24
 have HG := Aside0.mk hG
 clear hG
 have HGP := Aside0.mk hGP
 clear hGP
 have HB := Aside0.mk (Below.refl w.heap.size w)
 have H : ((decimal_Good.f a0_0 a0_1 a0_2).bind fun t153 => (if t153 = true then ((decimal_Good.f a1_0 a1_1 a1_2).bind fun t154 => (if t154 = true then ((decimal_Good.f a2_0 a2_1 a2_2).bind fun t155 => (remitterlaw01_DecimalExact.j0 k (!t155) a0_0 a0_1 a0_2 a1_0 a1_1 a1_2 a2_0 a2_1 a2_2)) else (remitterlaw01_DecimalExact.j0 k true a0_0 a0_1 a0_2 a1_0 a1_1 a1_2 a2_0 a2_1 a2_2))) else (remitterlaw01_DecimalExact.j0 k true a0_0 a0_1 a0_2 a1_0 a1_1 a1_2 a2_0 a2_1 a2_2))) = some true := h
 clear h
 have HC4 := Aside0.mk H
 clear H
 go_enter Tryd.func6, Tryd.ntmps6
 go_upto_region 1 with (first | ((with_reducible refine gate_dst (N := 3) rfl ?_); refine box_event ?hg (N := 3) ?hd (cs := #[.bool a0_0, .int .i64 a0_1, .int .i64 a0_2]) (t := 24) ?hr ?_; (case hd => rfl); (case hg => rfl); (case hr => first | (go_simp; done) | (go_simp; rfl)); intro gb150 hg w5 hbox hb; have n0_ := Aside0.mk (below_step (by repeat (first | (with_reducible first | exact HB.out | apply below_alloc | apply pw_below_drewN | apply below_drew1) | exact HB.out)) hb); have n1_ := Aside0.mk (hbox); have n2_ := Aside0.mk ((by rw [hg]; exact (below_size (by repeat (first | (with_reducible first | exact HB.out | apply below_alloc | apply pw_below_drewN | apply below_drew1) | exact HB.out))) : w.heap.size ≤ gb150)); have n3_ := n2_; clear HB; have HB := n0_; have BK150 := n1_; have GW150 := n2_; have GE150 := n3_; clear n0_ n1_ n2_ n3_; clear hb hbox hg) | ((with_reducible refine gate_dst (N := 4) rfl ?_); refine box_event ?hg (N := 4) ?hd (cs := #[.bool a1_0, .int .i64 a1_1, .int .i64 a1_2]) (t := 24) ?hr ?_; (case hd => rfl); (case hg => rfl); (case hr => first | (go_simp; done) | (go_simp; rfl)); intro gb151 hg w6 hbox hb; have n0_ := Aside0.mk (blk_b hb BK150.out); have n1_ := Aside0.mk (below_step (by repeat (first | (with_reducible first | exact HB.out | apply below_alloc | apply pw_below_drewN | apply below_drew1) | exact HB.out)) hb); have n2_ := Aside0.mk (hbox); have n3_ := Aside0.mk ((by rw [hg]; exact (below_size (by repeat (first | (with_reducible first | exact HB.out | apply below_alloc | apply pw_below_drewN | apply below_drew1) | exact HB.out))) : w.heap.size ≤ gb151)); have n4_ := n3_; have n5_ := Aside0.mk ((by rw [hg]; exact Nat.ne_of_lt (blk_lt BK150.out) : gb150 ≠ gb151)); have n6_ := Aside0.mk n5_.out.symm; clear BK150 HB; have BK150 := n0_; have HB := n1_; have BK151 := n2_; have GW151 := n3_; have GE151 := n4_; have NB150_151 := n5_; have NB151_150 := n6_; clear n0_ n1_ n2_ n3_ n4_ n5_ n6_; clear hb hbox hg) | ((with_reducible refine gate_dst (N := 5) rfl ?_); refine box_event ?hg (N := 5) ?hd (cs := #[.bool a2_0, .int .i64 a2_1, .int .i64 a2_2]) (t := 24) ?hr ?_; (case hd => rfl); (case hg => rfl); (case hr => first | (go_simp; done) | (go_simp; rfl)); intro gb152 hg w7 hbox hb; have n0_ := Aside0.mk (blk_b hb BK150.out); have n1_ := Aside0.mk (blk_b hb BK151.out); have n2_ := Aside0.mk (below_step (by repeat (first | (with_reducible first | exact HB.out | apply below_alloc | apply pw_below_drewN | apply below_drew1) | exact HB.out)) hb); have n3_ := Aside0.mk (hbox); have n4_ := Aside0.mk ((by rw [hg]; exact (below_size (by repeat (first | (with_reducible first | exact HB.out | apply below_alloc | apply pw_below_drewN | apply below_drew1) | exact HB.out))) : w.heap.size ≤ gb152)); have n5_ := n4_; have n6_ := Aside0.mk ((by rw [hg]; exact Nat.ne_of_lt (blk_lt BK150.out) : gb150 ≠ gb152)); have n7_ := Aside0.mk n6_.out.symm; have n8_ := Aside0.mk ((by rw [hg]; exact Nat.ne_of_lt (blk_lt BK151.out) : gb151 ≠ gb152)); have n9_ := Aside0.mk n8_.out.symm; clear BK150 BK151 HB; have BK150 := n0_; have BK151 := n1_; have HB := n2_; have BK152 := n3_; have GW152 := n4_; have GE152 := n5_; have NB150_152 := n6_; have NB152_150 := n7_; have NB151_152 := n8_; have NB152_151 := n9_; clear n0_ n1_ n2_ n3_ n4_ n5_ n6_ n7_ n8_ n9_; clear hb hbox hg))
 (try simp only [Act.put, List.setIfInBounds_toArray, List.set_cons_zero, List.set_cons_succ])
 go_cut [37] (fun v37 wc => ∃ (kq : Nat) (x37_3 : Bool), v37 = .bool x37_3 ∧ Aside0 (remitterlaw01_DecimalExact.j0 kq x37_3 a0_0 a0_1 a0_2 a1_0 a1_1 a1_2 a2_0 a2_1 a2_2 = some true) ∧ Aside0 (kq ≤ k) ∧ Aside0 (wc.heap[gb150]? = some (.cells #[.bool a0_0, .int .i64 a0_1, .int .i64 a0_2] 24 (0, 0))) ∧ Aside0 (wc.heap[gb151]? = some (.cells #[.bool a1_0, .int .i64 a1_1, .int .i64 a1_2] 24 (0, 0))) ∧ Aside0 (wc.heap[gb152]? = some (.cells #[.bool a2_0, .int .i64 a2_1, .int .i64 a2_2] 24 (0, 0))) ∧ Aside0 (Below w.heap.size w wc))
 case first =>
  have H := HC4.out
  clear HC4
  replace H := Option.bind_eq_some_iff.mp H
  obtain ⟨t153, A80, H⟩ := H
  replace H : (if t153 = true then ((decimal_Good.f a1_0 a1_1 a1_2).bind fun t154 => (if t154 = true then ((decimal_Good.f a2_0 a2_1 a2_2).bind fun t155 => (remitterlaw01_DecimalExact.j0 k (!t155) a0_0 a0_1 a0_2 a1_0 a1_1 a1_2 a2_0 a2_1 a2_2)) else (remitterlaw01_DecimalExact.j0 k true a0_0 a0_1 a0_2 a1_0 a1_1 a1_2 a2_0 a2_1 a2_2))) else (remitterlaw01_DecimalExact.j0 k true a0_0 a0_1 a0_2 a1_0 a1_1 a1_2 a2_0 a2_1 a2_2)) = some true := H
  have A8 := Aside0.mk A80
  clear A80
  by_cases c9 : t153 = true
  ·subst c9
   have H1 : ((decimal_Good.f a1_0 a1_1 a1_2).bind fun t154 => (if t154 = true then ((decimal_Good.f a2_0 a2_1 a2_2).bind fun t155 => (remitterlaw01_DecimalExact.j0 k (!t155) a0_0 a0_1 a0_2 a1_0 a1_1 a1_2 a2_0 a2_1 a2_2)) else (remitterlaw01_DecimalExact.j0 k true a0_0 a0_1 a0_2 a1_0 a1_1 a1_2 a2_0 a2_1 a2_2))) = some true := by rw [if_pos rfl] at H; exact H
   clear H
   have H := H1
   clear H1
   replace H := Option.bind_eq_some_iff.mp H
   obtain ⟨t154, A100, H⟩ := H
   replace H : (if t154 = true then ((decimal_Good.f a2_0 a2_1 a2_2).bind fun t155 => (remitterlaw01_DecimalExact.j0 k (!t155) a0_0 a0_1 a0_2 a1_0 a1_1 a1_2 a2_0 a2_1 a2_2)) else (remitterlaw01_DecimalExact.j0 k true a0_0 a0_1 a0_2 a1_0 a1_1 a1_2 a2_0 a2_1 a2_2)) = some true := H
   have A10 := Aside0.mk A100
   clear A100
   by_cases c11 : t154 = true
   ·subst c11
    have H1 : ((decimal_Good.f a2_0 a2_1 a2_2).bind fun t155 => (remitterlaw01_DecimalExact.j0 k (!t155) a0_0 a0_1 a0_2 a1_0 a1_1 a1_2 a2_0 a2_1 a2_2)) = some true := by rw [if_pos rfl] at H; exact H
    clear H
    have H := H1
    clear H1
    replace H := Option.bind_eq_some_iff.mp H
    obtain ⟨t155, A120, H⟩ := H
    replace H : (remitterlaw01_DecimalExact.j0 k (!t155) a0_0 a0_1 a0_2 a1_0 a1_1 a1_2 a2_0 a2_1 a2_2) = some true := H
    have A12 := Aside0.mk A120
    clear A120
    have H' := Aside0.mk H
    clear H
    have hnb13 := NB150_151.out
    have hnc13 := NB151_150.out
    have hnb14 := NB150_152.out
    have hnc14 := NB152_150.out
    have hcz15_0 : w7.cell? ⟨gb150, 0, none⟩ = some (.bool a0_0) := (blk_cell BK150.out 0).trans rfl
    have hcz15_1 : w7.cell? ⟨gb150, 1, none⟩ = some (.int .i64 a0_1) := (blk_cell BK150.out 1).trans rfl
    have hcz15_2 : w7.cell? ⟨gb150, 2, none⟩ = some (.int .i64 a0_2) := (blk_cell BK150.out 2).trans rfl
    have hfz15_0 := blk_frozen BK150.out 0
    have hfz15_1 := blk_frozen BK150.out 1
    have hfz15_2 := blk_frozen BK150.out 2
    go_wp2_with (first | ((with_reducible refine gate_callee (f := 23) rfl ?_); refine goesL_ (some 26) rfl rfl Tryd.func23 (by kernel_rfl) rfl #[.agg #[.bool a0_0, .int .i64 a0_1, .int .i64 a0_2]] rfl (by (try simp only [List.map_toArray, List.map_cons, List.map_nil]); first | done | rfl | (simp only [List.length_drop, List.length_take]; rfl)) ?_; (with_reducible refine (decimal_Good.calls a0_0 a0_1 a0_2 true _ A8.out).mono ?_); rintro e w16 ⟨rfl, hb⟩; refine ⟨_, rfl, ?_⟩; have n0_ := Aside0.mk (blk_b hb BK150.out); have n1_ := Aside0.mk (blk_b hb BK151.out); have n2_ := Aside0.mk (blk_b hb BK152.out); have n3_ := Aside0.mk (below_step (by repeat (first | (with_reducible first | exact HB.out | apply below_alloc | apply pw_below_drewN | apply below_drew1) | exact HB.out)) hb); clear BK150 BK151 BK152 HB; have BK150 := n0_; have BK151 := n1_; have BK152 := n2_; have HB := n3_; clear n0_ n1_ n2_ n3_; (try clear hb); (try clear hb2); (try clear hk); (try clear hi); have hnb17 := NB151_152.out; have hnc17 := NB152_151.out; have hcz18_0 : w16.cell? ⟨gb151, 0, none⟩ = some (.bool a1_0) := (blk_cell BK151.out 0).trans rfl; have hcz18_1 : w16.cell? ⟨gb151, 1, none⟩ = some (.int .i64 a1_1) := (blk_cell BK151.out 1).trans rfl; have hcz18_2 : w16.cell? ⟨gb151, 2, none⟩ = some (.int .i64 a1_2) := (blk_cell BK151.out 2).trans rfl; have hfz18_0 := blk_frozen BK151.out 0; have hfz18_1 := blk_frozen BK151.out 1; have hfz18_2 := blk_frozen BK151.out 2) | (go_at_call 23; (with_reducible refine (decimal_Good.calls a1_0 a1_1 a1_2 true _ A10.out).mono ?_); rintro e w19 ⟨rfl, hb⟩; have n0_ := Aside0.mk (blk_b hb BK150.out); have n1_ := Aside0.mk (blk_b hb BK151.out); have n2_ := Aside0.mk (blk_b hb BK152.out); have n3_ := Aside0.mk (below_step (by repeat (first | (with_reducible first | exact HB.out | apply below_alloc | apply pw_below_drewN | apply below_drew1) | exact HB.out)) hb); clear BK150 BK151 BK152 HB; have BK150 := n0_; have BK151 := n1_; have BK152 := n2_; have HB := n3_; clear n0_ n1_ n2_ n3_; (try clear hb); (try clear hb2); (try clear hk); (try clear hi); have hcz20_0 : w19.cell? ⟨gb152, 0, none⟩ = some (.bool a2_0) := (blk_cell BK152.out 0).trans rfl; have hcz20_1 : w19.cell? ⟨gb152, 1, none⟩ = some (.int .i64 a2_1) := (blk_cell BK152.out 1).trans rfl; have hcz20_2 : w19.cell? ⟨gb152, 2, none⟩ = some (.int .i64 a2_2) := (blk_cell BK152.out 2).trans rfl; have hfz20_0 := blk_frozen BK152.out 0; have hfz20_1 := blk_frozen BK152.out 1; have hfz20_2 := blk_frozen BK152.out 2) | (go_at_call 23; (with_reducible refine (decimal_Good.calls a2_0 a2_1 a2_2 t155 _ A12.out).mono ?_); rintro e w21 ⟨rfl, hb⟩; have n0_ := Aside0.mk (blk_b hb BK150.out); have n1_ := Aside0.mk (blk_b hb BK151.out); have n2_ := Aside0.mk (blk_b hb BK152.out); have n3_ := Aside0.mk (below_step (by repeat (first | (with_reducible first | exact HB.out | apply below_alloc | apply pw_below_drewN | apply below_drew1) | exact HB.out)) hb); clear BK150 BK151 BK152 HB; have BK150 := n0_; have BK151 := n1_; have BK152 := n2_; have HB := n3_; clear n0_ n1_ n2_ n3_; (try clear hb); (try clear hb2); (try clear hk); (try clear hi)))
    go_meet
    case rel => exact ⟨_, (!t155), (by first | rfl | (simp; done) | (simp [*]; done) | exact congrArg Value.bool (Go.Proofs.YtggakekljbgeoaaDoor.GLib.not_isEmpty _) | exact congrArg Value.bool (Go.Proofs.YtggakekljbgeoaaDoor.GLib.not_isEmpty _).symm), H', ⟨by first | omega | exact Nat.le_refl _⟩, ⟨BK150.out⟩, ⟨BK151.out⟩, ⟨BK152.out⟩, ⟨by repeat (first | (with_reducible first | exact HB.out | apply below_alloc | apply pw_below_drewN | apply below_drew1) | exact HB.out)⟩⟩
   ·replace c11 := Bool.eq_false_iff.mpr c11
    subst c11
    have H1 : (remitterlaw01_DecimalExact.j0 k true a0_0 a0_1 a0_2 a1_0 a1_1 a1_2 a2_0 a2_1 a2_2) = some true := by rw [if_neg (show ¬ (false = true) by decide)] at H; exact H
    clear H
    have H := H1
    clear H1
    have H' := Aside0.mk H
    clear H
    have hnb22 := NB150_151.out
    have hnc22 := NB151_150.out
    have hnb23 := NB150_152.out
    have hnc23 := NB152_150.out
    have hcz24_0 : w7.cell? ⟨gb150, 0, none⟩ = some (.bool a0_0) := (blk_cell BK150.out 0).trans rfl
    have hcz24_1 : w7.cell? ⟨gb150, 1, none⟩ = some (.int .i64 a0_1) := (blk_cell BK150.out 1).trans rfl
    have hcz24_2 : w7.cell? ⟨gb150, 2, none⟩ = some (.int .i64 a0_2) := (blk_cell BK150.out 2).trans rfl
    have hfz24_0 := blk_frozen BK150.out 0
    have hfz24_1 := blk_frozen BK150.out 1
    have hfz24_2 := blk_frozen BK150.out 2
    go_wp2_with (first | ((with_reducible refine gate_callee (f := 23) rfl ?_); refine goesL_ (some 26) rfl rfl Tryd.func23 (by kernel_rfl) rfl #[.agg #[.bool a0_0, .int .i64 a0_1, .int .i64 a0_2]] rfl (by (try simp only [List.map_toArray, List.map_cons, List.map_nil]); first | done | rfl | (simp only [List.length_drop, List.length_take]; rfl)) ?_; (with_reducible refine (decimal_Good.calls a0_0 a0_1 a0_2 true _ A8.out).mono ?_); rintro e w25 ⟨rfl, hb⟩; refine ⟨_, rfl, ?_⟩; have n0_ := Aside0.mk (blk_b hb BK150.out); have n1_ := Aside0.mk (blk_b hb BK151.out); have n2_ := Aside0.mk (blk_b hb BK152.out); have n3_ := Aside0.mk (below_step (by repeat (first | (with_reducible first | exact HB.out | apply below_alloc | apply pw_below_drewN | apply below_drew1) | exact HB.out)) hb); clear BK150 BK151 BK152 HB; have BK150 := n0_; have BK151 := n1_; have BK152 := n2_; have HB := n3_; clear n0_ n1_ n2_ n3_; (try clear hb); (try clear hb2); (try clear hk); (try clear hi); have hnb26 := NB151_152.out; have hnc26 := NB152_151.out; have hcz27_0 : w25.cell? ⟨gb151, 0, none⟩ = some (.bool a1_0) := (blk_cell BK151.out 0).trans rfl; have hcz27_1 : w25.cell? ⟨gb151, 1, none⟩ = some (.int .i64 a1_1) := (blk_cell BK151.out 1).trans rfl; have hcz27_2 : w25.cell? ⟨gb151, 2, none⟩ = some (.int .i64 a1_2) := (blk_cell BK151.out 2).trans rfl; have hfz27_0 := blk_frozen BK151.out 0; have hfz27_1 := blk_frozen BK151.out 1; have hfz27_2 := blk_frozen BK151.out 2) | (go_at_call 23; (with_reducible refine (decimal_Good.calls a1_0 a1_1 a1_2 false _ A10.out).mono ?_); rintro e w28 ⟨rfl, hb⟩; have n0_ := Aside0.mk (blk_b hb BK150.out); have n1_ := Aside0.mk (blk_b hb BK151.out); have n2_ := Aside0.mk (blk_b hb BK152.out); have n3_ := Aside0.mk (below_step (by repeat (first | (with_reducible first | exact HB.out | apply below_alloc | apply pw_below_drewN | apply below_drew1) | exact HB.out)) hb); clear BK150 BK151 BK152 HB; have BK150 := n0_; have BK151 := n1_; have BK152 := n2_; have HB := n3_; clear n0_ n1_ n2_ n3_; (try clear hb); (try clear hb2); (try clear hk); (try clear hi)))
    go_meet
    case rel => exact ⟨_, (true), (by first | rfl | (simp; done) | (simp [*]; done) | exact congrArg Value.bool (Go.Proofs.YtggakekljbgeoaaDoor.GLib.not_isEmpty _) | exact congrArg Value.bool (Go.Proofs.YtggakekljbgeoaaDoor.GLib.not_isEmpty _).symm), H', ⟨by first | omega | exact Nat.le_refl _⟩, ⟨BK150.out⟩, ⟨BK151.out⟩, ⟨BK152.out⟩, ⟨by repeat (first | (with_reducible first | exact HB.out | apply below_alloc | apply pw_below_drewN | apply below_drew1) | exact HB.out)⟩⟩
  ·replace c9 := Bool.eq_false_iff.mpr c9
   subst c9
   have H1 : (remitterlaw01_DecimalExact.j0 k true a0_0 a0_1 a0_2 a1_0 a1_1 a1_2 a2_0 a2_1 a2_2) = some true := by rw [if_neg (show ¬ (false = true) by decide)] at H; exact H
   clear H
   have H := H1
   clear H1
   have H' := Aside0.mk H
   clear H
   have hnb29 := NB150_151.out
   have hnc29 := NB151_150.out
   have hnb30 := NB150_152.out
   have hnc30 := NB152_150.out
   have hcz31_0 : w7.cell? ⟨gb150, 0, none⟩ = some (.bool a0_0) := (blk_cell BK150.out 0).trans rfl
   have hcz31_1 : w7.cell? ⟨gb150, 1, none⟩ = some (.int .i64 a0_1) := (blk_cell BK150.out 1).trans rfl
   have hcz31_2 : w7.cell? ⟨gb150, 2, none⟩ = some (.int .i64 a0_2) := (blk_cell BK150.out 2).trans rfl
   have hfz31_0 := blk_frozen BK150.out 0
   have hfz31_1 := blk_frozen BK150.out 1
   have hfz31_2 := blk_frozen BK150.out 2
   go_wp2_with (first | ((with_reducible refine gate_callee (f := 23) rfl ?_); refine goesL_ (some 26) rfl rfl Tryd.func23 (by kernel_rfl) rfl #[.agg #[.bool a0_0, .int .i64 a0_1, .int .i64 a0_2]] rfl (by (try simp only [List.map_toArray, List.map_cons, List.map_nil]); first | done | rfl | (simp only [List.length_drop, List.length_take]; rfl)) ?_; (with_reducible refine (decimal_Good.calls a0_0 a0_1 a0_2 false _ A8.out).mono ?_); rintro e w32 ⟨rfl, hb⟩; refine ⟨_, rfl, ?_⟩; have n0_ := Aside0.mk (blk_b hb BK150.out); have n1_ := Aside0.mk (blk_b hb BK151.out); have n2_ := Aside0.mk (blk_b hb BK152.out); have n3_ := Aside0.mk (below_step (by repeat (first | (with_reducible first | exact HB.out | apply below_alloc | apply pw_below_drewN | apply below_drew1) | exact HB.out)) hb); clear BK150 BK151 BK152 HB; have BK150 := n0_; have BK151 := n1_; have BK152 := n2_; have HB := n3_; clear n0_ n1_ n2_ n3_; (try clear hb); (try clear hb2); (try clear hk); (try clear hi)))
   go_meet
   case rel => exact ⟨_, (true), (by first | rfl | (simp; done) | (simp [*]; done) | exact congrArg Value.bool (Go.Proofs.YtggakekljbgeoaaDoor.GLib.not_isEmpty _) | exact congrArg Value.bool (Go.Proofs.YtggakekljbgeoaaDoor.GLib.not_isEmpty _).symm), H', ⟨by first | omega | exact Nat.le_refl _⟩, ⟨BK150.out⟩, ⟨BK151.out⟩, ⟨BK152.out⟩, ⟨by repeat (first | (with_reducible first | exact HB.out | apply below_alloc | apply pw_below_drewN | apply below_drew1) | exact HB.out)⟩⟩
 case rest =>
  clear HC4
  (try clear p2); (try clear hcz15_0); (try clear hcz15_1); (try clear hcz15_2); (try clear hcz18_0); (try clear hcz18_1); (try clear hcz18_2); (try clear hcz20_0); (try clear hcz20_1); (try clear hcz20_2); (try clear hcz24_0); (try clear hcz24_1); (try clear hcz24_2); (try clear hcz27_0); (try clear hcz27_1); (try clear hcz27_2); (try clear hcz31_0); (try clear hcz31_1); (try clear hcz31_2); (try clear hfz15_0); (try clear hfz15_1); (try clear hfz15_2); (try clear hfz18_0); (try clear hfz18_1); (try clear hfz18_2); (try clear hfz20_0); (try clear hfz20_1); (try clear hfz20_2); (try clear hfz24_0); (try clear hfz24_1); (try clear hfz24_2); (try clear hfz27_0); (try clear hfz27_1); (try clear hfz27_2); (try clear hfz31_0); (try clear hfz31_1); (try clear hfz31_2)
  obtain ⟨kq, x37_3, rfl, HA, HJ3, BK150, BK151, BK152, HB⟩ := hcut
  cases kq with
  | zero => exact absurd HA.out (by simp [remitterlaw01_DecimalExact.j0])
  | succ kj3 =>
   have H := HA.out
   clear HA
   simp only [remitterlaw01_DecimalExact.j0] at H
   by_cases c33 : x37_3 = true
   ·subst c33
    have H1 : ((remitterlaw01_wakes.f).bind fun t156 => (some t156)) = some true := by rw [if_pos rfl] at H; exact H
    clear H
    have H := H1
    clear H1
    replace H := Option.bind_eq_some_iff.mp H
    obtain ⟨t156, A340, H⟩ := H
    replace H : (some t156) = some true := H
    have A34 := Aside0.mk A340
    clear A340
    have hr := Option.some.inj H
    subst hr
    go_wp2_with (first | ((with_reducible refine gate_callee (f := 13) rfl ?_); refine goesL_ (some 38) rfl rfl Tryd.func13 (by kernel_rfl) rfl #[] rfl (by (try simp only [List.map_toArray, List.map_cons, List.map_nil]); first | done | rfl | (simp only [List.length_drop, List.length_take]; rfl)) ?_; (with_reducible refine (remitterlaw01_wakes.calls  true _ A34.out (GW_below HG.out (by repeat (first | (with_reducible first | exact HB.out | apply below_alloc | apply pw_below_drewN | apply below_drew1 | apply below_set | exact Aside0.out (by assumption)) | exact HB.out | exact Aside0.out (by assumption)))) (GWP_below HGP.out (by repeat (first | (with_reducible first | exact HB.out | apply below_alloc | apply pw_below_drewN | apply below_drew1 | apply below_set | exact Aside0.out (by assumption)) | exact HB.out | exact Aside0.out (by assumption))))).mono ?_); rintro e w35 ⟨rfl, hb⟩; refine ⟨_, rfl, ?_⟩; have n0_ := Aside0.mk (blk_b hb BK150.out); have n1_ := Aside0.mk (blk_b hb BK151.out); have n2_ := Aside0.mk (blk_b hb BK152.out); have n3_ := Aside0.mk (below_step (by repeat (first | (with_reducible first | exact HB.out | apply below_alloc | apply pw_below_drewN | apply below_drew1) | exact HB.out)) hb); clear BK150 BK151 BK152 HB; have BK150 := n0_; have BK151 := n1_; have BK152 := n2_; have HB := n3_; clear n0_ n1_ n2_ n3_; (try clear hb); (try clear hb2); (try clear hk); (try clear hi)))
    all_goals (first | (exfalso; simp_all; done) | (exfalso; omega) | (go_ret; exact ⟨by first | rfl | (simp [errW_none, errW_some] <;> rfl) | (simp [*, errW_none, errW_some] <;> rfl), by repeat (first | (with_reducible first | exact HB.out | apply below_alloc | apply pw_below_drewN | apply below_drew1) | exact HB.out)⟩))
   ·replace c33 := Bool.eq_false_iff.mpr c33
    subst c33
    have H1 : ((decimal_Add.f a0_0 a0_1 a0_2 a1_0 a1_1 a1_2).bind fun bt157 => ((decimal_Add.f a1_0 a1_1 a1_2 a0_0 a0_1 a0_2).bind fun bt162 => ((decimal_Neg.f a0_0 a0_1 a0_2).bind fun bt167 => ((decimal_Add.f a0_0 a0_1 a0_2 bt167.1 bt167.2.1 bt167.2.2).bind fun bt170 => (if (!(bt157.1 == bt162.1) || (!(bt157.2.1 == bt162.2.1) || (!(bt157.2.2.1 == bt162.2.2.1)))) = true then (remitterlaw01_DecimalExact.j1 kj3 bt157.2.2.2 true a0_0 a0_1 a0_2 a1_0 a1_1 a1_2 a2_0 a2_1 a2_2 bt157.1 bt157.2.1 bt157.2.2.1) else (if bt157.2.2.2 = bt162.2.2.2 then (if bt170.2.2.2 = 0 then (if bt170.2.1 = 0 then (if bt170.1 = true then (remitterlaw01_DecimalExact.j1 kj3 bt157.2.2.2 true a0_0 a0_1 a0_2 a1_0 a1_1 a1_2 a2_0 a2_1 a2_2 bt157.1 bt157.2.1 bt157.2.2.1) else ((decimal_Cmp.f a0_0 a0_1 a0_2 a1_0 a1_1 a1_2).bind fun t175 => ((decimal_Cmp.f a1_0 a1_1 a1_2 a0_0 a0_1 a0_2).bind fun t176 => (remitterlaw01_DecimalExact.j1 kj3 bt157.2.2.2 (t175 != (wrap64 (-t176))) a0_0 a0_1 a0_2 a1_0 a1_1 a1_2 a2_0 a2_1 a2_2 bt157.1 bt157.2.1 bt157.2.2.1)))) else (remitterlaw01_DecimalExact.j1 kj3 bt157.2.2.2 true a0_0 a0_1 a0_2 a1_0 a1_1 a1_2 a2_0 a2_1 a2_2 bt157.1 bt157.2.1 bt157.2.2.1)) else (remitterlaw01_DecimalExact.j1 kj3 bt157.2.2.2 true a0_0 a0_1 a0_2 a1_0 a1_1 a1_2 a2_0 a2_1 a2_2 bt157.1 bt157.2.1 bt157.2.2.1)) else (remitterlaw01_DecimalExact.j1 kj3 bt157.2.2.2 true a0_0 a0_1 a0_2 a1_0 a1_1 a1_2 a2_0 a2_1 a2_2 bt157.1 bt157.2.1 bt157.2.2.1))))))) = some true := by rw [if_neg (show ¬ (false = true) by decide)] at H; exact H
    clear H
    have H := H1
    clear H1
    replace H := Option.bind_eq_some_iff.mp H
    obtain ⟨⟨t157, t158, t159, t160⟩, A360, H⟩ := H
    replace H : ((decimal_Add.f a1_0 a1_1 a1_2 a0_0 a0_1 a0_2).bind fun bt162 => ((decimal_Neg.f a0_0 a0_1 a0_2).bind fun bt167 => ((decimal_Add.f a0_0 a0_1 a0_2 bt167.1 bt167.2.1 bt167.2.2).bind fun bt170 => (if (!(t157 == bt162.1) || (!(t158 == bt162.2.1) || (!(t159 == bt162.2.2.1)))) = true then (remitterlaw01_DecimalExact.j1 kj3 t160 true a0_0 a0_1 a0_2 a1_0 a1_1 a1_2 a2_0 a2_1 a2_2 t157 t158 t159) else (if t160 = bt162.2.2.2 then (if bt170.2.2.2 = 0 then (if bt170.2.1 = 0 then (if bt170.1 = true then (remitterlaw01_DecimalExact.j1 kj3 t160 true a0_0 a0_1 a0_2 a1_0 a1_1 a1_2 a2_0 a2_1 a2_2 t157 t158 t159) else ((decimal_Cmp.f a0_0 a0_1 a0_2 a1_0 a1_1 a1_2).bind fun t175 => ((decimal_Cmp.f a1_0 a1_1 a1_2 a0_0 a0_1 a0_2).bind fun t176 => (remitterlaw01_DecimalExact.j1 kj3 t160 (t175 != (wrap64 (-t176))) a0_0 a0_1 a0_2 a1_0 a1_1 a1_2 a2_0 a2_1 a2_2 t157 t158 t159)))) else (remitterlaw01_DecimalExact.j1 kj3 t160 true a0_0 a0_1 a0_2 a1_0 a1_1 a1_2 a2_0 a2_1 a2_2 t157 t158 t159)) else (remitterlaw01_DecimalExact.j1 kj3 t160 true a0_0 a0_1 a0_2 a1_0 a1_1 a1_2 a2_0 a2_1 a2_2 t157 t158 t159)) else (remitterlaw01_DecimalExact.j1 kj3 t160 true a0_0 a0_1 a0_2 a1_0 a1_1 a1_2 a2_0 a2_1 a2_2 t157 t158 t159)))))) = some true := H
    have A36 := Aside0.mk A360
    clear A360
    replace H := Option.bind_eq_some_iff.mp H
    obtain ⟨⟨t162, t163, t164, t165⟩, A370, H⟩ := H
    replace H : ((decimal_Neg.f a0_0 a0_1 a0_2).bind fun bt167 => ((decimal_Add.f a0_0 a0_1 a0_2 bt167.1 bt167.2.1 bt167.2.2).bind fun bt170 => (if (!(t157 == t162) || (!(t158 == t163) || (!(t159 == t164)))) = true then (remitterlaw01_DecimalExact.j1 kj3 t160 true a0_0 a0_1 a0_2 a1_0 a1_1 a1_2 a2_0 a2_1 a2_2 t157 t158 t159) else (if t160 = t165 then (if bt170.2.2.2 = 0 then (if bt170.2.1 = 0 then (if bt170.1 = true then (remitterlaw01_DecimalExact.j1 kj3 t160 true a0_0 a0_1 a0_2 a1_0 a1_1 a1_2 a2_0 a2_1 a2_2 t157 t158 t159) else ((decimal_Cmp.f a0_0 a0_1 a0_2 a1_0 a1_1 a1_2).bind fun t175 => ((decimal_Cmp.f a1_0 a1_1 a1_2 a0_0 a0_1 a0_2).bind fun t176 => (remitterlaw01_DecimalExact.j1 kj3 t160 (t175 != (wrap64 (-t176))) a0_0 a0_1 a0_2 a1_0 a1_1 a1_2 a2_0 a2_1 a2_2 t157 t158 t159)))) else (remitterlaw01_DecimalExact.j1 kj3 t160 true a0_0 a0_1 a0_2 a1_0 a1_1 a1_2 a2_0 a2_1 a2_2 t157 t158 t159)) else (remitterlaw01_DecimalExact.j1 kj3 t160 true a0_0 a0_1 a0_2 a1_0 a1_1 a1_2 a2_0 a2_1 a2_2 t157 t158 t159)) else (remitterlaw01_DecimalExact.j1 kj3 t160 true a0_0 a0_1 a0_2 a1_0 a1_1 a1_2 a2_0 a2_1 a2_2 t157 t158 t159))))) = some true := H
    have A37 := Aside0.mk A370
    clear A370
    replace H := Option.bind_eq_some_iff.mp H
    obtain ⟨⟨t167, t168, t169⟩, A380, H⟩ := H
    replace H : ((decimal_Add.f a0_0 a0_1 a0_2 t167 t168 t169).bind fun bt170 => (if (!(t157 == t162) || (!(t158 == t163) || (!(t159 == t164)))) = true then (remitterlaw01_DecimalExact.j1 kj3 t160 true a0_0 a0_1 a0_2 a1_0 a1_1 a1_2 a2_0 a2_1 a2_2 t157 t158 t159) else (if t160 = t165 then (if bt170.2.2.2 = 0 then (if bt170.2.1 = 0 then (if bt170.1 = true then (remitterlaw01_DecimalExact.j1 kj3 t160 true a0_0 a0_1 a0_2 a1_0 a1_1 a1_2 a2_0 a2_1 a2_2 t157 t158 t159) else ((decimal_Cmp.f a0_0 a0_1 a0_2 a1_0 a1_1 a1_2).bind fun t175 => ((decimal_Cmp.f a1_0 a1_1 a1_2 a0_0 a0_1 a0_2).bind fun t176 => (remitterlaw01_DecimalExact.j1 kj3 t160 (t175 != (wrap64 (-t176))) a0_0 a0_1 a0_2 a1_0 a1_1 a1_2 a2_0 a2_1 a2_2 t157 t158 t159)))) else (remitterlaw01_DecimalExact.j1 kj3 t160 true a0_0 a0_1 a0_2 a1_0 a1_1 a1_2 a2_0 a2_1 a2_2 t157 t158 t159)) else (remitterlaw01_DecimalExact.j1 kj3 t160 true a0_0 a0_1 a0_2 a1_0 a1_1 a1_2 a2_0 a2_1 a2_2 t157 t158 t159)) else (remitterlaw01_DecimalExact.j1 kj3 t160 true a0_0 a0_1 a0_2 a1_0 a1_1 a1_2 a2_0 a2_1 a2_2 t157 t158 t159)))) = some true := H
    have A38 := Aside0.mk A380
    clear A380
    replace H := Option.bind_eq_some_iff.mp H
    obtain ⟨⟨t170, t171, t172, t173⟩, A390, H⟩ := H
    replace H : (if (!(t157 == t162) || (!(t158 == t163) || (!(t159 == t164)))) = true then (remitterlaw01_DecimalExact.j1 kj3 t160 true a0_0 a0_1 a0_2 a1_0 a1_1 a1_2 a2_0 a2_1 a2_2 t157 t158 t159) else (if t160 = t165 then (if t173 = 0 then (if t171 = 0 then (if t170 = true then (remitterlaw01_DecimalExact.j1 kj3 t160 true a0_0 a0_1 a0_2 a1_0 a1_1 a1_2 a2_0 a2_1 a2_2 t157 t158 t159) else ((decimal_Cmp.f a0_0 a0_1 a0_2 a1_0 a1_1 a1_2).bind fun t175 => ((decimal_Cmp.f a1_0 a1_1 a1_2 a0_0 a0_1 a0_2).bind fun t176 => (remitterlaw01_DecimalExact.j1 kj3 t160 (t175 != (wrap64 (-t176))) a0_0 a0_1 a0_2 a1_0 a1_1 a1_2 a2_0 a2_1 a2_2 t157 t158 t159)))) else (remitterlaw01_DecimalExact.j1 kj3 t160 true a0_0 a0_1 a0_2 a1_0 a1_1 a1_2 a2_0 a2_1 a2_2 t157 t158 t159)) else (remitterlaw01_DecimalExact.j1 kj3 t160 true a0_0 a0_1 a0_2 a1_0 a1_1 a1_2 a2_0 a2_1 a2_2 t157 t158 t159)) else (remitterlaw01_DecimalExact.j1 kj3 t160 true a0_0 a0_1 a0_2 a1_0 a1_1 a1_2 a2_0 a2_1 a2_2 t157 t158 t159))) = some true := H
    have A39 := Aside0.mk A390
    clear A390
    have HC40 := Aside0.mk H
    clear H
    have hnb41 := NB150_151.out
    have hnc41 := NB151_150.out
    have hnb42 := NB150_152.out
    have hnc42 := NB152_150.out
    have hcz43_0 : wc.cell? ⟨gb150, 0, none⟩ = some (.bool a0_0) := (blk_cell BK150.out 0).trans rfl
    have hcz43_1 : wc.cell? ⟨gb150, 1, none⟩ = some (.int .i64 a0_1) := (blk_cell BK150.out 1).trans rfl
    have hcz43_2 : wc.cell? ⟨gb150, 2, none⟩ = some (.int .i64 a0_2) := (blk_cell BK150.out 2).trans rfl
    have hfz43_0 := blk_frozen BK150.out 0
    have hfz43_1 := blk_frozen BK150.out 1
    have hfz43_2 := blk_frozen BK150.out 2
    have hnb44 := NB151_152.out
    have hnc44 := NB152_151.out
    have hcz45_0 : wc.cell? ⟨gb151, 0, none⟩ = some (.bool a1_0) := (blk_cell BK151.out 0).trans rfl
    have hcz45_1 : wc.cell? ⟨gb151, 1, none⟩ = some (.int .i64 a1_1) := (blk_cell BK151.out 1).trans rfl
    have hcz45_2 : wc.cell? ⟨gb151, 2, none⟩ = some (.int .i64 a1_2) := (blk_cell BK151.out 2).trans rfl
    have hfz45_0 := blk_frozen BK151.out 0
    have hfz45_1 := blk_frozen BK151.out 1
    have hfz45_2 := blk_frozen BK151.out 2
    try go_wp2_with (first | ((with_reducible refine gate_callee (f := 27) rfl ?_); refine goesL_ (some 42) rfl rfl Tryd.func27 (by kernel_rfl) rfl #[.agg #[.bool a0_0, .int .i64 a0_1, .int .i64 a0_2], .agg #[.bool a1_0, .int .i64 a1_1, .int .i64 a1_2]] rfl (by (try simp only [List.map_toArray, List.map_cons, List.map_nil]); first | done | rfl | (simp only [List.length_drop, List.length_take]; rfl)) ?_; (with_reducible refine (decimal_Add.calls a0_0 a0_1 a0_2 a1_0 a1_1 a1_2 t157 t158 t159 t160 _ A36.out).mono ?_); rintro e w46 ⟨rfl, hb⟩; refine ⟨_, rfl, ?_⟩; have n0_ := Aside0.mk (blk_b hb BK150.out); have n1_ := Aside0.mk (blk_b hb BK151.out); have n2_ := Aside0.mk (blk_b hb BK152.out); have n3_ := Aside0.mk (below_step (by repeat (first | (with_reducible first | exact HB.out | apply below_alloc | apply pw_below_drewN | apply below_drew1) | exact HB.out)) hb); clear BK150 BK151 BK152 HB; have BK150 := n0_; have BK151 := n1_; have BK152 := n2_; have HB := n3_; clear n0_ n1_ n2_ n3_; (try clear hb); (try clear hb2); (try clear hk); (try clear hi)) | ((with_reducible refine gate_dst (N := 7) rfl ?_); refine box_event ?hg (N := 7) ?hd (cs := #[.bool false, .int .i64 0, .int .i64 0]) (t := 24) ?hr ?_; (case hd => rfl); (case hg => rfl); (case hr => first | (go_simp; done) | (go_simp; rfl)); intro gb161 hg w47 hbox hb; have n0_ := Aside0.mk (blk_b hb BK150.out); have n1_ := Aside0.mk (blk_b hb BK151.out); have n2_ := Aside0.mk (blk_b hb BK152.out); have n3_ := Aside0.mk (below_step (by repeat (first | (with_reducible first | exact HB.out | apply below_alloc | apply pw_below_drewN | apply below_drew1) | exact HB.out)) hb); have n4_ := Aside0.mk (hbox); have n5_ := Aside0.mk ((by rw [hg]; exact (below_size (by repeat (first | (with_reducible first | exact HB.out | apply below_alloc | apply pw_below_drewN | apply below_drew1) | exact HB.out))) : w.heap.size ≤ gb161)); have n6_ := n5_; have n7_ := Aside0.mk ((by rw [hg]; exact Nat.ne_of_lt (blk_lt BK150.out) : gb150 ≠ gb161)); have n8_ := Aside0.mk n7_.out.symm; have n9_ := Aside0.mk ((by rw [hg]; exact Nat.ne_of_lt (blk_lt BK151.out) : gb151 ≠ gb161)); have n10_ := Aside0.mk n9_.out.symm; have n11_ := Aside0.mk ((by rw [hg]; exact Nat.ne_of_lt (blk_lt BK152.out) : gb152 ≠ gb161)); have n12_ := Aside0.mk n11_.out.symm; clear BK150 BK151 BK152 HB; have BK150 := n0_; have BK151 := n1_; have BK152 := n2_; have HB := n3_; have BK161 := n4_; have GW161 := n5_; have GE161 := n6_; have NB150_161 := n7_; have NB161_150 := n8_; have NB151_161 := n9_; have NB161_151 := n10_; have NB152_161 := n11_; have NB161_152 := n12_; clear n0_ n1_ n2_ n3_ n4_ n5_ n6_ n7_ n8_ n9_ n10_ n11_ n12_; clear hb hbox hg; have hnb48 := NB161_150.out; have hnc48 := NB150_161.out; have hnb49 := NB161_151.out; have hnc49 := NB151_161.out; have hnb50 := NB161_152.out; have hnc50 := NB152_161.out; have hcz51_0 : w47.cell? ⟨gb161, 0, none⟩ = some (.bool false) := (blk_cell BK161.out 0).trans rfl; have hcz51_1 : w47.cell? ⟨gb161, 1, none⟩ = some (.int .i64 0) := (blk_cell BK161.out 1).trans rfl; have hcz51_2 : w47.cell? ⟨gb161, 2, none⟩ = some (.int .i64 0) := (blk_cell BK161.out 2).trans rfl; have hfz51_0 := blk_frozen BK161.out 0; have hfz51_1 := blk_frozen BK161.out 1; have hfz51_2 := blk_frozen BK161.out 2; have hcz52_0 : w47.cell? ⟨gb151, 0, none⟩ = some (.bool a1_0) := (blk_cell BK151.out 0).trans rfl; have hcz52_1 : w47.cell? ⟨gb151, 1, none⟩ = some (.int .i64 a1_1) := (blk_cell BK151.out 1).trans rfl; have hcz52_2 : w47.cell? ⟨gb151, 2, none⟩ = some (.int .i64 a1_2) := (blk_cell BK151.out 2).trans rfl; have hfz52_0 := blk_frozen BK151.out 0; have hfz52_1 := blk_frozen BK151.out 1; have hfz52_2 := blk_frozen BK151.out 2; have hcz53_0 : w47.cell? ⟨gb150, 0, none⟩ = some (.bool a0_0) := (blk_cell BK150.out 0).trans rfl; have hcz53_1 : w47.cell? ⟨gb150, 1, none⟩ = some (.int .i64 a0_1) := (blk_cell BK150.out 1).trans rfl; have hcz53_2 : w47.cell? ⟨gb150, 2, none⟩ = some (.int .i64 a0_2) := (blk_cell BK150.out 2).trans rfl; have hfz53_0 := blk_frozen BK150.out 0; have hfz53_1 := blk_frozen BK150.out 1; have hfz53_2 := blk_frozen BK150.out 2) | ((with_reducible refine gate_callee (f := 27) rfl ?_); refine goesL_ (some 48) rfl rfl Tryd.func27 (by kernel_rfl) rfl #[.agg #[.bool a1_0, .int .i64 a1_1, .int .i64 a1_2], .agg #[.bool a0_0, .int .i64 a0_1, .int .i64 a0_2]] rfl (by (try simp only [List.map_toArray, List.map_cons, List.map_nil]); first | done | rfl | (simp only [List.length_drop, List.length_take]; rfl)) ?_; (with_reducible refine (decimal_Add.calls a1_0 a1_1 a1_2 a0_0 a0_1 a0_2 t162 t163 t164 t165 _ A37.out).mono ?_); rintro e w54 ⟨rfl, hb⟩; refine ⟨_, rfl, ?_⟩; have n0_ := Aside0.mk (blk_below (g := gb150) (o := .cells #[.bool a0_0, .int .i64 a0_1, .int .i64 a0_2] 24 (0, 0)) (by (with_reducible repeat first | refine blk_drewN ?_ _ | refine blk_drew ?_ | refine blk_alloc ?_ _); refine blk_far ?_ NB150_161.out _; (with_reducible repeat first | refine blk_drewN ?_ _ | refine blk_drew ?_ | refine blk_alloc ?_ _); refine blk_far ?_ NB150_161.out _; (with_reducible repeat first | refine blk_drewN ?_ _ | refine blk_drew ?_ | refine blk_alloc ?_ _); refine blk_far ?_ NB150_161.out _; (with_reducible repeat first | refine blk_drewN ?_ _ | refine blk_drew ?_ | refine blk_alloc ?_ _); exact BK150.out) hb); have n1_ := Aside0.mk (blk_below (g := gb151) (o := .cells #[.bool a1_0, .int .i64 a1_1, .int .i64 a1_2] 24 (0, 0)) (by (with_reducible repeat first | refine blk_drewN ?_ _ | refine blk_drew ?_ | refine blk_alloc ?_ _); refine blk_far ?_ NB151_161.out _; (with_reducible repeat first | refine blk_drewN ?_ _ | refine blk_drew ?_ | refine blk_alloc ?_ _); refine blk_far ?_ NB151_161.out _; (with_reducible repeat first | refine blk_drewN ?_ _ | refine blk_drew ?_ | refine blk_alloc ?_ _); refine blk_far ?_ NB151_161.out _; (with_reducible repeat first | refine blk_drewN ?_ _ | refine blk_drew ?_ | refine blk_alloc ?_ _); exact BK151.out) hb); have n2_ := Aside0.mk (blk_below (g := gb152) (o := .cells #[.bool a2_0, .int .i64 a2_1, .int .i64 a2_2] 24 (0, 0)) (by (with_reducible repeat first | refine blk_drewN ?_ _ | refine blk_drew ?_ | refine blk_alloc ?_ _); refine blk_far ?_ NB152_161.out _; (with_reducible repeat first | refine blk_drewN ?_ _ | refine blk_drew ?_ | refine blk_alloc ?_ _); refine blk_far ?_ NB152_161.out _; (with_reducible repeat first | refine blk_drewN ?_ _ | refine blk_drew ?_ | refine blk_alloc ?_ _); refine blk_far ?_ NB152_161.out _; (with_reducible repeat first | refine blk_drewN ?_ _ | refine blk_drew ?_ | refine blk_alloc ?_ _); exact BK152.out) hb); have n3_ := Aside0.mk (blk_below (g := gb161) (o := .cells #[.bool t157, .int .i64 t158, .int .i64 t159] 24 (0, 0)) (by (with_reducible repeat first | refine blk_drewN ?_ _ | refine blk_drew ?_ | refine blk_alloc ?_ _); refine blk_put (cs := #[.bool t157, .int .i64 t158, .int .i64 0]) ?_ 2 _ rfl; (with_reducible repeat first | refine blk_drewN ?_ _ | refine blk_drew ?_ | refine blk_alloc ?_ _); refine blk_put (cs := #[.bool t157, .int .i64 0, .int .i64 0]) ?_ 1 _ rfl; (with_reducible repeat first | refine blk_drewN ?_ _ | refine blk_drew ?_ | refine blk_alloc ?_ _); refine blk_put (cs := #[.bool false, .int .i64 0, .int .i64 0]) ?_ 0 _ rfl; (with_reducible repeat first | refine blk_drewN ?_ _ | refine blk_drew ?_ | refine blk_alloc ?_ _); exact BK161.out) hb); have n4_ := Aside0.mk (below_step (by repeat (first | (with_reducible first | exact HB.out | apply below_alloc | apply pw_below_drewN | apply below_drew1 | refine below_set ?_ GE161.out) | exact HB.out)) hb); clear BK150 BK151 BK152 BK161 HB; have BK150 := n0_; have BK151 := n1_; have BK152 := n2_; have BK161 := n3_; have HB := n4_; clear n0_ n1_ n2_ n3_ n4_; (try clear hb); (try clear hb2); (try clear hk); (try clear hi)) | ((with_reducible refine gate_dst (N := 9) rfl ?_); refine box_event ?hg (N := 9) ?hd (cs := #[.bool false, .int .i64 0, .int .i64 0]) (t := 24) ?hr ?_; (case hd => rfl); (case hg => rfl); (case hr => first | (go_simp; done) | (go_simp; rfl)); intro gb166 hg w55 hbox hb; have n0_ := Aside0.mk (blk_b hb BK150.out); have n1_ := Aside0.mk (blk_b hb BK151.out); have n2_ := Aside0.mk (blk_b hb BK152.out); have n3_ := Aside0.mk (blk_b hb BK161.out); have n4_ := Aside0.mk (below_step (by repeat (first | (with_reducible first | exact HB.out | apply below_alloc | apply pw_below_drewN | apply below_drew1 | refine below_set ?_ GE161.out) | exact HB.out)) hb); have n5_ := Aside0.mk (hbox); have n6_ := Aside0.mk ((by rw [hg]; exact (below_size (by repeat (first | (with_reducible first | exact HB.out | apply below_alloc | apply pw_below_drewN | apply below_drew1 | refine below_set ?_ GE161.out) | exact HB.out))) : w.heap.size ≤ gb166)); have n7_ := n6_; have n8_ := Aside0.mk ((by rw [hg]; exact Nat.ne_of_lt (blk_lt BK150.out) : gb150 ≠ gb166)); have n9_ := Aside0.mk n8_.out.symm; have n10_ := Aside0.mk ((by rw [hg]; exact Nat.ne_of_lt (blk_lt BK151.out) : gb151 ≠ gb166)); have n11_ := Aside0.mk n10_.out.symm; have n12_ := Aside0.mk ((by rw [hg]; exact Nat.ne_of_lt (blk_lt BK152.out) : gb152 ≠ gb166)); have n13_ := Aside0.mk n12_.out.symm; have n14_ := Aside0.mk ((by rw [hg]; exact Nat.ne_of_lt (blk_lt BK161.out) : gb161 ≠ gb166)); have n15_ := Aside0.mk n14_.out.symm; clear BK150 BK151 BK152 BK161 HB; have BK150 := n0_; have BK151 := n1_; have BK152 := n2_; have BK161 := n3_; have HB := n4_; have BK166 := n5_; have GW166 := n6_; have GE166 := n7_; have NB150_166 := n8_; have NB166_150 := n9_; have NB151_166 := n10_; have NB166_151 := n11_; have NB152_166 := n12_; have NB166_152 := n13_; have NB161_166 := n14_; have NB166_161 := n15_; clear n0_ n1_ n2_ n3_ n4_ n5_ n6_ n7_ n8_ n9_ n10_ n11_ n12_ n13_ n14_ n15_; clear hb hbox hg; have hnb56 := NB166_150.out; have hnc56 := NB150_166.out; have hnb57 := NB166_151.out; have hnc57 := NB151_166.out; have hnb58 := NB166_152.out; have hnc58 := NB152_166.out; have hnb59 := NB166_161.out; have hnc59 := NB161_166.out; have hcz60_0 : w55.cell? ⟨gb166, 0, none⟩ = some (.bool false) := (blk_cell BK166.out 0).trans rfl; have hcz60_1 : w55.cell? ⟨gb166, 1, none⟩ = some (.int .i64 0) := (blk_cell BK166.out 1).trans rfl; have hcz60_2 : w55.cell? ⟨gb166, 2, none⟩ = some (.int .i64 0) := (blk_cell BK166.out 2).trans rfl; have hfz60_0 := blk_frozen BK166.out 0; have hfz60_1 := blk_frozen BK166.out 1; have hfz60_2 := blk_frozen BK166.out 2))
    have n0_ : Aside0 ((((w55.setCell ⟨gb166, 0, none⟩ (.bool t162)).setCell ⟨gb166, 1, none⟩ (.int .i64 t163)).setCell ⟨gb166, 2, none⟩ (.int .i64 t164)).heap[gb150]? = some (.cells #[.bool a0_0, .int .i64 a0_1, .int .i64 a0_2] 24 (0, 0))) := ⟨by (with_reducible repeat first | refine blk_drewN ?_ _ | refine blk_drew ?_ | refine blk_alloc ?_ _); refine blk_far ?_ NB150_166.out _; (with_reducible repeat first | refine blk_drewN ?_ _ | refine blk_drew ?_ | refine blk_alloc ?_ _); refine blk_far ?_ NB150_166.out _; (with_reducible repeat first | refine blk_drewN ?_ _ | refine blk_drew ?_ | refine blk_alloc ?_ _); refine blk_far ?_ NB150_166.out _; (with_reducible repeat first | refine blk_drewN ?_ _ | refine blk_drew ?_ | refine blk_alloc ?_ _); exact BK150.out⟩
    have n1_ : Aside0 ((((w55.setCell ⟨gb166, 0, none⟩ (.bool t162)).setCell ⟨gb166, 1, none⟩ (.int .i64 t163)).setCell ⟨gb166, 2, none⟩ (.int .i64 t164)).heap[gb151]? = some (.cells #[.bool a1_0, .int .i64 a1_1, .int .i64 a1_2] 24 (0, 0))) := ⟨by (with_reducible repeat first | refine blk_drewN ?_ _ | refine blk_drew ?_ | refine blk_alloc ?_ _); refine blk_far ?_ NB151_166.out _; (with_reducible repeat first | refine blk_drewN ?_ _ | refine blk_drew ?_ | refine blk_alloc ?_ _); refine blk_far ?_ NB151_166.out _; (with_reducible repeat first | refine blk_drewN ?_ _ | refine blk_drew ?_ | refine blk_alloc ?_ _); refine blk_far ?_ NB151_166.out _; (with_reducible repeat first | refine blk_drewN ?_ _ | refine blk_drew ?_ | refine blk_alloc ?_ _); exact BK151.out⟩
    have n2_ : Aside0 ((((w55.setCell ⟨gb166, 0, none⟩ (.bool t162)).setCell ⟨gb166, 1, none⟩ (.int .i64 t163)).setCell ⟨gb166, 2, none⟩ (.int .i64 t164)).heap[gb152]? = some (.cells #[.bool a2_0, .int .i64 a2_1, .int .i64 a2_2] 24 (0, 0))) := ⟨by (with_reducible repeat first | refine blk_drewN ?_ _ | refine blk_drew ?_ | refine blk_alloc ?_ _); refine blk_far ?_ NB152_166.out _; (with_reducible repeat first | refine blk_drewN ?_ _ | refine blk_drew ?_ | refine blk_alloc ?_ _); refine blk_far ?_ NB152_166.out _; (with_reducible repeat first | refine blk_drewN ?_ _ | refine blk_drew ?_ | refine blk_alloc ?_ _); refine blk_far ?_ NB152_166.out _; (with_reducible repeat first | refine blk_drewN ?_ _ | refine blk_drew ?_ | refine blk_alloc ?_ _); exact BK152.out⟩
    have n3_ : Aside0 ((((w55.setCell ⟨gb166, 0, none⟩ (.bool t162)).setCell ⟨gb166, 1, none⟩ (.int .i64 t163)).setCell ⟨gb166, 2, none⟩ (.int .i64 t164)).heap[gb161]? = some (.cells #[.bool t157, .int .i64 t158, .int .i64 t159] 24 (0, 0))) := ⟨by (with_reducible repeat first | refine blk_drewN ?_ _ | refine blk_drew ?_ | refine blk_alloc ?_ _); refine blk_far ?_ NB161_166.out _; (with_reducible repeat first | refine blk_drewN ?_ _ | refine blk_drew ?_ | refine blk_alloc ?_ _); refine blk_far ?_ NB161_166.out _; (with_reducible repeat first | refine blk_drewN ?_ _ | refine blk_drew ?_ | refine blk_alloc ?_ _); refine blk_far ?_ NB161_166.out _; (with_reducible repeat first | refine blk_drewN ?_ _ | refine blk_drew ?_ | refine blk_alloc ?_ _); exact BK161.out⟩
    have n4_ : Aside0 ((((w55.setCell ⟨gb166, 0, none⟩ (.bool t162)).setCell ⟨gb166, 1, none⟩ (.int .i64 t163)).setCell ⟨gb166, 2, none⟩ (.int .i64 t164)).heap[gb166]? = some (.cells #[.bool t162, .int .i64 t163, .int .i64 t164] 24 (0, 0))) := ⟨by (with_reducible repeat first | refine blk_drewN ?_ _ | refine blk_drew ?_ | refine blk_alloc ?_ _); refine blk_put (cs := #[.bool t162, .int .i64 t163, .int .i64 0]) ?_ 2 _ rfl; (with_reducible repeat first | refine blk_drewN ?_ _ | refine blk_drew ?_ | refine blk_alloc ?_ _); refine blk_put (cs := #[.bool t162, .int .i64 0, .int .i64 0]) ?_ 1 _ rfl; (with_reducible repeat first | refine blk_drewN ?_ _ | refine blk_drew ?_ | refine blk_alloc ?_ _); refine blk_put (cs := #[.bool false, .int .i64 0, .int .i64 0]) ?_ 0 _ rfl; (with_reducible repeat first | refine blk_drewN ?_ _ | refine blk_drew ?_ | refine blk_alloc ?_ _); exact BK166.out⟩
    have n5_ : Aside0 (Below w.heap.size w (((w55.setCell ⟨gb166, 0, none⟩ (.bool t162)).setCell ⟨gb166, 1, none⟩ (.int .i64 t163)).setCell ⟨gb166, 2, none⟩ (.int .i64 t164))) := ⟨by repeat (first | (with_reducible first | exact HB.out | apply below_alloc | apply pw_below_drewN | apply below_drew1 | refine below_set ?_ GE161.out | refine below_set ?_ GE166.out) | exact HB.out)⟩
    (try clear BK150)
    (try clear BK151)
    (try clear BK152)
    (try clear BK161)
    (try clear BK166)
    (try clear HB)
    generalize (((w55.setCell ⟨gb166, 0, none⟩ (.bool t162)).setCell ⟨gb166, 1, none⟩ (.int .i64 t163)).setCell ⟨gb166, 2, none⟩ (.int .i64 t164)) = w61 at n0_ n1_ n2_ n3_ n4_ n5_ ⊢
    have BK150 := n0_
    have BK151 := n1_
    have BK152 := n2_
    have BK161 := n3_
    have BK166 := n4_
    have HB := n5_
    clear n0_ n1_ n2_ n3_ n4_ n5_
    have n0_ := Aside0.mk (blk_drew BK150.out)
    have n1_ := Aside0.mk (blk_drew BK151.out)
    have n2_ := Aside0.mk (blk_drew BK152.out)
    have n3_ := Aside0.mk (blk_drew BK161.out)
    have n4_ := Aside0.mk (blk_drew BK166.out)
    have n5_ := Aside0.mk (below_drew1 HB.out)
    clear BK150
    clear BK151
    clear BK152
    clear BK161
    clear BK166
    clear HB
    have BK150 := n0_
    have BK151 := n1_
    have BK152 := n2_
    have BK161 := n3_
    have BK166 := n4_
    have HB := n5_
    clear n0_ n1_ n2_ n3_ n4_ n5_
    refine start_ (n := 10) (S := fun w' => w'.cell? ⟨gb150, 0, none⟩ = some (.bool a0_0) ∧ w'.cell? ⟨gb150, 1, none⟩ = some (.int .i64 a0_1) ∧ w'.cell? ⟨gb150, 2, none⟩ = some (.int .i64 a0_2)) (ds := []) #[false, false, false, false, false, false, false, false, false, false] (by kernel_rfl) rfl rfl ⟨(blk_cell BK150.out 0).trans rfl, (blk_cell BK150.out 1).trans rfl, (blk_cell BK150.out 2).trans rfl⟩ (fun hHeld => ?_); refine with_tabW remitterlaw01_DecimalExact.tab5 remitterlaw01_DecimalExact.bits5 (fun HT_ HW_ => ?_)
    generalize w61.drew = w62 at BK150 BK151 BK152 BK161 BK166 HB hHeld ⊢
    refine take_ (i := 0) (N := some 52) (v := ?_) (a' := ?_) #[true, false, false, false, false, false, false, false, false, false] rfl rfl (take_ofW HT_.out HW_.out (by kernel_rfl)) (fun _ _ _ h => h) (Or.inl ⟨by rfl, ?_⟩) hHeld ?_ ?_
    rotate_left
    ·rintro w' ⟨s0, s1, s2⟩
     go_simp
     with_reducible rfl
    rotate_left
    ·simp only [Act.put, List.setIfInBounds_toArray, List.set_cons_zero, List.set_cons_succ, i64_w, i32_w]
     rfl
    refine take_ (i := 1) (N := some 53) (v := ?_) (a' := ?_) #[true, true, false, false, false, false, false, false, false, false] rfl rfl (take_ofW HT_.out HW_.out (by kernel_rfl)) (fun _ _ _ h => h) (Or.inl ⟨by rfl, ?_⟩) hHeld ?_ ?_
    rotate_left
    ·rintro w' ⟨s0, s1, s2⟩
     go_simp
     with_reducible rfl
    rotate_left
    ·simp only [Act.put, List.setIfInBounds_toArray, List.set_cons_zero, List.set_cons_succ, i64_w, i32_w]
     rfl
    refine join_ (σ := Nat) 2 #[true, true, true, true, true, true, true, true, false, false] (fun s_ => [(54, .agg #[.bool t167, .int .i64 t168, .int .i64 t169]), (55, .tuple #[.agg #[.bool t170, .int .i64 t171, .int .i64 t172], .int .i64 t173]), (11, .pointer (some ⟨s_, 0, none⟩)), (51, .tuple #[.agg #[.bool t170, .int .i64 t171, .int .i64 t172], .int .i64 t173]), (56, .agg #[.bool t170, .int .i64 t171, .int .i64 t172]), (57, .int .i64 t173)]) (fun s_ w' => (w'.cell? ⟨gb150, 0, none⟩ = some (.bool a0_0) ∧ w'.cell? ⟨gb150, 1, none⟩ = some (.int .i64 a0_1) ∧ w'.cell? ⟨gb150, 2, none⟩ = some (.int .i64 a0_2)) ∧ (w'.heap[gb150]? = some (.cells #[.bool a0_0, .int .i64 a0_1, .int .i64 a0_2] 24 (0, 0))) ∧ (w'.heap[gb151]? = some (.cells #[.bool a1_0, .int .i64 a1_1, .int .i64 a1_2] 24 (0, 0))) ∧ (w'.heap[gb152]? = some (.cells #[.bool a2_0, .int .i64 a2_1, .int .i64 a2_2] 24 (0, 0))) ∧ (w'.heap[gb161]? = some (.cells #[.bool t157, .int .i64 t158, .int .i64 t159] 24 (0, 0))) ∧ (w'.heap[gb166]? = some (.cells #[.bool t162, .int .i64 t163, .int .i64 t164] 24 (0, 0))) ∧ (w'.heap[s_]? = some (.cells #[.bool false, .int .i64 0, .int .i64 0] 24 (0, 0))) ∧ (w.heap.size ≤ s_) ∧ (w.heap.size ≤ s_) ∧ (gb150 ≠ s_) ∧ (s_ ≠ gb150) ∧ (gb151 ≠ s_) ∧ (s_ ≠ gb151) ∧ (gb152 ≠ s_) ∧ (s_ ≠ gb152) ∧ (gb161 ≠ s_) ∧ (s_ ≠ gb161) ∧ (gb166 ≠ s_) ∧ (s_ ≠ gb166) ∧ (Below w.heap.size w w')) ?_ ?_
    rotate_left
    ·intro hCont
     refine two_ (i := 2) (j := 7) (Ni := some 54) (Nj := some 11) #[true, true, true, false, false, false, false, false, false, false] #[true, true, false, false, false, false, false, true, false, false] rfl rfl rfl rfl (two_of HT_.out (by kernel_rfl)) (by decide) (by decide) (fun K hK => ?_) (fun K hK => ?_)
     ·skip
      refine goes_ Tryd.func22 (by kernel_rfl) rfl #[.agg #[.bool a0_0, .int .i64 a0_1, .int .i64 a0_2]] (by rfl) rfl rfl (by (try simp only [List.map_toArray, List.map_cons, List.map_nil]); first | done | rfl | (simp only [List.length_drop, List.length_take]; rfl)) ?_
      with_reducible refine (decimal_Neg.calls a0_0 a0_1 a0_2 t167 t168 t169 _ A38.out).mono ?_
      rintro e w63 ⟨rfl, hb⟩
      refine ⟨_, rfl, ?_⟩
      have n0_ := Aside0.mk (blk_b hb BK150.out)
      have n1_ := Aside0.mk (blk_b hb BK151.out)
      have n2_ := Aside0.mk (blk_b hb BK152.out)
      have n3_ := Aside0.mk (blk_b hb BK161.out)
      have n4_ := Aside0.mk (blk_b hb BK166.out)
      have n5_ := Aside0.mk (below_step (by repeat (first | (with_reducible first | exact HB.out | apply below_alloc | apply pw_below_drewN | apply below_drew1 | refine below_set ?_ GE161.out | refine below_set ?_ GE166.out) | exact HB.out)) hb)
      clear BK150
      clear BK151
      clear BK152
      clear BK161
      clear BK166
      clear HB
      have BK150 := n0_
      have BK151 := n1_
      have BK152 := n2_
      have BK161 := n3_
      have BK166 := n4_
      have HB := n5_
      clear n0_ n1_ n2_ n3_ n4_ n5_
      (try clear hb)
      (try clear hb2)
      (try clear hk)
      (try clear hi)
      refine hK.out _ _ ⟨(blk_cell BK150.out 0).trans rfl, (blk_cell BK150.out 1).trans rfl, (blk_cell BK150.out 2).trans rfl⟩ (fun hHeld => ?_)
      clear hK K
      refine norm_ (a' := ?_) ?_ ?_
      rotate_left
      ·show Act.put _ (some 54) _ = _
       simp only [Act.put, List.setIfInBounds_toArray, List.set_cons_zero, List.set_cons_succ, i64_w, i32_w]
       rfl
      refine two_ (i := 3) (j := 7) (Ni := some 55) (Nj := some 11) #[true, true, true, true, false, false, false, false, false, false] #[true, true, true, false, false, false, false, true, false, false] rfl rfl rfl rfl (two_of HT_.out (by kernel_rfl)) (by decide) (by decide) (fun K hK => ?_) (fun K hK => ?_)
      ·skip
       refine goes_ Tryd.func27 (by kernel_rfl) rfl #[.agg #[.bool a0_0, .int .i64 a0_1, .int .i64 a0_2], .agg #[.bool t167, .int .i64 t168, .int .i64 t169]] (by rfl) rfl rfl (by (try simp only [List.map_toArray, List.map_cons, List.map_nil]); first | done | rfl | (simp only [List.length_drop, List.length_take]; rfl)) ?_
       with_reducible refine (decimal_Add.calls a0_0 a0_1 a0_2 t167 t168 t169 t170 t171 t172 t173 _ A39.out).mono ?_
       rintro e w64 ⟨rfl, hb⟩
       refine ⟨_, rfl, ?_⟩
       have n0_ := Aside0.mk (blk_b hb BK150.out)
       have n1_ := Aside0.mk (blk_b hb BK151.out)
       have n2_ := Aside0.mk (blk_b hb BK152.out)
       have n3_ := Aside0.mk (blk_b hb BK161.out)
       have n4_ := Aside0.mk (blk_b hb BK166.out)
       have n5_ := Aside0.mk (below_step (by repeat (first | (with_reducible first | exact HB.out | apply below_alloc | apply pw_below_drewN | apply below_drew1 | refine below_set ?_ GE161.out | refine below_set ?_ GE166.out) | exact HB.out)) hb)
       clear BK150
       clear BK151
       clear BK152
       clear BK161
       clear BK166
       clear HB
       have BK150 := n0_
       have BK151 := n1_
       have BK152 := n2_
       have BK161 := n3_
       have BK166 := n4_
       have HB := n5_
       clear n0_ n1_ n2_ n3_ n4_ n5_
       (try clear hb)
       (try clear hb2)
       (try clear hk)
       (try clear hi)
       refine hK.out _ _ ⟨(blk_cell BK150.out 0).trans rfl, (blk_cell BK150.out 1).trans rfl, (blk_cell BK150.out 2).trans rfl⟩ (fun hHeld => ?_)
       clear hK K
       refine norm_ (a' := ?_) ?_ ?_
       rotate_left
       ·show Act.put _ (some 55) _ = _
        simp only [Act.put, List.setIfInBounds_toArray, List.set_cons_zero, List.set_cons_succ, i64_w, i32_w]
        rfl
       refine pure_ (i := 4) (N := some 51) (v := ?_) (a' := ?_) #[true, true, true, true, true, false, false, false, false, false] rfl rfl (any_of HT_.out (by kernel_rfl)) (fun _ _ _ h => h) (Or.inl ⟨by rfl, ?_⟩) ?_ ?_
       rotate_left
       ·intro w'
        go_simp
        with_reducible rfl
       rotate_left
       ·simp only [Act.put, List.setIfInBounds_toArray, List.set_cons_zero, List.set_cons_succ, i64_w, i32_w]
        rfl
       refine pure_ (i := 5) (N := some 56) (v := ?_) (a' := ?_) #[true, true, true, true, true, true, false, false, false, false] rfl rfl (any_of HT_.out (by kernel_rfl)) (fun _ _ _ h => h) (Or.inl ⟨by rfl, ?_⟩) ?_ ?_
       rotate_left
       ·intro w'
        go_simp
        with_reducible rfl
       rotate_left
       ·simp only [Act.put, List.setIfInBounds_toArray, List.set_cons_zero, List.set_cons_succ, i64_w, i32_w]
        rfl
       refine pure_ (i := 6) (N := some 57) (v := ?_) (a' := ?_) #[true, true, true, true, true, true, true, false, false, false] rfl rfl (any_of HT_.out (by kernel_rfl)) (fun _ _ _ h => h) (Or.inl ⟨by rfl, ?_⟩) ?_ ?_
       rotate_left
       ·intro w'
        go_simp
        with_reducible rfl
       rotate_left
       ·simp only [Act.put, List.setIfInBounds_toArray, List.set_cons_zero, List.set_cons_succ, i64_w, i32_w]
        rfl
       refine one_ (i := 7) (N := some 11) #[true, true, true, true, true, true, true, true, false, false] rfl rfl (one_of HT_.out (by kernel_rfl)) (by decide) (fun K hK => ?_)
       refine box_step ?hg (N := 11) ?hd (cs := #[.bool false, .int .i64 0, .int .i64 0]) (t := 24) ?hr ?_; (case hd => rfl); (case hg => rfl); (case hr => first | (go_simp; done) | (go_simp; rfl))
       intro gb174 hg w65 hbox hb
       have n0_ := Aside0.mk (blk_b hb BK150.out)
       have n1_ := Aside0.mk (blk_b hb BK151.out)
       have n2_ := Aside0.mk (blk_b hb BK152.out)
       have n3_ := Aside0.mk (blk_b hb BK161.out)
       have n4_ := Aside0.mk (blk_b hb BK166.out)
       have n5_ := Aside0.mk (below_step (by repeat (first | (with_reducible first | exact HB.out | apply below_alloc | apply pw_below_drewN | apply below_drew1 | refine below_set ?_ GE161.out | refine below_set ?_ GE166.out) | exact HB.out)) hb)
       have n6_ := Aside0.mk (hbox)
       have n7_ := Aside0.mk ((by rw [hg]; exact (below_size (by repeat (first | (with_reducible first | exact HB.out | apply below_alloc | apply pw_below_drewN | apply below_drew1 | refine below_set ?_ GE161.out | refine below_set ?_ GE166.out) | exact HB.out))) : w.heap.size ≤ gb174))
       have n8_ := Aside0.mk ((by rw [hg]; exact (below_size (by repeat (first | (with_reducible first | exact HB.out | apply below_alloc | apply pw_below_drewN | apply below_drew1 | refine below_set ?_ GE161.out | refine below_set ?_ GE166.out) | exact HB.out))) : w.heap.size ≤ gb174))
       have n9_ := Aside0.mk ((by rw [hg]; exact Nat.ne_of_lt (blk_lt BK150.out) : gb150 ≠ gb174))
       have n10_ := Aside0.mk ((by rw [hg]; exact Nat.ne_of_gt (blk_lt BK150.out) : gb174 ≠ gb150))
       have n11_ := Aside0.mk ((by rw [hg]; exact Nat.ne_of_lt (blk_lt BK151.out) : gb151 ≠ gb174))
       have n12_ := Aside0.mk ((by rw [hg]; exact Nat.ne_of_gt (blk_lt BK151.out) : gb174 ≠ gb151))
       have n13_ := Aside0.mk ((by rw [hg]; exact Nat.ne_of_lt (blk_lt BK152.out) : gb152 ≠ gb174))
       have n14_ := Aside0.mk ((by rw [hg]; exact Nat.ne_of_gt (blk_lt BK152.out) : gb174 ≠ gb152))
       have n15_ := Aside0.mk ((by rw [hg]; exact Nat.ne_of_lt (blk_lt BK161.out) : gb161 ≠ gb174))
       have n16_ := Aside0.mk ((by rw [hg]; exact Nat.ne_of_gt (blk_lt BK161.out) : gb174 ≠ gb161))
       have n17_ := Aside0.mk ((by rw [hg]; exact Nat.ne_of_lt (blk_lt BK166.out) : gb166 ≠ gb174))
       have n18_ := Aside0.mk ((by rw [hg]; exact Nat.ne_of_gt (blk_lt BK166.out) : gb174 ≠ gb166))
       clear BK150
       clear BK151
       clear BK152
       clear BK161
       clear BK166
       clear HB
       have BK150 := n0_
       have BK151 := n1_
       have BK152 := n2_
       have BK161 := n3_
       have BK166 := n4_
       have HB := n5_
       have BK174 := n6_
       have GW174 := n7_
       have GE174 := n8_
       have NB150_174 := n9_
       have NB174_150 := n10_
       have NB151_174 := n11_
       have NB174_151 := n12_
       have NB152_174 := n13_
       have NB174_152 := n14_
       have NB161_174 := n15_
       have NB174_161 := n16_
       have NB166_174 := n17_
       have NB174_166 := n18_
       clear n0_ n1_ n2_ n3_ n4_ n5_ n6_ n7_ n8_ n9_ n10_ n11_ n12_ n13_ n14_ n15_ n16_ n17_ n18_
       clear hb hbox hg
       refine hK.out _ _ ⟨(blk_cell BK150.out 0).trans rfl, (blk_cell BK150.out 1).trans rfl, (blk_cell BK150.out 2).trans rfl⟩ (fun hHeld => ?_)
       clear hK K
       refine norm_ (a' := ?_) ?_ ?_
       rotate_left
       ·show Act.put _ (some 11) _ = _
        simp only [Act.put, List.setIfInBounds_toArray, List.set_cons_zero, List.set_cons_succ, i64_w, i32_w]
        rfl
       exact norm_ (by simp only [putAll, Act.put, List.setIfInBounds_toArray, List.set_cons_zero, List.set_cons_succ]) (hCont (gb174) _ ⟨hHeld, BK150.out, BK151.out, BK152.out, BK161.out, BK166.out, BK174.out, GW174.out, GE174.out, NB150_174.out, NB174_150.out, NB151_174.out, NB174_151.out, NB152_174.out, NB174_152.out, NB161_174.out, NB174_161.out, NB166_174.out, NB174_166.out, (by repeat (first | (with_reducible first | exact HB.out | apply below_alloc | apply pw_below_drewN | apply below_drew1 | refine below_set ?_ GE161.out | refine below_set ?_ GE166.out | refine below_set ?_ GE174.out) | exact HB.out))⟩)
      ·skip
       refine box_step ?hg (N := 11) ?hd (cs := #[.bool false, .int .i64 0, .int .i64 0]) (t := 24) ?hr ?_; (case hd => rfl); (case hg => rfl); (case hr => first | (go_simp; done) | (go_simp; rfl))
       intro gb174 hg w64 hbox hb
       have n0_ := Aside0.mk (blk_b hb BK150.out)
       have n1_ := Aside0.mk (blk_b hb BK151.out)
       have n2_ := Aside0.mk (blk_b hb BK152.out)
       have n3_ := Aside0.mk (blk_b hb BK161.out)
       have n4_ := Aside0.mk (blk_b hb BK166.out)
       have n5_ := Aside0.mk (below_step (by repeat (first | (with_reducible first | exact HB.out | apply below_alloc | apply pw_below_drewN | apply below_drew1 | refine below_set ?_ GE161.out | refine below_set ?_ GE166.out) | exact HB.out)) hb)
       have n6_ := Aside0.mk (hbox)
       have n7_ := Aside0.mk ((by rw [hg]; exact (below_size (by repeat (first | (with_reducible first | exact HB.out | apply below_alloc | apply pw_below_drewN | apply below_drew1 | refine below_set ?_ GE161.out | refine below_set ?_ GE166.out) | exact HB.out))) : w.heap.size ≤ gb174))
       have n8_ := Aside0.mk ((by rw [hg]; exact (below_size (by repeat (first | (with_reducible first | exact HB.out | apply below_alloc | apply pw_below_drewN | apply below_drew1 | refine below_set ?_ GE161.out | refine below_set ?_ GE166.out) | exact HB.out))) : w.heap.size ≤ gb174))
       have n9_ := Aside0.mk ((by rw [hg]; exact Nat.ne_of_lt (blk_lt BK150.out) : gb150 ≠ gb174))
       have n10_ := Aside0.mk ((by rw [hg]; exact Nat.ne_of_gt (blk_lt BK150.out) : gb174 ≠ gb150))
       have n11_ := Aside0.mk ((by rw [hg]; exact Nat.ne_of_lt (blk_lt BK151.out) : gb151 ≠ gb174))
       have n12_ := Aside0.mk ((by rw [hg]; exact Nat.ne_of_gt (blk_lt BK151.out) : gb174 ≠ gb151))
       have n13_ := Aside0.mk ((by rw [hg]; exact Nat.ne_of_lt (blk_lt BK152.out) : gb152 ≠ gb174))
       have n14_ := Aside0.mk ((by rw [hg]; exact Nat.ne_of_gt (blk_lt BK152.out) : gb174 ≠ gb152))
       have n15_ := Aside0.mk ((by rw [hg]; exact Nat.ne_of_lt (blk_lt BK161.out) : gb161 ≠ gb174))
       have n16_ := Aside0.mk ((by rw [hg]; exact Nat.ne_of_gt (blk_lt BK161.out) : gb174 ≠ gb161))
       have n17_ := Aside0.mk ((by rw [hg]; exact Nat.ne_of_lt (blk_lt BK166.out) : gb166 ≠ gb174))
       have n18_ := Aside0.mk ((by rw [hg]; exact Nat.ne_of_gt (blk_lt BK166.out) : gb174 ≠ gb166))
       clear BK150
       clear BK151
       clear BK152
       clear BK161
       clear BK166
       clear HB
       have BK150 := n0_
       have BK151 := n1_
       have BK152 := n2_
       have BK161 := n3_
       have BK166 := n4_
       have HB := n5_
       have BK174 := n6_
       have GW174 := n7_
       have GE174 := n8_
       have NB150_174 := n9_
       have NB174_150 := n10_
       have NB151_174 := n11_
       have NB174_151 := n12_
       have NB152_174 := n13_
       have NB174_152 := n14_
       have NB161_174 := n15_
       have NB174_161 := n16_
       have NB166_174 := n17_
       have NB174_166 := n18_
       clear n0_ n1_ n2_ n3_ n4_ n5_ n6_ n7_ n8_ n9_ n10_ n11_ n12_ n13_ n14_ n15_ n16_ n17_ n18_
       clear hb hbox hg
       refine hK.out _ _ ⟨(blk_cell BK150.out 0).trans rfl, (blk_cell BK150.out 1).trans rfl, (blk_cell BK150.out 2).trans rfl⟩ (fun hHeld => ?_)
       clear hK K
       refine norm_ (a' := ?_) ?_ ?_
       rotate_left
       ·show Act.put _ (some 11) _ = _
        simp only [Act.put, List.setIfInBounds_toArray, List.set_cons_zero, List.set_cons_succ, i64_w, i32_w]
        rfl
       refine one_ (i := 3) (N := some 55) #[true, true, true, true, false, false, false, true, false, false] rfl rfl (one_of HT_.out (by kernel_rfl)) (by decide) (fun K hK => ?_)
       refine goes_ Tryd.func27 (by kernel_rfl) rfl #[.agg #[.bool a0_0, .int .i64 a0_1, .int .i64 a0_2], .agg #[.bool t167, .int .i64 t168, .int .i64 t169]] (by rfl) rfl rfl (by (try simp only [List.map_toArray, List.map_cons, List.map_nil]); first | done | rfl | (simp only [List.length_drop, List.length_take]; rfl)) ?_
       with_reducible refine (decimal_Add.calls a0_0 a0_1 a0_2 t167 t168 t169 t170 t171 t172 t173 _ A39.out).mono ?_
       rintro e w65 ⟨rfl, hb⟩
       refine ⟨_, rfl, ?_⟩
       have n0_ := Aside0.mk (blk_b hb BK150.out)
       have n1_ := Aside0.mk (blk_b hb BK151.out)
       have n2_ := Aside0.mk (blk_b hb BK152.out)
       have n3_ := Aside0.mk (blk_b hb BK161.out)
       have n4_ := Aside0.mk (blk_b hb BK166.out)
       have n5_ := Aside0.mk (blk_b hb BK174.out)
       have n6_ := Aside0.mk (below_step (by repeat (first | (with_reducible first | exact HB.out | apply below_alloc | apply pw_below_drewN | apply below_drew1 | refine below_set ?_ GE161.out | refine below_set ?_ GE166.out | refine below_set ?_ GE174.out) | exact HB.out)) hb)
       clear BK150
       clear BK151
       clear BK152
       clear BK161
       clear BK166
       clear BK174
       clear HB
       have BK150 := n0_
       have BK151 := n1_
       have BK152 := n2_
       have BK161 := n3_
       have BK166 := n4_
       have BK174 := n5_
       have HB := n6_
       clear n0_ n1_ n2_ n3_ n4_ n5_ n6_
       (try clear hb)
       (try clear hb2)
       (try clear hk)
       (try clear hi)
       refine hK.out _ _ ⟨(blk_cell BK150.out 0).trans rfl, (blk_cell BK150.out 1).trans rfl, (blk_cell BK150.out 2).trans rfl⟩ (fun hHeld => ?_)
       clear hK K
       refine norm_ (a' := ?_) ?_ ?_
       rotate_left
       ·show Act.put _ (some 55) _ = _
        simp only [Act.put, List.setIfInBounds_toArray, List.set_cons_zero, List.set_cons_succ, i64_w, i32_w]
        rfl
       refine pure_ (i := 4) (N := some 51) (v := ?_) (a' := ?_) #[true, true, true, true, true, false, false, true, false, false] rfl rfl (any_of HT_.out (by kernel_rfl)) (fun _ _ _ h => h) (Or.inl ⟨by rfl, ?_⟩) ?_ ?_
       rotate_left
       ·intro w'
        go_simp
        with_reducible rfl
       rotate_left
       ·simp only [Act.put, List.setIfInBounds_toArray, List.set_cons_zero, List.set_cons_succ, i64_w, i32_w]
        rfl
       refine pure_ (i := 5) (N := some 56) (v := ?_) (a' := ?_) #[true, true, true, true, true, true, false, true, false, false] rfl rfl (any_of HT_.out (by kernel_rfl)) (fun _ _ _ h => h) (Or.inl ⟨by rfl, ?_⟩) ?_ ?_
       rotate_left
       ·intro w'
        go_simp
        with_reducible rfl
       rotate_left
       ·simp only [Act.put, List.setIfInBounds_toArray, List.set_cons_zero, List.set_cons_succ, i64_w, i32_w]
        rfl
       refine pure_ (i := 6) (N := some 57) (v := ?_) (a' := ?_) #[true, true, true, true, true, true, true, true, false, false] rfl rfl (any_of HT_.out (by kernel_rfl)) (fun _ _ _ h => h) (Or.inl ⟨by rfl, ?_⟩) ?_ ?_
       rotate_left
       ·intro w'
        go_simp
        with_reducible rfl
       rotate_left
       ·simp only [Act.put, List.setIfInBounds_toArray, List.set_cons_zero, List.set_cons_succ, i64_w, i32_w]
        rfl
       exact norm_ (by simp only [putAll, Act.put, List.setIfInBounds_toArray, List.set_cons_zero, List.set_cons_succ]) (hCont (gb174) _ ⟨hHeld, BK150.out, BK151.out, BK152.out, BK161.out, BK166.out, BK174.out, GW174.out, GE174.out, NB150_174.out, NB174_150.out, NB151_174.out, NB174_151.out, NB152_174.out, NB174_152.out, NB161_174.out, NB174_161.out, NB166_174.out, NB174_166.out, (by repeat (first | (with_reducible first | exact HB.out | apply below_alloc | apply pw_below_drewN | apply below_drew1 | refine below_set ?_ GE161.out | refine below_set ?_ GE166.out | refine below_set ?_ GE174.out) | exact HB.out))⟩)
     ·skip
      refine box_step ?hg (N := 11) ?hd (cs := #[.bool false, .int .i64 0, .int .i64 0]) (t := 24) ?hr ?_; (case hd => rfl); (case hg => rfl); (case hr => first | (go_simp; done) | (go_simp; rfl))
      intro gb174 hg w63 hbox hb
      have n0_ := Aside0.mk (blk_b hb BK150.out)
      have n1_ := Aside0.mk (blk_b hb BK151.out)
      have n2_ := Aside0.mk (blk_b hb BK152.out)
      have n3_ := Aside0.mk (blk_b hb BK161.out)
      have n4_ := Aside0.mk (blk_b hb BK166.out)
      have n5_ := Aside0.mk (below_step (by repeat (first | (with_reducible first | exact HB.out | apply below_alloc | apply pw_below_drewN | apply below_drew1 | refine below_set ?_ GE161.out | refine below_set ?_ GE166.out) | exact HB.out)) hb)
      have n6_ := Aside0.mk (hbox)
      have n7_ := Aside0.mk ((by rw [hg]; exact (below_size (by repeat (first | (with_reducible first | exact HB.out | apply below_alloc | apply pw_below_drewN | apply below_drew1 | refine below_set ?_ GE161.out | refine below_set ?_ GE166.out) | exact HB.out))) : w.heap.size ≤ gb174))
      have n8_ := Aside0.mk ((by rw [hg]; exact (below_size (by repeat (first | (with_reducible first | exact HB.out | apply below_alloc | apply pw_below_drewN | apply below_drew1 | refine below_set ?_ GE161.out | refine below_set ?_ GE166.out) | exact HB.out))) : w.heap.size ≤ gb174))
      have n9_ := Aside0.mk ((by rw [hg]; exact Nat.ne_of_lt (blk_lt BK150.out) : gb150 ≠ gb174))
      have n10_ := Aside0.mk ((by rw [hg]; exact Nat.ne_of_gt (blk_lt BK150.out) : gb174 ≠ gb150))
      have n11_ := Aside0.mk ((by rw [hg]; exact Nat.ne_of_lt (blk_lt BK151.out) : gb151 ≠ gb174))
      have n12_ := Aside0.mk ((by rw [hg]; exact Nat.ne_of_gt (blk_lt BK151.out) : gb174 ≠ gb151))
      have n13_ := Aside0.mk ((by rw [hg]; exact Nat.ne_of_lt (blk_lt BK152.out) : gb152 ≠ gb174))
      have n14_ := Aside0.mk ((by rw [hg]; exact Nat.ne_of_gt (blk_lt BK152.out) : gb174 ≠ gb152))
      have n15_ := Aside0.mk ((by rw [hg]; exact Nat.ne_of_lt (blk_lt BK161.out) : gb161 ≠ gb174))
      have n16_ := Aside0.mk ((by rw [hg]; exact Nat.ne_of_gt (blk_lt BK161.out) : gb174 ≠ gb161))
      have n17_ := Aside0.mk ((by rw [hg]; exact Nat.ne_of_lt (blk_lt BK166.out) : gb166 ≠ gb174))
      have n18_ := Aside0.mk ((by rw [hg]; exact Nat.ne_of_gt (blk_lt BK166.out) : gb174 ≠ gb166))
      clear BK150
      clear BK151
      clear BK152
      clear BK161
      clear BK166
      clear HB
      have BK150 := n0_
      have BK151 := n1_
      have BK152 := n2_
      have BK161 := n3_
      have BK166 := n4_
      have HB := n5_
      have BK174 := n6_
      have GW174 := n7_
      have GE174 := n8_
      have NB150_174 := n9_
      have NB174_150 := n10_
      have NB151_174 := n11_
      have NB174_151 := n12_
      have NB152_174 := n13_
      have NB174_152 := n14_
      have NB161_174 := n15_
      have NB174_161 := n16_
      have NB166_174 := n17_
      have NB174_166 := n18_
      clear n0_ n1_ n2_ n3_ n4_ n5_ n6_ n7_ n8_ n9_ n10_ n11_ n12_ n13_ n14_ n15_ n16_ n17_ n18_
      clear hb hbox hg
      refine hK.out _ _ ⟨(blk_cell BK150.out 0).trans rfl, (blk_cell BK150.out 1).trans rfl, (blk_cell BK150.out 2).trans rfl⟩ (fun hHeld => ?_)
      clear hK K
      refine norm_ (a' := ?_) ?_ ?_
      rotate_left
      ·show Act.put _ (some 11) _ = _
       simp only [Act.put, List.setIfInBounds_toArray, List.set_cons_zero, List.set_cons_succ, i64_w, i32_w]
       rfl
      refine one_ (i := 2) (N := some 54) #[true, true, true, false, false, false, false, true, false, false] rfl rfl (one_of HT_.out (by kernel_rfl)) (by decide) (fun K hK => ?_)
      refine goes_ Tryd.func22 (by kernel_rfl) rfl #[.agg #[.bool a0_0, .int .i64 a0_1, .int .i64 a0_2]] (by rfl) rfl rfl (by (try simp only [List.map_toArray, List.map_cons, List.map_nil]); first | done | rfl | (simp only [List.length_drop, List.length_take]; rfl)) ?_
      with_reducible refine (decimal_Neg.calls a0_0 a0_1 a0_2 t167 t168 t169 _ A38.out).mono ?_
      rintro e w64 ⟨rfl, hb⟩
      refine ⟨_, rfl, ?_⟩
      have n0_ := Aside0.mk (blk_b hb BK150.out)
      have n1_ := Aside0.mk (blk_b hb BK151.out)
      have n2_ := Aside0.mk (blk_b hb BK152.out)
      have n3_ := Aside0.mk (blk_b hb BK161.out)
      have n4_ := Aside0.mk (blk_b hb BK166.out)
      have n5_ := Aside0.mk (blk_b hb BK174.out)
      have n6_ := Aside0.mk (below_step (by repeat (first | (with_reducible first | exact HB.out | apply below_alloc | apply pw_below_drewN | apply below_drew1 | refine below_set ?_ GE161.out | refine below_set ?_ GE166.out | refine below_set ?_ GE174.out) | exact HB.out)) hb)
      clear BK150
      clear BK151
      clear BK152
      clear BK161
      clear BK166
      clear BK174
      clear HB
      have BK150 := n0_
      have BK151 := n1_
      have BK152 := n2_
      have BK161 := n3_
      have BK166 := n4_
      have BK174 := n5_
      have HB := n6_
      clear n0_ n1_ n2_ n3_ n4_ n5_ n6_
      (try clear hb)
      (try clear hb2)
      (try clear hk)
      (try clear hi)
      refine hK.out _ _ ⟨(blk_cell BK150.out 0).trans rfl, (blk_cell BK150.out 1).trans rfl, (blk_cell BK150.out 2).trans rfl⟩ (fun hHeld => ?_)
      clear hK K
      refine norm_ (a' := ?_) ?_ ?_
      rotate_left
      ·show Act.put _ (some 54) _ = _
       simp only [Act.put, List.setIfInBounds_toArray, List.set_cons_zero, List.set_cons_succ, i64_w, i32_w]
       rfl
      refine one_ (i := 3) (N := some 55) #[true, true, true, true, false, false, false, true, false, false] rfl rfl (one_of HT_.out (by kernel_rfl)) (by decide) (fun K hK => ?_)
      refine goes_ Tryd.func27 (by kernel_rfl) rfl #[.agg #[.bool a0_0, .int .i64 a0_1, .int .i64 a0_2], .agg #[.bool t167, .int .i64 t168, .int .i64 t169]] (by rfl) rfl rfl (by (try simp only [List.map_toArray, List.map_cons, List.map_nil]); first | done | rfl | (simp only [List.length_drop, List.length_take]; rfl)) ?_
      with_reducible refine (decimal_Add.calls a0_0 a0_1 a0_2 t167 t168 t169 t170 t171 t172 t173 _ A39.out).mono ?_
      rintro e w65 ⟨rfl, hb⟩
      refine ⟨_, rfl, ?_⟩
      have n0_ := Aside0.mk (blk_b hb BK150.out)
      have n1_ := Aside0.mk (blk_b hb BK151.out)
      have n2_ := Aside0.mk (blk_b hb BK152.out)
      have n3_ := Aside0.mk (blk_b hb BK161.out)
      have n4_ := Aside0.mk (blk_b hb BK166.out)
      have n5_ := Aside0.mk (blk_b hb BK174.out)
      have n6_ := Aside0.mk (below_step (by repeat (first | (with_reducible first | exact HB.out | apply below_alloc | apply pw_below_drewN | apply below_drew1 | refine below_set ?_ GE161.out | refine below_set ?_ GE166.out | refine below_set ?_ GE174.out) | exact HB.out)) hb)
      clear BK150
      clear BK151
      clear BK152
      clear BK161
      clear BK166
      clear BK174
      clear HB
      have BK150 := n0_
      have BK151 := n1_
      have BK152 := n2_
      have BK161 := n3_
      have BK166 := n4_
      have BK174 := n5_
      have HB := n6_
      clear n0_ n1_ n2_ n3_ n4_ n5_ n6_
      (try clear hb)
      (try clear hb2)
      (try clear hk)
      (try clear hi)
      refine hK.out _ _ ⟨(blk_cell BK150.out 0).trans rfl, (blk_cell BK150.out 1).trans rfl, (blk_cell BK150.out 2).trans rfl⟩ (fun hHeld => ?_)
      clear hK K
      refine norm_ (a' := ?_) ?_ ?_
      rotate_left
      ·show Act.put _ (some 55) _ = _
       simp only [Act.put, List.setIfInBounds_toArray, List.set_cons_zero, List.set_cons_succ, i64_w, i32_w]
       rfl
      refine pure_ (i := 4) (N := some 51) (v := ?_) (a' := ?_) #[true, true, true, true, true, false, false, true, false, false] rfl rfl (any_of HT_.out (by kernel_rfl)) (fun _ _ _ h => h) (Or.inl ⟨by rfl, ?_⟩) ?_ ?_
      rotate_left
      ·intro w'
       go_simp
       with_reducible rfl
      rotate_left
      ·simp only [Act.put, List.setIfInBounds_toArray, List.set_cons_zero, List.set_cons_succ, i64_w, i32_w]
       rfl
      refine pure_ (i := 5) (N := some 56) (v := ?_) (a' := ?_) #[true, true, true, true, true, true, false, true, false, false] rfl rfl (any_of HT_.out (by kernel_rfl)) (fun _ _ _ h => h) (Or.inl ⟨by rfl, ?_⟩) ?_ ?_
      rotate_left
      ·intro w'
       go_simp
       with_reducible rfl
      rotate_left
      ·simp only [Act.put, List.setIfInBounds_toArray, List.set_cons_zero, List.set_cons_succ, i64_w, i32_w]
       rfl
      refine pure_ (i := 6) (N := some 57) (v := ?_) (a' := ?_) #[true, true, true, true, true, true, true, true, false, false] rfl rfl (any_of HT_.out (by kernel_rfl)) (fun _ _ _ h => h) (Or.inl ⟨by rfl, ?_⟩) ?_ ?_
      rotate_left
      ·intro w'
       go_simp
       with_reducible rfl
      rotate_left
      ·simp only [Act.put, List.setIfInBounds_toArray, List.set_cons_zero, List.set_cons_succ, i64_w, i32_w]
       rfl
      exact norm_ (by simp only [putAll, Act.put, List.setIfInBounds_toArray, List.set_cons_zero, List.set_cons_succ]) (hCont (gb174) _ ⟨hHeld, BK150.out, BK151.out, BK152.out, BK161.out, BK166.out, BK174.out, GW174.out, GE174.out, NB150_174.out, NB174_150.out, NB151_174.out, NB174_151.out, NB152_174.out, NB174_152.out, NB161_174.out, NB174_161.out, NB166_174.out, NB174_166.out, (by repeat (first | (with_reducible first | exact HB.out | apply below_alloc | apply pw_below_drewN | apply below_drew1 | refine below_set ?_ GE161.out | refine below_set ?_ GE166.out | refine below_set ?_ GE174.out) | exact HB.out))⟩)
    rintro gb174 w66 ⟨hS_, h0_, h1_, h2_, h3_, h4_, h5_, h6_, h7_, h8_, h9_, h10_, h11_, h12_, h13_, h14_, h15_, h16_, h17_, h18_⟩
    have n0_ : Aside0 (w66.heap[gb150]? = some (.cells #[.bool a0_0, .int .i64 a0_1, .int .i64 a0_2] 24 (0, 0))) := ⟨h0_⟩
    have n1_ : Aside0 (w66.heap[gb151]? = some (.cells #[.bool a1_0, .int .i64 a1_1, .int .i64 a1_2] 24 (0, 0))) := ⟨h1_⟩
    have n2_ : Aside0 (w66.heap[gb152]? = some (.cells #[.bool a2_0, .int .i64 a2_1, .int .i64 a2_2] 24 (0, 0))) := ⟨h2_⟩
    have n3_ : Aside0 (w66.heap[gb161]? = some (.cells #[.bool t157, .int .i64 t158, .int .i64 t159] 24 (0, 0))) := ⟨h3_⟩
    have n4_ : Aside0 (w66.heap[gb166]? = some (.cells #[.bool t162, .int .i64 t163, .int .i64 t164] 24 (0, 0))) := ⟨h4_⟩
    have n5_ : Aside0 (w66.heap[gb174]? = some (.cells #[.bool false, .int .i64 0, .int .i64 0] 24 (0, 0))) := ⟨h5_⟩
    have n6_ : Aside0 (w.heap.size ≤ gb174) := ⟨h6_⟩
    have n7_ : Aside0 (w.heap.size ≤ gb174) := ⟨h7_⟩
    have n8_ : Aside0 (gb150 ≠ gb174) := ⟨h8_⟩
    have n9_ : Aside0 (gb174 ≠ gb150) := ⟨h9_⟩
    have n10_ : Aside0 (gb151 ≠ gb174) := ⟨h10_⟩
    have n11_ : Aside0 (gb174 ≠ gb151) := ⟨h11_⟩
    have n12_ : Aside0 (gb152 ≠ gb174) := ⟨h12_⟩
    have n13_ : Aside0 (gb174 ≠ gb152) := ⟨h13_⟩
    have n14_ : Aside0 (gb161 ≠ gb174) := ⟨h14_⟩
    have n15_ : Aside0 (gb174 ≠ gb161) := ⟨h15_⟩
    have n16_ : Aside0 (gb166 ≠ gb174) := ⟨h16_⟩
    have n17_ : Aside0 (gb174 ≠ gb166) := ⟨h17_⟩
    have n18_ : Aside0 (Below w.heap.size w w66) := ⟨h18_⟩
    clear BK150
    clear BK151
    clear BK152
    clear BK161
    clear BK166
    clear HB
    clear h0_ h1_ h2_ h3_ h4_ h5_ h6_ h7_ h8_ h9_ h10_ h11_ h12_ h13_ h14_ h15_ h16_ h17_ h18_
    have BK150 := n0_
    have BK151 := n1_
    have BK152 := n2_
    have BK161 := n3_
    have BK166 := n4_
    have BK174 := n5_
    have GW174 := n6_
    have GE174 := n7_
    have NB150_174 := n8_
    have NB174_150 := n9_
    have NB151_174 := n10_
    have NB174_151 := n11_
    have NB152_174 := n12_
    have NB174_152 := n13_
    have NB161_174 := n14_
    have NB174_161 := n15_
    have NB166_174 := n16_
    have NB174_166 := n17_
    have HB := n18_
    clear n0_ n1_ n2_ n3_ n4_ n5_ n6_ n7_ n8_ n9_ n10_ n11_ n12_ n13_ n14_ n15_ n16_ n17_ n18_
    have hHeld : w66.cell? ⟨gb150, 0, none⟩ = some (.bool a0_0) ∧ w66.cell? ⟨gb150, 1, none⟩ = some (.int .i64 a0_1) ∧ w66.cell? ⟨gb150, 2, none⟩ = some (.int .i64 a0_2) := hS_
    refine norm_ (a' := ?_) ?_ ?_
    rotate_left
    ·simp only [putAll, Act.put, List.setIfInBounds_toArray, List.set_cons_zero, List.set_cons_succ]
     rfl
    refine one_ (i := 8) (N := none) #[true, true, true, true, true, true, true, true, true, false] rfl rfl (one_of HT_.out (by kernel_rfl)) (by decide) (fun K hK => ?_)
    have hs67 : w66.cell? ⟨gb174, 0, none⟩ = some (.bool false) := (blk_cell BK174.out 0).trans rfl
    have hfs67 := blk_frozen BK174.out 0
    have hns67_0 := NB150_174.out
    have hns67_1 := NB151_174.out
    have hns67_2 := NB152_174.out
    have hns67_3 := NB161_174.out
    have hns67_4 := NB166_174.out
    have hms67_0 := NB174_150.out
    have hms67_1 := NB174_151.out
    have hms67_2 := NB174_152.out
    have hms67_3 := NB174_161.out
    have hms67_4 := NB174_166.out
    have hs68 : w66.cell? ⟨gb174, 1, none⟩ = some (.int .i64 0) := (blk_cell BK174.out 1).trans rfl
    have hfs68 := blk_frozen BK174.out 1
    have hns68_0 := NB150_174.out
    have hns68_1 := NB151_174.out
    have hns68_2 := NB152_174.out
    have hns68_3 := NB161_174.out
    have hns68_4 := NB166_174.out
    have hms68_0 := NB174_150.out
    have hms68_1 := NB174_151.out
    have hms68_2 := NB174_152.out
    have hms68_3 := NB174_161.out
    have hms68_4 := NB174_166.out
    have hs69 : w66.cell? ⟨gb174, 2, none⟩ = some (.int .i64 0) := (blk_cell BK174.out 2).trans rfl
    have hfs69 := blk_frozen BK174.out 2
    have hns69_0 := NB150_174.out
    have hns69_1 := NB151_174.out
    have hns69_2 := NB152_174.out
    have hns69_3 := NB161_174.out
    have hns69_4 := NB166_174.out
    have hms69_0 := NB174_150.out
    have hms69_1 := NB174_151.out
    have hms69_2 := NB174_152.out
    have hms69_3 := NB174_161.out
    have hms69_4 := NB174_166.out
    refine skip_ (w1 := ?_) (by rfl) rfl ?_ ?_
    rotate_left
    ·go_simp
     rfl
    refine hK.out _ _ ⟨((cell_far (p := ⟨gb174, _, none⟩) NB150_174.out _).trans (((cell_far (p := ⟨gb174, _, none⟩) NB150_174.out _).trans (((cell_far (p := ⟨gb174, _, none⟩) NB150_174.out _).trans (hHeld.1)))))), ((cell_far (p := ⟨gb174, _, none⟩) NB150_174.out _).trans (((cell_far (p := ⟨gb174, _, none⟩) NB150_174.out _).trans (((cell_far (p := ⟨gb174, _, none⟩) NB150_174.out _).trans (hHeld.2.1)))))), ((cell_far (p := ⟨gb174, _, none⟩) NB150_174.out _).trans (((cell_far (p := ⟨gb174, _, none⟩) NB150_174.out _).trans (((cell_far (p := ⟨gb174, _, none⟩) NB150_174.out _).trans (hHeld.2.2))))))⟩ (fun hHeld => ?_)
    clear hK K
    refine pure_ (i := 9) (N := some 12) (v := ?_) (a' := ?_) #[true, true, true, true, true, true, true, true, true, true] rfl rfl (any_of HT_.out (by kernel_rfl)) (fun _ _ _ h => h) (Or.inl ⟨by rfl, ?_⟩) ?_ ?_
    rotate_left
    ·intro w'
     go_simp
     with_reducible rfl
    rotate_left
    ·simp only [Act.put, List.setIfInBounds_toArray, List.set_cons_zero, List.set_cons_succ, i64_w, i32_w]
     rfl
    refine done_ (done_of HT_.out (by kernel_rfl)) ?_
    go_upto_region 6 with (fail)
    go_cut [88] (fun v88 wc => ∃ (kq : Nat) (x88_39 : Bool), v88 = .bool x88_39 ∧ Aside0 (remitterlaw01_DecimalExact.j1 kq t160 x88_39 a0_0 a0_1 a0_2 a1_0 a1_1 a1_2 a2_0 a2_1 a2_2 t157 t158 t159 = some true) ∧ Aside0 (kq ≤ kj3) ∧ Aside0 (wc.heap[gb150]? = some (.cells #[.bool a0_0, .int .i64 a0_1, .int .i64 a0_2] 24 (0, 0))) ∧ Aside0 (wc.heap[gb151]? = some (.cells #[.bool a1_0, .int .i64 a1_1, .int .i64 a1_2] 24 (0, 0))) ∧ Aside0 (wc.heap[gb152]? = some (.cells #[.bool a2_0, .int .i64 a2_1, .int .i64 a2_2] 24 (0, 0))) ∧ Aside0 (wc.heap[gb161]? = some (.cells #[.bool t157, .int .i64 t158, .int .i64 t159] 24 (0, 0))) ∧ Aside0 (Below w.heap.size w wc))
    case first =>
     have H := HC40.out
     clear HC40
     by_cases c70 : (!(t157 == t162) || (!(t158 == t163) || (!(t159 == t164)))) = true
     ·rw [if_pos c70] at H
      exact (remitterlaw01_DecimalExact.j1_no H).elim
     ·rw [if_neg c70] at H
      have c70b0 : (!(t157 == t162) || (!(t158 == t163) || (!(t159 == t164)))) = false := by simpa using c70
      clear c70
      (first | rw [c70b0] | (simp only [i64_w, i32_w]; rw [c70b0]) | skip)
      by_cases c73 : t160 = t165
      ·rw [if_pos c73] at H
       have c73b0 : (t160 == t165) = true := beq_iff_eq.mpr c73
       have c73b1 : (t160 != t165) = false := bne_eq_false_iff_eq.mpr c73
       clear c73
       by_cases c74 : t173 = 0
       ·rw [if_pos c74] at H
        have c74b0 : (t173 == 0) = true := beq_iff_eq.mpr c74
        have c74b1 : (t173 != 0) = false := bne_eq_false_iff_eq.mpr c74
        clear c74
        by_cases c75 : t171 = 0
        ·rw [if_pos c75] at H
         have c75b0 : (t171 == 0) = true := beq_iff_eq.mpr c75
         have c75b1 : (t171 != 0) = false := bne_eq_false_iff_eq.mpr c75
         clear c75
         by_cases c76 : t170 = true
         ·subst c76
          have H1 : (remitterlaw01_DecimalExact.j1 kj3 t160 true a0_0 a0_1 a0_2 a1_0 a1_1 a1_2 a2_0 a2_1 a2_2 t157 t158 t159) = some true := by rw [if_pos rfl] at H; exact H
          clear H
          have H := H1
          clear H1
          exact (remitterlaw01_DecimalExact.j1_no H).elim
         ·replace c76 := Bool.eq_false_iff.mpr c76
          subst c76
          have H1 : ((decimal_Cmp.f a0_0 a0_1 a0_2 a1_0 a1_1 a1_2).bind fun t175 => ((decimal_Cmp.f a1_0 a1_1 a1_2 a0_0 a0_1 a0_2).bind fun t176 => (remitterlaw01_DecimalExact.j1 kj3 t160 (t175 != (wrap64 (-t176))) a0_0 a0_1 a0_2 a1_0 a1_1 a1_2 a2_0 a2_1 a2_2 t157 t158 t159))) = some true := by rw [if_neg (show ¬ (false = true) by decide)] at H; exact H
          clear H
          have H := H1
          clear H1
          replace H := Option.bind_eq_some_iff.mp H
          obtain ⟨t175, A790, H⟩ := H
          replace H : ((decimal_Cmp.f a1_0 a1_1 a1_2 a0_0 a0_1 a0_2).bind fun t176 => (remitterlaw01_DecimalExact.j1 kj3 t160 (t175 != (wrap64 (-t176))) a0_0 a0_1 a0_2 a1_0 a1_1 a1_2 a2_0 a2_1 a2_2 t157 t158 t159)) = some true := H
          have A79 := Aside0.mk A790
          clear A790
          replace H := Option.bind_eq_some_iff.mp H
          obtain ⟨t176, A800, H⟩ := H
          replace H : (remitterlaw01_DecimalExact.j1 kj3 t160 (t175 != (wrap64 (-t176))) a0_0 a0_1 a0_2 a1_0 a1_1 a1_2 a2_0 a2_1 a2_2 t157 t158 t159) = some true := H
          have A80 := Aside0.mk A800
          clear A800
          have H' := Aside0.mk H
          clear H
          try go_wp2
          have n0_ : Aside0 ((((w66.setCell ⟨gb174, 0, none⟩ (.bool false)).setCell ⟨gb174, 1, none⟩ (.int .i64 t171)).setCell ⟨gb174, 2, none⟩ (.int .i64 t172)).heap[gb150]? = some (.cells #[.bool a0_0, .int .i64 a0_1, .int .i64 a0_2] 24 (0, 0))) := ⟨by (with_reducible repeat first | refine blk_drewN ?_ _ | refine blk_drew ?_ | refine blk_alloc ?_ _); refine blk_far ?_ NB150_174.out _; (with_reducible repeat first | refine blk_drewN ?_ _ | refine blk_drew ?_ | refine blk_alloc ?_ _); refine blk_far ?_ NB150_174.out _; (with_reducible repeat first | refine blk_drewN ?_ _ | refine blk_drew ?_ | refine blk_alloc ?_ _); refine blk_far ?_ NB150_174.out _; (with_reducible repeat first | refine blk_drewN ?_ _ | refine blk_drew ?_ | refine blk_alloc ?_ _); exact BK150.out⟩
          have n1_ : Aside0 ((((w66.setCell ⟨gb174, 0, none⟩ (.bool false)).setCell ⟨gb174, 1, none⟩ (.int .i64 t171)).setCell ⟨gb174, 2, none⟩ (.int .i64 t172)).heap[gb151]? = some (.cells #[.bool a1_0, .int .i64 a1_1, .int .i64 a1_2] 24 (0, 0))) := ⟨by (with_reducible repeat first | refine blk_drewN ?_ _ | refine blk_drew ?_ | refine blk_alloc ?_ _); refine blk_far ?_ NB151_174.out _; (with_reducible repeat first | refine blk_drewN ?_ _ | refine blk_drew ?_ | refine blk_alloc ?_ _); refine blk_far ?_ NB151_174.out _; (with_reducible repeat first | refine blk_drewN ?_ _ | refine blk_drew ?_ | refine blk_alloc ?_ _); refine blk_far ?_ NB151_174.out _; (with_reducible repeat first | refine blk_drewN ?_ _ | refine blk_drew ?_ | refine blk_alloc ?_ _); exact BK151.out⟩
          have n2_ : Aside0 ((((w66.setCell ⟨gb174, 0, none⟩ (.bool false)).setCell ⟨gb174, 1, none⟩ (.int .i64 t171)).setCell ⟨gb174, 2, none⟩ (.int .i64 t172)).heap[gb152]? = some (.cells #[.bool a2_0, .int .i64 a2_1, .int .i64 a2_2] 24 (0, 0))) := ⟨by (with_reducible repeat first | refine blk_drewN ?_ _ | refine blk_drew ?_ | refine blk_alloc ?_ _); refine blk_far ?_ NB152_174.out _; (with_reducible repeat first | refine blk_drewN ?_ _ | refine blk_drew ?_ | refine blk_alloc ?_ _); refine blk_far ?_ NB152_174.out _; (with_reducible repeat first | refine blk_drewN ?_ _ | refine blk_drew ?_ | refine blk_alloc ?_ _); refine blk_far ?_ NB152_174.out _; (with_reducible repeat first | refine blk_drewN ?_ _ | refine blk_drew ?_ | refine blk_alloc ?_ _); exact BK152.out⟩
          have n3_ : Aside0 ((((w66.setCell ⟨gb174, 0, none⟩ (.bool false)).setCell ⟨gb174, 1, none⟩ (.int .i64 t171)).setCell ⟨gb174, 2, none⟩ (.int .i64 t172)).heap[gb161]? = some (.cells #[.bool t157, .int .i64 t158, .int .i64 t159] 24 (0, 0))) := ⟨by (with_reducible repeat first | refine blk_drewN ?_ _ | refine blk_drew ?_ | refine blk_alloc ?_ _); refine blk_far ?_ NB161_174.out _; (with_reducible repeat first | refine blk_drewN ?_ _ | refine blk_drew ?_ | refine blk_alloc ?_ _); refine blk_far ?_ NB161_174.out _; (with_reducible repeat first | refine blk_drewN ?_ _ | refine blk_drew ?_ | refine blk_alloc ?_ _); refine blk_far ?_ NB161_174.out _; (with_reducible repeat first | refine blk_drewN ?_ _ | refine blk_drew ?_ | refine blk_alloc ?_ _); exact BK161.out⟩
          have n4_ : Aside0 ((((w66.setCell ⟨gb174, 0, none⟩ (.bool false)).setCell ⟨gb174, 1, none⟩ (.int .i64 t171)).setCell ⟨gb174, 2, none⟩ (.int .i64 t172)).heap[gb166]? = some (.cells #[.bool t162, .int .i64 t163, .int .i64 t164] 24 (0, 0))) := ⟨by (with_reducible repeat first | refine blk_drewN ?_ _ | refine blk_drew ?_ | refine blk_alloc ?_ _); refine blk_far ?_ NB166_174.out _; (with_reducible repeat first | refine blk_drewN ?_ _ | refine blk_drew ?_ | refine blk_alloc ?_ _); refine blk_far ?_ NB166_174.out _; (with_reducible repeat first | refine blk_drewN ?_ _ | refine blk_drew ?_ | refine blk_alloc ?_ _); refine blk_far ?_ NB166_174.out _; (with_reducible repeat first | refine blk_drewN ?_ _ | refine blk_drew ?_ | refine blk_alloc ?_ _); exact BK166.out⟩
          have n5_ : Aside0 ((((w66.setCell ⟨gb174, 0, none⟩ (.bool false)).setCell ⟨gb174, 1, none⟩ (.int .i64 t171)).setCell ⟨gb174, 2, none⟩ (.int .i64 t172)).heap[gb174]? = some (.cells #[.bool false, .int .i64 t171, .int .i64 t172] 24 (0, 0))) := ⟨by (with_reducible repeat first | refine blk_drewN ?_ _ | refine blk_drew ?_ | refine blk_alloc ?_ _); refine blk_put (cs := #[.bool false, .int .i64 t171, .int .i64 0]) ?_ 2 _ rfl; (with_reducible repeat first | refine blk_drewN ?_ _ | refine blk_drew ?_ | refine blk_alloc ?_ _); refine blk_put (cs := #[.bool false, .int .i64 0, .int .i64 0]) ?_ 1 _ rfl; (with_reducible repeat first | refine blk_drewN ?_ _ | refine blk_drew ?_ | refine blk_alloc ?_ _); refine blk_put (cs := #[.bool false, .int .i64 0, .int .i64 0]) ?_ 0 _ rfl; (with_reducible repeat first | refine blk_drewN ?_ _ | refine blk_drew ?_ | refine blk_alloc ?_ _); exact BK174.out⟩
          have n6_ : Aside0 (Below w.heap.size w (((w66.setCell ⟨gb174, 0, none⟩ (.bool false)).setCell ⟨gb174, 1, none⟩ (.int .i64 t171)).setCell ⟨gb174, 2, none⟩ (.int .i64 t172))) := ⟨by repeat (first | (with_reducible first | exact HB.out | apply below_alloc | apply pw_below_drewN | apply below_drew1 | refine below_set ?_ GE161.out | refine below_set ?_ GE166.out | refine below_set ?_ GE174.out) | exact HB.out)⟩
          (try clear BK150)
          (try clear BK151)
          (try clear BK152)
          (try clear BK161)
          (try clear BK166)
          (try clear BK174)
          (try clear HB)
          generalize (((w66.setCell ⟨gb174, 0, none⟩ (.bool false)).setCell ⟨gb174, 1, none⟩ (.int .i64 t171)).setCell ⟨gb174, 2, none⟩ (.int .i64 t172)) = w81 at n0_ n1_ n2_ n3_ n4_ n5_ n6_ ⊢
          have BK150 := n0_
          have BK151 := n1_
          have BK152 := n2_
          have BK161 := n3_
          have BK166 := n4_
          have BK174 := n5_
          have HB := n6_
          clear n0_ n1_ n2_ n3_ n4_ n5_ n6_
          have n0_ := Aside0.mk (blk_drew BK150.out)
          have n1_ := Aside0.mk (blk_drew BK151.out)
          have n2_ := Aside0.mk (blk_drew BK152.out)
          have n3_ := Aside0.mk (blk_drew BK161.out)
          have n4_ := Aside0.mk (blk_drew BK166.out)
          have n5_ := Aside0.mk (blk_drew BK174.out)
          have n6_ := Aside0.mk (below_drew1 HB.out)
          clear BK150
          clear BK151
          clear BK152
          clear BK161
          clear BK166
          clear BK174
          clear HB
          have BK150 := n0_
          have BK151 := n1_
          have BK152 := n2_
          have BK161 := n3_
          have BK166 := n4_
          have BK174 := n5_
          have HB := n6_
          clear n0_ n1_ n2_ n3_ n4_ n5_ n6_
          refine start_ (n := 31) (S := fun w' => w'.cell? ⟨gb161, 0, none⟩ = some (.bool t157) ∧ w'.cell? ⟨gb161, 1, none⟩ = some (.int .i64 t158) ∧ w'.cell? ⟨gb161, 2, none⟩ = some (.int .i64 t159) ∧ w'.cell? ⟨gb166, 0, none⟩ = some (.bool t162) ∧ w'.cell? ⟨gb166, 1, none⟩ = some (.int .i64 t163) ∧ w'.cell? ⟨gb166, 2, none⟩ = some (.int .i64 t164) ∧ w'.cell? ⟨gb174, 0, none⟩ = some (.bool false) ∧ w'.cell? ⟨gb174, 1, none⟩ = some (.int .i64 t171) ∧ w'.cell? ⟨gb174, 2, none⟩ = some (.int .i64 t172) ∧ w'.cell? ⟨gb150, 0, none⟩ = some (.bool a0_0) ∧ w'.cell? ⟨gb150, 1, none⟩ = some (.int .i64 a0_1) ∧ w'.cell? ⟨gb150, 2, none⟩ = some (.int .i64 a0_2) ∧ w'.cell? ⟨gb151, 0, none⟩ = some (.bool a1_0) ∧ w'.cell? ⟨gb151, 1, none⟩ = some (.int .i64 a1_1) ∧ w'.cell? ⟨gb151, 2, none⟩ = some (.int .i64 a1_2)) (ds := []) #[false, false, false, false, false, false, false, false, false, false, false, false, false, false, false, false, false, false, false, false, false, false, false, false, false, false, false, false, false, false, false] (by kernel_rfl) rfl rfl ⟨(blk_cell BK161.out 0).trans rfl, (blk_cell BK161.out 1).trans rfl, (blk_cell BK161.out 2).trans rfl, (blk_cell BK166.out 0).trans rfl, (blk_cell BK166.out 1).trans rfl, (blk_cell BK166.out 2).trans rfl, (blk_cell BK174.out 0).trans rfl, (blk_cell BK174.out 1).trans rfl, (blk_cell BK174.out 2).trans rfl, (blk_cell BK150.out 0).trans rfl, (blk_cell BK150.out 1).trans rfl, (blk_cell BK150.out 2).trans rfl, (blk_cell BK151.out 0).trans rfl, (blk_cell BK151.out 1).trans rfl, (blk_cell BK151.out 2).trans rfl⟩ (fun hHeld => ?_); refine with_tabW remitterlaw01_DecimalExact.tab6 remitterlaw01_DecimalExact.bits6 (fun HT_ HW_ => ?_)
          generalize w81.drew = w82 at BK150 BK151 BK152 BK161 BK166 BK174 HB hHeld ⊢
          refine take_ (i := 0) (N := some 58) (v := ?_) (a' := ?_) #[true, false, false, false, false, false, false, false, false, false, false, false, false, false, false, false, false, false, false, false, false, false, false, false, false, false, false, false, false, false, false] rfl rfl (take_ofW HT_.out HW_.out (by kernel_rfl)) (fun _ _ _ h => h) (Or.inl ⟨by rfl, ?_⟩) hHeld ?_ ?_
          rotate_left
          ·rintro w' ⟨s0, s1, s2, s3, s4, s5, s6, s7, s8, s9, s10, s11, s12, s13, s14⟩
           go_simp
           with_reducible rfl
          rotate_left
          ·simp only [Act.put, List.setIfInBounds_toArray, List.set_cons_zero, List.set_cons_succ, i64_w, i32_w]
           rfl
          refine take_ (i := 1) (N := some 59) (v := ?_) (a' := ?_) #[true, true, false, false, false, false, false, false, false, false, false, false, false, false, false, false, false, false, false, false, false, false, false, false, false, false, false, false, false, false, false] rfl rfl (take_ofW HT_.out HW_.out (by kernel_rfl)) (fun _ _ _ h => h) (Or.inl ⟨by rfl, ?_⟩) hHeld ?_ ?_
          rotate_left
          ·rintro w' ⟨s0, s1, s2, s3, s4, s5, s6, s7, s8, s9, s10, s11, s12, s13, s14⟩
           go_simp
           with_reducible rfl
          rotate_left
          ·simp only [Act.put, List.setIfInBounds_toArray, List.set_cons_zero, List.set_cons_succ, i64_w, i32_w]
           rfl
          refine pure_ (i := 2) (N := some 60) (v := ?_) (a' := ?_) #[true, true, true, false, false, false, false, false, false, false, false, false, false, false, false, false, false, false, false, false, false, false, false, false, false, false, false, false, false, false, false] rfl rfl (any_of HT_.out (by kernel_rfl)) (fun _ _ _ h => h) (Or.inl ⟨by rfl, ?_⟩) ?_ ?_
          rotate_left
          ·intro w'
           go_simp
           with_reducible rfl
          rotate_left
          ·simp only [Act.put, List.setIfInBounds_toArray, List.set_cons_zero, List.set_cons_succ, i64_w, i32_w]
           rfl
          refine pure_ (i := 3) (N := some 61) (v := ?_) (a' := ?_) #[true, true, true, true, false, false, false, false, false, false, false, false, false, false, false, false, false, false, false, false, false, false, false, false, false, false, false, false, false, false, false] rfl rfl (any_of HT_.out (by kernel_rfl)) (fun _ _ _ h => h) (Or.inl ⟨by rfl, ?_⟩) ?_ ?_
          rotate_left
          ·intro w'
           go_simp
           with_reducible rfl
          rotate_left
          ·simp only [Act.put, List.setIfInBounds_toArray, List.set_cons_zero, List.set_cons_succ, i64_w, i32_w]
           rfl
          refine pure_ (i := 4) (N := some 62) (v := ?_) (a' := ?_) #[true, true, true, true, true, false, false, false, false, false, false, false, false, false, false, false, false, false, false, false, false, false, false, false, false, false, false, false, false, false, false] rfl rfl (any_of HT_.out (by kernel_rfl)) (fun _ _ _ h => h) (Or.inl ⟨by rfl, ?_⟩) ?_ ?_
          rotate_left
          ·intro w'
           go_simp
           with_reducible rfl
          rotate_left
          ·simp only [Act.put, List.setIfInBounds_toArray, List.set_cons_zero, List.set_cons_succ, i64_w, i32_w]
           rfl
          refine pure_ (i := 5) (N := some 63) (v := ?_) (a' := ?_) #[true, true, true, true, true, true, false, false, false, false, false, false, false, false, false, false, false, false, false, false, false, false, false, false, false, false, false, false, false, false, false] rfl rfl (any_of HT_.out (by kernel_rfl)) (fun _ _ _ h => h) (Or.inl ⟨by rfl, ?_⟩) ?_ ?_
          rotate_left
          ·intro w'
           go_simp
           with_reducible rfl
          rotate_left
          ·simp only [Act.put, List.setIfInBounds_toArray, List.set_cons_zero, List.set_cons_succ, i64_w, i32_w]
           rfl
          refine pure_ (i := 6) (N := some 64) (v := ?_) (a' := ?_) #[true, true, true, true, true, true, true, false, false, false, false, false, false, false, false, false, false, false, false, false, false, false, false, false, false, false, false, false, false, false, false] rfl rfl (any_of HT_.out (by kernel_rfl)) (fun _ _ _ h => h) (Or.inl ⟨by rfl, ?_⟩) ?_ ?_
          rotate_left
          ·intro w'
           go_simp
           with_reducible rfl
          rotate_left
          ·simp only [Act.put, List.setIfInBounds_toArray, List.set_cons_zero, List.set_cons_succ, i64_w, i32_w]
           rfl
          refine pure_ (i := 7) (N := some 65) (v := ?_) (a' := ?_) #[true, true, true, true, true, true, true, true, false, false, false, false, false, false, false, false, false, false, false, false, false, false, false, false, false, false, false, false, false, false, false] rfl rfl (any_of HT_.out (by kernel_rfl)) (fun _ _ _ h => h) (Or.inl ⟨by rfl, ?_⟩) ?_ ?_
          rotate_left
          ·intro w'
           go_simp
           with_reducible rfl
          rotate_left
          ·simp only [Act.put, List.setIfInBounds_toArray, List.set_cons_zero, List.set_cons_succ, i64_w, i32_w]
           rfl
          refine pure_ (i := 8) (N := some 66) (v := ?_) (a' := ?_) #[true, true, true, true, true, true, true, true, true, false, false, false, false, false, false, false, false, false, false, false, false, false, false, false, false, false, false, false, false, false, false] rfl rfl (any_of HT_.out (by kernel_rfl)) (fun _ _ _ h => h) (Or.inl ⟨by rfl, ?_⟩) ?_ ?_
          rotate_left
          ·intro w'
           go_simp
           with_reducible rfl
          rotate_left
          ·simp only [Act.put, List.setIfInBounds_toArray, List.set_cons_zero, List.set_cons_succ, i64_w, i32_w]
           rfl
          refine pure_ (i := 9) (N := some 67) (v := ?_) (a' := ?_) #[true, true, true, true, true, true, true, true, true, true, false, false, false, false, false, false, false, false, false, false, false, false, false, false, false, false, false, false, false, false, false] rfl rfl (any_of HT_.out (by kernel_rfl)) (fun _ _ _ h => h) (Or.inl ⟨by rfl, ?_⟩) ?_ ?_
          rotate_left
          ·intro w'
           go_simp
           with_reducible rfl
          rotate_left
          ·simp only [Act.put, List.setIfInBounds_toArray, List.set_cons_zero, List.set_cons_succ, i64_w, i32_w]
           rfl
          refine pure_ (i := 10) (N := some 68) (v := ?_) (a' := ?_) #[true, true, true, true, true, true, true, true, true, true, true, false, false, false, false, false, false, false, false, false, false, false, false, false, false, false, false, false, false, false, false] rfl rfl (any_of HT_.out (by kernel_rfl)) (fun _ _ _ h => h) (Or.inl ⟨by rfl, ?_⟩) ?_ ?_
          rotate_left
          ·intro w'
           go_simp
           with_reducible rfl
          rotate_left
          ·simp only [Act.put, List.setIfInBounds_toArray, List.set_cons_zero, List.set_cons_succ, i64_w, i32_w]
           rfl
          refine pure_ (i := 11) (N := some 69) (v := ?_) (a' := ?_) #[true, true, true, true, true, true, true, true, true, true, true, true, false, false, false, false, false, false, false, false, false, false, false, false, false, false, false, false, false, false, false] rfl rfl (any_of HT_.out (by kernel_rfl)) (fun _ _ _ h => h) (Or.inl ⟨by rfl, ?_⟩) ?_ ?_
          rotate_left
          ·intro w'
           go_simp
           with_reducible rfl
          rotate_left
          ·simp only [Act.put, List.setIfInBounds_toArray, List.set_cons_zero, List.set_cons_succ, i64_w, i32_w]
           rfl
          refine pure_ (i := 12) (N := some 70) (v := ?_) (a' := ?_) #[true, true, true, true, true, true, true, true, true, true, true, true, true, false, false, false, false, false, false, false, false, false, false, false, false, false, false, false, false, false, false] rfl rfl (any_of HT_.out (by kernel_rfl)) (fun _ _ _ h => h) (Or.inl ⟨by rfl, ?_⟩) ?_ ?_
          rotate_left
          ·intro w'
           go_simp
           with_reducible rfl
          rotate_left
          ·simp only [Act.put, List.setIfInBounds_toArray, List.set_cons_zero, List.set_cons_succ, i64_w, i32_w]
           rfl
          refine pure_ (i := 13) (N := some 71) (v := ?_) (a' := ?_) #[true, true, true, true, true, true, true, true, true, true, true, true, true, true, false, false, false, false, false, false, false, false, false, false, false, false, false, false, false, false, false] rfl rfl (any_of HT_.out (by kernel_rfl)) (fun _ _ _ h => h) (Or.inl ⟨by rfl, ?_⟩) ?_ ?_
          rotate_left
          ·intro w'
           go_simp
           with_reducible rfl
          rotate_left
          ·simp only [Act.put, List.setIfInBounds_toArray, List.set_cons_zero, List.set_cons_succ, i64_w, i32_w]
           rfl
          refine take_ (i := 14) (N := some 72) (v := ?_) (a' := ?_) #[true, true, true, true, true, true, true, true, true, true, true, true, true, true, true, false, false, false, false, false, false, false, false, false, false, false, false, false, false, false, false] rfl rfl (take_ofW HT_.out HW_.out (by kernel_rfl)) (fun _ _ _ h => h) (Or.inl ⟨by rfl, ?_⟩) hHeld ?_ ?_
          rotate_left
          ·rintro w' ⟨s0, s1, s2, s3, s4, s5, s6, s7, s8, s9, s10, s11, s12, s13, s14⟩
           go_simp
           with_reducible rfl
          rotate_left
          ·simp only [Act.put, List.setIfInBounds_toArray, List.set_cons_zero, List.set_cons_succ, i64_w, i32_w]
           rfl
          refine pure_ (i := 15) (N := some 73) (v := ?_) (a' := ?_) #[true, true, true, true, true, true, true, true, true, true, true, true, true, true, true, true, false, false, false, false, false, false, false, false, false, false, false, false, false, false, false] rfl rfl (any_of HT_.out (by kernel_rfl)) (fun _ _ _ h => h) (Or.inl ⟨by rfl, ?_⟩) ?_ ?_
          rotate_left
          ·intro w'
           go_simp
           with_reducible rfl
          rotate_left
          ·simp only [Act.put, List.setIfInBounds_toArray, List.set_cons_zero, List.set_cons_succ, i64_w, i32_w]
           rfl
          refine pure_ (i := 16) (N := some 74) (v := ?_) (a' := ?_) #[true, true, true, true, true, true, true, true, true, true, true, true, true, true, true, true, true, false, false, false, false, false, false, false, false, false, false, false, false, false, false] rfl rfl (any_of HT_.out (by kernel_rfl)) (fun _ _ _ h => h) (Or.inl ⟨by rfl, ?_⟩) ?_ ?_
          rotate_left
          ·intro w'
           go_simp
           with_reducible rfl
          rotate_left
          ·simp only [Act.put, List.setIfInBounds_toArray, List.set_cons_zero, List.set_cons_succ, i64_w, i32_w]
           rfl
          refine pure_ (i := 17) (N := some 75) (v := ?_) (a' := ?_) #[true, true, true, true, true, true, true, true, true, true, true, true, true, true, true, true, true, true, false, false, false, false, false, false, false, false, false, false, false, false, false] rfl rfl (any_of HT_.out (by kernel_rfl)) (fun _ _ _ h => h) (Or.inl ⟨by rfl, ?_⟩) ?_ ?_
          rotate_left
          ·intro w'
           go_simp
           with_reducible rfl
          rotate_left
          ·simp only [Act.put, List.setIfInBounds_toArray, List.set_cons_zero, List.set_cons_succ, i64_w, i32_w]
           rfl
          refine pure_ (i := 18) (N := some 76) (v := ?_) (a' := ?_) #[true, true, true, true, true, true, true, true, true, true, true, true, true, true, true, true, true, true, true, false, false, false, false, false, false, false, false, false, false, false, false] rfl rfl (any_of HT_.out (by kernel_rfl)) (fun _ _ _ h => h) (Or.inl ⟨by rfl, ?_⟩) ?_ ?_
          rotate_left
          ·intro w'
           go_simp
           with_reducible rfl
          rotate_left
          ·simp only [Act.put, List.setIfInBounds_toArray, List.set_cons_zero, List.set_cons_succ, i64_w, i32_w]
           rfl
          refine take_ (i := 19) (N := some 77) (v := ?_) (a' := ?_) #[true, true, true, true, true, true, true, true, true, true, true, true, true, true, true, true, true, true, true, true, false, false, false, false, false, false, false, false, false, false, false] rfl rfl (take_ofW HT_.out HW_.out (by kernel_rfl)) (fun _ _ _ h => h) (Or.inl ⟨by rfl, ?_⟩) hHeld ?_ ?_
          rotate_left
          ·rintro w' ⟨s0, s1, s2, s3, s4, s5, s6, s7, s8, s9, s10, s11, s12, s13, s14⟩
           go_simp
           with_reducible rfl
          rotate_left
          ·simp only [Act.put, List.setIfInBounds_toArray, List.set_cons_zero, List.set_cons_succ, i64_w, i32_w]
           rfl
          refine pure_ (i := 20) (N := some 78) (v := ?_) (a' := ?_) #[true, true, true, true, true, true, true, true, true, true, true, true, true, true, true, true, true, true, true, true, true, false, false, false, false, false, false, false, false, false, false] rfl rfl (any_of HT_.out (by kernel_rfl)) (fun _ _ _ h => h) (Or.inl ⟨by rfl, ?_⟩) ?_ ?_
          rotate_left
          ·intro w'
           go_simp
           with_reducible rfl
          rotate_left
          ·simp only [Act.put, List.setIfInBounds_toArray, List.set_cons_zero, List.set_cons_succ, i64_w, i32_w]
           rfl
          refine pure_ (i := 21) (N := some 79) (v := ?_) (a' := ?_) #[true, true, true, true, true, true, true, true, true, true, true, true, true, true, true, true, true, true, true, true, true, true, false, false, false, false, false, false, false, false, false] rfl rfl (any_of HT_.out (by kernel_rfl)) (fun _ _ _ h => h) (Or.inl ⟨by rfl, ?_⟩) ?_ ?_
          rotate_left
          ·intro w'
           go_simp
           with_reducible rfl
          rotate_left
          ·simp only [Act.put, List.setIfInBounds_toArray, List.set_cons_zero, List.set_cons_succ, i64_w, i32_w]
           rfl
          refine take_ (i := 22) (N := some 80) (v := ?_) (a' := ?_) #[true, true, true, true, true, true, true, true, true, true, true, true, true, true, true, true, true, true, true, true, true, true, true, false, false, false, false, false, false, false, false] rfl rfl (take_ofW HT_.out HW_.out (by kernel_rfl)) (fun _ _ _ h => h) (Or.inl ⟨by rfl, ?_⟩) hHeld ?_ ?_
          rotate_left
          ·rintro w' ⟨s0, s1, s2, s3, s4, s5, s6, s7, s8, s9, s10, s11, s12, s13, s14⟩
           go_simp
           with_reducible rfl
          rotate_left
          ·simp only [Act.put, List.setIfInBounds_toArray, List.set_cons_zero, List.set_cons_succ, i64_w, i32_w]
           rfl
          refine take_ (i := 23) (N := some 81) (v := ?_) (a' := ?_) #[true, true, true, true, true, true, true, true, true, true, true, true, true, true, true, true, true, true, true, true, true, true, true, true, false, false, false, false, false, false, false] rfl rfl (take_ofW HT_.out HW_.out (by kernel_rfl)) (fun _ _ _ h => h) (Or.inl ⟨by rfl, ?_⟩) hHeld ?_ ?_
          rotate_left
          ·rintro w' ⟨s0, s1, s2, s3, s4, s5, s6, s7, s8, s9, s10, s11, s12, s13, s14⟩
           go_simp
           with_reducible rfl
          rotate_left
          ·simp only [Act.put, List.setIfInBounds_toArray, List.set_cons_zero, List.set_cons_succ, i64_w, i32_w]
           rfl
          refine take_ (i := 25) (N := some 83) (v := ?_) (a' := ?_) #[true, true, true, true, true, true, true, true, true, true, true, true, true, true, true, true, true, true, true, true, true, true, true, true, false, true, false, false, false, false, false] rfl rfl (take_ofW HT_.out HW_.out (by kernel_rfl)) (fun _ _ _ h => h) (Or.inl ⟨by rfl, ?_⟩) hHeld ?_ ?_
          rotate_left
          ·rintro w' ⟨s0, s1, s2, s3, s4, s5, s6, s7, s8, s9, s10, s11, s12, s13, s14⟩
           go_simp
           with_reducible rfl
          rotate_left
          ·simp only [Act.put, List.setIfInBounds_toArray, List.set_cons_zero, List.set_cons_succ, i64_w, i32_w]
           rfl
          refine take_ (i := 26) (N := some 84) (v := ?_) (a' := ?_) #[true, true, true, true, true, true, true, true, true, true, true, true, true, true, true, true, true, true, true, true, true, true, true, true, false, true, true, false, false, false, false] rfl rfl (take_ofW HT_.out HW_.out (by kernel_rfl)) (fun _ _ _ h => h) (Or.inl ⟨by rfl, ?_⟩) hHeld ?_ ?_
          rotate_left
          ·rintro w' ⟨s0, s1, s2, s3, s4, s5, s6, s7, s8, s9, s10, s11, s12, s13, s14⟩
           go_simp
           with_reducible rfl
          rotate_left
          ·simp only [Act.put, List.setIfInBounds_toArray, List.set_cons_zero, List.set_cons_succ, i64_w, i32_w]
           rfl
          refine one_ (i := 24) (N := some 82) #[true, true, true, true, true, true, true, true, true, true, true, true, true, true, true, true, true, true, true, true, true, true, true, true, true, true, true, false, false, false, false] rfl rfl (one_of HT_.out (by kernel_rfl)) (by decide) (fun K hK => ?_)
          refine goes_ Tryd.func28 (by kernel_rfl) rfl #[.agg #[.bool a0_0, .int .i64 a0_1, .int .i64 a0_2], .agg #[.bool a1_0, .int .i64 a1_1, .int .i64 a1_2]] (by rfl) rfl rfl (by (try simp only [List.map_toArray, List.map_cons, List.map_nil]); first | done | rfl | (simp only [List.length_drop, List.length_take]; rfl)) ?_
          with_reducible refine (decimal_Cmp.calls a0_0 a0_1 a0_2 a1_0 a1_1 a1_2 t175 _ A79.out).mono ?_
          rintro e w83 ⟨rfl, hb⟩
          refine ⟨_, rfl, ?_⟩
          have n0_ := Aside0.mk (blk_b hb BK150.out)
          have n1_ := Aside0.mk (blk_b hb BK151.out)
          have n2_ := Aside0.mk (blk_b hb BK152.out)
          have n3_ := Aside0.mk (blk_b hb BK161.out)
          have n4_ := Aside0.mk (blk_b hb BK166.out)
          have n5_ := Aside0.mk (blk_b hb BK174.out)
          have n6_ := Aside0.mk (below_step (by repeat (first | (with_reducible first | exact HB.out | apply below_alloc | apply pw_below_drewN | apply below_drew1 | refine below_set ?_ GE161.out | refine below_set ?_ GE166.out | refine below_set ?_ GE174.out) | exact HB.out)) hb)
          clear BK150
          clear BK151
          clear BK152
          clear BK161
          clear BK166
          clear BK174
          clear HB
          have BK150 := n0_
          have BK151 := n1_
          have BK152 := n2_
          have BK161 := n3_
          have BK166 := n4_
          have BK174 := n5_
          have HB := n6_
          clear n0_ n1_ n2_ n3_ n4_ n5_ n6_
          (try clear hb)
          (try clear hb2)
          (try clear hk)
          (try clear hi)
          refine hK.out _ _ ⟨(blk_cell BK161.out 0).trans rfl, (blk_cell BK161.out 1).trans rfl, (blk_cell BK161.out 2).trans rfl, (blk_cell BK166.out 0).trans rfl, (blk_cell BK166.out 1).trans rfl, (blk_cell BK166.out 2).trans rfl, (blk_cell BK174.out 0).trans rfl, (blk_cell BK174.out 1).trans rfl, (blk_cell BK174.out 2).trans rfl, (blk_cell BK150.out 0).trans rfl, (blk_cell BK150.out 1).trans rfl, (blk_cell BK150.out 2).trans rfl, (blk_cell BK151.out 0).trans rfl, (blk_cell BK151.out 1).trans rfl, (blk_cell BK151.out 2).trans rfl⟩ (fun hHeld => ?_)
          clear hK K
          refine norm_ (a' := ?_) ?_ ?_
          rotate_left
          ·show Act.put _ (some 82) _ = _
           simp only [Act.put, List.setIfInBounds_toArray, List.set_cons_zero, List.set_cons_succ, i64_w, i32_w]
           rfl
          refine one_ (i := 27) (N := some 85) #[true, true, true, true, true, true, true, true, true, true, true, true, true, true, true, true, true, true, true, true, true, true, true, true, true, true, true, true, false, false, false] rfl rfl (one_of HT_.out (by kernel_rfl)) (by decide) (fun K hK => ?_)
          refine goes_ Tryd.func28 (by kernel_rfl) rfl #[.agg #[.bool a1_0, .int .i64 a1_1, .int .i64 a1_2], .agg #[.bool a0_0, .int .i64 a0_1, .int .i64 a0_2]] (by rfl) rfl rfl (by (try simp only [List.map_toArray, List.map_cons, List.map_nil]); first | done | rfl | (simp only [List.length_drop, List.length_take]; rfl)) ?_
          with_reducible refine (decimal_Cmp.calls a1_0 a1_1 a1_2 a0_0 a0_1 a0_2 t176 _ A80.out).mono ?_
          rintro e w84 ⟨rfl, hb⟩
          refine ⟨_, rfl, ?_⟩
          have n0_ := Aside0.mk (blk_b hb BK150.out)
          have n1_ := Aside0.mk (blk_b hb BK151.out)
          have n2_ := Aside0.mk (blk_b hb BK152.out)
          have n3_ := Aside0.mk (blk_b hb BK161.out)
          have n4_ := Aside0.mk (blk_b hb BK166.out)
          have n5_ := Aside0.mk (blk_b hb BK174.out)
          have n6_ := Aside0.mk (below_step (by repeat (first | (with_reducible first | exact HB.out | apply below_alloc | apply pw_below_drewN | apply below_drew1 | refine below_set ?_ GE161.out | refine below_set ?_ GE166.out | refine below_set ?_ GE174.out) | exact HB.out)) hb)
          clear BK150
          clear BK151
          clear BK152
          clear BK161
          clear BK166
          clear BK174
          clear HB
          have BK150 := n0_
          have BK151 := n1_
          have BK152 := n2_
          have BK161 := n3_
          have BK166 := n4_
          have BK174 := n5_
          have HB := n6_
          clear n0_ n1_ n2_ n3_ n4_ n5_ n6_
          (try clear hb)
          (try clear hb2)
          (try clear hk)
          (try clear hi)
          refine hK.out _ _ ⟨(blk_cell BK161.out 0).trans rfl, (blk_cell BK161.out 1).trans rfl, (blk_cell BK161.out 2).trans rfl, (blk_cell BK166.out 0).trans rfl, (blk_cell BK166.out 1).trans rfl, (blk_cell BK166.out 2).trans rfl, (blk_cell BK174.out 0).trans rfl, (blk_cell BK174.out 1).trans rfl, (blk_cell BK174.out 2).trans rfl, (blk_cell BK150.out 0).trans rfl, (blk_cell BK150.out 1).trans rfl, (blk_cell BK150.out 2).trans rfl, (blk_cell BK151.out 0).trans rfl, (blk_cell BK151.out 1).trans rfl, (blk_cell BK151.out 2).trans rfl⟩ (fun hHeld => ?_)
          clear hK K
          refine norm_ (a' := ?_) ?_ ?_
          rotate_left
          ·show Act.put _ (some 85) _ = _
           simp only [Act.put, List.setIfInBounds_toArray, List.set_cons_zero, List.set_cons_succ, i64_w, i32_w]
           rfl
          refine pure_ (i := 28) (N := some 86) (v := ?_) (a' := ?_) #[true, true, true, true, true, true, true, true, true, true, true, true, true, true, true, true, true, true, true, true, true, true, true, true, true, true, true, true, true, false, false] rfl rfl (any_of HT_.out (by kernel_rfl)) (fun _ _ _ h => h) (Or.inl ⟨by rfl, ?_⟩) ?_ ?_
          rotate_left
          ·intro w'
           go_simp
           with_reducible rfl
          rotate_left
          ·simp only [Act.put, List.setIfInBounds_toArray, List.set_cons_zero, List.set_cons_succ, i64_w, i32_w]
           rfl
          refine pure_ (i := 29) (N := some 87) (v := ?_) (a' := ?_) #[true, true, true, true, true, true, true, true, true, true, true, true, true, true, true, true, true, true, true, true, true, true, true, true, true, true, true, true, true, true, false] rfl rfl (any_of HT_.out (by kernel_rfl)) (fun _ _ _ h => h) (Or.inl ⟨by rfl, ?_⟩) ?_ ?_
          rotate_left
          ·intro w'
           go_simp
           with_reducible rfl
          rotate_left
          ·simp only [Act.put, List.setIfInBounds_toArray, List.set_cons_zero, List.set_cons_succ, i64_w, i32_w]
           rfl
          refine pure_ (i := 30) (N := some 88) (v := ?_) (a' := ?_) #[true, true, true, true, true, true, true, true, true, true, true, true, true, true, true, true, true, true, true, true, true, true, true, true, true, true, true, true, true, true, true] rfl rfl (any_of HT_.out (by kernel_rfl)) (fun _ _ _ h => h) (Or.inl ⟨by rfl, ?_⟩) ?_ ?_
          rotate_left
          ·intro w'
           go_simp
           with_reducible rfl
          rotate_left
          ·simp only [Act.put, List.setIfInBounds_toArray, List.set_cons_zero, List.set_cons_succ, i64_w, i32_w]
           rfl
          refine done_ (done_of HT_.out (by kernel_rfl)) ?_
          try go_wp2
          go_meet
          case rel => exact ⟨_, ((t175 != (wrap64 (-t176)))), (by first | rfl | (simp; done) | (simp [*]; done) | exact congrArg Value.bool (Go.Proofs.YtggakekljbgeoaaDoor.GLib.not_isEmpty _) | exact congrArg Value.bool (Go.Proofs.YtggakekljbgeoaaDoor.GLib.not_isEmpty _).symm), H', ⟨by have := HJ3.out; first | omega | exact Nat.le_refl _⟩, ⟨BK150.out⟩, ⟨BK151.out⟩, ⟨BK152.out⟩, ⟨BK161.out⟩, ⟨by repeat (first | (with_reducible first | exact HB.out | apply below_alloc | apply pw_below_drewN | apply below_drew1 | refine below_set ?_ GE161.out | refine below_set ?_ GE166.out | refine below_set ?_ GE174.out) | exact HB.out)⟩⟩
        ·rw [if_neg c75] at H
         exact (remitterlaw01_DecimalExact.j1_no H).elim
       ·rw [if_neg c74] at H
        exact (remitterlaw01_DecimalExact.j1_no H).elim
      ·rw [if_neg c73] at H
       exact (remitterlaw01_DecimalExact.j1_no H).elim
    case rest =>
     clear HC40
     (try clear p2); (try clear c73b0); (try clear c73b1); (try clear c74b0); (try clear c74b1)
     obtain ⟨kq, x88_39, rfl, HA, HJ39, BK150, BK151, BK152, BK161, HB⟩ := hcut
     cases kq with
     | zero => exact absurd HA.out (by simp [remitterlaw01_DecimalExact.j1])
     | succ kj39 =>
      have H := HA.out
      clear HA
      simp only [remitterlaw01_DecimalExact.j1] at H
      by_cases c91 : x88_39 = true
      ·subst c91
       have H1 : (some false) = some true := by rw [if_pos rfl] at H; exact H
       clear H
       have H := H1
       clear H1
       cases H
      ·replace c91 := Bool.eq_false_iff.mpr c91
       subst c91
       have H1 : (if t160 = 0 then ((decimal_Neg.f a1_0 a1_1 a1_2).bind fun bt177 => ((decimal_Add.f t157 t158 t159 bt177.1 bt177.2.1 bt177.2.2).bind fun bt180 => (if bt180.2.2.2 = 0 then ((decimal_Cmp.f bt180.1 bt180.2.1 bt180.2.2.1 a0_0 a0_1 a0_2).bind fun t185 => (if t185 = 0 then ((decimal_Good.f t157 t158 t159).bind fun t186 => (remitterlaw01_DecimalExact.j2 kj39 (!t186) a0_0 a0_1 a0_2 a1_0 a1_1 a1_2 a2_0 a2_1 a2_2 t157 t158 t159)) else (remitterlaw01_DecimalExact.j2 kj39 true a0_0 a0_1 a0_2 a1_0 a1_1 a1_2 a2_0 a2_1 a2_2 t157 t158 t159))) else ((decimal_Good.f t157 t158 t159).bind fun t187 => (remitterlaw01_DecimalExact.j2 kj39 (!t187) a0_0 a0_1 a0_2 a1_0 a1_1 a1_2 a2_0 a2_1 a2_2 t157 t158 t159))))) else (remitterlaw01_DecimalExact.j3 kj39 a0_0 a0_1 a0_2 a1_0 a1_1 a1_2 a2_0 a2_1 a2_2)) = some true := by rw [if_neg (show ¬ (false = true) by decide)] at H; exact H
       clear H
       have H := H1
       clear H1
       have HC92 := Aside0.mk H
       clear H
       go_upto_if 90 with (fail)
       go_cut [] (fun wc => ∃ (kq : Nat), Aside0 (remitterlaw01_DecimalExact.j3 kq a0_0 a0_1 a0_2 a1_0 a1_1 a1_2 a2_0 a2_1 a2_2 = some true) ∧ Aside0 (kq ≤ kj39) ∧ Aside0 (wc.heap[gb150]? = some (.cells #[.bool a0_0, .int .i64 a0_1, .int .i64 a0_2] 24 (0, 0))) ∧ Aside0 (wc.heap[gb151]? = some (.cells #[.bool a1_0, .int .i64 a1_1, .int .i64 a1_2] 24 (0, 0))) ∧ Aside0 (wc.heap[gb152]? = some (.cells #[.bool a2_0, .int .i64 a2_1, .int .i64 a2_2] 24 (0, 0))) ∧ Aside0 (Below w.heap.size w wc))
       case first =>
        have H := HC92.out
        clear HC92
        by_cases c93 : t160 = 0
        ·rw [if_pos c93] at H
         have c93b0 : (t160 == 0) = true := beq_iff_eq.mpr c93
         have c93b1 : (t160 != 0) = false := bne_eq_false_iff_eq.mpr c93
         clear c93
         (first | rw [c93b0] | (simp only [i64_w, i32_w]; rw [c93b0]) | skip)
         replace H := Option.bind_eq_some_iff.mp H
         obtain ⟨⟨t177, t178, t179⟩, A940, H⟩ := H
         replace H : ((decimal_Add.f t157 t158 t159 t177 t178 t179).bind fun bt180 => (if bt180.2.2.2 = 0 then ((decimal_Cmp.f bt180.1 bt180.2.1 bt180.2.2.1 a0_0 a0_1 a0_2).bind fun t185 => (if t185 = 0 then ((decimal_Good.f t157 t158 t159).bind fun t186 => (remitterlaw01_DecimalExact.j2 kj39 (!t186) a0_0 a0_1 a0_2 a1_0 a1_1 a1_2 a2_0 a2_1 a2_2 t157 t158 t159)) else (remitterlaw01_DecimalExact.j2 kj39 true a0_0 a0_1 a0_2 a1_0 a1_1 a1_2 a2_0 a2_1 a2_2 t157 t158 t159))) else ((decimal_Good.f t157 t158 t159).bind fun t187 => (remitterlaw01_DecimalExact.j2 kj39 (!t187) a0_0 a0_1 a0_2 a1_0 a1_1 a1_2 a2_0 a2_1 a2_2 t157 t158 t159)))) = some true := H
         have A94 := Aside0.mk A940
         clear A940
         replace H := Option.bind_eq_some_iff.mp H
         obtain ⟨⟨t180, t181, t182, t183⟩, A950, H⟩ := H
         replace H : (if t183 = 0 then ((decimal_Cmp.f t180 t181 t182 a0_0 a0_1 a0_2).bind fun t185 => (if t185 = 0 then ((decimal_Good.f t157 t158 t159).bind fun t186 => (remitterlaw01_DecimalExact.j2 kj39 (!t186) a0_0 a0_1 a0_2 a1_0 a1_1 a1_2 a2_0 a2_1 a2_2 t157 t158 t159)) else (remitterlaw01_DecimalExact.j2 kj39 true a0_0 a0_1 a0_2 a1_0 a1_1 a1_2 a2_0 a2_1 a2_2 t157 t158 t159))) else ((decimal_Good.f t157 t158 t159).bind fun t187 => (remitterlaw01_DecimalExact.j2 kj39 (!t187) a0_0 a0_1 a0_2 a1_0 a1_1 a1_2 a2_0 a2_1 a2_2 t157 t158 t159))) = some true := H
         have A95 := Aside0.mk A950
         clear A950
         have HC96 := Aside0.mk H
         clear H
         try go_wp2
         have n0_ := Aside0.mk (blk_drew BK150.out)
         have n1_ := Aside0.mk (blk_drew BK151.out)
         have n2_ := Aside0.mk (blk_drew BK152.out)
         have n3_ := Aside0.mk (blk_drew BK161.out)
         have n4_ := Aside0.mk (below_drew1 HB.out)
         clear BK150
         clear BK151
         clear BK152
         clear BK161
         clear HB
         have BK150 := n0_
         have BK151 := n1_
         have BK152 := n2_
         have BK161 := n3_
         have HB := n4_
         clear n0_ n1_ n2_ n3_ n4_
         refine start_ (n := 10) (S := fun w' => w'.cell? ⟨gb161, 0, none⟩ = some (.bool t157) ∧ w'.cell? ⟨gb161, 1, none⟩ = some (.int .i64 t158) ∧ w'.cell? ⟨gb161, 2, none⟩ = some (.int .i64 t159) ∧ w'.cell? ⟨gb151, 0, none⟩ = some (.bool a1_0) ∧ w'.cell? ⟨gb151, 1, none⟩ = some (.int .i64 a1_1) ∧ w'.cell? ⟨gb151, 2, none⟩ = some (.int .i64 a1_2)) (ds := []) #[false, false, false, false, false, false, false, false, false, false] (by kernel_rfl) rfl rfl ⟨(blk_cell BK161.out 0).trans rfl, (blk_cell BK161.out 1).trans rfl, (blk_cell BK161.out 2).trans rfl, (blk_cell BK151.out 0).trans rfl, (blk_cell BK151.out 1).trans rfl, (blk_cell BK151.out 2).trans rfl⟩ (fun hHeld => ?_); refine with_tabW remitterlaw01_DecimalExact.tab9 remitterlaw01_DecimalExact.bits9 (fun HT_ HW_ => ?_)
         generalize wc.drew = w97 at BK150 BK151 BK152 BK161 HB hHeld ⊢
         refine take_ (i := 0) (N := some 92) (v := ?_) (a' := ?_) #[true, false, false, false, false, false, false, false, false, false] rfl rfl (take_ofW HT_.out HW_.out (by kernel_rfl)) (fun _ _ _ h => h) (Or.inl ⟨by rfl, ?_⟩) hHeld ?_ ?_
         rotate_left
         ·rintro w' ⟨s0, s1, s2, s3, s4, s5⟩
          go_simp
          with_reducible rfl
         rotate_left
         ·simp only [Act.put, List.setIfInBounds_toArray, List.set_cons_zero, List.set_cons_succ, i64_w, i32_w]
          rfl
         refine take_ (i := 1) (N := some 93) (v := ?_) (a' := ?_) #[true, true, false, false, false, false, false, false, false, false] rfl rfl (take_ofW HT_.out HW_.out (by kernel_rfl)) (fun _ _ _ h => h) (Or.inl ⟨by rfl, ?_⟩) hHeld ?_ ?_
         rotate_left
         ·rintro w' ⟨s0, s1, s2, s3, s4, s5⟩
          go_simp
          with_reducible rfl
         rotate_left
         ·simp only [Act.put, List.setIfInBounds_toArray, List.set_cons_zero, List.set_cons_succ, i64_w, i32_w]
          rfl
         refine join_ (σ := Nat) 2 #[true, true, true, true, true, true, true, true, false, false] (fun s_ => [(94, .agg #[.bool t177, .int .i64 t178, .int .i64 t179]), (95, .tuple #[.agg #[.bool t180, .int .i64 t181, .int .i64 t182], .int .i64 t183]), (13, .pointer (some ⟨s_, 0, none⟩)), (91, .tuple #[.agg #[.bool t180, .int .i64 t181, .int .i64 t182], .int .i64 t183]), (96, .agg #[.bool t180, .int .i64 t181, .int .i64 t182]), (97, .int .i64 t183)]) (fun s_ w' => (w'.cell? ⟨gb161, 0, none⟩ = some (.bool t157) ∧ w'.cell? ⟨gb161, 1, none⟩ = some (.int .i64 t158) ∧ w'.cell? ⟨gb161, 2, none⟩ = some (.int .i64 t159) ∧ w'.cell? ⟨gb151, 0, none⟩ = some (.bool a1_0) ∧ w'.cell? ⟨gb151, 1, none⟩ = some (.int .i64 a1_1) ∧ w'.cell? ⟨gb151, 2, none⟩ = some (.int .i64 a1_2)) ∧ (w'.heap[gb150]? = some (.cells #[.bool a0_0, .int .i64 a0_1, .int .i64 a0_2] 24 (0, 0))) ∧ (w'.heap[gb151]? = some (.cells #[.bool a1_0, .int .i64 a1_1, .int .i64 a1_2] 24 (0, 0))) ∧ (w'.heap[gb152]? = some (.cells #[.bool a2_0, .int .i64 a2_1, .int .i64 a2_2] 24 (0, 0))) ∧ (w'.heap[gb161]? = some (.cells #[.bool t157, .int .i64 t158, .int .i64 t159] 24 (0, 0))) ∧ (w'.heap[s_]? = some (.cells #[.bool false, .int .i64 0, .int .i64 0] 24 (0, 0))) ∧ (w.heap.size ≤ s_) ∧ (w.heap.size ≤ s_) ∧ (gb150 ≠ s_) ∧ (s_ ≠ gb150) ∧ (gb151 ≠ s_) ∧ (s_ ≠ gb151) ∧ (gb152 ≠ s_) ∧ (s_ ≠ gb152) ∧ (gb161 ≠ s_) ∧ (s_ ≠ gb161) ∧ (Below w.heap.size w w')) ?_ ?_
         rotate_left
         ·intro hCont
          refine two_ (i := 2) (j := 7) (Ni := some 94) (Nj := some 13) #[true, true, true, false, false, false, false, false, false, false] #[true, true, false, false, false, false, false, true, false, false] rfl rfl rfl rfl (two_of HT_.out (by kernel_rfl)) (by decide) (by decide) (fun K hK => ?_) (fun K hK => ?_)
          ·skip
           refine goes_ Tryd.func22 (by kernel_rfl) rfl #[.agg #[.bool a1_0, .int .i64 a1_1, .int .i64 a1_2]] (by rfl) rfl rfl (by (try simp only [List.map_toArray, List.map_cons, List.map_nil]); first | done | rfl | (simp only [List.length_drop, List.length_take]; rfl)) ?_
           with_reducible refine (decimal_Neg.calls a1_0 a1_1 a1_2 t177 t178 t179 _ A94.out).mono ?_
           rintro e w98 ⟨rfl, hb⟩
           refine ⟨_, rfl, ?_⟩
           have n0_ := Aside0.mk (blk_b hb BK150.out)
           have n1_ := Aside0.mk (blk_b hb BK151.out)
           have n2_ := Aside0.mk (blk_b hb BK152.out)
           have n3_ := Aside0.mk (blk_b hb BK161.out)
           have n4_ := Aside0.mk (below_step (by repeat (first | (with_reducible first | exact HB.out | apply below_alloc | apply pw_below_drewN | apply below_drew1 | refine below_set ?_ GE161.out) | exact HB.out)) hb)
           clear BK150
           clear BK151
           clear BK152
           clear BK161
           clear HB
           have BK150 := n0_
           have BK151 := n1_
           have BK152 := n2_
           have BK161 := n3_
           have HB := n4_
           clear n0_ n1_ n2_ n3_ n4_
           (try clear hb)
           (try clear hb2)
           (try clear hk)
           (try clear hi)
           refine hK.out _ _ ⟨(blk_cell BK161.out 0).trans rfl, (blk_cell BK161.out 1).trans rfl, (blk_cell BK161.out 2).trans rfl, (blk_cell BK151.out 0).trans rfl, (blk_cell BK151.out 1).trans rfl, (blk_cell BK151.out 2).trans rfl⟩ (fun hHeld => ?_)
           clear hK K
           refine norm_ (a' := ?_) ?_ ?_
           rotate_left
           ·show Act.put _ (some 94) _ = _
            simp only [Act.put, List.setIfInBounds_toArray, List.set_cons_zero, List.set_cons_succ, i64_w, i32_w]
            rfl
           refine two_ (i := 3) (j := 7) (Ni := some 95) (Nj := some 13) #[true, true, true, true, false, false, false, false, false, false] #[true, true, true, false, false, false, false, true, false, false] rfl rfl rfl rfl (two_of HT_.out (by kernel_rfl)) (by decide) (by decide) (fun K hK => ?_) (fun K hK => ?_)
           ·skip
            refine goes_ Tryd.func27 (by kernel_rfl) rfl #[.agg #[.bool t157, .int .i64 t158, .int .i64 t159], .agg #[.bool t177, .int .i64 t178, .int .i64 t179]] (by rfl) rfl rfl (by (try simp only [List.map_toArray, List.map_cons, List.map_nil]); first | done | rfl | (simp only [List.length_drop, List.length_take]; rfl)) ?_
            with_reducible refine (decimal_Add.calls t157 t158 t159 t177 t178 t179 t180 t181 t182 t183 _ A95.out).mono ?_
            rintro e w99 ⟨rfl, hb⟩
            refine ⟨_, rfl, ?_⟩
            have n0_ := Aside0.mk (blk_b hb BK150.out)
            have n1_ := Aside0.mk (blk_b hb BK151.out)
            have n2_ := Aside0.mk (blk_b hb BK152.out)
            have n3_ := Aside0.mk (blk_b hb BK161.out)
            have n4_ := Aside0.mk (below_step (by repeat (first | (with_reducible first | exact HB.out | apply below_alloc | apply pw_below_drewN | apply below_drew1 | refine below_set ?_ GE161.out) | exact HB.out)) hb)
            clear BK150
            clear BK151
            clear BK152
            clear BK161
            clear HB
            have BK150 := n0_
            have BK151 := n1_
            have BK152 := n2_
            have BK161 := n3_
            have HB := n4_
            clear n0_ n1_ n2_ n3_ n4_
            (try clear hb)
            (try clear hb2)
            (try clear hk)
            (try clear hi)
            refine hK.out _ _ ⟨(blk_cell BK161.out 0).trans rfl, (blk_cell BK161.out 1).trans rfl, (blk_cell BK161.out 2).trans rfl, (blk_cell BK151.out 0).trans rfl, (blk_cell BK151.out 1).trans rfl, (blk_cell BK151.out 2).trans rfl⟩ (fun hHeld => ?_)
            clear hK K
            refine norm_ (a' := ?_) ?_ ?_
            rotate_left
            ·show Act.put _ (some 95) _ = _
             simp only [Act.put, List.setIfInBounds_toArray, List.set_cons_zero, List.set_cons_succ, i64_w, i32_w]
             rfl
            refine pure_ (i := 4) (N := some 91) (v := ?_) (a' := ?_) #[true, true, true, true, true, false, false, false, false, false] rfl rfl (any_of HT_.out (by kernel_rfl)) (fun _ _ _ h => h) (Or.inl ⟨by rfl, ?_⟩) ?_ ?_
            rotate_left
            ·intro w'
             go_simp
             with_reducible rfl
            rotate_left
            ·simp only [Act.put, List.setIfInBounds_toArray, List.set_cons_zero, List.set_cons_succ, i64_w, i32_w]
             rfl
            refine pure_ (i := 5) (N := some 96) (v := ?_) (a' := ?_) #[true, true, true, true, true, true, false, false, false, false] rfl rfl (any_of HT_.out (by kernel_rfl)) (fun _ _ _ h => h) (Or.inl ⟨by rfl, ?_⟩) ?_ ?_
            rotate_left
            ·intro w'
             go_simp
             with_reducible rfl
            rotate_left
            ·simp only [Act.put, List.setIfInBounds_toArray, List.set_cons_zero, List.set_cons_succ, i64_w, i32_w]
             rfl
            refine pure_ (i := 6) (N := some 97) (v := ?_) (a' := ?_) #[true, true, true, true, true, true, true, false, false, false] rfl rfl (any_of HT_.out (by kernel_rfl)) (fun _ _ _ h => h) (Or.inl ⟨by rfl, ?_⟩) ?_ ?_
            rotate_left
            ·intro w'
             go_simp
             with_reducible rfl
            rotate_left
            ·simp only [Act.put, List.setIfInBounds_toArray, List.set_cons_zero, List.set_cons_succ, i64_w, i32_w]
             rfl
            refine one_ (i := 7) (N := some 13) #[true, true, true, true, true, true, true, true, false, false] rfl rfl (one_of HT_.out (by kernel_rfl)) (by decide) (fun K hK => ?_)
            refine box_step ?hg (N := 13) ?hd (cs := #[.bool false, .int .i64 0, .int .i64 0]) (t := 24) ?hr ?_; (case hd => rfl); (case hg => rfl); (case hr => first | (go_simp; done) | (go_simp; rfl))
            intro gb184 hg w100 hbox hb
            have n0_ := Aside0.mk (blk_b hb BK150.out)
            have n1_ := Aside0.mk (blk_b hb BK151.out)
            have n2_ := Aside0.mk (blk_b hb BK152.out)
            have n3_ := Aside0.mk (blk_b hb BK161.out)
            have n4_ := Aside0.mk (below_step (by repeat (first | (with_reducible first | exact HB.out | apply below_alloc | apply pw_below_drewN | apply below_drew1 | refine below_set ?_ GE161.out) | exact HB.out)) hb)
            have n5_ := Aside0.mk (hbox)
            have n6_ := Aside0.mk ((by rw [hg]; exact (below_size (by repeat (first | (with_reducible first | exact HB.out | apply below_alloc | apply pw_below_drewN | apply below_drew1 | refine below_set ?_ GE161.out) | exact HB.out))) : w.heap.size ≤ gb184))
            have n7_ := Aside0.mk ((by rw [hg]; exact (below_size (by repeat (first | (with_reducible first | exact HB.out | apply below_alloc | apply pw_below_drewN | apply below_drew1 | refine below_set ?_ GE161.out) | exact HB.out))) : w.heap.size ≤ gb184))
            have n8_ := Aside0.mk ((by rw [hg]; exact Nat.ne_of_lt (blk_lt BK150.out) : gb150 ≠ gb184))
            have n9_ := Aside0.mk ((by rw [hg]; exact Nat.ne_of_gt (blk_lt BK150.out) : gb184 ≠ gb150))
            have n10_ := Aside0.mk ((by rw [hg]; exact Nat.ne_of_lt (blk_lt BK151.out) : gb151 ≠ gb184))
            have n11_ := Aside0.mk ((by rw [hg]; exact Nat.ne_of_gt (blk_lt BK151.out) : gb184 ≠ gb151))
            have n12_ := Aside0.mk ((by rw [hg]; exact Nat.ne_of_lt (blk_lt BK152.out) : gb152 ≠ gb184))
            have n13_ := Aside0.mk ((by rw [hg]; exact Nat.ne_of_gt (blk_lt BK152.out) : gb184 ≠ gb152))
            have n14_ := Aside0.mk ((by rw [hg]; exact Nat.ne_of_lt (blk_lt BK161.out) : gb161 ≠ gb184))
            have n15_ := Aside0.mk ((by rw [hg]; exact Nat.ne_of_gt (blk_lt BK161.out) : gb184 ≠ gb161))
            clear BK150
            clear BK151
            clear BK152
            clear BK161
            clear HB
            have BK150 := n0_
            have BK151 := n1_
            have BK152 := n2_
            have BK161 := n3_
            have HB := n4_
            have BK184 := n5_
            have GW184 := n6_
            have GE184 := n7_
            have NB150_184 := n8_
            have NB184_150 := n9_
            have NB151_184 := n10_
            have NB184_151 := n11_
            have NB152_184 := n12_
            have NB184_152 := n13_
            have NB161_184 := n14_
            have NB184_161 := n15_
            clear n0_ n1_ n2_ n3_ n4_ n5_ n6_ n7_ n8_ n9_ n10_ n11_ n12_ n13_ n14_ n15_
            clear hb hbox hg
            refine hK.out _ _ ⟨(blk_cell BK161.out 0).trans rfl, (blk_cell BK161.out 1).trans rfl, (blk_cell BK161.out 2).trans rfl, (blk_cell BK151.out 0).trans rfl, (blk_cell BK151.out 1).trans rfl, (blk_cell BK151.out 2).trans rfl⟩ (fun hHeld => ?_)
            clear hK K
            refine norm_ (a' := ?_) ?_ ?_
            rotate_left
            ·show Act.put _ (some 13) _ = _
             simp only [Act.put, List.setIfInBounds_toArray, List.set_cons_zero, List.set_cons_succ, i64_w, i32_w]
             rfl
            exact norm_ (by simp only [putAll, Act.put, List.setIfInBounds_toArray, List.set_cons_zero, List.set_cons_succ]) (hCont (gb184) _ ⟨hHeld, BK150.out, BK151.out, BK152.out, BK161.out, BK184.out, GW184.out, GE184.out, NB150_184.out, NB184_150.out, NB151_184.out, NB184_151.out, NB152_184.out, NB184_152.out, NB161_184.out, NB184_161.out, (by repeat (first | (with_reducible first | exact HB.out | apply below_alloc | apply pw_below_drewN | apply below_drew1 | refine below_set ?_ GE161.out | refine below_set ?_ GE184.out) | exact HB.out))⟩)
           ·skip
            refine box_step ?hg (N := 13) ?hd (cs := #[.bool false, .int .i64 0, .int .i64 0]) (t := 24) ?hr ?_; (case hd => rfl); (case hg => rfl); (case hr => first | (go_simp; done) | (go_simp; rfl))
            intro gb184 hg w99 hbox hb
            have n0_ := Aside0.mk (blk_b hb BK150.out)
            have n1_ := Aside0.mk (blk_b hb BK151.out)
            have n2_ := Aside0.mk (blk_b hb BK152.out)
            have n3_ := Aside0.mk (blk_b hb BK161.out)
            have n4_ := Aside0.mk (below_step (by repeat (first | (with_reducible first | exact HB.out | apply below_alloc | apply pw_below_drewN | apply below_drew1 | refine below_set ?_ GE161.out) | exact HB.out)) hb)
            have n5_ := Aside0.mk (hbox)
            have n6_ := Aside0.mk ((by rw [hg]; exact (below_size (by repeat (first | (with_reducible first | exact HB.out | apply below_alloc | apply pw_below_drewN | apply below_drew1 | refine below_set ?_ GE161.out) | exact HB.out))) : w.heap.size ≤ gb184))
            have n7_ := Aside0.mk ((by rw [hg]; exact (below_size (by repeat (first | (with_reducible first | exact HB.out | apply below_alloc | apply pw_below_drewN | apply below_drew1 | refine below_set ?_ GE161.out) | exact HB.out))) : w.heap.size ≤ gb184))
            have n8_ := Aside0.mk ((by rw [hg]; exact Nat.ne_of_lt (blk_lt BK150.out) : gb150 ≠ gb184))
            have n9_ := Aside0.mk ((by rw [hg]; exact Nat.ne_of_gt (blk_lt BK150.out) : gb184 ≠ gb150))
            have n10_ := Aside0.mk ((by rw [hg]; exact Nat.ne_of_lt (blk_lt BK151.out) : gb151 ≠ gb184))
            have n11_ := Aside0.mk ((by rw [hg]; exact Nat.ne_of_gt (blk_lt BK151.out) : gb184 ≠ gb151))
            have n12_ := Aside0.mk ((by rw [hg]; exact Nat.ne_of_lt (blk_lt BK152.out) : gb152 ≠ gb184))
            have n13_ := Aside0.mk ((by rw [hg]; exact Nat.ne_of_gt (blk_lt BK152.out) : gb184 ≠ gb152))
            have n14_ := Aside0.mk ((by rw [hg]; exact Nat.ne_of_lt (blk_lt BK161.out) : gb161 ≠ gb184))
            have n15_ := Aside0.mk ((by rw [hg]; exact Nat.ne_of_gt (blk_lt BK161.out) : gb184 ≠ gb161))
            clear BK150
            clear BK151
            clear BK152
            clear BK161
            clear HB
            have BK150 := n0_
            have BK151 := n1_
            have BK152 := n2_
            have BK161 := n3_
            have HB := n4_
            have BK184 := n5_
            have GW184 := n6_
            have GE184 := n7_
            have NB150_184 := n8_
            have NB184_150 := n9_
            have NB151_184 := n10_
            have NB184_151 := n11_
            have NB152_184 := n12_
            have NB184_152 := n13_
            have NB161_184 := n14_
            have NB184_161 := n15_
            clear n0_ n1_ n2_ n3_ n4_ n5_ n6_ n7_ n8_ n9_ n10_ n11_ n12_ n13_ n14_ n15_
            clear hb hbox hg
            refine hK.out _ _ ⟨(blk_cell BK161.out 0).trans rfl, (blk_cell BK161.out 1).trans rfl, (blk_cell BK161.out 2).trans rfl, (blk_cell BK151.out 0).trans rfl, (blk_cell BK151.out 1).trans rfl, (blk_cell BK151.out 2).trans rfl⟩ (fun hHeld => ?_)
            clear hK K
            refine norm_ (a' := ?_) ?_ ?_
            rotate_left
            ·show Act.put _ (some 13) _ = _
             simp only [Act.put, List.setIfInBounds_toArray, List.set_cons_zero, List.set_cons_succ, i64_w, i32_w]
             rfl
            refine one_ (i := 3) (N := some 95) #[true, true, true, true, false, false, false, true, false, false] rfl rfl (one_of HT_.out (by kernel_rfl)) (by decide) (fun K hK => ?_)
            refine goes_ Tryd.func27 (by kernel_rfl) rfl #[.agg #[.bool t157, .int .i64 t158, .int .i64 t159], .agg #[.bool t177, .int .i64 t178, .int .i64 t179]] (by rfl) rfl rfl (by (try simp only [List.map_toArray, List.map_cons, List.map_nil]); first | done | rfl | (simp only [List.length_drop, List.length_take]; rfl)) ?_
            with_reducible refine (decimal_Add.calls t157 t158 t159 t177 t178 t179 t180 t181 t182 t183 _ A95.out).mono ?_
            rintro e w100 ⟨rfl, hb⟩
            refine ⟨_, rfl, ?_⟩
            have n0_ := Aside0.mk (blk_b hb BK150.out)
            have n1_ := Aside0.mk (blk_b hb BK151.out)
            have n2_ := Aside0.mk (blk_b hb BK152.out)
            have n3_ := Aside0.mk (blk_b hb BK161.out)
            have n4_ := Aside0.mk (blk_b hb BK184.out)
            have n5_ := Aside0.mk (below_step (by repeat (first | (with_reducible first | exact HB.out | apply below_alloc | apply pw_below_drewN | apply below_drew1 | refine below_set ?_ GE161.out | refine below_set ?_ GE184.out) | exact HB.out)) hb)
            clear BK150
            clear BK151
            clear BK152
            clear BK161
            clear BK184
            clear HB
            have BK150 := n0_
            have BK151 := n1_
            have BK152 := n2_
            have BK161 := n3_
            have BK184 := n4_
            have HB := n5_
            clear n0_ n1_ n2_ n3_ n4_ n5_
            (try clear hb)
            (try clear hb2)
            (try clear hk)
            (try clear hi)
            refine hK.out _ _ ⟨(blk_cell BK161.out 0).trans rfl, (blk_cell BK161.out 1).trans rfl, (blk_cell BK161.out 2).trans rfl, (blk_cell BK151.out 0).trans rfl, (blk_cell BK151.out 1).trans rfl, (blk_cell BK151.out 2).trans rfl⟩ (fun hHeld => ?_)
            clear hK K
            refine norm_ (a' := ?_) ?_ ?_
            rotate_left
            ·show Act.put _ (some 95) _ = _
             simp only [Act.put, List.setIfInBounds_toArray, List.set_cons_zero, List.set_cons_succ, i64_w, i32_w]
             rfl
            refine pure_ (i := 4) (N := some 91) (v := ?_) (a' := ?_) #[true, true, true, true, true, false, false, true, false, false] rfl rfl (any_of HT_.out (by kernel_rfl)) (fun _ _ _ h => h) (Or.inl ⟨by rfl, ?_⟩) ?_ ?_
            rotate_left
            ·intro w'
             go_simp
             with_reducible rfl
            rotate_left
            ·simp only [Act.put, List.setIfInBounds_toArray, List.set_cons_zero, List.set_cons_succ, i64_w, i32_w]
             rfl
            refine pure_ (i := 5) (N := some 96) (v := ?_) (a' := ?_) #[true, true, true, true, true, true, false, true, false, false] rfl rfl (any_of HT_.out (by kernel_rfl)) (fun _ _ _ h => h) (Or.inl ⟨by rfl, ?_⟩) ?_ ?_
            rotate_left
            ·intro w'
             go_simp
             with_reducible rfl
            rotate_left
            ·simp only [Act.put, List.setIfInBounds_toArray, List.set_cons_zero, List.set_cons_succ, i64_w, i32_w]
             rfl
            refine pure_ (i := 6) (N := some 97) (v := ?_) (a' := ?_) #[true, true, true, true, true, true, true, true, false, false] rfl rfl (any_of HT_.out (by kernel_rfl)) (fun _ _ _ h => h) (Or.inl ⟨by rfl, ?_⟩) ?_ ?_
            rotate_left
            ·intro w'
             go_simp
             with_reducible rfl
            rotate_left
            ·simp only [Act.put, List.setIfInBounds_toArray, List.set_cons_zero, List.set_cons_succ, i64_w, i32_w]
             rfl
            exact norm_ (by simp only [putAll, Act.put, List.setIfInBounds_toArray, List.set_cons_zero, List.set_cons_succ]) (hCont (gb184) _ ⟨hHeld, BK150.out, BK151.out, BK152.out, BK161.out, BK184.out, GW184.out, GE184.out, NB150_184.out, NB184_150.out, NB151_184.out, NB184_151.out, NB152_184.out, NB184_152.out, NB161_184.out, NB184_161.out, (by repeat (first | (with_reducible first | exact HB.out | apply below_alloc | apply pw_below_drewN | apply below_drew1 | refine below_set ?_ GE161.out | refine below_set ?_ GE184.out) | exact HB.out))⟩)
          ·skip
           refine box_step ?hg (N := 13) ?hd (cs := #[.bool false, .int .i64 0, .int .i64 0]) (t := 24) ?hr ?_; (case hd => rfl); (case hg => rfl); (case hr => first | (go_simp; done) | (go_simp; rfl))
           intro gb184 hg w98 hbox hb
           have n0_ := Aside0.mk (blk_b hb BK150.out)
           have n1_ := Aside0.mk (blk_b hb BK151.out)
           have n2_ := Aside0.mk (blk_b hb BK152.out)
           have n3_ := Aside0.mk (blk_b hb BK161.out)
           have n4_ := Aside0.mk (below_step (by repeat (first | (with_reducible first | exact HB.out | apply below_alloc | apply pw_below_drewN | apply below_drew1 | refine below_set ?_ GE161.out) | exact HB.out)) hb)
           have n5_ := Aside0.mk (hbox)
           have n6_ := Aside0.mk ((by rw [hg]; exact (below_size (by repeat (first | (with_reducible first | exact HB.out | apply below_alloc | apply pw_below_drewN | apply below_drew1 | refine below_set ?_ GE161.out) | exact HB.out))) : w.heap.size ≤ gb184))
           have n7_ := Aside0.mk ((by rw [hg]; exact (below_size (by repeat (first | (with_reducible first | exact HB.out | apply below_alloc | apply pw_below_drewN | apply below_drew1 | refine below_set ?_ GE161.out) | exact HB.out))) : w.heap.size ≤ gb184))
           have n8_ := Aside0.mk ((by rw [hg]; exact Nat.ne_of_lt (blk_lt BK150.out) : gb150 ≠ gb184))
           have n9_ := Aside0.mk ((by rw [hg]; exact Nat.ne_of_gt (blk_lt BK150.out) : gb184 ≠ gb150))
           have n10_ := Aside0.mk ((by rw [hg]; exact Nat.ne_of_lt (blk_lt BK151.out) : gb151 ≠ gb184))
           have n11_ := Aside0.mk ((by rw [hg]; exact Nat.ne_of_gt (blk_lt BK151.out) : gb184 ≠ gb151))
           have n12_ := Aside0.mk ((by rw [hg]; exact Nat.ne_of_lt (blk_lt BK152.out) : gb152 ≠ gb184))
           have n13_ := Aside0.mk ((by rw [hg]; exact Nat.ne_of_gt (blk_lt BK152.out) : gb184 ≠ gb152))
           have n14_ := Aside0.mk ((by rw [hg]; exact Nat.ne_of_lt (blk_lt BK161.out) : gb161 ≠ gb184))
           have n15_ := Aside0.mk ((by rw [hg]; exact Nat.ne_of_gt (blk_lt BK161.out) : gb184 ≠ gb161))
           clear BK150
           clear BK151
           clear BK152
           clear BK161
           clear HB
           have BK150 := n0_
           have BK151 := n1_
           have BK152 := n2_
           have BK161 := n3_
           have HB := n4_
           have BK184 := n5_
           have GW184 := n6_
           have GE184 := n7_
           have NB150_184 := n8_
           have NB184_150 := n9_
           have NB151_184 := n10_
           have NB184_151 := n11_
           have NB152_184 := n12_
           have NB184_152 := n13_
           have NB161_184 := n14_
           have NB184_161 := n15_
           clear n0_ n1_ n2_ n3_ n4_ n5_ n6_ n7_ n8_ n9_ n10_ n11_ n12_ n13_ n14_ n15_
           clear hb hbox hg
           refine hK.out _ _ ⟨(blk_cell BK161.out 0).trans rfl, (blk_cell BK161.out 1).trans rfl, (blk_cell BK161.out 2).trans rfl, (blk_cell BK151.out 0).trans rfl, (blk_cell BK151.out 1).trans rfl, (blk_cell BK151.out 2).trans rfl⟩ (fun hHeld => ?_)
           clear hK K
           refine norm_ (a' := ?_) ?_ ?_
           rotate_left
           ·show Act.put _ (some 13) _ = _
            simp only [Act.put, List.setIfInBounds_toArray, List.set_cons_zero, List.set_cons_succ, i64_w, i32_w]
            rfl
           refine one_ (i := 2) (N := some 94) #[true, true, true, false, false, false, false, true, false, false] rfl rfl (one_of HT_.out (by kernel_rfl)) (by decide) (fun K hK => ?_)
           refine goes_ Tryd.func22 (by kernel_rfl) rfl #[.agg #[.bool a1_0, .int .i64 a1_1, .int .i64 a1_2]] (by rfl) rfl rfl (by (try simp only [List.map_toArray, List.map_cons, List.map_nil]); first | done | rfl | (simp only [List.length_drop, List.length_take]; rfl)) ?_
           with_reducible refine (decimal_Neg.calls a1_0 a1_1 a1_2 t177 t178 t179 _ A94.out).mono ?_
           rintro e w99 ⟨rfl, hb⟩
           refine ⟨_, rfl, ?_⟩
           have n0_ := Aside0.mk (blk_b hb BK150.out)
           have n1_ := Aside0.mk (blk_b hb BK151.out)
           have n2_ := Aside0.mk (blk_b hb BK152.out)
           have n3_ := Aside0.mk (blk_b hb BK161.out)
           have n4_ := Aside0.mk (blk_b hb BK184.out)
           have n5_ := Aside0.mk (below_step (by repeat (first | (with_reducible first | exact HB.out | apply below_alloc | apply pw_below_drewN | apply below_drew1 | refine below_set ?_ GE161.out | refine below_set ?_ GE184.out) | exact HB.out)) hb)
           clear BK150
           clear BK151
           clear BK152
           clear BK161
           clear BK184
           clear HB
           have BK150 := n0_
           have BK151 := n1_
           have BK152 := n2_
           have BK161 := n3_
           have BK184 := n4_
           have HB := n5_
           clear n0_ n1_ n2_ n3_ n4_ n5_
           (try clear hb)
           (try clear hb2)
           (try clear hk)
           (try clear hi)
           refine hK.out _ _ ⟨(blk_cell BK161.out 0).trans rfl, (blk_cell BK161.out 1).trans rfl, (blk_cell BK161.out 2).trans rfl, (blk_cell BK151.out 0).trans rfl, (blk_cell BK151.out 1).trans rfl, (blk_cell BK151.out 2).trans rfl⟩ (fun hHeld => ?_)
           clear hK K
           refine norm_ (a' := ?_) ?_ ?_
           rotate_left
           ·show Act.put _ (some 94) _ = _
            simp only [Act.put, List.setIfInBounds_toArray, List.set_cons_zero, List.set_cons_succ, i64_w, i32_w]
            rfl
           refine one_ (i := 3) (N := some 95) #[true, true, true, true, false, false, false, true, false, false] rfl rfl (one_of HT_.out (by kernel_rfl)) (by decide) (fun K hK => ?_)
           refine goes_ Tryd.func27 (by kernel_rfl) rfl #[.agg #[.bool t157, .int .i64 t158, .int .i64 t159], .agg #[.bool t177, .int .i64 t178, .int .i64 t179]] (by rfl) rfl rfl (by (try simp only [List.map_toArray, List.map_cons, List.map_nil]); first | done | rfl | (simp only [List.length_drop, List.length_take]; rfl)) ?_
           with_reducible refine (decimal_Add.calls t157 t158 t159 t177 t178 t179 t180 t181 t182 t183 _ A95.out).mono ?_
           rintro e w100 ⟨rfl, hb⟩
           refine ⟨_, rfl, ?_⟩
           have n0_ := Aside0.mk (blk_b hb BK150.out)
           have n1_ := Aside0.mk (blk_b hb BK151.out)
           have n2_ := Aside0.mk (blk_b hb BK152.out)
           have n3_ := Aside0.mk (blk_b hb BK161.out)
           have n4_ := Aside0.mk (blk_b hb BK184.out)
           have n5_ := Aside0.mk (below_step (by repeat (first | (with_reducible first | exact HB.out | apply below_alloc | apply pw_below_drewN | apply below_drew1 | refine below_set ?_ GE161.out | refine below_set ?_ GE184.out) | exact HB.out)) hb)
           clear BK150
           clear BK151
           clear BK152
           clear BK161
           clear BK184
           clear HB
           have BK150 := n0_
           have BK151 := n1_
           have BK152 := n2_
           have BK161 := n3_
           have BK184 := n4_
           have HB := n5_
           clear n0_ n1_ n2_ n3_ n4_ n5_
           (try clear hb)
           (try clear hb2)
           (try clear hk)
           (try clear hi)
           refine hK.out _ _ ⟨(blk_cell BK161.out 0).trans rfl, (blk_cell BK161.out 1).trans rfl, (blk_cell BK161.out 2).trans rfl, (blk_cell BK151.out 0).trans rfl, (blk_cell BK151.out 1).trans rfl, (blk_cell BK151.out 2).trans rfl⟩ (fun hHeld => ?_)
           clear hK K
           refine norm_ (a' := ?_) ?_ ?_
           rotate_left
           ·show Act.put _ (some 95) _ = _
            simp only [Act.put, List.setIfInBounds_toArray, List.set_cons_zero, List.set_cons_succ, i64_w, i32_w]
            rfl
           refine pure_ (i := 4) (N := some 91) (v := ?_) (a' := ?_) #[true, true, true, true, true, false, false, true, false, false] rfl rfl (any_of HT_.out (by kernel_rfl)) (fun _ _ _ h => h) (Or.inl ⟨by rfl, ?_⟩) ?_ ?_
           rotate_left
           ·intro w'
            go_simp
            with_reducible rfl
           rotate_left
           ·simp only [Act.put, List.setIfInBounds_toArray, List.set_cons_zero, List.set_cons_succ, i64_w, i32_w]
            rfl
           refine pure_ (i := 5) (N := some 96) (v := ?_) (a' := ?_) #[true, true, true, true, true, true, false, true, false, false] rfl rfl (any_of HT_.out (by kernel_rfl)) (fun _ _ _ h => h) (Or.inl ⟨by rfl, ?_⟩) ?_ ?_
           rotate_left
           ·intro w'
            go_simp
            with_reducible rfl
           rotate_left
           ·simp only [Act.put, List.setIfInBounds_toArray, List.set_cons_zero, List.set_cons_succ, i64_w, i32_w]
            rfl
           refine pure_ (i := 6) (N := some 97) (v := ?_) (a' := ?_) #[true, true, true, true, true, true, true, true, false, false] rfl rfl (any_of HT_.out (by kernel_rfl)) (fun _ _ _ h => h) (Or.inl ⟨by rfl, ?_⟩) ?_ ?_
           rotate_left
           ·intro w'
            go_simp
            with_reducible rfl
           rotate_left
           ·simp only [Act.put, List.setIfInBounds_toArray, List.set_cons_zero, List.set_cons_succ, i64_w, i32_w]
            rfl
           exact norm_ (by simp only [putAll, Act.put, List.setIfInBounds_toArray, List.set_cons_zero, List.set_cons_succ]) (hCont (gb184) _ ⟨hHeld, BK150.out, BK151.out, BK152.out, BK161.out, BK184.out, GW184.out, GE184.out, NB150_184.out, NB184_150.out, NB151_184.out, NB184_151.out, NB152_184.out, NB184_152.out, NB161_184.out, NB184_161.out, (by repeat (first | (with_reducible first | exact HB.out | apply below_alloc | apply pw_below_drewN | apply below_drew1 | refine below_set ?_ GE161.out | refine below_set ?_ GE184.out) | exact HB.out))⟩)
         rintro gb184 w101 ⟨hS_, h0_, h1_, h2_, h3_, h4_, h5_, h6_, h7_, h8_, h9_, h10_, h11_, h12_, h13_, h14_, h15_⟩
         have n0_ : Aside0 (w101.heap[gb150]? = some (.cells #[.bool a0_0, .int .i64 a0_1, .int .i64 a0_2] 24 (0, 0))) := ⟨h0_⟩
         have n1_ : Aside0 (w101.heap[gb151]? = some (.cells #[.bool a1_0, .int .i64 a1_1, .int .i64 a1_2] 24 (0, 0))) := ⟨h1_⟩
         have n2_ : Aside0 (w101.heap[gb152]? = some (.cells #[.bool a2_0, .int .i64 a2_1, .int .i64 a2_2] 24 (0, 0))) := ⟨h2_⟩
         have n3_ : Aside0 (w101.heap[gb161]? = some (.cells #[.bool t157, .int .i64 t158, .int .i64 t159] 24 (0, 0))) := ⟨h3_⟩
         have n4_ : Aside0 (w101.heap[gb184]? = some (.cells #[.bool false, .int .i64 0, .int .i64 0] 24 (0, 0))) := ⟨h4_⟩
         have n5_ : Aside0 (w.heap.size ≤ gb184) := ⟨h5_⟩
         have n6_ : Aside0 (w.heap.size ≤ gb184) := ⟨h6_⟩
         have n7_ : Aside0 (gb150 ≠ gb184) := ⟨h7_⟩
         have n8_ : Aside0 (gb184 ≠ gb150) := ⟨h8_⟩
         have n9_ : Aside0 (gb151 ≠ gb184) := ⟨h9_⟩
         have n10_ : Aside0 (gb184 ≠ gb151) := ⟨h10_⟩
         have n11_ : Aside0 (gb152 ≠ gb184) := ⟨h11_⟩
         have n12_ : Aside0 (gb184 ≠ gb152) := ⟨h12_⟩
         have n13_ : Aside0 (gb161 ≠ gb184) := ⟨h13_⟩
         have n14_ : Aside0 (gb184 ≠ gb161) := ⟨h14_⟩
         have n15_ : Aside0 (Below w.heap.size w w101) := ⟨h15_⟩
         clear BK150
         clear BK151
         clear BK152
         clear BK161
         clear HB
         clear h0_ h1_ h2_ h3_ h4_ h5_ h6_ h7_ h8_ h9_ h10_ h11_ h12_ h13_ h14_ h15_
         have BK150 := n0_
         have BK151 := n1_
         have BK152 := n2_
         have BK161 := n3_
         have BK184 := n4_
         have GW184 := n5_
         have GE184 := n6_
         have NB150_184 := n7_
         have NB184_150 := n8_
         have NB151_184 := n9_
         have NB184_151 := n10_
         have NB152_184 := n11_
         have NB184_152 := n12_
         have NB161_184 := n13_
         have NB184_161 := n14_
         have HB := n15_
         clear n0_ n1_ n2_ n3_ n4_ n5_ n6_ n7_ n8_ n9_ n10_ n11_ n12_ n13_ n14_ n15_
         have hHeld : w101.cell? ⟨gb161, 0, none⟩ = some (.bool t157) ∧ w101.cell? ⟨gb161, 1, none⟩ = some (.int .i64 t158) ∧ w101.cell? ⟨gb161, 2, none⟩ = some (.int .i64 t159) ∧ w101.cell? ⟨gb151, 0, none⟩ = some (.bool a1_0) ∧ w101.cell? ⟨gb151, 1, none⟩ = some (.int .i64 a1_1) ∧ w101.cell? ⟨gb151, 2, none⟩ = some (.int .i64 a1_2) := hS_
         refine norm_ (a' := ?_) ?_ ?_
         rotate_left
         ·simp only [putAll, Act.put, List.setIfInBounds_toArray, List.set_cons_zero, List.set_cons_succ]
          rfl
         refine one_ (i := 8) (N := none) #[true, true, true, true, true, true, true, true, true, false] rfl rfl (one_of HT_.out (by kernel_rfl)) (by decide) (fun K hK => ?_)
         have hs102 : w101.cell? ⟨gb184, 0, none⟩ = some (.bool false) := (blk_cell BK184.out 0).trans rfl
         have hfs102 := blk_frozen BK184.out 0
         have hns102_0 := NB150_184.out
         have hns102_1 := NB151_184.out
         have hns102_2 := NB152_184.out
         have hns102_3 := NB161_184.out
         have hms102_0 := NB184_150.out
         have hms102_1 := NB184_151.out
         have hms102_2 := NB184_152.out
         have hms102_3 := NB184_161.out
         have hs103 : w101.cell? ⟨gb184, 1, none⟩ = some (.int .i64 0) := (blk_cell BK184.out 1).trans rfl
         have hfs103 := blk_frozen BK184.out 1
         have hns103_0 := NB150_184.out
         have hns103_1 := NB151_184.out
         have hns103_2 := NB152_184.out
         have hns103_3 := NB161_184.out
         have hms103_0 := NB184_150.out
         have hms103_1 := NB184_151.out
         have hms103_2 := NB184_152.out
         have hms103_3 := NB184_161.out
         have hs104 : w101.cell? ⟨gb184, 2, none⟩ = some (.int .i64 0) := (blk_cell BK184.out 2).trans rfl
         have hfs104 := blk_frozen BK184.out 2
         have hns104_0 := NB150_184.out
         have hns104_1 := NB151_184.out
         have hns104_2 := NB152_184.out
         have hns104_3 := NB161_184.out
         have hms104_0 := NB184_150.out
         have hms104_1 := NB184_151.out
         have hms104_2 := NB184_152.out
         have hms104_3 := NB184_161.out
         refine skip_ (w1 := ?_) (by rfl) rfl ?_ ?_
         rotate_left
         ·go_simp
          rfl
         refine hK.out _ _ ⟨((cell_far (p := ⟨gb184, _, none⟩) NB161_184.out _).trans (((cell_far (p := ⟨gb184, _, none⟩) NB161_184.out _).trans (((cell_far (p := ⟨gb184, _, none⟩) NB161_184.out _).trans (hHeld.1)))))), ((cell_far (p := ⟨gb184, _, none⟩) NB161_184.out _).trans (((cell_far (p := ⟨gb184, _, none⟩) NB161_184.out _).trans (((cell_far (p := ⟨gb184, _, none⟩) NB161_184.out _).trans (hHeld.2.1)))))), ((cell_far (p := ⟨gb184, _, none⟩) NB161_184.out _).trans (((cell_far (p := ⟨gb184, _, none⟩) NB161_184.out _).trans (((cell_far (p := ⟨gb184, _, none⟩) NB161_184.out _).trans (hHeld.2.2.1)))))), ((cell_far (p := ⟨gb184, _, none⟩) NB151_184.out _).trans (((cell_far (p := ⟨gb184, _, none⟩) NB151_184.out _).trans (((cell_far (p := ⟨gb184, _, none⟩) NB151_184.out _).trans (hHeld.2.2.2.1)))))), ((cell_far (p := ⟨gb184, _, none⟩) NB151_184.out _).trans (((cell_far (p := ⟨gb184, _, none⟩) NB151_184.out _).trans (((cell_far (p := ⟨gb184, _, none⟩) NB151_184.out _).trans (hHeld.2.2.2.2.1)))))), ((cell_far (p := ⟨gb184, _, none⟩) NB151_184.out _).trans (((cell_far (p := ⟨gb184, _, none⟩) NB151_184.out _).trans (((cell_far (p := ⟨gb184, _, none⟩) NB151_184.out _).trans (hHeld.2.2.2.2.2))))))⟩ (fun hHeld => ?_)
         clear hK K
         refine pure_ (i := 9) (N := some 14) (v := ?_) (a' := ?_) #[true, true, true, true, true, true, true, true, true, true] rfl rfl (any_of HT_.out (by kernel_rfl)) (fun _ _ _ h => h) (Or.inl ⟨by rfl, ?_⟩) ?_ ?_
         rotate_left
         ·intro w'
          go_simp
          with_reducible rfl
         rotate_left
         ·simp only [Act.put, List.setIfInBounds_toArray, List.set_cons_zero, List.set_cons_succ, i64_w, i32_w]
          rfl
         refine done_ (done_of HT_.out (by kernel_rfl)) ?_
         go_upto_region 10 with (fail)
         go_cut [110] (fun v110 wc => ∃ (kq : Nat) (x110_95 : Bool), v110 = .bool x110_95 ∧ Aside0 (remitterlaw01_DecimalExact.j2 kq x110_95 a0_0 a0_1 a0_2 a1_0 a1_1 a1_2 a2_0 a2_1 a2_2 t157 t158 t159 = some true) ∧ Aside0 (kq ≤ kj39) ∧ Aside0 (wc.heap[gb150]? = some (.cells #[.bool a0_0, .int .i64 a0_1, .int .i64 a0_2] 24 (0, 0))) ∧ Aside0 (wc.heap[gb151]? = some (.cells #[.bool a1_0, .int .i64 a1_1, .int .i64 a1_2] 24 (0, 0))) ∧ Aside0 (wc.heap[gb152]? = some (.cells #[.bool a2_0, .int .i64 a2_1, .int .i64 a2_2] 24 (0, 0))) ∧ Aside0 (wc.heap[gb161]? = some (.cells #[.bool t157, .int .i64 t158, .int .i64 t159] 24 (0, 0))) ∧ Aside0 (Below w.heap.size w wc))
         case first =>
          have H := HC96.out
          clear HC96
          by_cases c105 : t183 = 0
          ·rw [if_pos c105] at H
           have c105b0 : (t183 == 0) = true := beq_iff_eq.mpr c105
           have c105b1 : (t183 != 0) = false := bne_eq_false_iff_eq.mpr c105
           clear c105
           (first | rw [c105b0] | (simp only [i64_w, i32_w]; rw [c105b0]) | skip)
           replace H := Option.bind_eq_some_iff.mp H
           obtain ⟨t185, A1060, H⟩ := H
           replace H : (if t185 = 0 then ((decimal_Good.f t157 t158 t159).bind fun t186 => (remitterlaw01_DecimalExact.j2 kj39 (!t186) a0_0 a0_1 a0_2 a1_0 a1_1 a1_2 a2_0 a2_1 a2_2 t157 t158 t159)) else (remitterlaw01_DecimalExact.j2 kj39 true a0_0 a0_1 a0_2 a1_0 a1_1 a1_2 a2_0 a2_1 a2_2 t157 t158 t159)) = some true := H
           have A106 := Aside0.mk A1060
           clear A1060
           by_cases c107 : t185 = 0
           ·rw [if_pos c107] at H
            have c107b0 : (t185 == 0) = true := beq_iff_eq.mpr c107
            have c107b1 : (t185 != 0) = false := bne_eq_false_iff_eq.mpr c107
            clear c107
            replace H := Option.bind_eq_some_iff.mp H
            obtain ⟨t186, A1080, H⟩ := H
            replace H : (remitterlaw01_DecimalExact.j2 kj39 (!t186) a0_0 a0_1 a0_2 a1_0 a1_1 a1_2 a2_0 a2_1 a2_2 t157 t158 t159) = some true := H
            have A108 := Aside0.mk A1080
            clear A1080
            have H' := Aside0.mk H
            clear H
            have hnb109 := NB184_150.out
            have hnc109 := NB150_184.out
            have hnb110 := NB184_151.out
            have hnc110 := NB151_184.out
            have hnb111 := NB184_152.out
            have hnc111 := NB152_184.out
            have hnb112 := NB184_161.out
            have hnc112 := NB161_184.out
            have hcz113_0 : w101.cell? ⟨gb184, 0, none⟩ = some (.bool false) := (blk_cell BK184.out 0).trans rfl
            have hcz113_1 : w101.cell? ⟨gb184, 1, none⟩ = some (.int .i64 0) := (blk_cell BK184.out 1).trans rfl
            have hcz113_2 : w101.cell? ⟨gb184, 2, none⟩ = some (.int .i64 0) := (blk_cell BK184.out 2).trans rfl
            have hfz113_0 := blk_frozen BK184.out 0
            have hfz113_1 := blk_frozen BK184.out 1
            have hfz113_2 := blk_frozen BK184.out 2
            have hnb114 := NB150_151.out
            have hnc114 := NB151_150.out
            have hnb115 := NB150_152.out
            have hnc115 := NB152_150.out
            have hnb116 := NB150_161.out
            have hnc116 := NB161_150.out
            have hcz117_0 : w101.cell? ⟨gb150, 0, none⟩ = some (.bool a0_0) := (blk_cell BK150.out 0).trans rfl
            have hcz117_1 : w101.cell? ⟨gb150, 1, none⟩ = some (.int .i64 a0_1) := (blk_cell BK150.out 1).trans rfl
            have hcz117_2 : w101.cell? ⟨gb150, 2, none⟩ = some (.int .i64 a0_2) := (blk_cell BK150.out 2).trans rfl
            have hfz117_0 := blk_frozen BK150.out 0
            have hfz117_1 := blk_frozen BK150.out 1
            have hfz117_2 := blk_frozen BK150.out 2
            go_wp2_with (first | (go_at_call 28; (with_reducible refine (decimal_Cmp.calls t180 t181 t182 a0_0 a0_1 a0_2 t185 _ A106.out).mono ?_); rintro e w118 ⟨rfl, hb⟩; have n0_ := Aside0.mk (blk_below (g := gb150) (o := .cells #[.bool a0_0, .int .i64 a0_1, .int .i64 a0_2] 24 (0, 0)) (by (with_reducible repeat first | refine blk_drewN ?_ _ | refine blk_drew ?_ | refine blk_alloc ?_ _); refine blk_far ?_ NB150_184.out _; (with_reducible repeat first | refine blk_drewN ?_ _ | refine blk_drew ?_ | refine blk_alloc ?_ _); refine blk_far ?_ NB150_184.out _; (with_reducible repeat first | refine blk_drewN ?_ _ | refine blk_drew ?_ | refine blk_alloc ?_ _); refine blk_far ?_ NB150_184.out _; (with_reducible repeat first | refine blk_drewN ?_ _ | refine blk_drew ?_ | refine blk_alloc ?_ _); exact BK150.out) hb); have n1_ := Aside0.mk (blk_below (g := gb151) (o := .cells #[.bool a1_0, .int .i64 a1_1, .int .i64 a1_2] 24 (0, 0)) (by (with_reducible repeat first | refine blk_drewN ?_ _ | refine blk_drew ?_ | refine blk_alloc ?_ _); refine blk_far ?_ NB151_184.out _; (with_reducible repeat first | refine blk_drewN ?_ _ | refine blk_drew ?_ | refine blk_alloc ?_ _); refine blk_far ?_ NB151_184.out _; (with_reducible repeat first | refine blk_drewN ?_ _ | refine blk_drew ?_ | refine blk_alloc ?_ _); refine blk_far ?_ NB151_184.out _; (with_reducible repeat first | refine blk_drewN ?_ _ | refine blk_drew ?_ | refine blk_alloc ?_ _); exact BK151.out) hb); have n2_ := Aside0.mk (blk_below (g := gb152) (o := .cells #[.bool a2_0, .int .i64 a2_1, .int .i64 a2_2] 24 (0, 0)) (by (with_reducible repeat first | refine blk_drewN ?_ _ | refine blk_drew ?_ | refine blk_alloc ?_ _); refine blk_far ?_ NB152_184.out _; (with_reducible repeat first | refine blk_drewN ?_ _ | refine blk_drew ?_ | refine blk_alloc ?_ _); refine blk_far ?_ NB152_184.out _; (with_reducible repeat first | refine blk_drewN ?_ _ | refine blk_drew ?_ | refine blk_alloc ?_ _); refine blk_far ?_ NB152_184.out _; (with_reducible repeat first | refine blk_drewN ?_ _ | refine blk_drew ?_ | refine blk_alloc ?_ _); exact BK152.out) hb); have n3_ := Aside0.mk (blk_below (g := gb161) (o := .cells #[.bool t157, .int .i64 t158, .int .i64 t159] 24 (0, 0)) (by (with_reducible repeat first | refine blk_drewN ?_ _ | refine blk_drew ?_ | refine blk_alloc ?_ _); refine blk_far ?_ NB161_184.out _; (with_reducible repeat first | refine blk_drewN ?_ _ | refine blk_drew ?_ | refine blk_alloc ?_ _); refine blk_far ?_ NB161_184.out _; (with_reducible repeat first | refine blk_drewN ?_ _ | refine blk_drew ?_ | refine blk_alloc ?_ _); refine blk_far ?_ NB161_184.out _; (with_reducible repeat first | refine blk_drewN ?_ _ | refine blk_drew ?_ | refine blk_alloc ?_ _); exact BK161.out) hb); have n4_ := Aside0.mk (blk_below (g := gb184) (o := .cells #[.bool t180, .int .i64 t181, .int .i64 t182] 24 (0, 0)) (by (with_reducible repeat first | refine blk_drewN ?_ _ | refine blk_drew ?_ | refine blk_alloc ?_ _); refine blk_put (cs := #[.bool t180, .int .i64 t181, .int .i64 0]) ?_ 2 _ rfl; (with_reducible repeat first | refine blk_drewN ?_ _ | refine blk_drew ?_ | refine blk_alloc ?_ _); refine blk_put (cs := #[.bool t180, .int .i64 0, .int .i64 0]) ?_ 1 _ rfl; (with_reducible repeat first | refine blk_drewN ?_ _ | refine blk_drew ?_ | refine blk_alloc ?_ _); refine blk_put (cs := #[.bool false, .int .i64 0, .int .i64 0]) ?_ 0 _ rfl; (with_reducible repeat first | refine blk_drewN ?_ _ | refine blk_drew ?_ | refine blk_alloc ?_ _); exact BK184.out) hb); have n5_ := Aside0.mk (below_step (by repeat (first | (with_reducible first | exact HB.out | apply below_alloc | apply pw_below_drewN | apply below_drew1 | refine below_set ?_ GE161.out | refine below_set ?_ GE184.out) | exact HB.out)) hb); clear BK150 BK151 BK152 BK161 BK184 HB; have BK150 := n0_; have BK151 := n1_; have BK152 := n2_; have BK161 := n3_; have BK184 := n4_; have HB := n5_; clear n0_ n1_ n2_ n3_ n4_ n5_; (try clear hb); (try clear hb2); (try clear hk); (try clear hi); have hnb119 := NB161_151.out; have hnc119 := NB151_161.out; have hnb120 := NB161_152.out; have hnc120 := NB152_161.out; have hcz121_0 : w118.cell? ⟨gb161, 0, none⟩ = some (.bool t157) := (blk_cell BK161.out 0).trans rfl; have hcz121_1 : w118.cell? ⟨gb161, 1, none⟩ = some (.int .i64 t158) := (blk_cell BK161.out 1).trans rfl; have hcz121_2 : w118.cell? ⟨gb161, 2, none⟩ = some (.int .i64 t159) := (blk_cell BK161.out 2).trans rfl; have hfz121_0 := blk_frozen BK161.out 0; have hfz121_1 := blk_frozen BK161.out 1; have hfz121_2 := blk_frozen BK161.out 2) | (go_at_call 23; (with_reducible refine (decimal_Good.calls t157 t158 t159 t186 _ A108.out).mono ?_); rintro e w122 ⟨rfl, hb⟩; have n0_ := Aside0.mk (blk_b hb BK150.out); have n1_ := Aside0.mk (blk_b hb BK151.out); have n2_ := Aside0.mk (blk_b hb BK152.out); have n3_ := Aside0.mk (blk_b hb BK161.out); have n4_ := Aside0.mk (blk_b hb BK184.out); have n5_ := Aside0.mk (below_step (by repeat (first | (with_reducible first | exact HB.out | apply below_alloc | apply pw_below_drewN | apply below_drew1 | refine below_set ?_ GE161.out | refine below_set ?_ GE184.out) | exact HB.out)) hb); clear BK150 BK151 BK152 BK161 BK184 HB; have BK150 := n0_; have BK151 := n1_; have BK152 := n2_; have BK161 := n3_; have BK184 := n4_; have HB := n5_; clear n0_ n1_ n2_ n3_ n4_ n5_; (try clear hb); (try clear hb2); (try clear hk); (try clear hi)))
            go_meet
            case rel => exact ⟨_, (!t186), (by first | rfl | (simp; done) | (simp [*]; done) | exact congrArg Value.bool (Go.Proofs.YtggakekljbgeoaaDoor.GLib.not_isEmpty _) | exact congrArg Value.bool (Go.Proofs.YtggakekljbgeoaaDoor.GLib.not_isEmpty _).symm), H', ⟨by have := HJ3.out; have := HJ39.out; first | omega | exact Nat.le_refl _⟩, ⟨BK150.out⟩, ⟨BK151.out⟩, ⟨BK152.out⟩, ⟨BK161.out⟩, ⟨by repeat (first | (with_reducible first | exact HB.out | apply below_alloc | apply pw_below_drewN | apply below_drew1 | refine below_set ?_ GE161.out | refine below_set ?_ GE184.out) | exact HB.out)⟩⟩
           ·rw [if_neg c107] at H
            exact (remitterlaw01_DecimalExact.j2_no H).elim
          ·rw [if_neg c105] at H
           have c105b0 : (t183 == 0) = false := beq_eq_false_iff_ne.mpr c105
           have c105b1 : (t183 != 0) = true := bne_iff_ne.mpr c105
           (first | rw [c105b0] | (simp only [i64_w, i32_w]; rw [c105b0]) | skip)
           replace H := Option.bind_eq_some_iff.mp H
           obtain ⟨t187, A1330, H⟩ := H
           replace H : (remitterlaw01_DecimalExact.j2 kj39 (!t187) a0_0 a0_1 a0_2 a1_0 a1_1 a1_2 a2_0 a2_1 a2_2 t157 t158 t159) = some true := H
           have A133 := Aside0.mk A1330
           clear A1330
           have H' := Aside0.mk H
           clear H
           have hnb134 := NB161_150.out
           have hnc134 := NB150_161.out
           have hnb135 := NB161_151.out
           have hnc135 := NB151_161.out
           have hnb136 := NB161_152.out
           have hnc136 := NB152_161.out
           have hnb137 := NB161_184.out
           have hnc137 := NB184_161.out
           have hcz138_0 : w101.cell? ⟨gb161, 0, none⟩ = some (.bool t157) := (blk_cell BK161.out 0).trans rfl
           have hcz138_1 : w101.cell? ⟨gb161, 1, none⟩ = some (.int .i64 t158) := (blk_cell BK161.out 1).trans rfl
           have hcz138_2 : w101.cell? ⟨gb161, 2, none⟩ = some (.int .i64 t159) := (blk_cell BK161.out 2).trans rfl
           have hfz138_0 := blk_frozen BK161.out 0
           have hfz138_1 := blk_frozen BK161.out 1
           have hfz138_2 := blk_frozen BK161.out 2
           go_wp2_with (first | (go_at_call 23; (with_reducible refine (decimal_Good.calls t157 t158 t159 t187 _ A133.out).mono ?_); rintro e w139 ⟨rfl, hb⟩; have n0_ := Aside0.mk (blk_below (g := gb150) (o := .cells #[.bool a0_0, .int .i64 a0_1, .int .i64 a0_2] 24 (0, 0)) (by (with_reducible repeat first | refine blk_drewN ?_ _ | refine blk_drew ?_ | refine blk_alloc ?_ _); refine blk_far ?_ NB150_184.out _; (with_reducible repeat first | refine blk_drewN ?_ _ | refine blk_drew ?_ | refine blk_alloc ?_ _); refine blk_far ?_ NB150_184.out _; (with_reducible repeat first | refine blk_drewN ?_ _ | refine blk_drew ?_ | refine blk_alloc ?_ _); refine blk_far ?_ NB150_184.out _; (with_reducible repeat first | refine blk_drewN ?_ _ | refine blk_drew ?_ | refine blk_alloc ?_ _); exact BK150.out) hb); have n1_ := Aside0.mk (blk_below (g := gb151) (o := .cells #[.bool a1_0, .int .i64 a1_1, .int .i64 a1_2] 24 (0, 0)) (by (with_reducible repeat first | refine blk_drewN ?_ _ | refine blk_drew ?_ | refine blk_alloc ?_ _); refine blk_far ?_ NB151_184.out _; (with_reducible repeat first | refine blk_drewN ?_ _ | refine blk_drew ?_ | refine blk_alloc ?_ _); refine blk_far ?_ NB151_184.out _; (with_reducible repeat first | refine blk_drewN ?_ _ | refine blk_drew ?_ | refine blk_alloc ?_ _); refine blk_far ?_ NB151_184.out _; (with_reducible repeat first | refine blk_drewN ?_ _ | refine blk_drew ?_ | refine blk_alloc ?_ _); exact BK151.out) hb); have n2_ := Aside0.mk (blk_below (g := gb152) (o := .cells #[.bool a2_0, .int .i64 a2_1, .int .i64 a2_2] 24 (0, 0)) (by (with_reducible repeat first | refine blk_drewN ?_ _ | refine blk_drew ?_ | refine blk_alloc ?_ _); refine blk_far ?_ NB152_184.out _; (with_reducible repeat first | refine blk_drewN ?_ _ | refine blk_drew ?_ | refine blk_alloc ?_ _); refine blk_far ?_ NB152_184.out _; (with_reducible repeat first | refine blk_drewN ?_ _ | refine blk_drew ?_ | refine blk_alloc ?_ _); refine blk_far ?_ NB152_184.out _; (with_reducible repeat first | refine blk_drewN ?_ _ | refine blk_drew ?_ | refine blk_alloc ?_ _); exact BK152.out) hb); have n3_ := Aside0.mk (blk_below (g := gb161) (o := .cells #[.bool t157, .int .i64 t158, .int .i64 t159] 24 (0, 0)) (by (with_reducible repeat first | refine blk_drewN ?_ _ | refine blk_drew ?_ | refine blk_alloc ?_ _); refine blk_far ?_ NB161_184.out _; (with_reducible repeat first | refine blk_drewN ?_ _ | refine blk_drew ?_ | refine blk_alloc ?_ _); refine blk_far ?_ NB161_184.out _; (with_reducible repeat first | refine blk_drewN ?_ _ | refine blk_drew ?_ | refine blk_alloc ?_ _); refine blk_far ?_ NB161_184.out _; (with_reducible repeat first | refine blk_drewN ?_ _ | refine blk_drew ?_ | refine blk_alloc ?_ _); exact BK161.out) hb); have n4_ := Aside0.mk (blk_below (g := gb184) (o := .cells #[.bool t180, .int .i64 t181, .int .i64 t182] 24 (0, 0)) (by (with_reducible repeat first | refine blk_drewN ?_ _ | refine blk_drew ?_ | refine blk_alloc ?_ _); refine blk_put (cs := #[.bool t180, .int .i64 t181, .int .i64 0]) ?_ 2 _ rfl; (with_reducible repeat first | refine blk_drewN ?_ _ | refine blk_drew ?_ | refine blk_alloc ?_ _); refine blk_put (cs := #[.bool t180, .int .i64 0, .int .i64 0]) ?_ 1 _ rfl; (with_reducible repeat first | refine blk_drewN ?_ _ | refine blk_drew ?_ | refine blk_alloc ?_ _); refine blk_put (cs := #[.bool false, .int .i64 0, .int .i64 0]) ?_ 0 _ rfl; (with_reducible repeat first | refine blk_drewN ?_ _ | refine blk_drew ?_ | refine blk_alloc ?_ _); exact BK184.out) hb); have n5_ := Aside0.mk (below_step (by repeat (first | (with_reducible first | exact HB.out | apply below_alloc | apply pw_below_drewN | apply below_drew1 | refine below_set ?_ GE161.out | refine below_set ?_ GE184.out) | exact HB.out)) hb); clear BK150 BK151 BK152 BK161 BK184 HB; have BK150 := n0_; have BK151 := n1_; have BK152 := n2_; have BK161 := n3_; have BK184 := n4_; have HB := n5_; clear n0_ n1_ n2_ n3_ n4_ n5_; (try clear hb); (try clear hb2); (try clear hk); (try clear hi)))
           go_meet
           case rel => exact ⟨_, (!t187), (by first | rfl | (simp; done) | (simp [*]; done) | exact congrArg Value.bool (Go.Proofs.YtggakekljbgeoaaDoor.GLib.not_isEmpty _) | exact congrArg Value.bool (Go.Proofs.YtggakekljbgeoaaDoor.GLib.not_isEmpty _).symm), H', ⟨by have := HJ3.out; have := HJ39.out; first | omega | exact Nat.le_refl _⟩, ⟨BK150.out⟩, ⟨BK151.out⟩, ⟨BK152.out⟩, ⟨BK161.out⟩, ⟨by repeat (first | (with_reducible first | exact HB.out | apply below_alloc | apply pw_below_drewN | apply below_drew1 | refine below_set ?_ GE161.out | refine below_set ?_ GE184.out) | exact HB.out)⟩⟩
         case rest =>
          clear HC96
          (try clear p2); (try clear c105b0); (try clear c105b1); (try clear c107b0); (try clear c107b1); (try clear hcz113_0); (try clear hcz113_1); (try clear hcz113_2); (try clear hcz117_0); (try clear hcz117_1); (try clear hcz117_2); (try clear hcz121_0); (try clear hcz121_1); (try clear hcz121_2); (try clear hcz127_0); (try clear hcz127_1); (try clear hcz127_2); (try clear hcz131_0); (try clear hcz131_1); (try clear hcz131_2); (try clear hcz138_0); (try clear hcz138_1); (try clear hcz138_2); (try clear hfz113_0); (try clear hfz113_1); (try clear hfz113_2); (try clear hfz117_0); (try clear hfz117_1); (try clear hfz117_2); (try clear hfz121_0); (try clear hfz121_1); (try clear hfz121_2); (try clear hfz127_0); (try clear hfz127_1); (try clear hfz127_2); (try clear hfz131_0); (try clear hfz131_1); (try clear hfz131_2); (try clear hfz138_0); (try clear hfz138_1); (try clear hfz138_2)
          obtain ⟨kq, x110_95, rfl, HA, HJ95, BK150, BK151, BK152, BK161, HB⟩ := hcut
          cases kq with
          | zero => exact absurd HA.out (by simp [remitterlaw01_DecimalExact.j2])
          | succ kj95 =>
           have H := HA.out
           clear HA
           simp only [remitterlaw01_DecimalExact.j2] at H
           by_cases c140 : x110_95 = true
           ·subst c140
            have H1 : (some false) = some true := by rw [if_pos rfl] at H; exact H
            clear H
            have H := H1
            clear H1
            cases H
           ·replace c140 := Bool.eq_false_iff.mpr c140
            subst c140
            have H1 : ((decimal_Add.f t157 t158 t159 a2_0 a2_1 a2_2).bind fun bt188 => ((decimal_Add.f a1_0 a1_1 a1_2 a2_0 a2_1 a2_2).bind fun bt193 => ((decimal_Add.f a0_0 a0_1 a0_2 bt193.1 bt193.2.1 bt193.2.2.1).bind fun bt198 => (if bt188.2.2.2 = 0 then (if bt193.2.2.2 = 0 then (if bt198.2.2.2 = 0 then (if (!(bt188.1 == bt198.1) || (!(bt188.2.1 == bt198.2.1) || (!(bt188.2.2.1 == bt198.2.2.1)))) = true then (some false) else (remitterlaw01_DecimalExact.j3 kj95 a0_0 a0_1 a0_2 a1_0 a1_1 a1_2 a2_0 a2_1 a2_2)) else (remitterlaw01_DecimalExact.j3 kj95 a0_0 a0_1 a0_2 a1_0 a1_1 a1_2 a2_0 a2_1 a2_2)) else (remitterlaw01_DecimalExact.j3 kj95 a0_0 a0_1 a0_2 a1_0 a1_1 a1_2 a2_0 a2_1 a2_2)) else (remitterlaw01_DecimalExact.j3 kj95 a0_0 a0_1 a0_2 a1_0 a1_1 a1_2 a2_0 a2_1 a2_2))))) = some true := by rw [if_neg (show ¬ (false = true) by decide)] at H; exact H
            clear H
            have H := H1
            clear H1
            replace H := Option.bind_eq_some_iff.mp H
            obtain ⟨⟨t188, t189, t190, t191⟩, A1410, H⟩ := H
            replace H : ((decimal_Add.f a1_0 a1_1 a1_2 a2_0 a2_1 a2_2).bind fun bt193 => ((decimal_Add.f a0_0 a0_1 a0_2 bt193.1 bt193.2.1 bt193.2.2.1).bind fun bt198 => (if t191 = 0 then (if bt193.2.2.2 = 0 then (if bt198.2.2.2 = 0 then (if (!(t188 == bt198.1) || (!(t189 == bt198.2.1) || (!(t190 == bt198.2.2.1)))) = true then (some false) else (remitterlaw01_DecimalExact.j3 kj95 a0_0 a0_1 a0_2 a1_0 a1_1 a1_2 a2_0 a2_1 a2_2)) else (remitterlaw01_DecimalExact.j3 kj95 a0_0 a0_1 a0_2 a1_0 a1_1 a1_2 a2_0 a2_1 a2_2)) else (remitterlaw01_DecimalExact.j3 kj95 a0_0 a0_1 a0_2 a1_0 a1_1 a1_2 a2_0 a2_1 a2_2)) else (remitterlaw01_DecimalExact.j3 kj95 a0_0 a0_1 a0_2 a1_0 a1_1 a1_2 a2_0 a2_1 a2_2)))) = some true := H
            have A141 := Aside0.mk A1410
            clear A1410
            replace H := Option.bind_eq_some_iff.mp H
            obtain ⟨⟨t193, t194, t195, t196⟩, A1420, H⟩ := H
            replace H : ((decimal_Add.f a0_0 a0_1 a0_2 t193 t194 t195).bind fun bt198 => (if t191 = 0 then (if t196 = 0 then (if bt198.2.2.2 = 0 then (if (!(t188 == bt198.1) || (!(t189 == bt198.2.1) || (!(t190 == bt198.2.2.1)))) = true then (some false) else (remitterlaw01_DecimalExact.j3 kj95 a0_0 a0_1 a0_2 a1_0 a1_1 a1_2 a2_0 a2_1 a2_2)) else (remitterlaw01_DecimalExact.j3 kj95 a0_0 a0_1 a0_2 a1_0 a1_1 a1_2 a2_0 a2_1 a2_2)) else (remitterlaw01_DecimalExact.j3 kj95 a0_0 a0_1 a0_2 a1_0 a1_1 a1_2 a2_0 a2_1 a2_2)) else (remitterlaw01_DecimalExact.j3 kj95 a0_0 a0_1 a0_2 a1_0 a1_1 a1_2 a2_0 a2_1 a2_2))) = some true := H
            have A142 := Aside0.mk A1420
            clear A1420
            replace H := Option.bind_eq_some_iff.mp H
            obtain ⟨⟨t198, t199, t200, t201⟩, A1430, H⟩ := H
            replace H : (if t191 = 0 then (if t196 = 0 then (if t201 = 0 then (if (!(t188 == t198) || (!(t189 == t199) || (!(t190 == t200)))) = true then (some false) else (remitterlaw01_DecimalExact.j3 kj95 a0_0 a0_1 a0_2 a1_0 a1_1 a1_2 a2_0 a2_1 a2_2)) else (remitterlaw01_DecimalExact.j3 kj95 a0_0 a0_1 a0_2 a1_0 a1_1 a1_2 a2_0 a2_1 a2_2)) else (remitterlaw01_DecimalExact.j3 kj95 a0_0 a0_1 a0_2 a1_0 a1_1 a1_2 a2_0 a2_1 a2_2)) else (remitterlaw01_DecimalExact.j3 kj95 a0_0 a0_1 a0_2 a1_0 a1_1 a1_2 a2_0 a2_1 a2_2)) = some true := H
            have A143 := Aside0.mk A1430
            clear A1430
            have HW : ((remitterlaw01_DecimalExact.j3 kj95 a0_0 a0_1 a0_2 a1_0 a1_1 a1_2 a2_0 a2_1 a2_2) = some true) ∧ (((t191 == 0) = true ∧ (t196 == 0) = true ∧ (t201 == 0) = true ∧ ((!(t188 == t198) || (!(t189 == t199) || (!(t190 == t200))))) = false) ∨ ((t191 == 0) = true ∧ (t196 == 0) = true ∧ (t201 == 0) = false) ∨ ((t191 == 0) = true ∧ (t196 == 0) = false) ∨ ((t191 == 0) = false)) := by
             by_cases c144 : t191 = 0
             ·rw [if_pos c144] at H
              by_cases c145 : t196 = 0
              ·rw [if_pos c145] at H
               by_cases c146 : t201 = 0
               ·rw [if_pos c146] at H
                by_cases c147 : ((!(t188 == t198) || (!(t189 == t199) || (!(t190 == t200))))) = true
                ·rw [if_pos c147] at H
                 cases H
                ·rw [if_neg c147] at H
                 exact ⟨H, .inl (⟨beq_iff_eq.mpr c144, beq_iff_eq.mpr c145, beq_iff_eq.mpr c146, (by simpa using c147)⟩)⟩
               ·rw [if_neg c146] at H
                exact ⟨H, .inr (.inl (⟨beq_iff_eq.mpr c144, beq_iff_eq.mpr c145, beq_eq_false_iff_ne.mpr c146⟩))⟩
              ·rw [if_neg c145] at H
               exact ⟨H, .inr (.inr (.inl (⟨beq_iff_eq.mpr c144, beq_eq_false_iff_ne.mpr c145⟩)))⟩
             ·rw [if_neg c144] at H
              exact ⟨H, .inr (.inr (.inr (beq_eq_false_iff_ne.mpr c144)))⟩
            clear H
            obtain ⟨H, ⟨c144b0, c145b0, c146b0, c147b0⟩ | ⟨c144b0, c145b0, c146b0⟩ | ⟨c144b0, c145b0⟩ | c144b0⟩ := HW
            all_goals
             have H' := Aside0.mk H
             clear H
             have hnb184 := NB161_150.out
             have hnc184 := NB150_161.out
             have hnb185 := NB161_151.out
             have hnc185 := NB151_161.out
             have hnb186 := NB161_152.out
             have hnc186 := NB152_161.out
             have hcz187_0 : wc.cell? ⟨gb161, 0, none⟩ = some (.bool t157) := (blk_cell BK161.out 0).trans rfl
             have hcz187_1 : wc.cell? ⟨gb161, 1, none⟩ = some (.int .i64 t158) := (blk_cell BK161.out 1).trans rfl
             have hcz187_2 : wc.cell? ⟨gb161, 2, none⟩ = some (.int .i64 t159) := (blk_cell BK161.out 2).trans rfl
             have hfz187_0 := blk_frozen BK161.out 0
             have hfz187_1 := blk_frozen BK161.out 1
             have hfz187_2 := blk_frozen BK161.out 2
             have hnb188 := NB152_150.out
             have hnc188 := NB150_152.out
             have hnb189 := NB152_151.out
             have hnc189 := NB151_152.out
             have hcz190_0 : wc.cell? ⟨gb152, 0, none⟩ = some (.bool a2_0) := (blk_cell BK152.out 0).trans rfl
             have hcz190_1 : wc.cell? ⟨gb152, 1, none⟩ = some (.int .i64 a2_1) := (blk_cell BK152.out 1).trans rfl
             have hcz190_2 : wc.cell? ⟨gb152, 2, none⟩ = some (.int .i64 a2_2) := (blk_cell BK152.out 2).trans rfl
             have hfz190_0 := blk_frozen BK152.out 0
             have hfz190_1 := blk_frozen BK152.out 1
             have hfz190_2 := blk_frozen BK152.out 2
             go_wp2_with (first | ((with_reducible refine gate_callee (f := 27) rfl ?_); refine goesL_ (some 114) rfl rfl Tryd.func27 (by kernel_rfl) rfl #[.agg #[.bool t157, .int .i64 t158, .int .i64 t159], .agg #[.bool a2_0, .int .i64 a2_1, .int .i64 a2_2]] rfl (by (try simp only [List.map_toArray, List.map_cons, List.map_nil]); first | done | rfl | (simp only [List.length_drop, List.length_take]; rfl)) ?_; (with_reducible refine (decimal_Add.calls t157 t158 t159 a2_0 a2_1 a2_2 t188 t189 t190 t191 _ A141.out).mono ?_); rintro e w191 ⟨rfl, hb⟩; refine ⟨_, rfl, ?_⟩; have n0_ := Aside0.mk (blk_b hb BK150.out); have n1_ := Aside0.mk (blk_b hb BK151.out); have n2_ := Aside0.mk (blk_b hb BK152.out); have n3_ := Aside0.mk (blk_b hb BK161.out); have n4_ := Aside0.mk (below_step (by repeat (first | (with_reducible first | exact HB.out | apply below_alloc | apply pw_below_drewN | apply below_drew1 | refine below_set ?_ GE161.out) | exact HB.out)) hb); clear BK150 BK151 BK152 BK161 HB; have BK150 := n0_; have BK151 := n1_; have BK152 := n2_; have BK161 := n3_; have HB := n4_; clear n0_ n1_ n2_ n3_ n4_; (try clear hb); (try clear hb2); (try clear hk); (try clear hi)) | ((with_reducible refine gate_dst (N := 15) rfl ?_); refine box_event ?hg (N := 15) ?hd (cs := #[.bool false, .int .i64 0, .int .i64 0]) (t := 24) ?hr ?_; (case hd => rfl); (case hg => rfl); (case hr => first | (go_simp; done) | (go_simp; rfl)); intro gb192 hg w192 hbox hb; have n0_ := Aside0.mk (blk_b hb BK150.out); have n1_ := Aside0.mk (blk_b hb BK151.out); have n2_ := Aside0.mk (blk_b hb BK152.out); have n3_ := Aside0.mk (blk_b hb BK161.out); have n4_ := Aside0.mk (below_step (by repeat (first | (with_reducible first | exact HB.out | apply below_alloc | apply pw_below_drewN | apply below_drew1 | refine below_set ?_ GE161.out) | exact HB.out)) hb); have n5_ := Aside0.mk (hbox); have n6_ := Aside0.mk ((by rw [hg]; exact (below_size (by repeat (first | (with_reducible first | exact HB.out | apply below_alloc | apply pw_below_drewN | apply below_drew1 | refine below_set ?_ GE161.out) | exact HB.out))) : w.heap.size ≤ gb192)); have n7_ := n6_; have n8_ := Aside0.mk ((by rw [hg]; exact Nat.ne_of_lt (blk_lt BK150.out) : gb150 ≠ gb192)); have n9_ := Aside0.mk n8_.out.symm; have n10_ := Aside0.mk ((by rw [hg]; exact Nat.ne_of_lt (blk_lt BK151.out) : gb151 ≠ gb192)); have n11_ := Aside0.mk n10_.out.symm; have n12_ := Aside0.mk ((by rw [hg]; exact Nat.ne_of_lt (blk_lt BK152.out) : gb152 ≠ gb192)); have n13_ := Aside0.mk n12_.out.symm; have n14_ := Aside0.mk ((by rw [hg]; exact Nat.ne_of_lt (blk_lt BK161.out) : gb161 ≠ gb192)); have n15_ := Aside0.mk n14_.out.symm; clear BK150 BK151 BK152 BK161 HB; have BK150 := n0_; have BK151 := n1_; have BK152 := n2_; have BK161 := n3_; have HB := n4_; have BK192 := n5_; have GW192 := n6_; have GE192 := n7_; have NB150_192 := n8_; have NB192_150 := n9_; have NB151_192 := n10_; have NB192_151 := n11_; have NB152_192 := n12_; have NB192_152 := n13_; have NB161_192 := n14_; have NB192_161 := n15_; clear n0_ n1_ n2_ n3_ n4_ n5_ n6_ n7_ n8_ n9_ n10_ n11_ n12_ n13_ n14_ n15_; clear hb hbox hg; have hnb193 := NB192_150.out; have hnc193 := NB150_192.out; have hnb194 := NB192_151.out; have hnc194 := NB151_192.out; have hnb195 := NB192_152.out; have hnc195 := NB152_192.out; have hnb196 := NB192_161.out; have hnc196 := NB161_192.out; have hcz197_0 : w192.cell? ⟨gb192, 0, none⟩ = some (.bool false) := (blk_cell BK192.out 0).trans rfl; have hcz197_1 : w192.cell? ⟨gb192, 1, none⟩ = some (.int .i64 0) := (blk_cell BK192.out 1).trans rfl; have hcz197_2 : w192.cell? ⟨gb192, 2, none⟩ = some (.int .i64 0) := (blk_cell BK192.out 2).trans rfl; have hfz197_0 := blk_frozen BK192.out 0; have hfz197_1 := blk_frozen BK192.out 1; have hfz197_2 := blk_frozen BK192.out 2; have hnb198 := NB151_150.out; have hnc198 := NB150_151.out; have hcz199_0 : w192.cell? ⟨gb151, 0, none⟩ = some (.bool a1_0) := (blk_cell BK151.out 0).trans rfl; have hcz199_1 : w192.cell? ⟨gb151, 1, none⟩ = some (.int .i64 a1_1) := (blk_cell BK151.out 1).trans rfl; have hcz199_2 : w192.cell? ⟨gb151, 2, none⟩ = some (.int .i64 a1_2) := (blk_cell BK151.out 2).trans rfl; have hfz199_0 := blk_frozen BK151.out 0; have hfz199_1 := blk_frozen BK151.out 1; have hfz199_2 := blk_frozen BK151.out 2; have hcz200_0 : w192.cell? ⟨gb152, 0, none⟩ = some (.bool a2_0) := (blk_cell BK152.out 0).trans rfl; have hcz200_1 : w192.cell? ⟨gb152, 1, none⟩ = some (.int .i64 a2_1) := (blk_cell BK152.out 1).trans rfl; have hcz200_2 : w192.cell? ⟨gb152, 2, none⟩ = some (.int .i64 a2_2) := (blk_cell BK152.out 2).trans rfl; have hfz200_0 := blk_frozen BK152.out 0; have hfz200_1 := blk_frozen BK152.out 1; have hfz200_2 := blk_frozen BK152.out 2) | ((with_reducible refine gate_callee (f := 27) rfl ?_); refine goesL_ (some 120) rfl rfl Tryd.func27 (by kernel_rfl) rfl #[.agg #[.bool a1_0, .int .i64 a1_1, .int .i64 a1_2], .agg #[.bool a2_0, .int .i64 a2_1, .int .i64 a2_2]] rfl (by (try simp only [List.map_toArray, List.map_cons, List.map_nil]); first | done | rfl | (simp only [List.length_drop, List.length_take]; rfl)) ?_; (with_reducible refine (decimal_Add.calls a1_0 a1_1 a1_2 a2_0 a2_1 a2_2 t193 t194 t195 t196 _ A142.out).mono ?_); rintro e w201 ⟨rfl, hb⟩; refine ⟨_, rfl, ?_⟩; have n0_ := Aside0.mk (blk_below (g := gb150) (o := .cells #[.bool a0_0, .int .i64 a0_1, .int .i64 a0_2] 24 (0, 0)) (by (with_reducible repeat first | refine blk_drewN ?_ _ | refine blk_drew ?_ | refine blk_alloc ?_ _); refine blk_far ?_ NB150_192.out _; (with_reducible repeat first | refine blk_drewN ?_ _ | refine blk_drew ?_ | refine blk_alloc ?_ _); refine blk_far ?_ NB150_192.out _; (with_reducible repeat first | refine blk_drewN ?_ _ | refine blk_drew ?_ | refine blk_alloc ?_ _); refine blk_far ?_ NB150_192.out _; (with_reducible repeat first | refine blk_drewN ?_ _ | refine blk_drew ?_ | refine blk_alloc ?_ _); exact BK150.out) hb); have n1_ := Aside0.mk (blk_below (g := gb151) (o := .cells #[.bool a1_0, .int .i64 a1_1, .int .i64 a1_2] 24 (0, 0)) (by (with_reducible repeat first | refine blk_drewN ?_ _ | refine blk_drew ?_ | refine blk_alloc ?_ _); refine blk_far ?_ NB151_192.out _; (with_reducible repeat first | refine blk_drewN ?_ _ | refine blk_drew ?_ | refine blk_alloc ?_ _); refine blk_far ?_ NB151_192.out _; (with_reducible repeat first | refine blk_drewN ?_ _ | refine blk_drew ?_ | refine blk_alloc ?_ _); refine blk_far ?_ NB151_192.out _; (with_reducible repeat first | refine blk_drewN ?_ _ | refine blk_drew ?_ | refine blk_alloc ?_ _); exact BK151.out) hb); have n2_ := Aside0.mk (blk_below (g := gb152) (o := .cells #[.bool a2_0, .int .i64 a2_1, .int .i64 a2_2] 24 (0, 0)) (by (with_reducible repeat first | refine blk_drewN ?_ _ | refine blk_drew ?_ | refine blk_alloc ?_ _); refine blk_far ?_ NB152_192.out _; (with_reducible repeat first | refine blk_drewN ?_ _ | refine blk_drew ?_ | refine blk_alloc ?_ _); refine blk_far ?_ NB152_192.out _; (with_reducible repeat first | refine blk_drewN ?_ _ | refine blk_drew ?_ | refine blk_alloc ?_ _); refine blk_far ?_ NB152_192.out _; (with_reducible repeat first | refine blk_drewN ?_ _ | refine blk_drew ?_ | refine blk_alloc ?_ _); exact BK152.out) hb); have n3_ := Aside0.mk (blk_below (g := gb161) (o := .cells #[.bool t157, .int .i64 t158, .int .i64 t159] 24 (0, 0)) (by (with_reducible repeat first | refine blk_drewN ?_ _ | refine blk_drew ?_ | refine blk_alloc ?_ _); refine blk_far ?_ NB161_192.out _; (with_reducible repeat first | refine blk_drewN ?_ _ | refine blk_drew ?_ | refine blk_alloc ?_ _); refine blk_far ?_ NB161_192.out _; (with_reducible repeat first | refine blk_drewN ?_ _ | refine blk_drew ?_ | refine blk_alloc ?_ _); refine blk_far ?_ NB161_192.out _; (with_reducible repeat first | refine blk_drewN ?_ _ | refine blk_drew ?_ | refine blk_alloc ?_ _); exact BK161.out) hb); have n4_ := Aside0.mk (blk_below (g := gb192) (o := .cells #[.bool t188, .int .i64 t189, .int .i64 t190] 24 (0, 0)) (by (with_reducible repeat first | refine blk_drewN ?_ _ | refine blk_drew ?_ | refine blk_alloc ?_ _); refine blk_put (cs := #[.bool t188, .int .i64 t189, .int .i64 0]) ?_ 2 _ rfl; (with_reducible repeat first | refine blk_drewN ?_ _ | refine blk_drew ?_ | refine blk_alloc ?_ _); refine blk_put (cs := #[.bool t188, .int .i64 0, .int .i64 0]) ?_ 1 _ rfl; (with_reducible repeat first | refine blk_drewN ?_ _ | refine blk_drew ?_ | refine blk_alloc ?_ _); refine blk_put (cs := #[.bool false, .int .i64 0, .int .i64 0]) ?_ 0 _ rfl; (with_reducible repeat first | refine blk_drewN ?_ _ | refine blk_drew ?_ | refine blk_alloc ?_ _); exact BK192.out) hb); have n5_ := Aside0.mk (below_step (by repeat (first | (with_reducible first | exact HB.out | apply below_alloc | apply pw_below_drewN | apply below_drew1 | refine below_set ?_ GE161.out | refine below_set ?_ GE192.out) | exact HB.out)) hb); clear BK150 BK151 BK152 BK161 BK192 HB; have BK150 := n0_; have BK151 := n1_; have BK152 := n2_; have BK161 := n3_; have BK192 := n4_; have HB := n5_; clear n0_ n1_ n2_ n3_ n4_ n5_; (try clear hb); (try clear hb2); (try clear hk); (try clear hi)) | ((with_reducible refine gate_dst (N := 17) rfl ?_); refine box_event ?hg (N := 17) ?hd (cs := #[.bool false, .int .i64 0, .int .i64 0]) (t := 24) ?hr ?_; (case hd => rfl); (case hg => rfl); (case hr => first | (go_simp; done) | (go_simp; rfl)); intro gb197 hg w202 hbox hb; have n0_ := Aside0.mk (blk_b hb BK150.out); have n1_ := Aside0.mk (blk_b hb BK151.out); have n2_ := Aside0.mk (blk_b hb BK152.out); have n3_ := Aside0.mk (blk_b hb BK161.out); have n4_ := Aside0.mk (blk_b hb BK192.out); have n5_ := Aside0.mk (below_step (by repeat (first | (with_reducible first | exact HB.out | apply below_alloc | apply pw_below_drewN | apply below_drew1 | refine below_set ?_ GE161.out | refine below_set ?_ GE192.out) | exact HB.out)) hb); have n6_ := Aside0.mk (hbox); have n7_ := Aside0.mk ((by rw [hg]; exact (below_size (by repeat (first | (with_reducible first | exact HB.out | apply below_alloc | apply pw_below_drewN | apply below_drew1 | refine below_set ?_ GE161.out | refine below_set ?_ GE192.out) | exact HB.out))) : w.heap.size ≤ gb197)); have n8_ := n7_; have n9_ := Aside0.mk ((by rw [hg]; exact Nat.ne_of_lt (blk_lt BK150.out) : gb150 ≠ gb197)); have n10_ := Aside0.mk n9_.out.symm; have n11_ := Aside0.mk ((by rw [hg]; exact Nat.ne_of_lt (blk_lt BK151.out) : gb151 ≠ gb197)); have n12_ := Aside0.mk n11_.out.symm; have n13_ := Aside0.mk ((by rw [hg]; exact Nat.ne_of_lt (blk_lt BK152.out) : gb152 ≠ gb197)); have n14_ := Aside0.mk n13_.out.symm; have n15_ := Aside0.mk ((by rw [hg]; exact Nat.ne_of_lt (blk_lt BK161.out) : gb161 ≠ gb197)); have n16_ := Aside0.mk n15_.out.symm; have n17_ := Aside0.mk ((by rw [hg]; exact Nat.ne_of_lt (blk_lt BK192.out) : gb192 ≠ gb197)); have n18_ := Aside0.mk n17_.out.symm; clear BK150 BK151 BK152 BK161 BK192 HB; have BK150 := n0_; have BK151 := n1_; have BK152 := n2_; have BK161 := n3_; have BK192 := n4_; have HB := n5_; have BK197 := n6_; have GW197 := n7_; have GE197 := n8_; have NB150_197 := n9_; have NB197_150 := n10_; have NB151_197 := n11_; have NB197_151 := n12_; have NB152_197 := n13_; have NB197_152 := n14_; have NB161_197 := n15_; have NB197_161 := n16_; have NB192_197 := n17_; have NB197_192 := n18_; clear n0_ n1_ n2_ n3_ n4_ n5_ n6_ n7_ n8_ n9_ n10_ n11_ n12_ n13_ n14_ n15_ n16_ n17_ n18_; clear hb hbox hg; have hnb203 := NB197_150.out; have hnc203 := NB150_197.out; have hnb204 := NB197_151.out; have hnc204 := NB151_197.out; have hnb205 := NB197_152.out; have hnc205 := NB152_197.out; have hnb206 := NB197_161.out; have hnc206 := NB161_197.out; have hnb207 := NB197_192.out; have hnc207 := NB192_197.out; have hcz208_0 : w202.cell? ⟨gb197, 0, none⟩ = some (.bool false) := (blk_cell BK197.out 0).trans rfl; have hcz208_1 : w202.cell? ⟨gb197, 1, none⟩ = some (.int .i64 0) := (blk_cell BK197.out 1).trans rfl; have hcz208_2 : w202.cell? ⟨gb197, 2, none⟩ = some (.int .i64 0) := (blk_cell BK197.out 2).trans rfl; have hfz208_0 := blk_frozen BK197.out 0; have hfz208_1 := blk_frozen BK197.out 1; have hfz208_2 := blk_frozen BK197.out 2; have hcz209_0 : w202.cell? ⟨gb150, 0, none⟩ = some (.bool a0_0) := (blk_cell BK150.out 0).trans rfl; have hcz209_1 : w202.cell? ⟨gb150, 1, none⟩ = some (.int .i64 a0_1) := (blk_cell BK150.out 1).trans rfl; have hcz209_2 : w202.cell? ⟨gb150, 2, none⟩ = some (.int .i64 a0_2) := (blk_cell BK150.out 2).trans rfl; have hfz209_0 := blk_frozen BK150.out 0; have hfz209_1 := blk_frozen BK150.out 1; have hfz209_2 := blk_frozen BK150.out 2) | ((with_reducible refine gate_callee (f := 27) rfl ?_); refine goesL_ (some 126) rfl rfl Tryd.func27 (by kernel_rfl) rfl #[.agg #[.bool a0_0, .int .i64 a0_1, .int .i64 a0_2], .agg #[.bool t193, .int .i64 t194, .int .i64 t195]] rfl (by (try simp only [List.map_toArray, List.map_cons, List.map_nil]); first | done | rfl | (simp only [List.length_drop, List.length_take]; rfl)) ?_; (with_reducible refine (decimal_Add.calls a0_0 a0_1 a0_2 t193 t194 t195 t198 t199 t200 t201 _ A143.out).mono ?_); rintro e w210 ⟨rfl, hb⟩; refine ⟨_, rfl, ?_⟩; have n0_ := Aside0.mk (blk_below (g := gb150) (o := .cells #[.bool a0_0, .int .i64 a0_1, .int .i64 a0_2] 24 (0, 0)) (by (with_reducible repeat first | refine blk_drewN ?_ _ | refine blk_drew ?_ | refine blk_alloc ?_ _); refine blk_far ?_ NB150_197.out _; (with_reducible repeat first | refine blk_drewN ?_ _ | refine blk_drew ?_ | refine blk_alloc ?_ _); refine blk_far ?_ NB150_197.out _; (with_reducible repeat first | refine blk_drewN ?_ _ | refine blk_drew ?_ | refine blk_alloc ?_ _); refine blk_far ?_ NB150_197.out _; (with_reducible repeat first | refine blk_drewN ?_ _ | refine blk_drew ?_ | refine blk_alloc ?_ _); exact BK150.out) hb); have n1_ := Aside0.mk (blk_below (g := gb151) (o := .cells #[.bool a1_0, .int .i64 a1_1, .int .i64 a1_2] 24 (0, 0)) (by (with_reducible repeat first | refine blk_drewN ?_ _ | refine blk_drew ?_ | refine blk_alloc ?_ _); refine blk_far ?_ NB151_197.out _; (with_reducible repeat first | refine blk_drewN ?_ _ | refine blk_drew ?_ | refine blk_alloc ?_ _); refine blk_far ?_ NB151_197.out _; (with_reducible repeat first | refine blk_drewN ?_ _ | refine blk_drew ?_ | refine blk_alloc ?_ _); refine blk_far ?_ NB151_197.out _; (with_reducible repeat first | refine blk_drewN ?_ _ | refine blk_drew ?_ | refine blk_alloc ?_ _); exact BK151.out) hb); have n2_ := Aside0.mk (blk_below (g := gb152) (o := .cells #[.bool a2_0, .int .i64 a2_1, .int .i64 a2_2] 24 (0, 0)) (by (with_reducible repeat first | refine blk_drewN ?_ _ | refine blk_drew ?_ | refine blk_alloc ?_ _); refine blk_far ?_ NB152_197.out _; (with_reducible repeat first | refine blk_drewN ?_ _ | refine blk_drew ?_ | refine blk_alloc ?_ _); refine blk_far ?_ NB152_197.out _; (with_reducible repeat first | refine blk_drewN ?_ _ | refine blk_drew ?_ | refine blk_alloc ?_ _); refine blk_far ?_ NB152_197.out _; (with_reducible repeat first | refine blk_drewN ?_ _ | refine blk_drew ?_ | refine blk_alloc ?_ _); exact BK152.out) hb); have n3_ := Aside0.mk (blk_below (g := gb161) (o := .cells #[.bool t157, .int .i64 t158, .int .i64 t159] 24 (0, 0)) (by (with_reducible repeat first | refine blk_drewN ?_ _ | refine blk_drew ?_ | refine blk_alloc ?_ _); refine blk_far ?_ NB161_197.out _; (with_reducible repeat first | refine blk_drewN ?_ _ | refine blk_drew ?_ | refine blk_alloc ?_ _); refine blk_far ?_ NB161_197.out _; (with_reducible repeat first | refine blk_drewN ?_ _ | refine blk_drew ?_ | refine blk_alloc ?_ _); refine blk_far ?_ NB161_197.out _; (with_reducible repeat first | refine blk_drewN ?_ _ | refine blk_drew ?_ | refine blk_alloc ?_ _); exact BK161.out) hb); have n4_ := Aside0.mk (blk_below (g := gb192) (o := .cells #[.bool t188, .int .i64 t189, .int .i64 t190] 24 (0, 0)) (by (with_reducible repeat first | refine blk_drewN ?_ _ | refine blk_drew ?_ | refine blk_alloc ?_ _); refine blk_far ?_ NB192_197.out _; (with_reducible repeat first | refine blk_drewN ?_ _ | refine blk_drew ?_ | refine blk_alloc ?_ _); refine blk_far ?_ NB192_197.out _; (with_reducible repeat first | refine blk_drewN ?_ _ | refine blk_drew ?_ | refine blk_alloc ?_ _); refine blk_far ?_ NB192_197.out _; (with_reducible repeat first | refine blk_drewN ?_ _ | refine blk_drew ?_ | refine blk_alloc ?_ _); exact BK192.out) hb); have n5_ := Aside0.mk (blk_below (g := gb197) (o := .cells #[.bool t193, .int .i64 t194, .int .i64 t195] 24 (0, 0)) (by (with_reducible repeat first | refine blk_drewN ?_ _ | refine blk_drew ?_ | refine blk_alloc ?_ _); refine blk_put (cs := #[.bool t193, .int .i64 t194, .int .i64 0]) ?_ 2 _ rfl; (with_reducible repeat first | refine blk_drewN ?_ _ | refine blk_drew ?_ | refine blk_alloc ?_ _); refine blk_put (cs := #[.bool t193, .int .i64 0, .int .i64 0]) ?_ 1 _ rfl; (with_reducible repeat first | refine blk_drewN ?_ _ | refine blk_drew ?_ | refine blk_alloc ?_ _); refine blk_put (cs := #[.bool false, .int .i64 0, .int .i64 0]) ?_ 0 _ rfl; (with_reducible repeat first | refine blk_drewN ?_ _ | refine blk_drew ?_ | refine blk_alloc ?_ _); exact BK197.out) hb); have n6_ := Aside0.mk (below_step (by repeat (first | (with_reducible first | exact HB.out | apply below_alloc | apply pw_below_drewN | apply below_drew1 | refine below_set ?_ GE161.out | refine below_set ?_ GE192.out | refine below_set ?_ GE197.out) | exact HB.out)) hb); clear BK150 BK151 BK152 BK161 BK192 BK197 HB; have BK150 := n0_; have BK151 := n1_; have BK152 := n2_; have BK161 := n3_; have BK192 := n4_; have BK197 := n5_; have HB := n6_; clear n0_ n1_ n2_ n3_ n4_ n5_ n6_; (try clear hb); (try clear hb2); (try clear hk); (try clear hi)) | ((with_reducible refine gate_dst (N := 19) rfl ?_); refine box_event ?hg (N := 19) ?hd (cs := #[.bool false, .int .i64 0, .int .i64 0]) (t := 24) ?hr ?_; (case hd => rfl); (case hg => rfl); (case hr => first | (go_simp; done) | (go_simp; rfl)); intro gb202 hg w211 hbox hb; have n0_ := Aside0.mk (blk_b hb BK150.out); have n1_ := Aside0.mk (blk_b hb BK151.out); have n2_ := Aside0.mk (blk_b hb BK152.out); have n3_ := Aside0.mk (blk_b hb BK161.out); have n4_ := Aside0.mk (blk_b hb BK192.out); have n5_ := Aside0.mk (blk_b hb BK197.out); have n6_ := Aside0.mk (below_step (by repeat (first | (with_reducible first | exact HB.out | apply below_alloc | apply pw_below_drewN | apply below_drew1 | refine below_set ?_ GE161.out | refine below_set ?_ GE192.out | refine below_set ?_ GE197.out) | exact HB.out)) hb); have n7_ := Aside0.mk (hbox); have n8_ := Aside0.mk ((by rw [hg]; exact (below_size (by repeat (first | (with_reducible first | exact HB.out | apply below_alloc | apply pw_below_drewN | apply below_drew1 | refine below_set ?_ GE161.out | refine below_set ?_ GE192.out | refine below_set ?_ GE197.out) | exact HB.out))) : w.heap.size ≤ gb202)); have n9_ := n8_; have n10_ := Aside0.mk ((by rw [hg]; exact Nat.ne_of_lt (blk_lt BK150.out) : gb150 ≠ gb202)); have n11_ := Aside0.mk n10_.out.symm; have n12_ := Aside0.mk ((by rw [hg]; exact Nat.ne_of_lt (blk_lt BK151.out) : gb151 ≠ gb202)); have n13_ := Aside0.mk n12_.out.symm; have n14_ := Aside0.mk ((by rw [hg]; exact Nat.ne_of_lt (blk_lt BK152.out) : gb152 ≠ gb202)); have n15_ := Aside0.mk n14_.out.symm; have n16_ := Aside0.mk ((by rw [hg]; exact Nat.ne_of_lt (blk_lt BK161.out) : gb161 ≠ gb202)); have n17_ := Aside0.mk n16_.out.symm; have n18_ := Aside0.mk ((by rw [hg]; exact Nat.ne_of_lt (blk_lt BK192.out) : gb192 ≠ gb202)); have n19_ := Aside0.mk n18_.out.symm; have n20_ := Aside0.mk ((by rw [hg]; exact Nat.ne_of_lt (blk_lt BK197.out) : gb197 ≠ gb202)); have n21_ := Aside0.mk n20_.out.symm; clear BK150 BK151 BK152 BK161 BK192 BK197 HB; have BK150 := n0_; have BK151 := n1_; have BK152 := n2_; have BK161 := n3_; have BK192 := n4_; have BK197 := n5_; have HB := n6_; have BK202 := n7_; have GW202 := n8_; have GE202 := n9_; have NB150_202 := n10_; have NB202_150 := n11_; have NB151_202 := n12_; have NB202_151 := n13_; have NB152_202 := n14_; have NB202_152 := n15_; have NB161_202 := n16_; have NB202_161 := n17_; have NB192_202 := n18_; have NB202_192 := n19_; have NB197_202 := n20_; have NB202_197 := n21_; clear n0_ n1_ n2_ n3_ n4_ n5_ n6_ n7_ n8_ n9_ n10_ n11_ n12_ n13_ n14_ n15_ n16_ n17_ n18_ n19_ n20_ n21_; clear hb hbox hg; have hnb212 := NB202_150.out; have hnc212 := NB150_202.out; have hnb213 := NB202_151.out; have hnc213 := NB151_202.out; have hnb214 := NB202_152.out; have hnc214 := NB152_202.out; have hnb215 := NB202_161.out; have hnc215 := NB161_202.out; have hnb216 := NB202_192.out; have hnc216 := NB192_202.out; have hnb217 := NB202_197.out; have hnc217 := NB197_202.out; have hcz218_0 : w211.cell? ⟨gb202, 0, none⟩ = some (.bool false) := (blk_cell BK202.out 0).trans rfl; have hcz218_1 : w211.cell? ⟨gb202, 1, none⟩ = some (.int .i64 0) := (blk_cell BK202.out 1).trans rfl; have hcz218_2 : w211.cell? ⟨gb202, 2, none⟩ = some (.int .i64 0) := (blk_cell BK202.out 2).trans rfl; have hfz218_0 := blk_frozen BK202.out 0; have hfz218_1 := blk_frozen BK202.out 1; have hfz218_2 := blk_frozen BK202.out 2; have hcz219_0 : w211.cell? ⟨gb192, 0, none⟩ = some (.bool t188) := (blk_cell BK192.out 0).trans rfl; have hcz219_1 : w211.cell? ⟨gb192, 1, none⟩ = some (.int .i64 t189) := (blk_cell BK192.out 1).trans rfl; have hcz219_2 : w211.cell? ⟨gb192, 2, none⟩ = some (.int .i64 t190) := (blk_cell BK192.out 2).trans rfl; have hfz219_0 := blk_frozen BK192.out 0; have hfz219_1 := blk_frozen BK192.out 1; have hfz219_2 := blk_frozen BK192.out 2))
             go_meet
             case rel => exact ⟨_, H', ⟨by have := HJ3.out; have := HJ39.out; have := HJ95.out; first | omega | exact Nat.le_refl _⟩, ⟨by (with_reducible repeat first | refine blk_drewN ?_ _ | refine blk_drew ?_ | refine blk_alloc ?_ _); refine blk_far ?_ NB150_202.out _; (with_reducible repeat first | refine blk_drewN ?_ _ | refine blk_drew ?_ | refine blk_alloc ?_ _); refine blk_far ?_ NB150_202.out _; (with_reducible repeat first | refine blk_drewN ?_ _ | refine blk_drew ?_ | refine blk_alloc ?_ _); refine blk_far ?_ NB150_202.out _; (with_reducible repeat first | refine blk_drewN ?_ _ | refine blk_drew ?_ | refine blk_alloc ?_ _); exact BK150.out⟩, ⟨by (with_reducible repeat first | refine blk_drewN ?_ _ | refine blk_drew ?_ | refine blk_alloc ?_ _); refine blk_far ?_ NB151_202.out _; (with_reducible repeat first | refine blk_drewN ?_ _ | refine blk_drew ?_ | refine blk_alloc ?_ _); refine blk_far ?_ NB151_202.out _; (with_reducible repeat first | refine blk_drewN ?_ _ | refine blk_drew ?_ | refine blk_alloc ?_ _); refine blk_far ?_ NB151_202.out _; (with_reducible repeat first | refine blk_drewN ?_ _ | refine blk_drew ?_ | refine blk_alloc ?_ _); exact BK151.out⟩, ⟨by (with_reducible repeat first | refine blk_drewN ?_ _ | refine blk_drew ?_ | refine blk_alloc ?_ _); refine blk_far ?_ NB152_202.out _; (with_reducible repeat first | refine blk_drewN ?_ _ | refine blk_drew ?_ | refine blk_alloc ?_ _); refine blk_far ?_ NB152_202.out _; (with_reducible repeat first | refine blk_drewN ?_ _ | refine blk_drew ?_ | refine blk_alloc ?_ _); refine blk_far ?_ NB152_202.out _; (with_reducible repeat first | refine blk_drewN ?_ _ | refine blk_drew ?_ | refine blk_alloc ?_ _); exact BK152.out⟩, ⟨by repeat (first | (with_reducible first | exact HB.out | apply below_alloc | apply pw_below_drewN | apply below_drew1 | refine below_set ?_ GE161.out | refine below_set ?_ GE192.out | refine below_set ?_ GE197.out | refine below_set ?_ GE202.out) | exact HB.out)⟩⟩
        ·rw [if_neg c93] at H
         have c93b0 : (t160 == 0) = false := beq_eq_false_iff_ne.mpr c93
         have c93b1 : (t160 != 0) = true := bne_iff_ne.mpr c93
         (first | rw [c93b0] | (simp only [i64_w, i32_w]; rw [c93b0]) | skip)
         have H' := Aside0.mk H
         clear H
         go_wp2
         go_meet
         case rel => exact ⟨_, H', ⟨by have := HJ3.out; have := HJ39.out; first | omega | exact Nat.le_refl _⟩, ⟨BK150.out⟩, ⟨BK151.out⟩, ⟨BK152.out⟩, ⟨by repeat (first | (with_reducible first | exact HB.out | apply below_alloc | apply pw_below_drewN | apply below_drew1 | refine below_set ?_ GE161.out) | exact HB.out)⟩⟩
       case rest =>
        clear HC92
        (try clear p2); (try clear c93b0); (try clear c93b1); (try clear c105b0); (try clear c105b1); (try clear c107b0); (try clear c107b1); (try clear c144b0); (try clear c144b1); (try clear c145b0); (try clear c145b1); (try clear c146b0); (try clear c146b1); (try clear c147b0); (try clear hcz113_0); (try clear hcz113_1); (try clear hcz113_2); (try clear hcz117_0); (try clear hcz117_1); (try clear hcz117_2); (try clear hcz121_0); (try clear hcz121_1); (try clear hcz121_2); (try clear hcz127_0); (try clear hcz127_1); (try clear hcz127_2); (try clear hcz131_0); (try clear hcz131_1); (try clear hcz131_2); (try clear hcz138_0); (try clear hcz138_1); (try clear hcz138_2); (try clear hcz151_0); (try clear hcz151_1); (try clear hcz151_2); (try clear hcz154_0); (try clear hcz154_1); (try clear hcz154_2); (try clear hcz161_0); (try clear hcz161_1); (try clear hcz161_2); (try clear hcz163_0); (try clear hcz163_1); (try clear hcz163_2); (try clear hcz164_0); (try clear hcz164_1); (try clear hcz164_2); (try clear hcz172_0); (try clear hcz172_1); (try clear hcz172_2); (try clear hcz173_0); (try clear hcz173_1); (try clear hcz173_2); (try clear hcz182_0); (try clear hcz182_1); (try clear hcz182_2); (try clear hcz183_0); (try clear hcz183_1); (try clear hcz183_2); (try clear hcz187_0); (try clear hcz187_1); (try clear hcz187_2); (try clear hcz190_0); (try clear hcz190_1); (try clear hcz190_2); (try clear hcz197_0); (try clear hcz197_1); (try clear hcz197_2); (try clear hcz199_0); (try clear hcz199_1); (try clear hcz199_2); (try clear hcz200_0); (try clear hcz200_1); (try clear hcz200_2); (try clear hcz208_0); (try clear hcz208_1); (try clear hcz208_2); (try clear hcz209_0); (try clear hcz209_1); (try clear hcz209_2); (try clear hcz218_0); (try clear hcz218_1); (try clear hcz218_2); (try clear hcz219_0); (try clear hcz219_1); (try clear hcz219_2); (try clear hcz223_0); (try clear hcz223_1); (try clear hcz223_2); (try clear hcz226_0); (try clear hcz226_1); (try clear hcz226_2); (try clear hcz233_0); (try clear hcz233_1); (try clear hcz233_2); (try clear hcz235_0); (try clear hcz235_1); (try clear hcz235_2); (try clear hcz236_0); (try clear hcz236_1); (try clear hcz236_2); (try clear hcz244_0); (try clear hcz244_1); (try clear hcz244_2); (try clear hcz245_0); (try clear hcz245_1); (try clear hcz245_2); (try clear hcz254_0); (try clear hcz254_1); (try clear hcz254_2); (try clear hcz258_0); (try clear hcz258_1); (try clear hcz258_2); (try clear hcz261_0); (try clear hcz261_1); (try clear hcz261_2); (try clear hcz268_0); (try clear hcz268_1); (try clear hcz268_2); (try clear hcz270_0); (try clear hcz270_1); (try clear hcz270_2); (try clear hcz271_0); (try clear hcz271_1); (try clear hcz271_2); (try clear hcz279_0); (try clear hcz279_1); (try clear hcz279_2); (try clear hcz280_0); (try clear hcz280_1); (try clear hcz280_2); (try clear hcz289_0); (try clear hcz289_1); (try clear hcz289_2); (try clear hcz293_0); (try clear hcz293_1); (try clear hcz293_2); (try clear hcz296_0); (try clear hcz296_1); (try clear hcz296_2); (try clear hcz303_0); (try clear hcz303_1); (try clear hcz303_2); (try clear hcz305_0); (try clear hcz305_1); (try clear hcz305_2); (try clear hcz306_0); (try clear hcz306_1); (try clear hcz306_2); (try clear hcz314_0); (try clear hcz314_1); (try clear hcz314_2); (try clear hcz315_0); (try clear hcz315_1); (try clear hcz315_2); (try clear hcz324_0); (try clear hcz324_1); (try clear hcz324_2); (try clear hfz113_0); (try clear hfz113_1); (try clear hfz113_2); (try clear hfz117_0); (try clear hfz117_1); (try clear hfz117_2); (try clear hfz121_0); (try clear hfz121_1); (try clear hfz121_2); (try clear hfz127_0); (try clear hfz127_1); (try clear hfz127_2); (try clear hfz131_0); (try clear hfz131_1); (try clear hfz131_2); (try clear hfz138_0); (try clear hfz138_1); (try clear hfz138_2); (try clear hfz151_0); (try clear hfz151_1); (try clear hfz151_2); (try clear hfz154_0); (try clear hfz154_1); (try clear hfz154_2); (try clear hfz161_0); (try clear hfz161_1); (try clear hfz161_2); (try clear hfz163_0); (try clear hfz163_1); (try clear hfz163_2); (try clear hfz164_0); (try clear hfz164_1); (try clear hfz164_2); (try clear hfz172_0); (try clear hfz172_1); (try clear hfz172_2); (try clear hfz173_0); (try clear hfz173_1); (try clear hfz173_2); (try clear hfz182_0); (try clear hfz182_1); (try clear hfz182_2); (try clear hfz183_0); (try clear hfz183_1); (try clear hfz183_2); (try clear hfz187_0); (try clear hfz187_1); (try clear hfz187_2); (try clear hfz190_0); (try clear hfz190_1); (try clear hfz190_2); (try clear hfz197_0); (try clear hfz197_1); (try clear hfz197_2); (try clear hfz199_0); (try clear hfz199_1); (try clear hfz199_2); (try clear hfz200_0); (try clear hfz200_1); (try clear hfz200_2); (try clear hfz208_0); (try clear hfz208_1); (try clear hfz208_2); (try clear hfz209_0); (try clear hfz209_1); (try clear hfz209_2); (try clear hfz218_0); (try clear hfz218_1); (try clear hfz218_2); (try clear hfz219_0); (try clear hfz219_1); (try clear hfz219_2); (try clear hfz223_0); (try clear hfz223_1); (try clear hfz223_2); (try clear hfz226_0); (try clear hfz226_1); (try clear hfz226_2); (try clear hfz233_0); (try clear hfz233_1); (try clear hfz233_2); (try clear hfz235_0); (try clear hfz235_1); (try clear hfz235_2); (try clear hfz236_0); (try clear hfz236_1); (try clear hfz236_2); (try clear hfz244_0); (try clear hfz244_1); (try clear hfz244_2); (try clear hfz245_0); (try clear hfz245_1); (try clear hfz245_2); (try clear hfz254_0); (try clear hfz254_1); (try clear hfz254_2); (try clear hfz258_0); (try clear hfz258_1); (try clear hfz258_2); (try clear hfz261_0); (try clear hfz261_1); (try clear hfz261_2); (try clear hfz268_0); (try clear hfz268_1); (try clear hfz268_2); (try clear hfz270_0); (try clear hfz270_1); (try clear hfz270_2); (try clear hfz271_0); (try clear hfz271_1); (try clear hfz271_2); (try clear hfz279_0); (try clear hfz279_1); (try clear hfz279_2); (try clear hfz280_0); (try clear hfz280_1); (try clear hfz280_2); (try clear hfz289_0); (try clear hfz289_1); (try clear hfz289_2); (try clear hfz293_0); (try clear hfz293_1); (try clear hfz293_2); (try clear hfz296_0); (try clear hfz296_1); (try clear hfz296_2); (try clear hfz303_0); (try clear hfz303_1); (try clear hfz303_2); (try clear hfz305_0); (try clear hfz305_1); (try clear hfz305_2); (try clear hfz306_0); (try clear hfz306_1); (try clear hfz306_2); (try clear hfz314_0); (try clear hfz314_1); (try clear hfz314_2); (try clear hfz315_0); (try clear hfz315_1); (try clear hfz315_2); (try clear hfz324_0); (try clear hfz324_1); (try clear hfz324_2); (try clear p2)
        obtain ⟨kq, HA, HJ91, BK150, BK151, BK152, HB⟩ := hcut
        cases kq with
        | zero => exact absurd HA.out (by simp [remitterlaw01_DecimalExact.j3])
        | succ kj91 =>
         have H := HA.out
         clear HA
         simp only [remitterlaw01_DecimalExact.j3] at H
         replace H := Option.bind_eq_some_iff.mp H
         obtain ⟨⟨t203, t204, t205, t206⟩, A3250, H⟩ := H
         replace H : ((decimal_Add.f a1_0 a1_1 a1_2 a2_0 a2_1 a2_2).bind fun bt208 => (if t206 = 0 then (if bt208.2.2.2 = 0 then ((decimal_Cmp.f t203 t204 t205 bt208.1 bt208.2.1 bt208.2.2.1).bind fun t213 => ((decimal_Cmp.f a0_0 a0_1 a0_2 a1_0 a1_1 a1_2).bind fun t214 => (if t213 = t214 then ((remitterlaw01_wakes.f).bind fun t215 => (some t215)) else (some false)))) else ((remitterlaw01_wakes.f).bind fun t216 => (some t216))) else ((remitterlaw01_wakes.f).bind fun t217 => (some t217)))) = some true := H
         have A325 := Aside0.mk A3250
         clear A3250
         replace H := Option.bind_eq_some_iff.mp H
         obtain ⟨⟨t208, t209, t210, t211⟩, A3260, H⟩ := H
         replace H : (if t206 = 0 then (if t211 = 0 then ((decimal_Cmp.f t203 t204 t205 t208 t209 t210).bind fun t213 => ((decimal_Cmp.f a0_0 a0_1 a0_2 a1_0 a1_1 a1_2).bind fun t214 => (if t213 = t214 then ((remitterlaw01_wakes.f).bind fun t215 => (some t215)) else (some false)))) else ((remitterlaw01_wakes.f).bind fun t216 => (some t216))) else ((remitterlaw01_wakes.f).bind fun t217 => (some t217))) = some true := H
         have A326 := Aside0.mk A3260
         clear A3260
         have hnb333 := NB150_151.out
         have hnc333 := NB151_150.out
         have hnb334 := NB150_152.out
         have hnc334 := NB152_150.out
         have hcz335_0 : wc.cell? ⟨gb150, 0, none⟩ = some (.bool a0_0) := (blk_cell BK150.out 0).trans rfl
         have hcz335_1 : wc.cell? ⟨gb150, 1, none⟩ = some (.int .i64 a0_1) := (blk_cell BK150.out 1).trans rfl
         have hcz335_2 : wc.cell? ⟨gb150, 2, none⟩ = some (.int .i64 a0_2) := (blk_cell BK150.out 2).trans rfl
         have hfz335_0 := blk_frozen BK150.out 0
         have hfz335_1 := blk_frozen BK150.out 1
         have hfz335_2 := blk_frozen BK150.out 2
         have hnb336 := NB152_151.out
         have hnc336 := NB151_152.out
         have hcz337_0 : wc.cell? ⟨gb152, 0, none⟩ = some (.bool a2_0) := (blk_cell BK152.out 0).trans rfl
         have hcz337_1 : wc.cell? ⟨gb152, 1, none⟩ = some (.int .i64 a2_1) := (blk_cell BK152.out 1).trans rfl
         have hcz337_2 : wc.cell? ⟨gb152, 2, none⟩ = some (.int .i64 a2_2) := (blk_cell BK152.out 2).trans rfl
         have hfz337_0 := blk_frozen BK152.out 0
         have hfz337_1 := blk_frozen BK152.out 1
         have hfz337_2 := blk_frozen BK152.out 2
         try go_wp2_with (first | ((with_reducible refine gate_callee (f := 27) rfl ?_); refine goesL_ (some 147) rfl rfl Tryd.func27 (by kernel_rfl) rfl #[.agg #[.bool a0_0, .int .i64 a0_1, .int .i64 a0_2], .agg #[.bool a2_0, .int .i64 a2_1, .int .i64 a2_2]] rfl (by (try simp only [List.map_toArray, List.map_cons, List.map_nil]); first | done | rfl | (simp only [List.length_drop, List.length_take]; rfl)) ?_; (with_reducible refine (decimal_Add.calls a0_0 a0_1 a0_2 a2_0 a2_1 a2_2 t203 t204 t205 t206 _ A325.out).mono ?_); rintro e w338 ⟨rfl, hb⟩; refine ⟨_, rfl, ?_⟩; have n0_ := Aside0.mk (blk_b hb BK150.out); have n1_ := Aside0.mk (blk_b hb BK151.out); have n2_ := Aside0.mk (blk_b hb BK152.out); have n3_ := Aside0.mk (below_step (by repeat (first | (with_reducible first | exact HB.out | apply below_alloc | apply pw_below_drewN | apply below_drew1) | exact HB.out)) hb); clear BK150 BK151 BK152 HB; have BK150 := n0_; have BK151 := n1_; have BK152 := n2_; have HB := n3_; clear n0_ n1_ n2_ n3_; (try clear hb); (try clear hb2); (try clear hk); (try clear hi)) | ((with_reducible refine gate_dst (N := 21) rfl ?_); refine box_event ?hg (N := 21) ?hd (cs := #[.bool false, .int .i64 0, .int .i64 0]) (t := 24) ?hr ?_; (case hd => rfl); (case hg => rfl); (case hr => first | (go_simp; done) | (go_simp; rfl)); intro gb207 hg w339 hbox hb; have n0_ := Aside0.mk (blk_b hb BK150.out); have n1_ := Aside0.mk (blk_b hb BK151.out); have n2_ := Aside0.mk (blk_b hb BK152.out); have n3_ := Aside0.mk (below_step (by repeat (first | (with_reducible first | exact HB.out | apply below_alloc | apply pw_below_drewN | apply below_drew1) | exact HB.out)) hb); have n4_ := Aside0.mk (hbox); have n5_ := Aside0.mk ((by rw [hg]; exact (below_size (by repeat (first | (with_reducible first | exact HB.out | apply below_alloc | apply pw_below_drewN | apply below_drew1) | exact HB.out))) : w.heap.size ≤ gb207)); have n6_ := n5_; have n7_ := Aside0.mk ((by rw [hg]; exact Nat.ne_of_lt (blk_lt BK150.out) : gb150 ≠ gb207)); have n8_ := Aside0.mk n7_.out.symm; have n9_ := Aside0.mk ((by rw [hg]; exact Nat.ne_of_lt (blk_lt BK151.out) : gb151 ≠ gb207)); have n10_ := Aside0.mk n9_.out.symm; have n11_ := Aside0.mk ((by rw [hg]; exact Nat.ne_of_lt (blk_lt BK152.out) : gb152 ≠ gb207)); have n12_ := Aside0.mk n11_.out.symm; clear BK150 BK151 BK152 HB; have BK150 := n0_; have BK151 := n1_; have BK152 := n2_; have HB := n3_; have BK207 := n4_; have GW207 := n5_; have GE207 := n6_; have NB150_207 := n7_; have NB207_150 := n8_; have NB151_207 := n9_; have NB207_151 := n10_; have NB152_207 := n11_; have NB207_152 := n12_; clear n0_ n1_ n2_ n3_ n4_ n5_ n6_ n7_ n8_ n9_ n10_ n11_ n12_; clear hb hbox hg; have hnb340 := NB207_150.out; have hnc340 := NB150_207.out; have hnb341 := NB207_151.out; have hnc341 := NB151_207.out; have hnb342 := NB207_152.out; have hnc342 := NB152_207.out; have hcz343_0 : w339.cell? ⟨gb207, 0, none⟩ = some (.bool false) := (blk_cell BK207.out 0).trans rfl; have hcz343_1 : w339.cell? ⟨gb207, 1, none⟩ = some (.int .i64 0) := (blk_cell BK207.out 1).trans rfl; have hcz343_2 : w339.cell? ⟨gb207, 2, none⟩ = some (.int .i64 0) := (blk_cell BK207.out 2).trans rfl; have hfz343_0 := blk_frozen BK207.out 0; have hfz343_1 := blk_frozen BK207.out 1; have hfz343_2 := blk_frozen BK207.out 2; have hcz344_0 : w339.cell? ⟨gb151, 0, none⟩ = some (.bool a1_0) := (blk_cell BK151.out 0).trans rfl; have hcz344_1 : w339.cell? ⟨gb151, 1, none⟩ = some (.int .i64 a1_1) := (blk_cell BK151.out 1).trans rfl; have hcz344_2 : w339.cell? ⟨gb151, 2, none⟩ = some (.int .i64 a1_2) := (blk_cell BK151.out 2).trans rfl; have hfz344_0 := blk_frozen BK151.out 0; have hfz344_1 := blk_frozen BK151.out 1; have hfz344_2 := blk_frozen BK151.out 2; have hcz345_0 : w339.cell? ⟨gb152, 0, none⟩ = some (.bool a2_0) := (blk_cell BK152.out 0).trans rfl; have hcz345_1 : w339.cell? ⟨gb152, 1, none⟩ = some (.int .i64 a2_1) := (blk_cell BK152.out 1).trans rfl; have hcz345_2 : w339.cell? ⟨gb152, 2, none⟩ = some (.int .i64 a2_2) := (blk_cell BK152.out 2).trans rfl; have hfz345_0 := blk_frozen BK152.out 0; have hfz345_1 := blk_frozen BK152.out 1; have hfz345_2 := blk_frozen BK152.out 2) | ((with_reducible refine gate_callee (f := 27) rfl ?_); refine goesL_ (some 153) rfl rfl Tryd.func27 (by kernel_rfl) rfl #[.agg #[.bool a1_0, .int .i64 a1_1, .int .i64 a1_2], .agg #[.bool a2_0, .int .i64 a2_1, .int .i64 a2_2]] rfl (by (try simp only [List.map_toArray, List.map_cons, List.map_nil]); first | done | rfl | (simp only [List.length_drop, List.length_take]; rfl)) ?_; (with_reducible refine (decimal_Add.calls a1_0 a1_1 a1_2 a2_0 a2_1 a2_2 t208 t209 t210 t211 _ A326.out).mono ?_); rintro e w346 ⟨rfl, hb⟩; refine ⟨_, rfl, ?_⟩; have n0_ := Aside0.mk (blk_below (g := gb150) (o := .cells #[.bool a0_0, .int .i64 a0_1, .int .i64 a0_2] 24 (0, 0)) (by (with_reducible repeat first | refine blk_drewN ?_ _ | refine blk_drew ?_ | refine blk_alloc ?_ _); refine blk_far ?_ NB150_207.out _; (with_reducible repeat first | refine blk_drewN ?_ _ | refine blk_drew ?_ | refine blk_alloc ?_ _); refine blk_far ?_ NB150_207.out _; (with_reducible repeat first | refine blk_drewN ?_ _ | refine blk_drew ?_ | refine blk_alloc ?_ _); refine blk_far ?_ NB150_207.out _; (with_reducible repeat first | refine blk_drewN ?_ _ | refine blk_drew ?_ | refine blk_alloc ?_ _); exact BK150.out) hb); have n1_ := Aside0.mk (blk_below (g := gb151) (o := .cells #[.bool a1_0, .int .i64 a1_1, .int .i64 a1_2] 24 (0, 0)) (by (with_reducible repeat first | refine blk_drewN ?_ _ | refine blk_drew ?_ | refine blk_alloc ?_ _); refine blk_far ?_ NB151_207.out _; (with_reducible repeat first | refine blk_drewN ?_ _ | refine blk_drew ?_ | refine blk_alloc ?_ _); refine blk_far ?_ NB151_207.out _; (with_reducible repeat first | refine blk_drewN ?_ _ | refine blk_drew ?_ | refine blk_alloc ?_ _); refine blk_far ?_ NB151_207.out _; (with_reducible repeat first | refine blk_drewN ?_ _ | refine blk_drew ?_ | refine blk_alloc ?_ _); exact BK151.out) hb); have n2_ := Aside0.mk (blk_below (g := gb152) (o := .cells #[.bool a2_0, .int .i64 a2_1, .int .i64 a2_2] 24 (0, 0)) (by (with_reducible repeat first | refine blk_drewN ?_ _ | refine blk_drew ?_ | refine blk_alloc ?_ _); refine blk_far ?_ NB152_207.out _; (with_reducible repeat first | refine blk_drewN ?_ _ | refine blk_drew ?_ | refine blk_alloc ?_ _); refine blk_far ?_ NB152_207.out _; (with_reducible repeat first | refine blk_drewN ?_ _ | refine blk_drew ?_ | refine blk_alloc ?_ _); refine blk_far ?_ NB152_207.out _; (with_reducible repeat first | refine blk_drewN ?_ _ | refine blk_drew ?_ | refine blk_alloc ?_ _); exact BK152.out) hb); have n3_ := Aside0.mk (blk_below (g := gb207) (o := .cells #[.bool t203, .int .i64 t204, .int .i64 t205] 24 (0, 0)) (by (with_reducible repeat first | refine blk_drewN ?_ _ | refine blk_drew ?_ | refine blk_alloc ?_ _); refine blk_put (cs := #[.bool t203, .int .i64 t204, .int .i64 0]) ?_ 2 _ rfl; (with_reducible repeat first | refine blk_drewN ?_ _ | refine blk_drew ?_ | refine blk_alloc ?_ _); refine blk_put (cs := #[.bool t203, .int .i64 0, .int .i64 0]) ?_ 1 _ rfl; (with_reducible repeat first | refine blk_drewN ?_ _ | refine blk_drew ?_ | refine blk_alloc ?_ _); refine blk_put (cs := #[.bool false, .int .i64 0, .int .i64 0]) ?_ 0 _ rfl; (with_reducible repeat first | refine blk_drewN ?_ _ | refine blk_drew ?_ | refine blk_alloc ?_ _); exact BK207.out) hb); have n4_ := Aside0.mk (below_step (by repeat (first | (with_reducible first | exact HB.out | apply below_alloc | apply pw_below_drewN | apply below_drew1 | refine below_set ?_ GE207.out) | exact HB.out)) hb); clear BK150 BK151 BK152 BK207 HB; have BK150 := n0_; have BK151 := n1_; have BK152 := n2_; have BK207 := n3_; have HB := n4_; clear n0_ n1_ n2_ n3_ n4_; (try clear hb); (try clear hb2); (try clear hk); (try clear hi)) | ((with_reducible refine gate_dst (N := 23) rfl ?_); refine box_event ?hg (N := 23) ?hd (cs := #[.bool false, .int .i64 0, .int .i64 0]) (t := 24) ?hr ?_; (case hd => rfl); (case hg => rfl); (case hr => first | (go_simp; done) | (go_simp; rfl)); intro gb212 hg w347 hbox hb; have n0_ := Aside0.mk (blk_b hb BK150.out); have n1_ := Aside0.mk (blk_b hb BK151.out); have n2_ := Aside0.mk (blk_b hb BK152.out); have n3_ := Aside0.mk (blk_b hb BK207.out); have n4_ := Aside0.mk (below_step (by repeat (first | (with_reducible first | exact HB.out | apply below_alloc | apply pw_below_drewN | apply below_drew1 | refine below_set ?_ GE207.out) | exact HB.out)) hb); have n5_ := Aside0.mk (hbox); have n6_ := Aside0.mk ((by rw [hg]; exact (below_size (by repeat (first | (with_reducible first | exact HB.out | apply below_alloc | apply pw_below_drewN | apply below_drew1 | refine below_set ?_ GE207.out) | exact HB.out))) : w.heap.size ≤ gb212)); have n7_ := n6_; have n8_ := Aside0.mk ((by rw [hg]; exact Nat.ne_of_lt (blk_lt BK150.out) : gb150 ≠ gb212)); have n9_ := Aside0.mk n8_.out.symm; have n10_ := Aside0.mk ((by rw [hg]; exact Nat.ne_of_lt (blk_lt BK151.out) : gb151 ≠ gb212)); have n11_ := Aside0.mk n10_.out.symm; have n12_ := Aside0.mk ((by rw [hg]; exact Nat.ne_of_lt (blk_lt BK152.out) : gb152 ≠ gb212)); have n13_ := Aside0.mk n12_.out.symm; have n14_ := Aside0.mk ((by rw [hg]; exact Nat.ne_of_lt (blk_lt BK207.out) : gb207 ≠ gb212)); have n15_ := Aside0.mk n14_.out.symm; clear BK150 BK151 BK152 BK207 HB; have BK150 := n0_; have BK151 := n1_; have BK152 := n2_; have BK207 := n3_; have HB := n4_; have BK212 := n5_; have GW212 := n6_; have GE212 := n7_; have NB150_212 := n8_; have NB212_150 := n9_; have NB151_212 := n10_; have NB212_151 := n11_; have NB152_212 := n12_; have NB212_152 := n13_; have NB207_212 := n14_; have NB212_207 := n15_; clear n0_ n1_ n2_ n3_ n4_ n5_ n6_ n7_ n8_ n9_ n10_ n11_ n12_ n13_ n14_ n15_; clear hb hbox hg; have hnb348 := NB212_150.out; have hnc348 := NB150_212.out; have hnb349 := NB212_151.out; have hnc349 := NB151_212.out; have hnb350 := NB212_152.out; have hnc350 := NB152_212.out; have hnb351 := NB212_207.out; have hnc351 := NB207_212.out; have hcz352_0 : w347.cell? ⟨gb212, 0, none⟩ = some (.bool false) := (blk_cell BK212.out 0).trans rfl; have hcz352_1 : w347.cell? ⟨gb212, 1, none⟩ = some (.int .i64 0) := (blk_cell BK212.out 1).trans rfl; have hcz352_2 : w347.cell? ⟨gb212, 2, none⟩ = some (.int .i64 0) := (blk_cell BK212.out 2).trans rfl; have hfz352_0 := blk_frozen BK212.out 0; have hfz352_1 := blk_frozen BK212.out 1; have hfz352_2 := blk_frozen BK212.out 2))
         have n0_ : Aside0 ((((w347.setCell ⟨gb212, 0, none⟩ (.bool t208)).setCell ⟨gb212, 1, none⟩ (.int .i64 t209)).setCell ⟨gb212, 2, none⟩ (.int .i64 t210)).heap[gb150]? = some (.cells #[.bool a0_0, .int .i64 a0_1, .int .i64 a0_2] 24 (0, 0))) := ⟨by (with_reducible repeat first | refine blk_drewN ?_ _ | refine blk_drew ?_ | refine blk_alloc ?_ _); refine blk_far ?_ NB150_212.out _; (with_reducible repeat first | refine blk_drewN ?_ _ | refine blk_drew ?_ | refine blk_alloc ?_ _); refine blk_far ?_ NB150_212.out _; (with_reducible repeat first | refine blk_drewN ?_ _ | refine blk_drew ?_ | refine blk_alloc ?_ _); refine blk_far ?_ NB150_212.out _; (with_reducible repeat first | refine blk_drewN ?_ _ | refine blk_drew ?_ | refine blk_alloc ?_ _); exact BK150.out⟩
         have n1_ : Aside0 ((((w347.setCell ⟨gb212, 0, none⟩ (.bool t208)).setCell ⟨gb212, 1, none⟩ (.int .i64 t209)).setCell ⟨gb212, 2, none⟩ (.int .i64 t210)).heap[gb151]? = some (.cells #[.bool a1_0, .int .i64 a1_1, .int .i64 a1_2] 24 (0, 0))) := ⟨by (with_reducible repeat first | refine blk_drewN ?_ _ | refine blk_drew ?_ | refine blk_alloc ?_ _); refine blk_far ?_ NB151_212.out _; (with_reducible repeat first | refine blk_drewN ?_ _ | refine blk_drew ?_ | refine blk_alloc ?_ _); refine blk_far ?_ NB151_212.out _; (with_reducible repeat first | refine blk_drewN ?_ _ | refine blk_drew ?_ | refine blk_alloc ?_ _); refine blk_far ?_ NB151_212.out _; (with_reducible repeat first | refine blk_drewN ?_ _ | refine blk_drew ?_ | refine blk_alloc ?_ _); exact BK151.out⟩
         have n2_ : Aside0 ((((w347.setCell ⟨gb212, 0, none⟩ (.bool t208)).setCell ⟨gb212, 1, none⟩ (.int .i64 t209)).setCell ⟨gb212, 2, none⟩ (.int .i64 t210)).heap[gb152]? = some (.cells #[.bool a2_0, .int .i64 a2_1, .int .i64 a2_2] 24 (0, 0))) := ⟨by (with_reducible repeat first | refine blk_drewN ?_ _ | refine blk_drew ?_ | refine blk_alloc ?_ _); refine blk_far ?_ NB152_212.out _; (with_reducible repeat first | refine blk_drewN ?_ _ | refine blk_drew ?_ | refine blk_alloc ?_ _); refine blk_far ?_ NB152_212.out _; (with_reducible repeat first | refine blk_drewN ?_ _ | refine blk_drew ?_ | refine blk_alloc ?_ _); refine blk_far ?_ NB152_212.out _; (with_reducible repeat first | refine blk_drewN ?_ _ | refine blk_drew ?_ | refine blk_alloc ?_ _); exact BK152.out⟩
         have n3_ : Aside0 ((((w347.setCell ⟨gb212, 0, none⟩ (.bool t208)).setCell ⟨gb212, 1, none⟩ (.int .i64 t209)).setCell ⟨gb212, 2, none⟩ (.int .i64 t210)).heap[gb207]? = some (.cells #[.bool t203, .int .i64 t204, .int .i64 t205] 24 (0, 0))) := ⟨by (with_reducible repeat first | refine blk_drewN ?_ _ | refine blk_drew ?_ | refine blk_alloc ?_ _); refine blk_far ?_ NB207_212.out _; (with_reducible repeat first | refine blk_drewN ?_ _ | refine blk_drew ?_ | refine blk_alloc ?_ _); refine blk_far ?_ NB207_212.out _; (with_reducible repeat first | refine blk_drewN ?_ _ | refine blk_drew ?_ | refine blk_alloc ?_ _); refine blk_far ?_ NB207_212.out _; (with_reducible repeat first | refine blk_drewN ?_ _ | refine blk_drew ?_ | refine blk_alloc ?_ _); exact BK207.out⟩
         have n4_ : Aside0 ((((w347.setCell ⟨gb212, 0, none⟩ (.bool t208)).setCell ⟨gb212, 1, none⟩ (.int .i64 t209)).setCell ⟨gb212, 2, none⟩ (.int .i64 t210)).heap[gb212]? = some (.cells #[.bool t208, .int .i64 t209, .int .i64 t210] 24 (0, 0))) := ⟨by (with_reducible repeat first | refine blk_drewN ?_ _ | refine blk_drew ?_ | refine blk_alloc ?_ _); refine blk_put (cs := #[.bool t208, .int .i64 t209, .int .i64 0]) ?_ 2 _ rfl; (with_reducible repeat first | refine blk_drewN ?_ _ | refine blk_drew ?_ | refine blk_alloc ?_ _); refine blk_put (cs := #[.bool t208, .int .i64 0, .int .i64 0]) ?_ 1 _ rfl; (with_reducible repeat first | refine blk_drewN ?_ _ | refine blk_drew ?_ | refine blk_alloc ?_ _); refine blk_put (cs := #[.bool false, .int .i64 0, .int .i64 0]) ?_ 0 _ rfl; (with_reducible repeat first | refine blk_drewN ?_ _ | refine blk_drew ?_ | refine blk_alloc ?_ _); exact BK212.out⟩
         have n5_ : Aside0 (Below w.heap.size w (((w347.setCell ⟨gb212, 0, none⟩ (.bool t208)).setCell ⟨gb212, 1, none⟩ (.int .i64 t209)).setCell ⟨gb212, 2, none⟩ (.int .i64 t210))) := ⟨by repeat (first | (with_reducible first | exact HB.out | apply below_alloc | apply pw_below_drewN | apply below_drew1 | refine below_set ?_ GE207.out | refine below_set ?_ GE212.out) | exact HB.out)⟩
         (try clear BK150)
         (try clear BK151)
         (try clear BK152)
         (try clear BK207)
         (try clear BK212)
         (try clear HB)
         generalize (((w347.setCell ⟨gb212, 0, none⟩ (.bool t208)).setCell ⟨gb212, 1, none⟩ (.int .i64 t209)).setCell ⟨gb212, 2, none⟩ (.int .i64 t210)) = w353 at n0_ n1_ n2_ n3_ n4_ n5_ ⊢
         have BK150 := n0_
         have BK151 := n1_
         have BK152 := n2_
         have BK207 := n3_
         have BK212 := n4_
         have HB := n5_
         clear n0_ n1_ n2_ n3_ n4_ n5_
         have n0_ := Aside0.mk (blk_drew BK150.out)
         have n1_ := Aside0.mk (blk_drew BK151.out)
         have n2_ := Aside0.mk (blk_drew BK152.out)
         have n3_ := Aside0.mk (blk_drew BK207.out)
         have n4_ := Aside0.mk (blk_drew BK212.out)
         have n5_ := Aside0.mk (below_drew1 HB.out)
         clear BK150
         clear BK151
         clear BK152
         clear BK207
         clear BK212
         clear HB
         have BK150 := n0_
         have BK151 := n1_
         have BK152 := n2_
         have BK207 := n3_
         have BK212 := n4_
         have HB := n5_
         clear n0_ n1_ n2_ n3_ n4_ n5_
         by_cases c327 : t206 = 0
         ·rw [if_pos c327] at H
          have c327b0 : (t206 == 0) = true := beq_iff_eq.mpr c327
          have c327b1 : (t206 != 0) = false := bne_eq_false_iff_eq.mpr c327
          clear c327
          by_cases c328 : t211 = 0
          ·rw [if_pos c328] at H
           have c328b0 : (t211 == 0) = true := beq_iff_eq.mpr c328
           have c328b1 : (t211 != 0) = false := bne_eq_false_iff_eq.mpr c328
           clear c328
           replace H := Option.bind_eq_some_iff.mp H
           obtain ⟨t213, A3290, H⟩ := H
           replace H : ((decimal_Cmp.f a0_0 a0_1 a0_2 a1_0 a1_1 a1_2).bind fun t214 => (if t213 = t214 then ((remitterlaw01_wakes.f).bind fun t215 => (some t215)) else (some false))) = some true := H
           have A329 := Aside0.mk A3290
           clear A3290
           replace H := Option.bind_eq_some_iff.mp H
           obtain ⟨t214, A3300, H⟩ := H
           replace H : (if t213 = t214 then ((remitterlaw01_wakes.f).bind fun t215 => (some t215)) else (some false)) = some true := H
           have A330 := Aside0.mk A3300
           clear A3300
           by_cases c331 : t213 = t214
           ·rw [if_pos c331] at H
            have c331b0 : (t213 == t214) = true := beq_iff_eq.mpr c331
            have c331b1 : (t213 != t214) = false := bne_eq_false_iff_eq.mpr c331
            clear c331
            replace H := Option.bind_eq_some_iff.mp H
            obtain ⟨t215, A3320, H⟩ := H
            replace H : (some t215) = some true := H
            have A332 := Aside0.mk A3320
            clear A3320
            have hr := Option.some.inj H
            subst hr
            refine start_ (n := 19) (S := fun w' => w'.cell? ⟨gb207, 0, none⟩ = some (.bool t203) ∧ w'.cell? ⟨gb207, 1, none⟩ = some (.int .i64 t204) ∧ w'.cell? ⟨gb207, 2, none⟩ = some (.int .i64 t205) ∧ w'.cell? ⟨gb212, 0, none⟩ = some (.bool t208) ∧ w'.cell? ⟨gb212, 1, none⟩ = some (.int .i64 t209) ∧ w'.cell? ⟨gb212, 2, none⟩ = some (.int .i64 t210) ∧ w'.cell? ⟨gb150, 0, none⟩ = some (.bool a0_0) ∧ w'.cell? ⟨gb150, 1, none⟩ = some (.int .i64 a0_1) ∧ w'.cell? ⟨gb150, 2, none⟩ = some (.int .i64 a0_2) ∧ w'.cell? ⟨gb151, 0, none⟩ = some (.bool a1_0) ∧ w'.cell? ⟨gb151, 1, none⟩ = some (.int .i64 a1_1) ∧ w'.cell? ⟨gb151, 2, none⟩ = some (.int .i64 a1_2)) (ds := []) #[false, false, false, false, false, false, false, false, false, false, false, false, false, false, false, false, false, false, false] (by kernel_rfl) rfl rfl ⟨(blk_cell BK207.out 0).trans rfl, (blk_cell BK207.out 1).trans rfl, (blk_cell BK207.out 2).trans rfl, (blk_cell BK212.out 0).trans rfl, (blk_cell BK212.out 1).trans rfl, (blk_cell BK212.out 2).trans rfl, (blk_cell BK150.out 0).trans rfl, (blk_cell BK150.out 1).trans rfl, (blk_cell BK150.out 2).trans rfl, (blk_cell BK151.out 0).trans rfl, (blk_cell BK151.out 1).trans rfl, (blk_cell BK151.out 2).trans rfl⟩ (fun hHeld => ?_); refine with_tabW remitterlaw01_DecimalExact.tab19 remitterlaw01_DecimalExact.bits19 (fun HT_ HW_ => ?_)
            generalize w353.drew = w354 at BK150 BK151 BK152 BK207 BK212 HB hHeld ⊢
            refine pure_ (i := 0) (N := some 156) (v := ?_) (a' := ?_) #[true, false, false, false, false, false, false, false, false, false, false, false, false, false, false, false, false, false, false] rfl rfl (any_of HT_.out (by kernel_rfl)) (fun _ _ _ h => h) (Or.inl ⟨by rfl, ?_⟩) ?_ ?_
            rotate_left
            ·intro w'
             go_simp
             with_reducible rfl
            rotate_left
            ·simp only [Act.put, List.setIfInBounds_toArray, List.set_cons_zero, List.set_cons_succ, i64_w, i32_w]
             rfl
            refine pure_ (i := 1) (N := some 157) (v := ?_) (a' := ?_) #[true, true, false, false, false, false, false, false, false, false, false, false, false, false, false, false, false, false, false] rfl rfl (any_of HT_.out (by kernel_rfl)) (fun _ _ _ h => h) (Or.inl ⟨by rfl, ?_⟩) ?_ ?_
            rotate_left
            ·intro w'
             go_simp
             with_reducible rfl
            rotate_left
            ·simp only [Act.put, List.setIfInBounds_toArray, List.set_cons_zero, List.set_cons_succ, i64_w, i32_w]
             rfl
            refine pure_ (i := 2) (N := some 158) (v := ?_) (a' := ?_) #[true, true, true, false, false, false, false, false, false, false, false, false, false, false, false, false, false, false, false] rfl rfl (any_of HT_.out (by kernel_rfl)) (fun _ _ _ h => h) (Or.inl ⟨by rfl, ?_⟩) ?_ ?_
            rotate_left
            ·intro w'
             go_simp
             with_reducible rfl
            rotate_left
            ·simp only [Act.put, List.setIfInBounds_toArray, List.set_cons_zero, List.set_cons_succ, i64_w, i32_w]
             rfl
            refine pure_ (i := 3) (N := some 159) (v := ?_) (a' := ?_) #[true, true, true, true, false, false, false, false, false, false, false, false, false, false, false, false, false, false, false] rfl rfl (any_of HT_.out (by kernel_rfl)) (fun _ _ _ h => h) (Or.inl ⟨by rfl, ?_⟩) ?_ ?_
            rotate_left
            ·intro w'
             go_simp
             with_reducible rfl
            rotate_left
            ·simp only [Act.put, List.setIfInBounds_toArray, List.set_cons_zero, List.set_cons_succ, i64_w, i32_w]
             rfl
            refine pure_ (i := 4) (N := some 160) (v := ?_) (a' := ?_) #[true, true, true, true, true, false, false, false, false, false, false, false, false, false, false, false, false, false, false] rfl rfl (any_of HT_.out (by kernel_rfl)) (fun _ _ _ h => h) (Or.inl ⟨by rfl, ?_⟩) ?_ ?_
            rotate_left
            ·intro w'
             go_simp
             with_reducible rfl
            rotate_left
            ·simp only [Act.put, List.setIfInBounds_toArray, List.set_cons_zero, List.set_cons_succ, i64_w, i32_w]
             rfl
            refine pure_ (i := 5) (N := some 161) (v := ?_) (a' := ?_) #[true, true, true, true, true, true, false, false, false, false, false, false, false, false, false, false, false, false, false] rfl rfl (any_of HT_.out (by kernel_rfl)) (fun _ _ _ h => h) (Or.inl ⟨by rfl, ?_⟩) ?_ ?_
            rotate_left
            ·intro w'
             go_simp
             with_reducible rfl
            rotate_left
            ·simp only [Act.put, List.setIfInBounds_toArray, List.set_cons_zero, List.set_cons_succ, i64_w, i32_w]
             rfl
            refine pure_ (i := 6) (N := some 162) (v := ?_) (a' := ?_) #[true, true, true, true, true, true, true, false, false, false, false, false, false, false, false, false, false, false, false] rfl rfl (any_of HT_.out (by kernel_rfl)) (fun _ _ _ h => h) (Or.inl ⟨by rfl, ?_⟩) ?_ ?_
            rotate_left
            ·intro w'
             go_simp
             with_reducible rfl
            rotate_left
            ·simp only [Act.put, List.setIfInBounds_toArray, List.set_cons_zero, List.set_cons_succ, i64_w, i32_w]
             rfl
            refine take_ (i := 7) (N := some 163) (v := ?_) (a' := ?_) #[true, true, true, true, true, true, true, true, false, false, false, false, false, false, false, false, false, false, false] rfl rfl (take_ofW HT_.out HW_.out (by kernel_rfl)) (fun _ _ _ h => h) (Or.inl ⟨by rfl, ?_⟩) hHeld ?_ ?_
            rotate_left
            ·rintro w' ⟨s0, s1, s2, s3, s4, s5, s6, s7, s8, s9, s10, s11⟩
             go_simp
             with_reducible rfl
            rotate_left
            ·simp only [Act.put, List.setIfInBounds_toArray, List.set_cons_zero, List.set_cons_succ, i64_w, i32_w]
             rfl
            refine take_ (i := 8) (N := some 164) (v := ?_) (a' := ?_) #[true, true, true, true, true, true, true, true, true, false, false, false, false, false, false, false, false, false, false] rfl rfl (take_ofW HT_.out HW_.out (by kernel_rfl)) (fun _ _ _ h => h) (Or.inl ⟨by rfl, ?_⟩) hHeld ?_ ?_
            rotate_left
            ·rintro w' ⟨s0, s1, s2, s3, s4, s5, s6, s7, s8, s9, s10, s11⟩
             go_simp
             with_reducible rfl
            rotate_left
            ·simp only [Act.put, List.setIfInBounds_toArray, List.set_cons_zero, List.set_cons_succ, i64_w, i32_w]
             rfl
            refine take_ (i := 10) (N := some 166) (v := ?_) (a' := ?_) #[true, true, true, true, true, true, true, true, true, false, true, false, false, false, false, false, false, false, false] rfl rfl (take_ofW HT_.out HW_.out (by kernel_rfl)) (fun _ _ _ h => h) (Or.inl ⟨by rfl, ?_⟩) hHeld ?_ ?_
            rotate_left
            ·rintro w' ⟨s0, s1, s2, s3, s4, s5, s6, s7, s8, s9, s10, s11⟩
             go_simp
             with_reducible rfl
            rotate_left
            ·simp only [Act.put, List.setIfInBounds_toArray, List.set_cons_zero, List.set_cons_succ, i64_w, i32_w]
             rfl
            refine take_ (i := 11) (N := some 167) (v := ?_) (a' := ?_) #[true, true, true, true, true, true, true, true, true, false, true, true, false, false, false, false, false, false, false] rfl rfl (take_ofW HT_.out HW_.out (by kernel_rfl)) (fun _ _ _ h => h) (Or.inl ⟨by rfl, ?_⟩) hHeld ?_ ?_
            rotate_left
            ·rintro w' ⟨s0, s1, s2, s3, s4, s5, s6, s7, s8, s9, s10, s11⟩
             go_simp
             with_reducible rfl
            rotate_left
            ·simp only [Act.put, List.setIfInBounds_toArray, List.set_cons_zero, List.set_cons_succ, i64_w, i32_w]
             rfl
            refine one_ (i := 9) (N := some 165) #[true, true, true, true, true, true, true, true, true, true, true, true, false, false, false, false, false, false, false] rfl rfl (one_of HT_.out (by kernel_rfl)) (by decide) (fun K hK => ?_)
            refine goes_ Tryd.func28 (by kernel_rfl) rfl #[.agg #[.bool t203, .int .i64 t204, .int .i64 t205], .agg #[.bool t208, .int .i64 t209, .int .i64 t210]] (by rfl) rfl rfl (by (try simp only [List.map_toArray, List.map_cons, List.map_nil]); first | done | rfl | (simp only [List.length_drop, List.length_take]; rfl)) ?_
            with_reducible refine (decimal_Cmp.calls t203 t204 t205 t208 t209 t210 t213 _ A329.out).mono ?_
            rintro e w355 ⟨rfl, hb⟩
            refine ⟨_, rfl, ?_⟩
            have n0_ := Aside0.mk (blk_b hb BK150.out)
            have n1_ := Aside0.mk (blk_b hb BK151.out)
            have n2_ := Aside0.mk (blk_b hb BK152.out)
            have n3_ := Aside0.mk (blk_b hb BK207.out)
            have n4_ := Aside0.mk (blk_b hb BK212.out)
            have n5_ := Aside0.mk (below_step (by repeat (first | (with_reducible first | exact HB.out | apply below_alloc | apply pw_below_drewN | apply below_drew1 | refine below_set ?_ GE207.out | refine below_set ?_ GE212.out) | exact HB.out)) hb)
            clear BK150
            clear BK151
            clear BK152
            clear BK207
            clear BK212
            clear HB
            have BK150 := n0_
            have BK151 := n1_
            have BK152 := n2_
            have BK207 := n3_
            have BK212 := n4_
            have HB := n5_
            clear n0_ n1_ n2_ n3_ n4_ n5_
            (try clear hb)
            (try clear hb2)
            (try clear hk)
            (try clear hi)
            refine hK.out _ _ ⟨(blk_cell BK207.out 0).trans rfl, (blk_cell BK207.out 1).trans rfl, (blk_cell BK207.out 2).trans rfl, (blk_cell BK212.out 0).trans rfl, (blk_cell BK212.out 1).trans rfl, (blk_cell BK212.out 2).trans rfl, (blk_cell BK150.out 0).trans rfl, (blk_cell BK150.out 1).trans rfl, (blk_cell BK150.out 2).trans rfl, (blk_cell BK151.out 0).trans rfl, (blk_cell BK151.out 1).trans rfl, (blk_cell BK151.out 2).trans rfl⟩ (fun hHeld => ?_)
            clear hK K
            refine norm_ (a' := ?_) ?_ ?_
            rotate_left
            ·show Act.put _ (some 165) _ = _
             simp only [Act.put, List.setIfInBounds_toArray, List.set_cons_zero, List.set_cons_succ, i64_w, i32_w]
             rfl
            refine one_ (i := 12) (N := some 168) #[true, true, true, true, true, true, true, true, true, true, true, true, true, false, false, false, false, false, false] rfl rfl (one_of HT_.out (by kernel_rfl)) (by decide) (fun K hK => ?_)
            refine goes_ Tryd.func28 (by kernel_rfl) rfl #[.agg #[.bool a0_0, .int .i64 a0_1, .int .i64 a0_2], .agg #[.bool a1_0, .int .i64 a1_1, .int .i64 a1_2]] (by rfl) rfl rfl (by (try simp only [List.map_toArray, List.map_cons, List.map_nil]); first | done | rfl | (simp only [List.length_drop, List.length_take]; rfl)) ?_
            with_reducible refine (decimal_Cmp.calls a0_0 a0_1 a0_2 a1_0 a1_1 a1_2 t214 _ A330.out).mono ?_
            rintro e w356 ⟨rfl, hb⟩
            refine ⟨_, rfl, ?_⟩
            have n0_ := Aside0.mk (blk_b hb BK150.out)
            have n1_ := Aside0.mk (blk_b hb BK151.out)
            have n2_ := Aside0.mk (blk_b hb BK152.out)
            have n3_ := Aside0.mk (blk_b hb BK207.out)
            have n4_ := Aside0.mk (blk_b hb BK212.out)
            have n5_ := Aside0.mk (below_step (by repeat (first | (with_reducible first | exact HB.out | apply below_alloc | apply pw_below_drewN | apply below_drew1 | refine below_set ?_ GE207.out | refine below_set ?_ GE212.out) | exact HB.out)) hb)
            clear BK150
            clear BK151
            clear BK152
            clear BK207
            clear BK212
            clear HB
            have BK150 := n0_
            have BK151 := n1_
            have BK152 := n2_
            have BK207 := n3_
            have BK212 := n4_
            have HB := n5_
            clear n0_ n1_ n2_ n3_ n4_ n5_
            (try clear hb)
            (try clear hb2)
            (try clear hk)
            (try clear hi)
            refine hK.out _ _ ⟨(blk_cell BK207.out 0).trans rfl, (blk_cell BK207.out 1).trans rfl, (blk_cell BK207.out 2).trans rfl, (blk_cell BK212.out 0).trans rfl, (blk_cell BK212.out 1).trans rfl, (blk_cell BK212.out 2).trans rfl, (blk_cell BK150.out 0).trans rfl, (blk_cell BK150.out 1).trans rfl, (blk_cell BK150.out 2).trans rfl, (blk_cell BK151.out 0).trans rfl, (blk_cell BK151.out 1).trans rfl, (blk_cell BK151.out 2).trans rfl⟩ (fun hHeld => ?_)
            clear hK K
            refine norm_ (a' := ?_) ?_ ?_
            rotate_left
            ·show Act.put _ (some 168) _ = _
             simp only [Act.put, List.setIfInBounds_toArray, List.set_cons_zero, List.set_cons_succ, i64_w, i32_w]
             rfl
            refine pure_ (i := 13) (N := some 169) (v := ?_) (a' := ?_) #[true, true, true, true, true, true, true, true, true, true, true, true, true, true, false, false, false, false, false] rfl rfl (any_of HT_.out (by kernel_rfl)) (fun _ _ _ h => h) (Or.inl ⟨by rfl, ?_⟩) ?_ ?_
            rotate_left
            ·intro w'
             go_simp
             with_reducible rfl
            rotate_left
            ·simp only [Act.put, List.setIfInBounds_toArray, List.set_cons_zero, List.set_cons_succ, i64_w, i32_w]
             rfl
            refine pure_ (i := 14) (N := some 170) (v := ?_) (a' := ?_) #[true, true, true, true, true, true, true, true, true, true, true, true, true, true, true, false, false, false, false] rfl rfl (any_of HT_.out (by kernel_rfl)) (fun _ _ _ h => h) (Or.inl ⟨by rfl, ?_⟩) ?_ ?_
            rotate_left
            ·intro w'
             go_simp
             with_reducible rfl
            rotate_left
            ·simp only [Act.put, List.setIfInBounds_toArray, List.set_cons_zero, List.set_cons_succ, i64_w, i32_w]
             rfl
            refine pure_ (i := 15) (N := some 171) (v := ?_) (a' := ?_) #[true, true, true, true, true, true, true, true, true, true, true, true, true, true, true, true, false, false, false] rfl rfl (any_of HT_.out (by kernel_rfl)) (fun _ _ _ h => h) (Or.inl ⟨by rfl, ?_⟩) ?_ ?_
            rotate_left
            ·intro w'
             go_simp
             with_reducible rfl
            rotate_left
            ·simp only [Act.put, List.setIfInBounds_toArray, List.set_cons_zero, List.set_cons_succ, i64_w, i32_w]
             rfl
            refine one_ (i := 16) (N := some 172) #[true, true, true, true, true, true, true, true, true, true, true, true, true, true, true, true, true, false, false] rfl rfl (one_of HT_.out (by kernel_rfl)) (by decide) (fun K hK => ?_)
            refine goes_ Tryd.func13 (by kernel_rfl) rfl #[] (by rfl) rfl rfl (by (try simp only [List.map_toArray, List.map_cons, List.map_nil]); first | done | rfl | (simp only [List.length_drop, List.length_take]; rfl)) ?_
            with_reducible refine (remitterlaw01_wakes.calls  true _ A332.out (GW_below HG.out (by repeat (first | (with_reducible first | exact HB.out | apply below_alloc | apply pw_below_drewN | apply below_drew1 | apply below_set | exact Aside0.out (by assumption)) | exact HB.out | exact Aside0.out (by assumption)))) (GWP_below HGP.out (by repeat (first | (with_reducible first | exact HB.out | apply below_alloc | apply pw_below_drewN | apply below_drew1 | apply below_set | exact Aside0.out (by assumption)) | exact HB.out | exact Aside0.out (by assumption))))).mono ?_
            rintro e w357 ⟨rfl, hb⟩
            refine ⟨_, rfl, ?_⟩
            have n0_ := Aside0.mk (blk_b hb BK150.out)
            have n1_ := Aside0.mk (blk_b hb BK151.out)
            have n2_ := Aside0.mk (blk_b hb BK152.out)
            have n3_ := Aside0.mk (blk_b hb BK207.out)
            have n4_ := Aside0.mk (blk_b hb BK212.out)
            have n5_ := Aside0.mk (below_step (by repeat (first | (with_reducible first | exact HB.out | apply below_alloc | apply pw_below_drewN | apply below_drew1 | refine below_set ?_ GE207.out | refine below_set ?_ GE212.out) | exact HB.out)) hb)
            clear BK150
            clear BK151
            clear BK152
            clear BK207
            clear BK212
            clear HB
            have BK150 := n0_
            have BK151 := n1_
            have BK152 := n2_
            have BK207 := n3_
            have BK212 := n4_
            have HB := n5_
            clear n0_ n1_ n2_ n3_ n4_ n5_
            (try clear hb)
            (try clear hb2)
            (try clear hk)
            (try clear hi)
            refine hK.out _ _ ⟨(blk_cell BK207.out 0).trans rfl, (blk_cell BK207.out 1).trans rfl, (blk_cell BK207.out 2).trans rfl, (blk_cell BK212.out 0).trans rfl, (blk_cell BK212.out 1).trans rfl, (blk_cell BK212.out 2).trans rfl, (blk_cell BK150.out 0).trans rfl, (blk_cell BK150.out 1).trans rfl, (blk_cell BK150.out 2).trans rfl, (blk_cell BK151.out 0).trans rfl, (blk_cell BK151.out 1).trans rfl, (blk_cell BK151.out 2).trans rfl⟩ (fun hHeld => ?_)
            clear hK K
            refine norm_ (a' := ?_) ?_ ?_
            rotate_left
            ·show Act.put _ (some 172) _ = _
             simp only [Act.put, List.setIfInBounds_toArray, List.set_cons_zero, List.set_cons_succ, i64_w, i32_w]
             rfl
            refine pure_ (i := 17) (N := some 173) (v := ?_) (a' := ?_) #[true, true, true, true, true, true, true, true, true, true, true, true, true, true, true, true, true, true, false] rfl rfl (any_of HT_.out (by kernel_rfl)) (fun _ _ _ h => h) (Or.inl ⟨by rfl, ?_⟩) ?_ ?_
            rotate_left
            ·intro w'
             go_simp
             with_reducible rfl
            rotate_left
            ·simp only [Act.put, List.setIfInBounds_toArray, List.set_cons_zero, List.set_cons_succ, i64_w, i32_w]
             rfl
            refine pure_ (i := 18) (N := some 6) (v := ?_) (a' := ?_) #[true, true, true, true, true, true, true, true, true, true, true, true, true, true, true, true, true, true, true] rfl rfl (any_of HT_.out (by kernel_rfl)) (fun _ _ _ h => h) (Or.inl ⟨by rfl, ?_⟩) ?_ ?_
            rotate_left
            ·intro w'
             go_simp
             with_reducible rfl
            rotate_left
            ·simp only [Act.put, List.setIfInBounds_toArray, List.set_cons_zero, List.set_cons_succ, i64_w, i32_w]
             rfl
            refine done_ (done_of HT_.out (by kernel_rfl)) ?_
            try go_wp2
            all_goals (first | (exfalso; simp_all; done) | (exfalso; omega) | (go_ret; exact ⟨by first | rfl | (simp [errW_none, errW_some] <;> rfl) | (simp [*, errW_none, errW_some] <;> rfl), by repeat (first | (with_reducible first | exact HB.out | apply below_alloc | apply pw_below_drewN | apply below_drew1 | refine below_set ?_ GE207.out | refine below_set ?_ GE212.out) | exact HB.out)⟩))
           ·rw [if_neg c331] at H
            have c331b0 : (t213 == t214) = false := beq_eq_false_iff_ne.mpr c331
            have c331b1 : (t213 != t214) = true := bne_iff_ne.mpr c331
            cases H
          ·rw [if_neg c328] at H
           have c328b0 : (t211 == 0) = false := beq_eq_false_iff_ne.mpr c328
           have c328b1 : (t211 != 0) = true := bne_iff_ne.mpr c328
           replace H := Option.bind_eq_some_iff.mp H
           obtain ⟨t216, A3820, H⟩ := H
           replace H : (some t216) = some true := H
           have A382 := Aside0.mk A3820
           clear A3820
           have hr := Option.some.inj H
           subst hr
           refine start_ (n := 19) (S := fun w' => True) (ds := []) #[false, false, false, false, false, false, false, false, false, false, false, false, false, false, false, false, false, false, false] (by kernel_rfl) rfl rfl trivial (fun hHeld => ?_); refine with_tabW remitterlaw01_DecimalExact.tab19 remitterlaw01_DecimalExact.bits19 (fun HT_ HW_ => ?_)
           generalize w353.drew = w404 at BK150 BK151 BK152 BK207 BK212 HB hHeld ⊢
           refine pure_ (i := 0) (N := some 156) (v := ?_) (a' := ?_) #[true, false, false, false, false, false, false, false, false, false, false, false, false, false, false, false, false, false, false] rfl rfl (any_of HT_.out (by kernel_rfl)) (fun _ _ _ h => h) (Or.inl ⟨by rfl, ?_⟩) ?_ ?_
           rotate_left
           ·intro w'
            go_simp
            with_reducible rfl
           rotate_left
           ·simp only [Act.put, List.setIfInBounds_toArray, List.set_cons_zero, List.set_cons_succ, i64_w, i32_w]
            rfl
           refine pure_ (i := 1) (N := some 157) (v := ?_) (a' := ?_) #[true, true, false, false, false, false, false, false, false, false, false, false, false, false, false, false, false, false, false] rfl rfl (any_of HT_.out (by kernel_rfl)) (fun _ _ _ h => h) (Or.inl ⟨by rfl, ?_⟩) ?_ ?_
           rotate_left
           ·intro w'
            go_simp
            with_reducible rfl
           rotate_left
           ·simp only [Act.put, List.setIfInBounds_toArray, List.set_cons_zero, List.set_cons_succ, i64_w, i32_w]
            rfl
           refine pure_ (i := 2) (N := some 158) (v := ?_) (a' := ?_) #[true, true, true, false, false, false, false, false, false, false, false, false, false, false, false, false, false, false, false] rfl rfl (any_of HT_.out (by kernel_rfl)) (fun _ _ _ h => h) (Or.inl ⟨by rfl, ?_⟩) ?_ ?_
           rotate_left
           ·intro w'
            go_simp
            with_reducible rfl
           rotate_left
           ·simp only [Act.put, List.setIfInBounds_toArray, List.set_cons_zero, List.set_cons_succ, i64_w, i32_w]
            rfl
           refine pure_ (i := 3) (N := some 159) (v := ?_) (a' := ?_) #[true, true, true, true, false, false, false, false, false, false, false, false, false, false, false, false, false, false, false] rfl rfl (any_of HT_.out (by kernel_rfl)) (fun _ _ _ h => h) (Or.inl ⟨by rfl, ?_⟩) ?_ ?_
           rotate_left
           ·intro w'
            go_simp
            with_reducible rfl
           rotate_left
           ·simp only [Act.put, List.setIfInBounds_toArray, List.set_cons_zero, List.set_cons_succ, i64_w, i32_w]
            rfl
           refine pure_ (i := 4) (N := some 160) (v := ?_) (a' := ?_) #[true, true, true, true, true, false, false, false, false, false, false, false, false, false, false, false, false, false, false] rfl rfl (any_of HT_.out (by kernel_rfl)) (fun _ _ _ h => h) (Or.inl ⟨by rfl, ?_⟩) ?_ ?_
           rotate_left
           ·intro w'
            go_simp
            with_reducible rfl
           rotate_left
           ·simp only [Act.put, List.setIfInBounds_toArray, List.set_cons_zero, List.set_cons_succ, i64_w, i32_w]
            rfl
           refine pure_ (i := 5) (N := some 161) (v := ?_) (a' := ?_) #[true, true, true, true, true, true, false, false, false, false, false, false, false, false, false, false, false, false, false] rfl rfl (any_of HT_.out (by kernel_rfl)) (fun _ _ _ h => h) (Or.inl ⟨by rfl, ?_⟩) ?_ ?_
           rotate_left
           ·intro w'
            go_simp
            with_reducible rfl
           rotate_left
           ·simp only [Act.put, List.setIfInBounds_toArray, List.set_cons_zero, List.set_cons_succ, i64_w, i32_w]
            rfl
           refine pure_ (i := 6) (N := some 162) (v := ?_) (a' := ?_) #[true, true, true, true, true, true, true, false, false, false, false, false, false, false, false, false, false, false, false] rfl rfl (any_of HT_.out (by kernel_rfl)) (fun _ _ _ h => h) (Or.inl ⟨by rfl, ?_⟩) ?_ ?_
           rotate_left
           ·intro w'
            go_simp
            with_reducible rfl
           rotate_left
           ·simp only [Act.put, List.setIfInBounds_toArray, List.set_cons_zero, List.set_cons_succ, i64_w, i32_w]
            rfl
           refine pure_ (i := 7) (N := some 163) (v := undef) (a' := ?_) #[true, true, true, true, true, true, true, true, false, false, false, false, false, false, false, false, false, false, false] rfl rfl (any_of HT_.out (by kernel_rfl)) (fun _ _ _ h => h) (Or.inr ⟨by rfl, rfl⟩) ?_ ?_
           rotate_left
           ·simp only [Act.put, List.setIfInBounds_toArray, List.set_cons_zero, List.set_cons_succ, i64_w, i32_w]
            rfl
           refine pure_ (i := 8) (N := some 164) (v := undef) (a' := ?_) #[true, true, true, true, true, true, true, true, true, false, false, false, false, false, false, false, false, false, false] rfl rfl (any_of HT_.out (by kernel_rfl)) (fun _ _ _ h => h) (Or.inr ⟨by rfl, rfl⟩) ?_ ?_
           rotate_left
           ·simp only [Act.put, List.setIfInBounds_toArray, List.set_cons_zero, List.set_cons_succ, i64_w, i32_w]
            rfl
           refine pure_ (i := 9) (N := some 165) (v := undef) (a' := ?_) #[true, true, true, true, true, true, true, true, true, true, false, false, false, false, false, false, false, false, false] rfl rfl (any_of HT_.out (by kernel_rfl)) (fun _ _ _ h => h) (Or.inr ⟨by rfl, rfl⟩) ?_ ?_
           rotate_left
           ·simp only [Act.put, List.setIfInBounds_toArray, List.set_cons_zero, List.set_cons_succ, i64_w, i32_w]
            rfl
           refine pure_ (i := 10) (N := some 166) (v := undef) (a' := ?_) #[true, true, true, true, true, true, true, true, true, true, true, false, false, false, false, false, false, false, false] rfl rfl (any_of HT_.out (by kernel_rfl)) (fun _ _ _ h => h) (Or.inr ⟨by rfl, rfl⟩) ?_ ?_
           rotate_left
           ·simp only [Act.put, List.setIfInBounds_toArray, List.set_cons_zero, List.set_cons_succ, i64_w, i32_w]
            rfl
           refine pure_ (i := 11) (N := some 167) (v := undef) (a' := ?_) #[true, true, true, true, true, true, true, true, true, true, true, true, false, false, false, false, false, false, false] rfl rfl (any_of HT_.out (by kernel_rfl)) (fun _ _ _ h => h) (Or.inr ⟨by rfl, rfl⟩) ?_ ?_
           rotate_left
           ·simp only [Act.put, List.setIfInBounds_toArray, List.set_cons_zero, List.set_cons_succ, i64_w, i32_w]
            rfl
           refine pure_ (i := 12) (N := some 168) (v := undef) (a' := ?_) #[true, true, true, true, true, true, true, true, true, true, true, true, true, false, false, false, false, false, false] rfl rfl (any_of HT_.out (by kernel_rfl)) (fun _ _ _ h => h) (Or.inr ⟨by rfl, rfl⟩) ?_ ?_
           rotate_left
           ·simp only [Act.put, List.setIfInBounds_toArray, List.set_cons_zero, List.set_cons_succ, i64_w, i32_w]
            rfl
           refine pure_ (i := 13) (N := some 169) (v := undef) (a' := ?_) #[true, true, true, true, true, true, true, true, true, true, true, true, true, true, false, false, false, false, false] rfl rfl (any_of HT_.out (by kernel_rfl)) (fun _ _ _ h => h) (Or.inr ⟨by rfl, rfl⟩) ?_ ?_
           rotate_left
           ·simp only [Act.put, List.setIfInBounds_toArray, List.set_cons_zero, List.set_cons_succ, i64_w, i32_w]
            rfl
           refine pure_ (i := 14) (N := some 170) (v := ?_) (a' := ?_) #[true, true, true, true, true, true, true, true, true, true, true, true, true, true, true, false, false, false, false] rfl rfl (any_of HT_.out (by kernel_rfl)) (fun _ _ _ h => h) (Or.inl ⟨by rfl, ?_⟩) ?_ ?_
           rotate_left
           ·intro w'
            go_simp
            with_reducible rfl
           rotate_left
           ·simp only [Act.put, List.setIfInBounds_toArray, List.set_cons_zero, List.set_cons_succ, i64_w, i32_w]
            rfl
           refine pure_ (i := 15) (N := some 171) (v := ?_) (a' := ?_) #[true, true, true, true, true, true, true, true, true, true, true, true, true, true, true, true, false, false, false] rfl rfl (any_of HT_.out (by kernel_rfl)) (fun _ _ _ h => h) (Or.inl ⟨by rfl, ?_⟩) ?_ ?_
           rotate_left
           ·intro w'
            go_simp
            with_reducible rfl
           rotate_left
           ·simp only [Act.put, List.setIfInBounds_toArray, List.set_cons_zero, List.set_cons_succ, i64_w, i32_w]
            rfl
           refine one_ (i := 16) (N := some 172) #[true, true, true, true, true, true, true, true, true, true, true, true, true, true, true, true, true, false, false] rfl rfl (one_of HT_.out (by kernel_rfl)) (by decide) (fun K hK => ?_)
           refine goes_ Tryd.func13 (by kernel_rfl) rfl #[] (by rfl) rfl rfl (by (try simp only [List.map_toArray, List.map_cons, List.map_nil]); first | done | rfl | (simp only [List.length_drop, List.length_take]; rfl)) ?_
           with_reducible refine (remitterlaw01_wakes.calls  true _ A382.out (GW_below HG.out (by repeat (first | (with_reducible first | exact HB.out | apply below_alloc | apply pw_below_drewN | apply below_drew1 | apply below_set | exact Aside0.out (by assumption)) | exact HB.out | exact Aside0.out (by assumption)))) (GWP_below HGP.out (by repeat (first | (with_reducible first | exact HB.out | apply below_alloc | apply pw_below_drewN | apply below_drew1 | apply below_set | exact Aside0.out (by assumption)) | exact HB.out | exact Aside0.out (by assumption))))).mono ?_
           rintro e w405 ⟨rfl, hb⟩
           refine ⟨_, rfl, ?_⟩
           have n0_ := Aside0.mk (blk_b hb BK150.out)
           have n1_ := Aside0.mk (blk_b hb BK151.out)
           have n2_ := Aside0.mk (blk_b hb BK152.out)
           have n3_ := Aside0.mk (blk_b hb BK207.out)
           have n4_ := Aside0.mk (blk_b hb BK212.out)
           have n5_ := Aside0.mk (below_step (by repeat (first | (with_reducible first | exact HB.out | apply below_alloc | apply pw_below_drewN | apply below_drew1 | refine below_set ?_ GE207.out | refine below_set ?_ GE212.out) | exact HB.out)) hb)
           clear BK150
           clear BK151
           clear BK152
           clear BK207
           clear BK212
           clear HB
           have BK150 := n0_
           have BK151 := n1_
           have BK152 := n2_
           have BK207 := n3_
           have BK212 := n4_
           have HB := n5_
           clear n0_ n1_ n2_ n3_ n4_ n5_
           (try clear hb)
           (try clear hb2)
           (try clear hk)
           (try clear hi)
           refine hK.out _ _ trivial (fun hHeld => ?_)
           clear hK K
           refine norm_ (a' := ?_) ?_ ?_
           rotate_left
           ·show Act.put _ (some 172) _ = _
            simp only [Act.put, List.setIfInBounds_toArray, List.set_cons_zero, List.set_cons_succ, i64_w, i32_w]
            rfl
           refine pure_ (i := 17) (N := some 173) (v := ?_) (a' := ?_) #[true, true, true, true, true, true, true, true, true, true, true, true, true, true, true, true, true, true, false] rfl rfl (any_of HT_.out (by kernel_rfl)) (fun _ _ _ h => h) (Or.inl ⟨by rfl, ?_⟩) ?_ ?_
           rotate_left
           ·intro w'
            go_simp
            with_reducible rfl
           rotate_left
           ·simp only [Act.put, List.setIfInBounds_toArray, List.set_cons_zero, List.set_cons_succ, i64_w, i32_w]
            rfl
           refine pure_ (i := 18) (N := some 6) (v := ?_) (a' := ?_) #[true, true, true, true, true, true, true, true, true, true, true, true, true, true, true, true, true, true, true] rfl rfl (any_of HT_.out (by kernel_rfl)) (fun _ _ _ h => h) (Or.inl ⟨by rfl, ?_⟩) ?_ ?_
           rotate_left
           ·intro w'
            go_simp
            with_reducible rfl
           rotate_left
           ·simp only [Act.put, List.setIfInBounds_toArray, List.set_cons_zero, List.set_cons_succ, i64_w, i32_w]
            rfl
           refine done_ (done_of HT_.out (by kernel_rfl)) ?_
           try go_wp2
           all_goals (first | (exfalso; simp_all; done) | (exfalso; omega) | (go_ret; exact ⟨by first | rfl | (simp [errW_none, errW_some] <;> rfl) | (simp [*, errW_none, errW_some] <;> rfl), by repeat (first | (with_reducible first | exact HB.out | apply below_alloc | apply pw_below_drewN | apply below_drew1 | refine below_set ?_ GE207.out | refine below_set ?_ GE212.out) | exact HB.out)⟩))
         ·rw [if_neg c327] at H
          have c327b0 : (t206 == 0) = false := beq_eq_false_iff_ne.mpr c327
          have c327b1 : (t206 != 0) = true := bne_iff_ne.mpr c327
          replace H := Option.bind_eq_some_iff.mp H
          obtain ⟨t217, A4060, H⟩ := H
          replace H : (some t217) = some true := H
          have A406 := Aside0.mk A4060
          clear A4060
          have hr := Option.some.inj H
          subst hr
          refine start_ (n := 19) (S := fun w' => True) (ds := []) #[false, false, false, false, false, false, false, false, false, false, false, false, false, false, false, false, false, false, false] (by kernel_rfl) rfl rfl trivial (fun hHeld => ?_); refine with_tabW remitterlaw01_DecimalExact.tab19 remitterlaw01_DecimalExact.bits19 (fun HT_ HW_ => ?_)
          generalize w353.drew = w428 at BK150 BK151 BK152 BK207 BK212 HB hHeld ⊢
          refine pure_ (i := 0) (N := some 156) (v := ?_) (a' := ?_) #[true, false, false, false, false, false, false, false, false, false, false, false, false, false, false, false, false, false, false] rfl rfl (any_of HT_.out (by kernel_rfl)) (fun _ _ _ h => h) (Or.inl ⟨by rfl, ?_⟩) ?_ ?_
          rotate_left
          ·intro w'
           go_simp
           with_reducible rfl
          rotate_left
          ·simp only [Act.put, List.setIfInBounds_toArray, List.set_cons_zero, List.set_cons_succ, i64_w, i32_w]
           rfl
          refine pure_ (i := 1) (N := some 157) (v := ?_) (a' := ?_) #[true, true, false, false, false, false, false, false, false, false, false, false, false, false, false, false, false, false, false] rfl rfl (any_of HT_.out (by kernel_rfl)) (fun _ _ _ h => h) (Or.inl ⟨by rfl, ?_⟩) ?_ ?_
          rotate_left
          ·intro w'
           go_simp
           with_reducible rfl
          rotate_left
          ·simp only [Act.put, List.setIfInBounds_toArray, List.set_cons_zero, List.set_cons_succ, i64_w, i32_w]
           rfl
          refine pure_ (i := 2) (N := some 158) (v := ?_) (a' := ?_) #[true, true, true, false, false, false, false, false, false, false, false, false, false, false, false, false, false, false, false] rfl rfl (any_of HT_.out (by kernel_rfl)) (fun _ _ _ h => h) (Or.inl ⟨by rfl, ?_⟩) ?_ ?_
          rotate_left
          ·intro w'
           go_simp
           with_reducible rfl
          rotate_left
          ·simp only [Act.put, List.setIfInBounds_toArray, List.set_cons_zero, List.set_cons_succ, i64_w, i32_w]
           rfl
          refine pure_ (i := 3) (N := some 159) (v := undef) (a' := ?_) #[true, true, true, true, false, false, false, false, false, false, false, false, false, false, false, false, false, false, false] rfl rfl (any_of HT_.out (by kernel_rfl)) (fun _ _ _ h => h) (Or.inr ⟨by rfl, rfl⟩) ?_ ?_
          rotate_left
          ·simp only [Act.put, List.setIfInBounds_toArray, List.set_cons_zero, List.set_cons_succ, i64_w, i32_w]
           rfl
          refine pure_ (i := 4) (N := some 160) (v := undef) (a' := ?_) #[true, true, true, true, true, false, false, false, false, false, false, false, false, false, false, false, false, false, false] rfl rfl (any_of HT_.out (by kernel_rfl)) (fun _ _ _ h => h) (Or.inr ⟨by rfl, rfl⟩) ?_ ?_
          rotate_left
          ·simp only [Act.put, List.setIfInBounds_toArray, List.set_cons_zero, List.set_cons_succ, i64_w, i32_w]
           rfl
          refine pure_ (i := 5) (N := some 161) (v := ?_) (a' := ?_) #[true, true, true, true, true, true, false, false, false, false, false, false, false, false, false, false, false, false, false] rfl rfl (any_of HT_.out (by kernel_rfl)) (fun _ _ _ h => h) (Or.inl ⟨by rfl, ?_⟩) ?_ ?_
          rotate_left
          ·intro w'
           go_simp
           with_reducible rfl
          rotate_left
          ·simp only [Act.put, List.setIfInBounds_toArray, List.set_cons_zero, List.set_cons_succ, i64_w, i32_w]
           rfl
          refine pure_ (i := 6) (N := some 162) (v := ?_) (a' := ?_) #[true, true, true, true, true, true, true, false, false, false, false, false, false, false, false, false, false, false, false] rfl rfl (any_of HT_.out (by kernel_rfl)) (fun _ _ _ h => h) (Or.inl ⟨by rfl, ?_⟩) ?_ ?_
          rotate_left
          ·intro w'
           go_simp
           with_reducible rfl
          rotate_left
          ·simp only [Act.put, List.setIfInBounds_toArray, List.set_cons_zero, List.set_cons_succ, i64_w, i32_w]
           rfl
          refine pure_ (i := 7) (N := some 163) (v := undef) (a' := ?_) #[true, true, true, true, true, true, true, true, false, false, false, false, false, false, false, false, false, false, false] rfl rfl (any_of HT_.out (by kernel_rfl)) (fun _ _ _ h => h) (Or.inr ⟨by rfl, rfl⟩) ?_ ?_
          rotate_left
          ·simp only [Act.put, List.setIfInBounds_toArray, List.set_cons_zero, List.set_cons_succ, i64_w, i32_w]
           rfl
          refine pure_ (i := 8) (N := some 164) (v := undef) (a' := ?_) #[true, true, true, true, true, true, true, true, true, false, false, false, false, false, false, false, false, false, false] rfl rfl (any_of HT_.out (by kernel_rfl)) (fun _ _ _ h => h) (Or.inr ⟨by rfl, rfl⟩) ?_ ?_
          rotate_left
          ·simp only [Act.put, List.setIfInBounds_toArray, List.set_cons_zero, List.set_cons_succ, i64_w, i32_w]
           rfl
          refine pure_ (i := 9) (N := some 165) (v := undef) (a' := ?_) #[true, true, true, true, true, true, true, true, true, true, false, false, false, false, false, false, false, false, false] rfl rfl (any_of HT_.out (by kernel_rfl)) (fun _ _ _ h => h) (Or.inr ⟨by rfl, rfl⟩) ?_ ?_
          rotate_left
          ·simp only [Act.put, List.setIfInBounds_toArray, List.set_cons_zero, List.set_cons_succ, i64_w, i32_w]
           rfl
          refine pure_ (i := 10) (N := some 166) (v := undef) (a' := ?_) #[true, true, true, true, true, true, true, true, true, true, true, false, false, false, false, false, false, false, false] rfl rfl (any_of HT_.out (by kernel_rfl)) (fun _ _ _ h => h) (Or.inr ⟨by rfl, rfl⟩) ?_ ?_
          rotate_left
          ·simp only [Act.put, List.setIfInBounds_toArray, List.set_cons_zero, List.set_cons_succ, i64_w, i32_w]
           rfl
          refine pure_ (i := 11) (N := some 167) (v := undef) (a' := ?_) #[true, true, true, true, true, true, true, true, true, true, true, true, false, false, false, false, false, false, false] rfl rfl (any_of HT_.out (by kernel_rfl)) (fun _ _ _ h => h) (Or.inr ⟨by rfl, rfl⟩) ?_ ?_
          rotate_left
          ·simp only [Act.put, List.setIfInBounds_toArray, List.set_cons_zero, List.set_cons_succ, i64_w, i32_w]
           rfl
          refine pure_ (i := 12) (N := some 168) (v := undef) (a' := ?_) #[true, true, true, true, true, true, true, true, true, true, true, true, true, false, false, false, false, false, false] rfl rfl (any_of HT_.out (by kernel_rfl)) (fun _ _ _ h => h) (Or.inr ⟨by rfl, rfl⟩) ?_ ?_
          rotate_left
          ·simp only [Act.put, List.setIfInBounds_toArray, List.set_cons_zero, List.set_cons_succ, i64_w, i32_w]
           rfl
          refine pure_ (i := 13) (N := some 169) (v := undef) (a' := ?_) #[true, true, true, true, true, true, true, true, true, true, true, true, true, true, false, false, false, false, false] rfl rfl (any_of HT_.out (by kernel_rfl)) (fun _ _ _ h => h) (Or.inr ⟨by rfl, rfl⟩) ?_ ?_
          rotate_left
          ·simp only [Act.put, List.setIfInBounds_toArray, List.set_cons_zero, List.set_cons_succ, i64_w, i32_w]
           rfl
          refine pure_ (i := 14) (N := some 170) (v := ?_) (a' := ?_) #[true, true, true, true, true, true, true, true, true, true, true, true, true, true, true, false, false, false, false] rfl rfl (any_of HT_.out (by kernel_rfl)) (fun _ _ _ h => h) (Or.inl ⟨by rfl, ?_⟩) ?_ ?_
          rotate_left
          ·intro w'
           go_simp
           with_reducible rfl
          rotate_left
          ·simp only [Act.put, List.setIfInBounds_toArray, List.set_cons_zero, List.set_cons_succ, i64_w, i32_w]
           rfl
          refine pure_ (i := 15) (N := some 171) (v := ?_) (a' := ?_) #[true, true, true, true, true, true, true, true, true, true, true, true, true, true, true, true, false, false, false] rfl rfl (any_of HT_.out (by kernel_rfl)) (fun _ _ _ h => h) (Or.inl ⟨by rfl, ?_⟩) ?_ ?_
          rotate_left
          ·intro w'
           go_simp
           with_reducible rfl
          rotate_left
          ·simp only [Act.put, List.setIfInBounds_toArray, List.set_cons_zero, List.set_cons_succ, i64_w, i32_w]
           rfl
          refine one_ (i := 16) (N := some 172) #[true, true, true, true, true, true, true, true, true, true, true, true, true, true, true, true, true, false, false] rfl rfl (one_of HT_.out (by kernel_rfl)) (by decide) (fun K hK => ?_)
          refine goes_ Tryd.func13 (by kernel_rfl) rfl #[] (by rfl) rfl rfl (by (try simp only [List.map_toArray, List.map_cons, List.map_nil]); first | done | rfl | (simp only [List.length_drop, List.length_take]; rfl)) ?_
          with_reducible refine (remitterlaw01_wakes.calls  true _ A406.out (GW_below HG.out (by repeat (first | (with_reducible first | exact HB.out | apply below_alloc | apply pw_below_drewN | apply below_drew1 | apply below_set | exact Aside0.out (by assumption)) | exact HB.out | exact Aside0.out (by assumption)))) (GWP_below HGP.out (by repeat (first | (with_reducible first | exact HB.out | apply below_alloc | apply pw_below_drewN | apply below_drew1 | apply below_set | exact Aside0.out (by assumption)) | exact HB.out | exact Aside0.out (by assumption))))).mono ?_
          rintro e w429 ⟨rfl, hb⟩
          refine ⟨_, rfl, ?_⟩
          have n0_ := Aside0.mk (blk_b hb BK150.out)
          have n1_ := Aside0.mk (blk_b hb BK151.out)
          have n2_ := Aside0.mk (blk_b hb BK152.out)
          have n3_ := Aside0.mk (blk_b hb BK207.out)
          have n4_ := Aside0.mk (blk_b hb BK212.out)
          have n5_ := Aside0.mk (below_step (by repeat (first | (with_reducible first | exact HB.out | apply below_alloc | apply pw_below_drewN | apply below_drew1 | refine below_set ?_ GE207.out | refine below_set ?_ GE212.out) | exact HB.out)) hb)
          clear BK150
          clear BK151
          clear BK152
          clear BK207
          clear BK212
          clear HB
          have BK150 := n0_
          have BK151 := n1_
          have BK152 := n2_
          have BK207 := n3_
          have BK212 := n4_
          have HB := n5_
          clear n0_ n1_ n2_ n3_ n4_ n5_
          (try clear hb)
          (try clear hb2)
          (try clear hk)
          (try clear hi)
          refine hK.out _ _ trivial (fun hHeld => ?_)
          clear hK K
          refine norm_ (a' := ?_) ?_ ?_
          rotate_left
          ·show Act.put _ (some 172) _ = _
           simp only [Act.put, List.setIfInBounds_toArray, List.set_cons_zero, List.set_cons_succ, i64_w, i32_w]
           rfl
          refine pure_ (i := 17) (N := some 173) (v := ?_) (a' := ?_) #[true, true, true, true, true, true, true, true, true, true, true, true, true, true, true, true, true, true, false] rfl rfl (any_of HT_.out (by kernel_rfl)) (fun _ _ _ h => h) (Or.inl ⟨by rfl, ?_⟩) ?_ ?_
          rotate_left
          ·intro w'
           go_simp
           with_reducible rfl
          rotate_left
          ·simp only [Act.put, List.setIfInBounds_toArray, List.set_cons_zero, List.set_cons_succ, i64_w, i32_w]
           rfl
          refine pure_ (i := 18) (N := some 6) (v := ?_) (a' := ?_) #[true, true, true, true, true, true, true, true, true, true, true, true, true, true, true, true, true, true, true] rfl rfl (any_of HT_.out (by kernel_rfl)) (fun _ _ _ h => h) (Or.inl ⟨by rfl, ?_⟩) ?_ ?_
          rotate_left
          ·intro w'
           go_simp
           with_reducible rfl
          rotate_left
          ·simp only [Act.put, List.setIfInBounds_toArray, List.set_cons_zero, List.set_cons_succ, i64_w, i32_w]
           rfl
          refine done_ (done_of HT_.out (by kernel_rfl)) ?_
          try go_wp2
          all_goals (first | (exfalso; simp_all; done) | (exfalso; omega) | (go_ret; exact ⟨by first | rfl | (simp [errW_none, errW_some] <;> rfl) | (simp [*, errW_none, errW_some] <;> rfl), by repeat (first | (with_reducible first | exact HB.out | apply below_alloc | apply pw_below_drewN | apply below_drew1 | refine below_set ?_ GE207.out | refine below_set ?_ GE212.out) | exact HB.out)⟩))
end Go.Proofs.YtggakekljbgeoaaDoor.PAll

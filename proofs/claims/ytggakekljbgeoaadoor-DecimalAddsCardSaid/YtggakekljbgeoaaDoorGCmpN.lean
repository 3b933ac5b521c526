/- The contract of decimal.Cmp, by hand. -/
import Derived.Test.YtggakekljbgeoaaDoorGAdd
namespace Go.Proofs.YtggakekljbgeoaaDoor.PAll
open Go.RowKit GPlain
set_option linter.unusedSimpArgs false
set_option linter.unusedVariables false

def cmpI (x y : Int) : Int := if x < y then -1 else if y < x then 1 else 0
theorem nani64_walk (x : Int) (w : World) :
    Calls Tryd.prog 71 #[.int .i64 x] w fun e w' => e = .returned (.bool false) ∧ w' = w := by
  go_enter Tryd.func71, Tryd.ntmps71
  go_wp2
  go_ret
  exact ⟨rfl, rfl⟩
theorem nani_walk (x : Int) (w : World) :
    Calls Tryd.prog 72 #[.int .i64 x] w fun e w' => e = .returned (.bool false) ∧ w' = w := by
  go_enter Tryd.func72, Tryd.ntmps72
  go_wp2
  go_ret
  exact ⟨rfl, rfl⟩
theorem cmpi64_walk (x y : Int) (w : World) :
    Calls Tryd.prog 53 #[.int .i64 x, .int .i64 y] w fun e w' => e = .returned (.int .i64 (cmpI x y)) ∧ w' = w := by
  unfold cmpI
  by_cases h1 : x < y
  · rw [if_pos h1]
    go_enter Tryd.func53, Tryd.ntmps53
    go_wp2_with (go_at_call 71; refine (nani64_walk _ _).mono ?_; rintro e w' ⟨rfl, rfl⟩)
    go_ret
    exact ⟨rfl, rfl⟩
  · rw [if_neg h1]
    by_cases h2 : y < x
    · rw [if_pos h2]
      go_enter Tryd.func53, Tryd.ntmps53
      go_wp2_with (go_at_call 71; refine (nani64_walk _ _).mono ?_; rintro e w' ⟨rfl, rfl⟩)
      go_ret
      exact ⟨rfl, rfl⟩
    · rw [if_neg h2]
      go_enter Tryd.func53, Tryd.ntmps53
      go_wp2_with (go_at_call 71; refine (nani64_walk _ _).mono ?_; rintro e w' ⟨rfl, rfl⟩)
      go_ret
      exact ⟨rfl, rfl⟩
theorem cmpi_walk (x y : Int) (w : World) :
    Calls Tryd.prog 54 #[.int .i64 x, .int .i64 y] w fun e w' => e = .returned (.int .i64 (cmpI x y)) ∧ w' = w := by
  unfold cmpI
  by_cases h1 : x < y
  · rw [if_pos h1]
    go_enter Tryd.func54, Tryd.ntmps54
    go_wp2_with (go_at_call 72; refine (nani_walk _ _).mono ?_; rintro e w' ⟨rfl, rfl⟩)
    go_ret
    exact ⟨rfl, rfl⟩
  · rw [if_neg h1]
    by_cases h2 : y < x
    · rw [if_pos h2]
      go_enter Tryd.func54, Tryd.ntmps54
      go_wp2_with (go_at_call 72; refine (nani_walk _ _).mono ?_; rintro e w' ⟨rfl, rfl⟩)
      go_ret
      exact ⟨rfl, rfl⟩
    · rw [if_neg h2]
      go_enter Tryd.func54, Tryd.ntmps54
      go_wp2_with (go_at_call 72; refine (nani_walk _ _).mono ?_; rintro e w' ⟨rfl, rfl⟩)
      go_ret
      exact ⟨rfl, rfl⟩
def signI (n : Bool) (c : Nat) : Int := if n then -1 else if c = 0 then 0 else 1
theorem sign_walk (n : Bool) (c : Nat) (s : Int) (w : World) :
    Calls Tryd.prog 55 #[.agg #[.bool n, .int .i64 (c : Int), .int .i64 s]] w fun e w' => e = .returned (.int .i64 (signI n c)) ∧ w' = w.alloc (.cells #[.bool n, .int .i64 (c : Int), .int .i64 s] 24) := by
  unfold signI
  cases n
  · rw [if_neg (by decide)]
    by_cases h : c = 0
    · subst h
      rw [if_pos rfl]
      go_enter Tryd.func55, Tryd.ntmps55
      go_wp2
      go_ret
      exact ⟨rfl, rfl⟩
    · rw [if_neg h]
      have hm : min (c : Int) 1 = 1 := by omega
      have HM := Lib.hid hm
      go_enter Tryd.func55, Tryd.ntmps55
      go_wp2
      go_ret
      exact ⟨rfl, rfl⟩
  · rw [if_pos rfl]
    go_enter Tryd.func55, Tryd.ntmps55
    go_wp2
    go_ret
    exact ⟨rfl, rfl⟩
/-- How two numbers stand. -/
def cmpV (na : Bool) (ca sa : Nat) (nb : Bool) (cb sb : Nat) : Int := cmpI (sgn na (ca * 10 ^ (5 - sa))) (sgn nb (cb * 10 ^ (5 - sb)))
theorem cmp_same {na nb : Bool} {ca cb x y : Nat} (hx : x = 0 ↔ ca = 0) (hy : y = 0 ↔ cb = 0) (ha : na = true → 0 < ca) (hb : nb = true → 0 < cb) :
    cmpI (sgn na x) (sgn nb y) = if cmpI (signI na ca) (signI nb cb) = 0 then (if na then -(cmpN x y) else cmpN x y) else cmpI (signI na ca) (signI nb cb) := by
  unfold cmpI sgn signI cmpN
  cases na <;> cases nb <;> simp at ha hb ⊢ <;> (repeat' split) <;> omega
theorem sign_any {n : Bool} {c : Int} {s : Int} {x : Int} (w : World) (h : Hid (∃ k : Nat, c = (k : Int) ∧ signI n k = x)) :
    Calls Tryd.prog 55 #[.agg #[.bool n, .int .i64 c, .int .i64 s]] w fun e w' => e = .returned (.int .i64 x) ∧ Below w.heap.size w w' := by
  obtain ⟨k, rfl, rfl⟩ := h.out
  exact (sign_walk n k s w).mono fun _ _ ⟨he, hw⟩ => ⟨he, by rw [hw]; exact (Below.refl _ w).alloc (Nat.le_refl _) _⟩
theorem W0_drew {W w1 : World} (h : Below W.drew.heap.size W.drew w1) : Below W.heap.size W w1 := (Below.refl _ W).drew.trans h
set_option maxRecDepth 100000 in
set_option maxHeartbeats 2000000 in
theorem cmp_good (na : Bool) (ca sa : Nat) (nb : Bool) (cb sb : Nat) (ha : GoodN na ca sa) (hb : GoodN nb cb sb) (w : World) :
    Calls Tryd.prog 28 #[numV na ca sa, numV nb cb sb] w fun e w' => e = .returned (.int .i64 (cmpV na ca sa nb cb sb)) ∧ Below w.heap.size w w' := by
  have g1 := Lib.hid (goodB_of ha)
  have g2 := Lib.hid (goodB_of hb)
  have hp : ∀ k : Nat, 0 < 10 ^ k := fun k => Nat.pow_pos (by decide)
  have hres : cmpV na ca sa nb cb sb = _ := cmp_same (na := na) (nb := nb) (ca := ca) (cb := cb) (x := ca * 10 ^ (5 - sa)) (y := cb * 10 ^ (5 - sb)) (by rw [Nat.mul_eq_zero]; have := hp (5 - sa); omega) (by rw [Nat.mul_eq_zero]; have := hp (5 - sb); omega) ha.2.2 hb.2.2
  have W1 : Hid (((ca : Int) = (ca : Int) ∧ (sa : Int) = (sa : Int) ∧ (5 : Int) = ((5 : Nat) : Int)) ∧ ca < 1000000000000000000 ∧ sa ≤ 5 ∧ 5 ≤ 5) := Lib.hid ⟨⟨rfl, rfl, rfl⟩, ha.1, ha.2.1, Nat.le_refl _⟩
  have W2 : Hid (((cb : Int) = (cb : Int) ∧ (sb : Int) = (sb : Int) ∧ (5 : Int) = ((5 : Nat) : Int)) ∧ cb < 1000000000000000000 ∧ sb ≤ 5 ∧ 5 ≤ 5) := Lib.hid ⟨⟨rfl, rfl, rfl⟩, hb.1, hb.2.1, Nat.le_refl _⟩
  obtain ⟨x, hx⟩ : ∃ x : Nat, ca * 10 ^ (5 - sa) = x := ⟨_, rfl⟩
  obtain ⟨y, hy⟩ : ∃ y : Nat, cb * 10 ^ (5 - sb) = y := ⟨_, rfl⟩
  have C1 := fun (W : World) => Lib.hid (worth_any (n := na) W W1)
  have C2 := fun (W : World) => Lib.hid (worth_any (n := nb) W W2)
  have CC := fun (W : World) => Lib.hid (wcmp_walk x y W)
  rw [hx] at C1
  rw [hy] at C2
  rw [hx, hy] at hres
  unfold wideV at C1 C2 CC
  obtain ⟨xh, hxh⟩ : ∃ z : Nat, x / 18446744073709551616 = z := ⟨_, rfl⟩
  obtain ⟨xl, hxl⟩ : ∃ z : Nat, x % 18446744073709551616 = z := ⟨_, rfl⟩
  obtain ⟨yh, hyh⟩ : ∃ z : Nat, y / 18446744073709551616 = z := ⟨_, rfl⟩
  obtain ⟨yl, hyl⟩ : ∃ z : Nat, y % 18446744073709551616 = z := ⟨_, rfl⟩
  rw [hxh, hxl] at C1 CC
  rw [hyh, hyl] at C2 CC
  obtain ⟨s1, hs1⟩ : ∃ z, signI na ca = z := ⟨_, rfl⟩
  obtain ⟨s2, hs2⟩ : ∃ z, signI nb cb = z := ⟨_, rfl⟩
  have D1 := fun (W : World) => Lib.hid (sign_any (n := na) (c := (ca : Int)) (s := (sa : Int)) W (Lib.hid ⟨ca, rfl, hs1⟩))
  have D2 := fun (W : World) => Lib.hid (sign_any (n := nb) (c := (cb : Int)) (s := (sb : Int)) W (Lib.hid ⟨cb, rfl, hs2⟩))
  have DC := fun (W : World) => Lib.hid (cmpi_walk s1 s2 W)
  rw [hs1, hs2] at hres
  obtain ⟨c0, hc0⟩ : ∃ z, cmpI s1 s2 = z := ⟨_, rfl⟩
  obtain ⟨c1, hc1⟩ : ∃ z, cmpN x y = z := ⟨_, rfl⟩
  have hc1b : -1 ≤ c1 ∧ c1 ≤ 1 := by rw [← hc1]; unfold cmpN; split <;> (try split) <;> omega
  rw [hc0] at DC hres
  rw [hc1] at CC hres
  obtain ⟨r, hr⟩ : ∃ r, cmpV na ca sa nb cb sb = r := ⟨_, rfl⟩
  rw [hr] at hres ⊢
  have HRES := Lib.hid hres
  clear hres hr hc0 hc1 hs1 hs2 hxh hxl hyh hyl hx hy W1 W2 ha hb hp
  go_enter Tryd.func28, Tryd.ntmps28
  go_upto_region 4 with (go_at_call 23; refine (good_true _ (by first | with_reducible exact g1 | with_reducible exact g2)).mono ?_; rintro e w1 ⟨rfl, rfl⟩)
  obtain ⟨W0, hW0⟩ : ∃ W0, ((((w.alloc (.cells #[.bool na, .int .i64 (ca : Int), .int .i64 (sa : Int)] 24)).alloc (.cells #[.bool nb, .int .i64 (cb : Int), .int .i64 (sb : Int)] 24)).alloc (.cells #[.bool na, .int .i64 (ca : Int), .int .i64 (sa : Int)] 24)).alloc (.cells #[.bool nb, .int .i64 (cb : Int), .int .i64 (sb : Int)] 24)) = W0 := ⟨_, rfl⟩
  have xa : Box3 W0 w.heap.size 24 (.bool na) (.int .i64 ca) (.int .i64 sa) := by rw [← hW0]; exact (((Box3.new w 24 _ _ _).alloc _).alloc _).alloc _
  have xb : Box3 W0 (w.heap.size + 1) 24 (.bool nb) (.int .i64 cb) (.int .i64 sb) := by
    have h := ((Box3.new (w.alloc (.cells #[.bool na, .int .i64 (ca : Int), .int .i64 (sa : Int)] 24)) 24 (.bool nb) (.int .i64 cb) (.int .i64 sb)).alloc (.cells #[.bool na, .int .i64 (ca : Int), .int .i64 (sa : Int)] 24)).alloc (.cells #[.bool nb, .int .i64 (cb : Int), .int .i64 (sb : Int)] 24)
    rw [World.size_alloc] at h
    rw [← hW0]; exact h
  have hB0 : Below w.heap.size w W0 := by
    rw [← hW0]
    exact ((((Below.refl _ w).alloc (Nat.le_refl _) _).alloc (by simp) _).alloc (by simp; omega) _).alloc (by simp; omega) _
  rw [hW0]
  clear hW0
  have ka0 := xa.cell0
  have ka1 := xa.cell1
  have ka2 := xa.cell2
  have kb0 := xb.cell0
  have kb1 := xb.cell1
  have kb2 := xb.cell2
  have d6 : W0.drew.cell? ⟨w.heap.size, 0, none⟩ = some (.bool na) ∧ W0.drew.cell? ⟨w.heap.size, 1, none⟩ = some (.int .i64 ca) ∧ W0.drew.cell? ⟨w.heap.size, 2, none⟩ = some (.int .i64 sa) ∧ W0.drew.cell? ⟨w.heap.size + 1, 0, none⟩ = some (.bool nb) ∧ W0.drew.cell? ⟨w.heap.size + 1, 1, none⟩ = some (.int .i64 cb) ∧ W0.drew.cell? ⟨w.heap.size + 1, 2, none⟩ = some (.int .i64 sb) := ⟨ka0, ka1, ka2, kb0, kb1, kb2⟩
  have D6 := Lib.hid d6
  have HB0 := Lib.hid hB0
  clear d6 hB0
  go_region_held3 (fun w' => w'.cell? ⟨w.heap.size, 0, none⟩ = some (.bool na) ∧ w'.cell? ⟨w.heap.size, 1, none⟩ = some (.int .i64 ca) ∧ w'.cell? ⟨w.heap.size, 2, none⟩ = some (.int .i64 sa) ∧ w'.cell? ⟨w.heap.size + 1, 0, none⟩ = some (.bool nb) ∧ w'.cell? ⟨w.heap.size + 1, 1, none⟩ = some (.int .i64 cb) ∧ w'.cell? ⟨w.heap.size + 1, 2, none⟩ = some (.int .i64 sb))
    (first | with_reducible exact D6.out | with_reducible exact E6.out | with_reducible exact F6.out)
    (first
      | (go_at_call_of 55 (Value.agg #[Value.bool na, Value.int IntKind.i64 (ca : Int), Value.int IntKind.i64 (sa : Int)]); refine (D1 _).out.mono ?_; rintro e w1 ⟨rfl, hb1⟩; have E6 := Lib.hid (keep6 hb1 D6.out))
      | (go_at_call_of 55 (Value.agg #[Value.bool nb, Value.int IntKind.i64 (cb : Int), Value.int IntKind.i64 (sb : Int)]); refine (D2 _).out.mono ?_; rintro e w2 ⟨rfl, hb2⟩; have F6 := Lib.hid (keep6 hb2 E6.out))
      | (go_at_call 54; refine (DC _).out.mono ?_; rintro e w3 ⟨rfl, rfl⟩))
  clear D6 E6
  have hbw := HB0.out.trans ((W0_drew hb1).mono HB0.out.size)
  have hbz := hbw.trans (hb2.mono hbw.size)
  have HBZ := Lib.hid hbz
  clear hb1 hb2 hbw hbz HB0 xa xb ka0 ka1 ka2 kb0 kb1 kb2
  by_cases h0 : c0 = 0
  · subst h0
    have HR2 := Lib.hid (HRES.out.trans (if_pos rfl))
    obtain ⟨ka0, ka1, ka2, kb0, kb1, kb2⟩ := F6.out
    have d6 : w3.drew.cell? ⟨w.heap.size, 0, none⟩ = some (.bool na) ∧ w3.drew.cell? ⟨w.heap.size, 1, none⟩ = some (.int .i64 ca) ∧ w3.drew.cell? ⟨w.heap.size, 2, none⟩ = some (.int .i64 sa) ∧ w3.drew.cell? ⟨w.heap.size + 1, 0, none⟩ = some (.bool nb) ∧ w3.drew.cell? ⟨w.heap.size + 1, 1, none⟩ = some (.int .i64 cb) ∧ w3.drew.cell? ⟨w.heap.size + 1, 2, none⟩ = some (.int .i64 sb) := ⟨ka0, ka1, ka2, kb0, kb1, kb2⟩
    have D6 := Lib.hid d6
    clear d6 HRES
    go_wp2_with fail
    go_region_held3 (fun w' => w'.cell? ⟨w.heap.size, 0, none⟩ = some (.bool na) ∧ w'.cell? ⟨w.heap.size, 1, none⟩ = some (.int .i64 ca) ∧ w'.cell? ⟨w.heap.size, 2, none⟩ = some (.int .i64 sa) ∧ w'.cell? ⟨w.heap.size + 1, 0, none⟩ = some (.bool nb) ∧ w'.cell? ⟨w.heap.size + 1, 1, none⟩ = some (.int .i64 cb) ∧ w'.cell? ⟨w.heap.size + 1, 2, none⟩ = some (.int .i64 sb))
      (first | with_reducible exact D6.out | with_reducible exact E6.out | with_reducible exact X6.out | with_reducible exact Y6.out)
      (first
        | (go_at_call_of 48 (Value.agg #[Value.bool na, Value.int IntKind.i64 (ca : Int), Value.int IntKind.i64 (sa : Int)]); refine (C1 _).out.mono ?_; rintro e w4 ⟨rfl, hb4⟩; have E6 := Lib.hid (keep6 hb4 D6.out))
        | (go_at_call_of 48 (Value.agg #[Value.bool nb, Value.int IntKind.i64 (cb : Int), Value.int IntKind.i64 (sb : Int)]); refine (C2 _).out.mono ?_; rintro e w5 ⟨rfl, hb5⟩; have X6 := Lib.hid (keep6 hb5 E6.out))
        | (go_at_call 50; refine (CC _).out.mono ?_; rintro e w6 ⟨rfl, hb6⟩; have Y6 := Lib.hid (keep6 hb6 X6.out)))
    have m0 := Y6.out.1
    have b4 := HBZ.out.trans ((W0_drew hb4).mono HBZ.out.size)
    have b5 := b4.trans (hb5.mono b4.size)
    have b6 := Lib.hid (b5.trans (hb6.mono b5.size))
    clear D6 E6 X6 Y6 F6 b4 b5 hb4 hb5 hb6 HBZ ka0 ka1 ka2 kb0 kb1 kb2
    cases na
    · have HR3 := Lib.hid (HR2.out.trans (if_neg (by decide)))
      clear HR2
      go_wp2
      go_ret
      exact ⟨by rw [HR3.out]; rfl, b6.out⟩
    · have HR3 := Lib.hid (HR2.out.trans (if_pos rfl))
      clear HR2
      go_wp2
      go_ret
      exact ⟨by rw [HR3.out]; rfl, b6.out⟩
  · have HR2 := Lib.hid (HRES.out.trans (if_neg h0))
    have h' : (c0 != 0) = true := bne_iff_ne.2 h0
    clear HRES h0
    go_wp2
    go_ret
    exact ⟨by rw [HR2.out]; rfl, HBZ.out⟩
set_option maxHeartbeats 2000000 in
theorem cmp_bad1 (na : Bool) (ca sa : Int) (nb : Bool) (cb sb : Int) (g1 : Hid (goodB na ca sa = false)) (w : World) :
    Calls Tryd.prog 28 #[numV na ca sa, numV nb cb sb] w fun e w' => e = .returned (.int .i64 (if cmpI ca cb = 0 then cmpI sa sb else cmpI ca cb)) ∧ Below w.heap.size w w' := by
  obtain ⟨c1, hc1⟩ : ∃ z, cmpI ca cb = z := ⟨_, rfl⟩
  obtain ⟨c2, hc2⟩ : ∃ z, cmpI sa sb = z := ⟨_, rfl⟩
  have D1 := fun (W : World) => Lib.hid (cmpi64_walk ca cb W)
  have D2 := fun (W : World) => Lib.hid (cmpi_walk sa sb W)
  rw [hc1] at D1
  rw [hc2] at D2
  obtain ⟨r, hr⟩ : ∃ r, (if c1 = 0 then c2 else c1) = r := ⟨_, rfl⟩
  rw [hc1, hc2, hr]
  have HR := Lib.hid hr
  clear hc1 hc2 hr
  go_enter Tryd.func28, Tryd.ntmps28
  go_upto_region 2 with (go_at_call 23; refine (good_false _ (by with_reducible exact g1)).mono ?_; rintro e w1 ⟨rfl, rfl⟩)
  obtain ⟨W0, hW0⟩ : ∃ W0, (((w.alloc (.cells #[.bool na, .int .i64 ca, .int .i64 sa] 24)).alloc (.cells #[.bool nb, .int .i64 cb, .int .i64 sb] 24)).alloc (.cells #[.bool na, .int .i64 ca, .int .i64 sa] 24)) = W0 := ⟨_, rfl⟩
  have xa : Box3 W0 w.heap.size 24 (.bool na) (.int .i64 ca) (.int .i64 sa) := by rw [← hW0]; exact ((Box3.new w 24 _ _ _).alloc _).alloc _
  have xb : Box3 W0 (w.heap.size + 1) 24 (.bool nb) (.int .i64 cb) (.int .i64 sb) := by
    have h := (Box3.new (w.alloc (.cells #[.bool na, .int .i64 ca, .int .i64 sa] 24)) 24 (.bool nb) (.int .i64 cb) (.int .i64 sb)).alloc (.cells #[.bool na, .int .i64 ca, .int .i64 sa] 24)
    rw [World.size_alloc] at h
    rw [← hW0]; exact h
  have hB0 : Below w.heap.size w W0 := by
    rw [← hW0]
    exact (((Below.refl _ w).alloc (Nat.le_refl _) _).alloc (by simp) _).alloc (by simp; omega) _
  rw [hW0]
  clear hW0
  have ka1 := xa.cell1
  have ka2 := xa.cell2
  have kb1 := xb.cell1
  have kb2 := xb.cell2
  go_region_held3 (fun w' => w'.cell? ⟨w.heap.size, 1, none⟩ = some (.int .i64 ca) ∧ w'.cell? ⟨w.heap.size, 2, none⟩ = some (.int .i64 sa) ∧ w'.cell? ⟨w.heap.size + 1, 1, none⟩ = some (.int .i64 cb) ∧ w'.cell? ⟨w.heap.size + 1, 2, none⟩ = some (.int .i64 sb)) (go_keep)
    (first
      | (go_at_call 53; refine (D1 _).out.mono ?_; rintro e w' ⟨rfl, rfl⟩)
      | (go_at_call 54; refine (D2 _).out.mono ?_; rintro e w' ⟨rfl, rfl⟩)
      | (go_at_call 52; refine (or_walk _ _ c1 c2 _ ?_ ?_ r HR).mono ?_; (go_simp); (go_simp); rintro e w' ⟨rfl, rfl⟩))
  go_wp2
  go_ret
  exact ⟨rfl, (hB0.alloc hB0.size _).drew⟩
set_option maxHeartbeats 2000000 in
theorem cmp_bad2 (na : Bool) (ca sa : Int) (nb : Bool) (cb sb : Int) (g1 : Hid (goodB na ca sa = true)) (g2 : Hid (goodB nb cb sb = false)) (w : World) :
    Calls Tryd.prog 28 #[numV na ca sa, numV nb cb sb] w fun e w' => e = .returned (.int .i64 (if cmpI ca cb = 0 then cmpI sa sb else cmpI ca cb)) ∧ Below w.heap.size w w' := by
  obtain ⟨c1, hc1⟩ : ∃ z, cmpI ca cb = z := ⟨_, rfl⟩
  obtain ⟨c2, hc2⟩ : ∃ z, cmpI sa sb = z := ⟨_, rfl⟩
  have D1 := fun (W : World) => Lib.hid (cmpi64_walk ca cb W)
  have D2 := fun (W : World) => Lib.hid (cmpi_walk sa sb W)
  rw [hc1] at D1
  rw [hc2] at D2
  obtain ⟨r, hr⟩ : ∃ r, (if c1 = 0 then c2 else c1) = r := ⟨_, rfl⟩
  rw [hc1, hc2, hr]
  have HR := Lib.hid hr
  clear hc1 hc2 hr
  go_enter Tryd.func28, Tryd.ntmps28
  go_upto_region 2 with (first | (go_at_call 23; refine (good_true _ (by with_reducible exact g1)).mono ?_; rintro e w1 ⟨rfl, rfl⟩) | (go_at_call 23; refine (good_false _ (by with_reducible exact g2)).mono ?_; rintro e w1 ⟨rfl, rfl⟩))
  obtain ⟨W0, hW0⟩ : ∃ W0, ((((w.alloc (.cells #[.bool na, .int .i64 ca, .int .i64 sa] 24)).alloc (.cells #[.bool nb, .int .i64 cb, .int .i64 sb] 24)).alloc (.cells #[.bool na, .int .i64 ca, .int .i64 sa] 24)).alloc (.cells #[.bool nb, .int .i64 cb, .int .i64 sb] 24)) = W0 := ⟨_, rfl⟩
  have xa : Box3 W0 w.heap.size 24 (.bool na) (.int .i64 ca) (.int .i64 sa) := by rw [← hW0]; exact (((Box3.new w 24 _ _ _).alloc _).alloc _).alloc _
  have xb : Box3 W0 (w.heap.size + 1) 24 (.bool nb) (.int .i64 cb) (.int .i64 sb) := by
    have h := ((Box3.new (w.alloc (.cells #[.bool na, .int .i64 ca, .int .i64 sa] 24)) 24 (.bool nb) (.int .i64 cb) (.int .i64 sb)).alloc (.cells #[.bool na, .int .i64 ca, .int .i64 sa] 24)).alloc (.cells #[.bool nb, .int .i64 cb, .int .i64 sb] 24)
    rw [World.size_alloc] at h
    rw [← hW0]; exact h
  have hB0 : Below w.heap.size w W0 := by
    rw [← hW0]
    exact ((((Below.refl _ w).alloc (Nat.le_refl _) _).alloc (by simp) _).alloc (by simp; omega) _).alloc (by simp; omega) _
  rw [hW0]
  clear hW0
  have ka1 := xa.cell1
  have ka2 := xa.cell2
  have kb1 := xb.cell1
  have kb2 := xb.cell2
  go_region_held3 (fun w' => w'.cell? ⟨w.heap.size, 1, none⟩ = some (.int .i64 ca) ∧ w'.cell? ⟨w.heap.size, 2, none⟩ = some (.int .i64 sa) ∧ w'.cell? ⟨w.heap.size + 1, 1, none⟩ = some (.int .i64 cb) ∧ w'.cell? ⟨w.heap.size + 1, 2, none⟩ = some (.int .i64 sb)) (go_keep)
    (first
      | (go_at_call 53; refine (D1 _).out.mono ?_; rintro e w' ⟨rfl, rfl⟩)
      | (go_at_call 54; refine (D2 _).out.mono ?_; rintro e w' ⟨rfl, rfl⟩)
      | (go_at_call 52; refine (or_walk _ _ c1 c2 _ ?_ ?_ r HR).mono ?_; (go_simp); (go_simp); rintro e w' ⟨rfl, rfl⟩))
  go_wp2
  go_ret
  exact ⟨rfl, (hB0.alloc hB0.size _).drew⟩
def decimal_Cmp.f (a0_0 : Bool) (a0_1 a0_2 : Int) (a1_0 : Bool) (a1_1 a1_2 : Int) : Option Int :=
  some (if goodB a0_0 a0_1 a0_2 && goodB a1_0 a1_1 a1_2 then cmpV a0_0 a0_1.toNat a0_2.toNat a1_0 a1_1.toNat a1_2.toNat else if cmpI a0_1 a1_1 = 0 then cmpI a0_2 a1_2 else cmpI a0_1 a1_1)
theorem decimal_Cmp.calls (a0_0 : Bool) (a0_1 a0_2 : Int) (a1_0 : Bool) (a1_1 a1_2 : Int) (r : Int) (w : World) (h : decimal_Cmp.f a0_0 a0_1 a0_2 a1_0 a1_1 a1_2 = some r) :
    Calls Tryd.prog 28 #[.agg #[.bool a0_0, .int .i64 a0_1, .int .i64 a0_2], .agg #[.bool a1_0, .int .i64 a1_1, .int .i64 a1_2]] w fun e w' => e = .returned (.int .i64 r) ∧ Below w.heap.size w w' := by
  obtain rfl := Option.some.inj h
  cases g1 : goodB a0_0 a0_1 a0_2
  · rw [Bool.false_and, if_neg (by decide)]
    exact cmp_bad1 _ _ _ _ _ _ (Lib.hid g1) w
  · cases g2 : goodB a1_0 a1_1 a1_2
    · rw [Bool.and_false, if_neg (by decide)]
      exact cmp_bad2 _ _ _ _ _ _ (Lib.hid g1) (Lib.hid g2) w
    · rw [Bool.and_self, if_pos rfl]
      obtain ⟨e1, e2, h1⟩ := goodN_of g1
      obtain ⟨e3, e4, h2⟩ := goodN_of g2
      have := cmp_good _ _ _ _ _ _ h1 h2 w
      rw [← e1, ← e2, ← e3, ← e4] at this
      exact this
end Go.Proofs.YtggakekljbgeoaaDoor.PAll

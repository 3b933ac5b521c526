/- The contract of decimal.Add, by hand. -/
import Derived.Test.YtggakekljbgeoaaDoorGWide
import Derived.Test.YtggakekljbgeoaaDoorGParse
import Derived.Deep.Cut
import Derived.Deep.DeepCutAuto
namespace Go.Proofs.YtggakekljbgeoaaDoor.PAll
open Go.RowKit GPlain
set_option linter.unusedSimpArgs false
set_option linter.unusedVariables false

theorem bcell {W w1 : World} (hb : Below W.heap.size W w1) : (∀ b o, b < W.heap.size → w1.cell? ⟨b, o, none⟩ = W.cell? ⟨b, o, none⟩) ∧ (∀ b o, b < W.heap.size → w1.frozen? ⟨b, o, none⟩ = W.frozen? ⟨b, o, none⟩) :=
  ⟨fun b o h => hb.cell (p := ⟨b, o, none⟩) h, fun b o h => hb.frozen (p := ⟨b, o, none⟩) h⟩
/-- What is asked of a number's parts. -/
def GoodN (n : Bool) (c s : Nat) : Prop := c < 1000000000000000000 ∧ s ≤ 5 ∧ (n = true → 0 < c)
theorem goodB_of {n : Bool} {c s : Nat} (h : GoodN n c s) : goodB n c s = true := by
  obtain ⟨h1, h2, h3⟩ := h
  unfold goodB
  rw [decide_eq_true (by omega), decide_eq_true (by omega), decide_eq_true (by omega), decide_eq_true (by omega)]
  cases n
  · rfl
  · rw [decide_eq_true (by have := h3 rfl; omega)]; rfl
theorem good_true {n : Bool} {c s : Int} (w : World) (h : Hid (goodB n c s = true)) :
    Calls Tryd.prog 23 #[.agg #[.bool n, .int .i64 c, .int .i64 s]] w fun e w' => e = .returned (.bool true) ∧ w' = w.alloc (.cells #[.bool n, .int .i64 c, .int .i64 s] 24) :=
  (good_walk n c s w).mono fun _ _ ⟨he, hw⟩ => ⟨he.trans (congrArg (fun b => Ending.returned (Value.bool b)) h.out), hw⟩
/-- Block B holds two cells. -/
def Pair (W : World) (B : Nat) (t : TypeId) (a b : Value) : Prop := W.heap[B]? = some (.cells #[a, b] t (0, 0))
section
variable {W W' : World} {B : Nat} {t : TypeId} {a b : Value}
theorem Pair.lt (h : Pair W B t a b) : B < W.heap.size := (Array.getElem?_eq_some_iff.1 h).1
theorem Pair.cell0 (h : Pair W B t a b) : W.cell? ⟨B, 0, none⟩ = some a := by simp [World.cell?, show W.heap[B]? = _ from h]
theorem Pair.cell1 (h : Pair W B t a b) : W.cell? ⟨B, 1, none⟩ = some b := by simp [World.cell?, show W.heap[B]? = _ from h]
theorem Pair.frozen0 (h : Pair W B t a b) : W.frozen? ⟨B, 0, none⟩ = false := by simp [World.frozen?, show W.heap[B]? = _ from h]
theorem Pair.frozen1 (h : Pair W B t a b) : W.frozen? ⟨B, 1, none⟩ = false := by simp [World.frozen?, show W.heap[B]? = _ from h]
theorem Pair.new (W : World) (t : TypeId) (a b : Value) : Pair (W.alloc (.cells #[a, b] t)) W.heap.size t a b := World.alloc_heap_new W _
theorem Pair.kept {row : Option Nat} (h : Pair W B t a b) (hg : W.grownBy W' row) (hne : some B ≠ row) : Pair W' B t a b := (hg.block B h.lt hne).trans h
theorem Pair.alloc (h : Pair W B t a b) (o : Obj) : Pair (W.alloc o) B t a b := h.kept (World.grownBy_alloc W o none) (by simp)
theorem Pair.below (h : Pair W B t a b) (hb : Below W.heap.size W W') : Pair W' B t a b := (hb.block B h.lt).trans h
theorem Pair.other {B' : Nat} (h : Pair W B t a b) (hne : B ≠ B') (o : Nat) (v : Value) : Pair (W.setCell ⟨B', o, none⟩ v) B t a b := h.kept (grownBy_setCellO W B' o v) (fun e => hne (Option.some.inj e))
theorem Pair.set0 (v : Value) (h : Pair W B t a b) : Pair (W.setCell ⟨B, 0, none⟩ v) B t v b := by
  obtain ⟨hlt, hk⟩ := Array.getElem?_eq_some_iff.1 h
  show (W.heap.modify B _)[B]? = _
  rw [Array.getElem?_eq_getElem (by rw [Array.size_modify]; exact hlt), Array.getElem_modify_self, hk]
  rfl
theorem Pair.set1 (v : Value) (h : Pair W B t a b) : Pair (W.setCell ⟨B, 1, none⟩ v) B t a v := by
  obtain ⟨hlt, hk⟩ := Array.getElem?_eq_some_iff.1 h
  show (W.heap.modify B _)[B]? = _
  rw [Array.getElem?_eq_getElem (by rw [Array.size_modify]; exact hlt), Array.getElem_modify_self, hk]
  rfl
theorem Box3.below {c : Value} (h : Box3 W B t a b c) (hb : Below W.heap.size W W') : Box3 W' B t a b c := (hb.block B h.lt).trans h
end
theorem worth_any {n : Bool} {c s m : Int} {C S M : Nat} (w : World) (h : Hid ((c = (C : Int) ∧ s = (S : Int) ∧ m = (M : Int)) ∧ C < 1000000000000000000 ∧ S ≤ M ∧ M ≤ 5)) :
    Calls Tryd.prog 48 #[.agg #[.bool n, .int .i64 c, .int .i64 s], .int .i64 m] w fun e w' => e = .returned (wideV (C * 10 ^ (M - S))) ∧ Below w.heap.size w w' := by
  obtain ⟨⟨rfl, rfl, rfl⟩, h1, h2, h3⟩ := h.out
  exact worth_walk n C S M h1 h2 h3 w
theorem keep6 {W w1 : World} {a0 a1 a2 b0 b1 b2 : Addr} {v0 v1 v2 u0 u1 u2 : Value} (hb : Below W.heap.size W w1)
    (h : W.cell? a0 = some v0 ∧ W.cell? a1 = some v1 ∧ W.cell? a2 = some v2 ∧ W.cell? b0 = some u0 ∧ W.cell? b1 = some u1 ∧ W.cell? b2 = some u2) :
    w1.cell? a0 = some v0 ∧ w1.cell? a1 = some v1 ∧ w1.cell? a2 = some v2 ∧ w1.cell? b0 = some u0 ∧ w1.cell? b1 = some u1 ∧ w1.cell? b2 = some u2 := by
  obtain ⟨h1, h2, h3, h4, h5, h6⟩ := h
  exact ⟨(hb.cell (World.block_lt_of_cell? _ _ h1)).trans h1, (hb.cell (World.block_lt_of_cell? _ _ h2)).trans h2, (hb.cell (World.block_lt_of_cell? _ _ h3)).trans h3, (hb.cell (World.block_lt_of_cell? _ _ h4)).trans h4, (hb.cell (World.block_lt_of_cell? _ _ h5)).trans h5, (hb.cell (World.block_lt_of_cell? _ _ h6)).trans h6⟩
theorem keep6_alloc {W : World} {B B' : Nat} {v0 v1 v2 u0 u1 u2 : Value} (o : Obj)
    (h : W.cell? ⟨B, 0, none⟩ = some v0 ∧ W.cell? ⟨B, 1, none⟩ = some v1 ∧ W.cell? ⟨B, 2, none⟩ = some v2 ∧ W.cell? ⟨B', 0, none⟩ = some u0 ∧ W.cell? ⟨B', 1, none⟩ = some u1 ∧ W.cell? ⟨B', 2, none⟩ = some u2) :
    (W.alloc o).cell? ⟨B, 0, none⟩ = some v0 ∧ (W.alloc o).cell? ⟨B, 1, none⟩ = some v1 ∧ (W.alloc o).cell? ⟨B, 2, none⟩ = some v2 ∧ (W.alloc o).cell? ⟨B', 0, none⟩ = some u0 ∧ (W.alloc o).cell? ⟨B', 1, none⟩ = some u1 ∧ (W.alloc o).cell? ⟨B', 2, none⟩ = some u2 :=
  keep6 ((Below.refl _ W).alloc (Nat.le_refl _) o) h
theorem keep6_set {W : World} {B B' : Nat} {v0 v1 v2 u0 u1 u2 : Value} {b o : Nat} {v : Value}
    (h : W.cell? ⟨B, 0, none⟩ = some v0 ∧ W.cell? ⟨B, 1, none⟩ = some v1 ∧ W.cell? ⟨B, 2, none⟩ = some v2 ∧ W.cell? ⟨B', 0, none⟩ = some u0 ∧ W.cell? ⟨B', 1, none⟩ = some u1 ∧ W.cell? ⟨B', 2, none⟩ = some u2) (n1 : B < b) (n2 : B' < b) :
    (W.setCell ⟨b, o, none⟩ v).cell? ⟨B, 0, none⟩ = some v0 ∧ (W.setCell ⟨b, o, none⟩ v).cell? ⟨B, 1, none⟩ = some v1 ∧ (W.setCell ⟨b, o, none⟩ v).cell? ⟨B, 2, none⟩ = some v2 ∧ (W.setCell ⟨b, o, none⟩ v).cell? ⟨B', 0, none⟩ = some u0 ∧ (W.setCell ⟨b, o, none⟩ v).cell? ⟨B', 1, none⟩ = some u1 ∧ (W.setCell ⟨b, o, none⟩ v).cell? ⟨B', 2, none⟩ = some u2 := by
  have e : ∀ (c : Nat) (k : Nat), c < b → (W.setCell ⟨b, o, none⟩ v).cell? ⟨c, k, none⟩ = W.cell? ⟨c, k, none⟩ := fun c k hc => by rw [World.cell?_setCell_other (h := show (⟨b, o, none⟩ : Addr) ≠ ⟨c, k, none⟩ from fun e_ => by injection e_; omega)]
  rw [e _ _ n1, e _ _ n1, e _ _ n1, e _ _ n2, e _ _ n2, e _ _ n2]
  exact h
theorem results_numt {fn : Func} {p q : Tmp} (h : fn.results = #[.cell p 24, .tmp q]) (tmps : Array Value) (w : World) (g1 : Nat) (v0 : Bool) (v1 v2 : Int) (v3 : Value)
    (h1 : tmps.getD p undef = .pointer (some ⟨g1, 0, none⟩)) (h2 : tmps.getD q undef = v3) (b1 : Box3 w g1 24 (.bool v0) (.int .i64 v1) (.int .i64 v2)) :
    (results fn tmps).run Tryd.prog w = .ok (.tuple #[.agg #[.bool v0, .int .i64 v1, .int .i64 v2], v3]) w := by
  have h1' : tmps[p]?.getD undef = .pointer (some ⟨g1, 0, none⟩) := by simpa using h1
  have h2' : tmps[q]?.getD undef = v3 := by simpa using h2
  have c0 := b1.cell0
  have c1 := b1.cell1
  have c2 := b1.cell2
  simp only [results, h]
  simp [Sem.run_bind, Result.andThen, h1', h2', asAddr]
  go_simp
def sgn (n : Bool) (x : Nat) : Int := if n then -(x : Int) else (x : Int)
/-- What decimal.Add tells of good numbers. -/
def addV (na : Bool) (ca sa : Nat) (nb : Bool) (cb sb : Nat) : Bool × Int × Int × Int :=
  if (sgn na (ca * 10 ^ (max sa sb - sa)) + sgn nb (cb * 10 ^ (max sa sb - sb))).natAbs < 1000000000000000000 then
    (decide (sgn na (ca * 10 ^ (max sa sb - sa)) + sgn nb (cb * 10 ^ (max sa sb - sb)) < 0), ((sgn na (ca * 10 ^ (max sa sb - sa)) + sgn nb (cb * 10 ^ (max sa sb - sb))).natAbs : Int), ((max sa sb : Nat) : Int), 0)
  else (false, 0, 0, 11)
theorem add_fin {na nb sg : Bool} {x y v : Nat} (h : (na = nb ∧ v = x + y ∧ sg = na) ∨ (na ≠ nb ∧ y ≤ x ∧ v = x - y ∧ sg = na) ∨ (na ≠ nb ∧ x < y ∧ v = y - x ∧ sg = nb)) :
    (sgn na x + sgn nb y).natAbs = v ∧ decide (sgn na x + sgn nb y < 0) = (sg && decide (0 < v)) := by
  unfold sgn
  refine ⟨?_, ?_⟩
  · cases na <;> cases nb <;> simp at h ⊢ <;> omega
  · rw [Bool.eq_iff_iff]
    cases na <;> cases nb <;> cases sg <;> simp at h ⊢ <;> omega
set_option maxRecDepth 100000 in
set_option maxHeartbeats 2000000 in
theorem add_good (na : Bool) (ca sa : Nat) (nb : Bool) (cb sb : Nat) (ha : GoodN na ca sa) (hb : GoodN nb cb sb) (rn : Bool) (rc rs re : Int) (hres : addV na ca sa nb cb sb = (rn, rc, rs, re)) (w : World) :
    Calls Tryd.prog 27 #[numV na ca sa, numV nb cb sb] w fun e w' => e = .returned (.tuple #[numV rn rc rs, .int .i64 re]) ∧ Below w.heap.size w w' := by
  have HRES := Lib.hid hres
  clear hres
  have g1 := Lib.hid (goodB_of ha)
  have g2 := Lib.hid (goodB_of hb)
  have HA := Lib.hid ha
  have HBb := Lib.hid hb
  have hsa : (sa : Int) ≤ 5 := by have := ha.2.1; omega
  have hsb : (sb : Int) ≤ 5 := by have := hb.2.1; omega
  clear ha hb
  go_enter Tryd.func27, Tryd.ntmps27
  go_upto_region 4 with (go_at_call 23; refine (good_true _ (by first | with_reducible exact g1 | with_reducible exact g2)).mono ?_; rintro e w1 ⟨rfl, rfl⟩)
  have W1 : Hid (((ca : Int) = (ca : Int) ∧ (sa : Int) = (sa : Int) ∧ (max (sa : Int) (sb : Int)) = ((max sa sb : Nat) : Int)) ∧ ca < 1000000000000000000 ∧ sa ≤ max sa sb ∧ max sa sb ≤ 5) := Lib.hid ⟨⟨rfl, rfl, by omega⟩, HA.out.1, by omega, by omega⟩
  have W2 : Hid (((cb : Int) = (cb : Int) ∧ (sb : Int) = (sb : Int) ∧ (max (sa : Int) (sb : Int)) = ((max sa sb : Nat) : Int)) ∧ cb < 1000000000000000000 ∧ sb ≤ max sa sb ∧ max sa sb ≤ 5) := Lib.hid ⟨⟨rfl, rfl, by omega⟩, HBb.out.1, by omega, by omega⟩
  obtain ⟨x, hx⟩ : ∃ x : Nat, ca * 10 ^ (max sa sb - sa) = x := ⟨_, rfl⟩
  obtain ⟨y, hy⟩ : ∃ y : Nat, cb * 10 ^ (max sa sb - sb) = y := ⟨_, rfl⟩
  have C1 := fun (W : World) => Lib.hid (worth_any (n := na) W W1)
  have C2 := fun (W : World) => Lib.hid (worth_any (n := nb) W W2)
  rw [hx] at C1
  rw [hy] at C2
  have HX := Lib.hid hx
  have HY := Lib.hid hy
  clear hx hy W1 W2
  obtain ⟨W0, hW0⟩ : ∃ W0, (((((w.alloc (.cells #[.bool na, .int .i64 (ca : Int), .int .i64 (sa : Int)] 24)).alloc (.cells #[.bool nb, .int .i64 (cb : Int), .int .i64 (sb : Int)] 24)).alloc (.cells #[.bool false, .int .i64 0, .int .i64 0] 24)).alloc (.cells #[.bool na, .int .i64 (ca : Int), .int .i64 (sa : Int)] 24)).alloc (.cells #[.bool nb, .int .i64 (cb : Int), .int .i64 (sb : Int)] 24)) = W0 := ⟨_, rfl⟩
  have xa : Box3 W0 w.heap.size 24 (.bool na) (.int .i64 ca) (.int .i64 sa) := by rw [← hW0]; exact ((((Box3.new w 24 _ _ _).alloc _).alloc _).alloc _).alloc _
  have xb : Box3 W0 (w.heap.size + 1) 24 (.bool nb) (.int .i64 cb) (.int .i64 sb) := by
    have h := (((Box3.new (w.alloc (.cells #[.bool na, .int .i64 (ca : Int), .int .i64 (sa : Int)] 24)) 24 (.bool nb) (.int .i64 cb) (.int .i64 sb)).alloc (.cells #[.bool false, .int .i64 0, .int .i64 0] 24)).alloc (.cells #[.bool na, .int .i64 (ca : Int), .int .i64 (sa : Int)] 24)).alloc (.cells #[.bool nb, .int .i64 (cb : Int), .int .i64 (sb : Int)] 24)
    rw [World.size_alloc] at h
    rw [← hW0]; exact h
  have xr : Box3 W0 (w.heap.size + 1 + 1) 24 (.bool false) (.int .i64 0) (.int .i64 0) := by
    have h := ((Box3.new ((w.alloc (.cells #[.bool na, .int .i64 (ca : Int), .int .i64 (sa : Int)] 24)).alloc (.cells #[.bool nb, .int .i64 (cb : Int), .int .i64 (sb : Int)] 24)) 24 (.bool false) (.int .i64 0) (.int .i64 0)).alloc (.cells #[.bool na, .int .i64 (ca : Int), .int .i64 (sa : Int)] 24)).alloc (.cells #[.bool nb, .int .i64 (cb : Int), .int .i64 (sb : Int)] 24)
    rw [World.size_alloc, World.size_alloc] at h
    rw [← hW0]; exact h
  have ka0 := xa.cell0
  have ka1 := xa.cell1
  have ka2 := xa.cell2
  have kb0 := xb.cell0
  have kb1 := xb.cell1
  have kb2 := xb.cell2
  have kr0 := xr.cell0
  have kr1 := xr.cell1
  have kr2 := xr.cell2
  have fr0 := xr.frozen0
  have fr1 := xr.frozen1
  have fr2 := xr.frozen2
  have HXA := Lib.hid xa
  have HXB := Lib.hid xb
  have HXR := Lib.hid xr
  clear xa xb xr
  have hB0 : Below w.heap.size w W0 := by
    rw [← hW0]
    exact (((((Below.refl _ w).alloc (Nat.le_refl _) _).alloc (by simp) _).alloc (by simp; omega) _).alloc (by simp; omega) _).alloc (by simp; omega) _
  have hz0 : W0.heap.size = w.heap.size + 5 := by rw [← hW0]; simp
  rw [hW0]
  have HB0 := Lib.hid hB0
  have hz5 : w.heap.size + 4 < W0.heap.size := by omega
  have HZ0 := Lib.hid hz0
  clear hW0 hB0 hz0
  obtain ⟨xh, hxh⟩ : ∃ z : Nat, x / 18446744073709551616 = z := ⟨_, rfl⟩
  obtain ⟨xl, hxl⟩ : ∃ z : Nat, x % 18446744073709551616 = z := ⟨_, rfl⟩
  obtain ⟨yh, hyh⟩ : ∃ z : Nat, y / 18446744073709551616 = z := ⟨_, rfl⟩
  obtain ⟨yl, hyl⟩ : ∃ z : Nat, y % 18446744073709551616 = z := ⟨_, rfl⟩
  unfold wideV at C1 C2
  rw [hxh, hxl] at C1
  rw [hyh, hyl] at C2
  have E1 := Lib.hid hxh
  have E2 := Lib.hid hxl
  have E3 := Lib.hid hyh
  have E4 := Lib.hid hyl
  clear hxh hxl hyh hyl
  go_cut [7, 8] (fun s7 s8 wx => ∃ g7 g8 : Nat, s7 = .pointer (some ⟨g7, 0, none⟩) ∧ s8 = .pointer (some ⟨g8, 0, none⟩) ∧ Below W0.heap.size W0 wx ∧ Pair wx g7 64 (.int .u64 (xh : Int)) (.int .u64 (xl : Int)) ∧ Pair wx g8 64 (.int .u64 (yh : Int)) (.int .u64 (yl : Int)))
  case first =>
    refine wp_region_noPanic ?_
    refine wp_region_held_drew (S := fun w' => w'.cell? ⟨w.heap.size, 0, none⟩ = some (.bool na) ∧ w'.cell? ⟨w.heap.size, 1, none⟩ = some (.int .i64 ca) ∧ w'.cell? ⟨w.heap.size, 2, none⟩ = some (.int .i64 sa) ∧ w'.cell? ⟨w.heap.size + 1, 0, none⟩ = some (.bool nb) ∧ w'.cell? ⟨w.heap.size + 1, 1, none⟩ = some (.int .i64 cb) ∧ w'.cell? ⟨w.heap.size + 1, 2, none⟩ = some (.int .i64 sb)) (by kernel_rfl) ⟨ka0, ka1, ka2, kb0, kb1, kb2⟩ (fun s1 => ?_)
    have b1 : Below W0.heap.size W0 W0.drew := (Below.refl _ W0).drew
    clear ka0 ka1 ka2 kb0 kb1 kb2
    generalize W0.drew = W1 at s1 b1 ⊢
    try dsimp only at s1
    refine wpAnyH_take (i := 0) (oi := { dst := some 25, op := Go.Op.load 24 (Go.Operand.tmp 2), type := 24, pos := "decimal.go:136", after := #[], guard := none }) (v := ?_) rfl (by kernel_rfl) (by kernel_rfl) (by kernel_rfl) (fun _ _ _ h => h) (Or.inl ⟨by rfl, ?_⟩) (by with_reducible exact s1) ?_
    rotate_left
    · (intro w' hSw; (try dsimp only at hSw); go_simp; try with_reducible rfl)
    try simp only [Act.put, List.setIfInBounds_toArray, List.set_cons_zero, List.set_cons_succ]
    refine wpAnyH_take (i := 1) (oi := { dst := some 26, op := Go.Op.move (Go.Operand.tmp 6), type := 3, pos := "decimal.go:136", after := #[], guard := none }) (v := ?_) rfl (by kernel_rfl) (by kernel_rfl) (by kernel_rfl) (fun _ _ _ h => h) (Or.inl ⟨by rfl, ?_⟩) (by with_reducible exact s1) ?_
    rotate_left
    · (intro w' hSw; (try dsimp only at hSw); go_simp; try with_reducible rfl)
    try simp only [Act.put, List.setIfInBounds_toArray, List.set_cons_zero, List.set_cons_succ]
    refine wpAnyH_take (i := 3) (oi := { dst := some 28, op := Go.Op.load 24 (Go.Operand.tmp 3), type := 24, pos := "decimal.go:136", after := #[], guard := none }) (v := ?_) rfl (by kernel_rfl) (by kernel_rfl) (by kernel_rfl) (fun _ _ _ h => h) (Or.inl ⟨by rfl, ?_⟩) (by with_reducible exact s1) ?_
    rotate_left
    · (intro w' hSw; (try dsimp only at hSw); go_simp; try with_reducible rfl)
    try simp only [Act.put, List.setIfInBounds_toArray, List.set_cons_zero, List.set_cons_succ]
    refine wpAnyH_take (i := 4) (oi := { dst := some 29, op := Go.Op.move (Go.Operand.tmp 6), type := 3, pos := "decimal.go:136", after := #[], guard := none }) (v := ?_) rfl (by kernel_rfl) (by kernel_rfl) (by kernel_rfl) (fun _ _ _ h => h) (Or.inl ⟨by rfl, ?_⟩) (by with_reducible exact s1) ?_
    rotate_left
    · (intro w' hSw; (try dsimp only at hSw); go_simp; try with_reducible rfl)
    try simp only [Act.put, List.setIfInBounds_toArray, List.set_cons_zero, List.set_cons_succ]
    refine wpAnyH_ready (rs := [2, 6, 7]) (by kernel_rfl) (by simp) ?_
    refine AllReadyH.cons (o := { dst := some 27, op := Go.Op.call { callee := Go.Callee.value (Go.Operand.func 48), args := #[Go.Operand.tmp 25, Go.Operand.tmp 26], argTypes := #[24, 3] }, type := 64, pos := "decimal.go:136", after := #[{ on := 0, ground := Go.Ground.data }, { on := 1, ground := Go.Ground.data }], guard := none }) rfl (fun K hK => ?_) ?_
    ·
      go_simp
      go_at_call 48
      refine (C1 _).out.mono ?_
      rintro e W2 ⟨rfl, hb⟩
      have s2 := keep6 hb s1
      refine hK.out _ _ s2 (fun _ => ?_)
      clear hK K
      try simp only [Act.put, List.setIfInBounds_toArray, List.set_cons_zero, List.set_cons_succ]
      have b2 := b1.trans (hb.mono b1.size)
      clear hb s1 b1
      refine wpAnyH_ready (rs := [5, 6, 7]) (by kernel_rfl) (by simp) ?_
      refine AllReadyH.cons (o := { dst := some 30, op := Go.Op.call { callee := Go.Callee.value (Go.Operand.func 48), args := #[Go.Operand.tmp 28, Go.Operand.tmp 29], argTypes := #[24, 3] }, type := 64, pos := "decimal.go:136", after := #[{ on := 3, ground := Go.Ground.data }, { on := 4, ground := Go.Ground.data }, { on := 2, ground := Go.Ground.chain }], guard := none }) rfl (fun K hK => ?_) ?_
      ·
        go_simp
        go_at_call 48
        refine (C2 _).out.mono ?_
        rintro e W3 ⟨rfl, hb⟩
        have s3 := keep6 hb s2
        refine hK.out _ _ s3 (fun _ => ?_)
        clear hK K
        try simp only [Act.put, List.setIfInBounds_toArray, List.set_cons_zero, List.set_cons_succ]
        have b3 := b2.trans (hb.mono b2.size)
        clear hb s2 b2
        refine wpAnyH_ready (rs := [6, 7]) (by kernel_rfl) (by simp) ?_
        refine AllReadyH.cons (o := { dst := some 7, op := Go.Op.alloc 64, type := 0, pos := "decimal.go:136", after := #[], guard := none }) rfl (fun K hK => ?_) ?_
        ·
          go_simp
          have s4 := keep6_alloc (.cells #[.int .u64 0, .int .u64 0] 64) s3
          have b4 := b3.alloc b3.size (.cells #[.int .u64 0, .int .u64 0] 64)
          have P7_4 := Pair.new W3 64 (.int .u64 0) (.int .u64 0)
          have l7 : W0.heap.size ≤ W3.heap.size := b3.size
          refine hK.out _ _ s4 (fun _ => ?_)
          clear hK K
          try simp only [Act.put, List.setIfInBounds_toArray, List.set_cons_zero, List.set_cons_succ]
          obtain ⟨W4, hW⟩ : ∃ W', W3.alloc (.cells #[.int .u64 0, .int .u64 0] 64) = W' := ⟨_, rfl⟩
          obtain ⟨g7, hg⟩ : ∃ g, W3.heap.size = g := ⟨_, rfl⟩
          rw [hW] at s4 b4 ⊢
          rw [hW, hg] at P7_4
          rw [hg] at l7 ⊢
          clear hW hg s3 b3
          refine wpAnyH_ready (rs := [7]) (by kernel_rfl) (by simp) ?_
          refine AllReadyH.cons (o := { dst := some 8, op := Go.Op.alloc 64, type := 0, pos := "decimal.go:136", after := #[], guard := none }) rfl (fun K hK => ?_) ?_
          ·
            go_simp
            have s5 := keep6_alloc (.cells #[.int .u64 0, .int .u64 0] 64) s4
            have b5 := b4.alloc b4.size (.cells #[.int .u64 0, .int .u64 0] 64)
            have P8_5 := Pair.new W4 64 (.int .u64 0) (.int .u64 0)
            have l8 : W0.heap.size ≤ W4.heap.size := b4.size
            have P7_5 := P7_4.alloc (.cells #[.int .u64 0, .int .u64 0] 64)
            have ne : g7 < W4.heap.size := P7_4.lt
            refine hK.out _ _ s5 (fun _ => ?_)
            clear hK K
            try simp only [Act.put, List.setIfInBounds_toArray, List.set_cons_zero, List.set_cons_succ]
            obtain ⟨W5, hW⟩ : ∃ W', W4.alloc (.cells #[.int .u64 0, .int .u64 0] 64) = W' := ⟨_, rfl⟩
            obtain ⟨g8, hg⟩ : ∃ g, W4.heap.size = g := ⟨_, rfl⟩
            rw [hW] at s5 b5 P7_5 ⊢
            rw [hW, hg] at P8_5
            rw [hg] at l8 ne ⊢
            clear hW hg s4 b4 P7_4
            refine wpAnyH_ready (rs := [8]) (by kernel_rfl) (by simp) ?_
            refine AllReadyH.cons (o := { dst := none, op := Go.Op.store 64 (Go.Operand.tmp 7) (Go.Operand.tmp 27), type := 0, pos := "decimal.go:136", after := #[{ on := 6, ground := Go.Ground.data }, { on := 2, ground := Go.Ground.data }, { on := 5, ground := Go.Ground.chain }, { on := 0, ground := Go.Ground.phase }, { on := 1, ground := Go.Ground.phase }, { on := 2, ground := Go.Ground.phase }, { on := 3, ground := Go.Ground.textOnly Go.Departure.lateStores }, { on := 4, ground := Go.Ground.textOnly Go.Departure.lateStores }, { on := 5, ground := Go.Ground.textOnly Go.Departure.lateStoresUnsure }, { on := 6, ground := Go.Ground.phase }, { on := 7, ground := Go.Ground.phase }], guard := none }) rfl (fun K hK => ?_) ?_
            ·
              have c0 := P7_5.cell0
              have c1 := P7_5.cell1
              have f0 := P7_5.frozen0
              have f1 := P7_5.frozen1
              go_simp
              clear c0 c1 f0 f1
              have s6 := keep6_set (o := 1) (v := .int .u64 (xl : Int)) (keep6_set (b := g7) (o := 0) (v := .int .u64 (xh : Int)) s5 (by omega) (by omega)) (b := g7) (by omega) (by omega)
              have b6 := (b5.setCell (p := ⟨g7, 0, none⟩) l7 (.int .u64 (xh : Int))).setCell (p := ⟨g7, 1, none⟩) l7 (.int .u64 (xl : Int))
              have P7_6 := (P7_5.set0 (.int .u64 (xh : Int))).set1 (.int .u64 (xl : Int))
              have P8_6 := (P8_5.other (show g8 ≠ g7 by omega) 0 (.int .u64 (xh : Int))).other (show g8 ≠ g7 by omega) 1 (.int .u64 (xl : Int))
              refine hK.out _ _ s6 (fun _ => ?_)
              clear hK K
              try simp only [Act.put, List.setIfInBounds_toArray, List.set_cons_zero, List.set_cons_succ]
              obtain ⟨W6, hW⟩ : ∃ W', ((W5.setCell ⟨g7, 0, none⟩ (.int .u64 (xh : Int))).setCell ⟨g7, 1, none⟩ (.int .u64 (xl : Int))) = W' := ⟨_, rfl⟩
              rw [hW] at s6 b6 P7_6 P8_6 ⊢
              clear hW s5 b5 P7_5 P8_5
              refine wpAnyH_ready (rs := [9]) (by kernel_rfl) (by simp) ?_
              refine AllReadyH.cons (o := { dst := none, op := Go.Op.store 64 (Go.Operand.tmp 8) (Go.Operand.tmp 30), type := 0, pos := "decimal.go:136", after := #[{ on := 7, ground := Go.Ground.data }, { on := 5, ground := Go.Ground.data }, { on := 8, ground := Go.Ground.chain }, { on := 0, ground := Go.Ground.phase }, { on := 1, ground := Go.Ground.phase }, { on := 2, ground := Go.Ground.phase }, { on := 3, ground := Go.Ground.phase }, { on := 4, ground := Go.Ground.phase }, { on := 5, ground := Go.Ground.phase }, { on := 6, ground := Go.Ground.phase }, { on := 7, ground := Go.Ground.phase }, { on := 8, ground := Go.Ground.phase }], guard := none }) rfl (fun K hK => ?_) ?_
              ·
                have c0 := P8_6.cell0
                have c1 := P8_6.cell1
                have f0 := P8_6.frozen0
                have f1 := P8_6.frozen1
                go_simp
                clear c0 c1 f0 f1
                have s7 := keep6_set (o := 1) (v := .int .u64 (yl : Int)) (keep6_set (b := g8) (o := 0) (v := .int .u64 (yh : Int)) s6 (by omega) (by omega)) (b := g8) (by omega) (by omega)
                have b7 := (b6.setCell (p := ⟨g8, 0, none⟩) l8 (.int .u64 (yh : Int))).setCell (p := ⟨g8, 1, none⟩) l8 (.int .u64 (yl : Int))
                have P8_7 := (P8_6.set0 (.int .u64 (yh : Int))).set1 (.int .u64 (yl : Int))
                have P7_7 := (P7_6.other (show g7 ≠ g8 by omega) 0 (.int .u64 (yh : Int))).other (show g7 ≠ g8 by omega) 1 (.int .u64 (yl : Int))
                refine hK.out _ _ s7 (fun _ => ?_)
                clear hK K
                try simp only [Act.put, List.setIfInBounds_toArray, List.set_cons_zero, List.set_cons_succ]
                obtain ⟨W7, hW⟩ : ∃ W', ((W6.setCell ⟨g8, 0, none⟩ (.int .u64 (yh : Int))).setCell ⟨g8, 1, none⟩ (.int .u64 (yl : Int))) = W' := ⟨_, rfl⟩
                rw [hW] at s7 b7 P7_7 P8_7 ⊢
                clear hW s6 b6 P7_6 P8_6
                refine wpAnyH_done (by kernel_rfl) ?_ _
                refine NoPanic.normal ?_
                go_wp2_with fail
                go_meet
                exact ⟨g7, g8, rfl, rfl, b7, P7_7, P8_7⟩
              exact AllReadyH.nil
            exact AllReadyH.nil
          exact AllReadyH.nil
        refine AllReadyH.cons (o := { dst := some 8, op := Go.Op.alloc 64, type := 0, pos := "decimal.go:136", after := #[], guard := none }) rfl (fun K hK => ?_) ?_
        ·
          go_simp
          have s4 := keep6_alloc (.cells #[.int .u64 0, .int .u64 0] 64) s3
          have b4 := b3.alloc b3.size (.cells #[.int .u64 0, .int .u64 0] 64)
          have P8_4 := Pair.new W3 64 (.int .u64 0) (.int .u64 0)
          have l8 : W0.heap.size ≤ W3.heap.size := b3.size
          refine hK.out _ _ s4 (fun _ => ?_)
          clear hK K
          try simp only [Act.put, List.setIfInBounds_toArray, List.set_cons_zero, List.set_cons_succ]
          obtain ⟨W4, hW⟩ : ∃ W', W3.alloc (.cells #[.int .u64 0, .int .u64 0] 64) = W' := ⟨_, rfl⟩
          obtain ⟨g8, hg⟩ : ∃ g, W3.heap.size = g := ⟨_, rfl⟩
          rw [hW] at s4 b4 ⊢
          rw [hW, hg] at P8_4
          rw [hg] at l8 ⊢
          clear hW hg s3 b3
          refine wpAnyH_ready (rs := [6]) (by kernel_rfl) (by simp) ?_
          refine AllReadyH.cons (o := { dst := some 7, op := Go.Op.alloc 64, type := 0, pos := "decimal.go:136", after := #[], guard := none }) rfl (fun K hK => ?_) ?_
          ·
            go_simp
            have s5 := keep6_alloc (.cells #[.int .u64 0, .int .u64 0] 64) s4
            have b5 := b4.alloc b4.size (.cells #[.int .u64 0, .int .u64 0] 64)
            have P7_5 := Pair.new W4 64 (.int .u64 0) (.int .u64 0)
            have l7 : W0.heap.size ≤ W4.heap.size := b4.size
            have P8_5 := P8_4.alloc (.cells #[.int .u64 0, .int .u64 0] 64)
            have ne : g8 < W4.heap.size := P8_4.lt
            refine hK.out _ _ s5 (fun _ => ?_)
            clear hK K
            try simp only [Act.put, List.setIfInBounds_toArray, List.set_cons_zero, List.set_cons_succ]
            obtain ⟨W5, hW⟩ : ∃ W', W4.alloc (.cells #[.int .u64 0, .int .u64 0] 64) = W' := ⟨_, rfl⟩
            obtain ⟨g7, hg⟩ : ∃ g, W4.heap.size = g := ⟨_, rfl⟩
            rw [hW] at s5 b5 P8_5 ⊢
            rw [hW, hg] at P7_5
            rw [hg] at l7 ne ⊢
            clear hW hg s4 b4 P8_4
            refine wpAnyH_ready (rs := [8]) (by kernel_rfl) (by simp) ?_
            refine AllReadyH.cons (o := { dst := none, op := Go.Op.store 64 (Go.Operand.tmp 7) (Go.Operand.tmp 27), type := 0, pos := "decimal.go:136", after := #[{ on := 6, ground := Go.Ground.data }, { on := 2, ground := Go.Ground.data }, { on := 5, ground := Go.Ground.chain }, { on := 0, ground := Go.Ground.phase }, { on := 1, ground := Go.Ground.phase }, { on := 2, ground := Go.Ground.phase }, { on := 3, ground := Go.Ground.textOnly Go.Departure.lateStores }, { on := 4, ground := Go.Ground.textOnly Go.Departure.lateStores }, { on := 5, ground := Go.Ground.textOnly Go.Departure.lateStoresUnsure }, { on := 6, ground := Go.Ground.phase }, { on := 7, ground := Go.Ground.phase }], guard := none }) rfl (fun K hK => ?_) ?_
            ·
              have c0 := P7_5.cell0
              have c1 := P7_5.cell1
              have f0 := P7_5.frozen0
              have f1 := P7_5.frozen1
              go_simp
              clear c0 c1 f0 f1
              have s6 := keep6_set (o := 1) (v := .int .u64 (xl : Int)) (keep6_set (b := g7) (o := 0) (v := .int .u64 (xh : Int)) s5 (by omega) (by omega)) (b := g7) (by omega) (by omega)
              have b6 := (b5.setCell (p := ⟨g7, 0, none⟩) l7 (.int .u64 (xh : Int))).setCell (p := ⟨g7, 1, none⟩) l7 (.int .u64 (xl : Int))
              have P7_6 := (P7_5.set0 (.int .u64 (xh : Int))).set1 (.int .u64 (xl : Int))
              have P8_6 := (P8_5.other (show g8 ≠ g7 by omega) 0 (.int .u64 (xh : Int))).other (show g8 ≠ g7 by omega) 1 (.int .u64 (xl : Int))
              refine hK.out _ _ s6 (fun _ => ?_)
              clear hK K
              try simp only [Act.put, List.setIfInBounds_toArray, List.set_cons_zero, List.set_cons_succ]
              obtain ⟨W6, hW⟩ : ∃ W', ((W5.setCell ⟨g7, 0, none⟩ (.int .u64 (xh : Int))).setCell ⟨g7, 1, none⟩ (.int .u64 (xl : Int))) = W' := ⟨_, rfl⟩
              rw [hW] at s6 b6 P7_6 P8_6 ⊢
              clear hW s5 b5 P7_5 P8_5
              refine wpAnyH_ready (rs := [9]) (by kernel_rfl) (by simp) ?_
              refine AllReadyH.cons (o := { dst := none, op := Go.Op.store 64 (Go.Operand.tmp 8) (Go.Operand.tmp 30), type := 0, pos := "decimal.go:136", after := #[{ on := 7, ground := Go.Ground.data }, { on := 5, ground := Go.Ground.data }, { on := 8, ground := Go.Ground.chain }, { on := 0, ground := Go.Ground.phase }, { on := 1, ground := Go.Ground.phase }, { on := 2, ground := Go.Ground.phase }, { on := 3, ground := Go.Ground.phase }, { on := 4, ground := Go.Ground.phase }, { on := 5, ground := Go.Ground.phase }, { on := 6, ground := Go.Ground.phase }, { on := 7, ground := Go.Ground.phase }, { on := 8, ground := Go.Ground.phase }], guard := none }) rfl (fun K hK => ?_) ?_
              ·
                have c0 := P8_6.cell0
                have c1 := P8_6.cell1
                have f0 := P8_6.frozen0
                have f1 := P8_6.frozen1
                go_simp
                clear c0 c1 f0 f1
                have s7 := keep6_set (o := 1) (v := .int .u64 (yl : Int)) (keep6_set (b := g8) (o := 0) (v := .int .u64 (yh : Int)) s6 (by omega) (by omega)) (b := g8) (by omega) (by omega)
                have b7 := (b6.setCell (p := ⟨g8, 0, none⟩) l8 (.int .u64 (yh : Int))).setCell (p := ⟨g8, 1, none⟩) l8 (.int .u64 (yl : Int))
                have P8_7 := (P8_6.set0 (.int .u64 (yh : Int))).set1 (.int .u64 (yl : Int))
                have P7_7 := (P7_6.other (show g7 ≠ g8 by omega) 0 (.int .u64 (yh : Int))).other (show g7 ≠ g8 by omega) 1 (.int .u64 (yl : Int))
                refine hK.out _ _ s7 (fun _ => ?_)
                clear hK K
                try simp only [Act.put, List.setIfInBounds_toArray, List.set_cons_zero, List.set_cons_succ]
                obtain ⟨W7, hW⟩ : ∃ W', ((W6.setCell ⟨g8, 0, none⟩ (.int .u64 (yh : Int))).setCell ⟨g8, 1, none⟩ (.int .u64 (yl : Int))) = W' := ⟨_, rfl⟩
                rw [hW] at s7 b7 P7_7 P8_7 ⊢
                clear hW s6 b6 P7_6 P8_6
                refine wpAnyH_done (by kernel_rfl) ?_ _
                refine NoPanic.normal ?_
                go_wp2_with fail
                go_meet
                exact ⟨g7, g8, rfl, rfl, b7, P7_7, P8_7⟩
              exact AllReadyH.nil
            exact AllReadyH.nil
          exact AllReadyH.nil
        exact AllReadyH.nil
      refine AllReadyH.cons (o := { dst := some 7, op := Go.Op.alloc 64, type := 0, pos := "decimal.go:136", after := #[], guard := none }) rfl (fun K hK => ?_) ?_
      ·
        go_simp
        have s3 := keep6_alloc (.cells #[.int .u64 0, .int .u64 0] 64) s2
        have b3 := b2.alloc b2.size (.cells #[.int .u64 0, .int .u64 0] 64)
        have P7_3 := Pair.new W2 64 (.int .u64 0) (.int .u64 0)
        have l7 : W0.heap.size ≤ W2.heap.size := b2.size
        refine hK.out _ _ s3 (fun _ => ?_)
        clear hK K
        try simp only [Act.put, List.setIfInBounds_toArray, List.set_cons_zero, List.set_cons_succ]
        obtain ⟨W3, hW⟩ : ∃ W', W2.alloc (.cells #[.int .u64 0, .int .u64 0] 64) = W' := ⟨_, rfl⟩
        obtain ⟨g7, hg⟩ : ∃ g, W2.heap.size = g := ⟨_, rfl⟩
        rw [hW] at s3 b3 ⊢
        rw [hW, hg] at P7_3
        rw [hg] at l7 ⊢
        clear hW hg s2 b2
        refine wpAnyH_ready (rs := [5, 7]) (by kernel_rfl) (by simp) ?_
        refine AllReadyH.cons (o := { dst := some 30, op := Go.Op.call { callee := Go.Callee.value (Go.Operand.func 48), args := #[Go.Operand.tmp 28, Go.Operand.tmp 29], argTypes := #[24, 3] }, type := 64, pos := "decimal.go:136", after := #[{ on := 3, ground := Go.Ground.data }, { on := 4, ground := Go.Ground.data }, { on := 2, ground := Go.Ground.chain }], guard := none }) rfl (fun K hK => ?_) ?_
        ·
          go_simp
          go_at_call 48
          refine (C2 _).out.mono ?_
          rintro e W4 ⟨rfl, hb⟩
          have s4 := keep6 hb s3
          refine hK.out _ _ s4 (fun _ => ?_)
          clear hK K
          try simp only [Act.put, List.setIfInBounds_toArray, List.set_cons_zero, List.set_cons_succ]
          have b4 := b3.trans (hb.mono b3.size)
          have P7_4 := P7_3.below hb
          clear hb s3 b3 P7_3
          refine wpAnyH_ready (rs := [7]) (by kernel_rfl) (by simp) ?_
          refine AllReadyH.cons (o := { dst := some 8, op := Go.Op.alloc 64, type := 0, pos := "decimal.go:136", after := #[], guard := none }) rfl (fun K hK => ?_) ?_
          ·
            go_simp
            have s5 := keep6_alloc (.cells #[.int .u64 0, .int .u64 0] 64) s4
            have b5 := b4.alloc b4.size (.cells #[.int .u64 0, .int .u64 0] 64)
            have P8_5 := Pair.new W4 64 (.int .u64 0) (.int .u64 0)
            have l8 : W0.heap.size ≤ W4.heap.size := b4.size
            have P7_5 := P7_4.alloc (.cells #[.int .u64 0, .int .u64 0] 64)
            have ne : g7 < W4.heap.size := P7_4.lt
            refine hK.out _ _ s5 (fun _ => ?_)
            clear hK K
            try simp only [Act.put, List.setIfInBounds_toArray, List.set_cons_zero, List.set_cons_succ]
            obtain ⟨W5, hW⟩ : ∃ W', W4.alloc (.cells #[.int .u64 0, .int .u64 0] 64) = W' := ⟨_, rfl⟩
            obtain ⟨g8, hg⟩ : ∃ g, W4.heap.size = g := ⟨_, rfl⟩
            rw [hW] at s5 b5 P7_5 ⊢
            rw [hW, hg] at P8_5
            rw [hg] at l8 ne ⊢
            clear hW hg s4 b4 P7_4
            refine wpAnyH_ready (rs := [8]) (by kernel_rfl) (by simp) ?_
            refine AllReadyH.cons (o := { dst := none, op := Go.Op.store 64 (Go.Operand.tmp 7) (Go.Operand.tmp 27), type := 0, pos := "decimal.go:136", after := #[{ on := 6, ground := Go.Ground.data }, { on := 2, ground := Go.Ground.data }, { on := 5, ground := Go.Ground.chain }, { on := 0, ground := Go.Ground.phase }, { on := 1, ground := Go.Ground.phase }, { on := 2, ground := Go.Ground.phase }, { on := 3, ground := Go.Ground.textOnly Go.Departure.lateStores }, { on := 4, ground := Go.Ground.textOnly Go.Departure.lateStores }, { on := 5, ground := Go.Ground.textOnly Go.Departure.lateStoresUnsure }, { on := 6, ground := Go.Ground.phase }, { on := 7, ground := Go.Ground.phase }], guard := none }) rfl (fun K hK => ?_) ?_
            ·
              have c0 := P7_5.cell0
              have c1 := P7_5.cell1
              have f0 := P7_5.frozen0
              have f1 := P7_5.frozen1
              go_simp
              clear c0 c1 f0 f1
              have s6 := keep6_set (o := 1) (v := .int .u64 (xl : Int)) (keep6_set (b := g7) (o := 0) (v := .int .u64 (xh : Int)) s5 (by omega) (by omega)) (b := g7) (by omega) (by omega)
              have b6 := (b5.setCell (p := ⟨g7, 0, none⟩) l7 (.int .u64 (xh : Int))).setCell (p := ⟨g7, 1, none⟩) l7 (.int .u64 (xl : Int))
              have P7_6 := (P7_5.set0 (.int .u64 (xh : Int))).set1 (.int .u64 (xl : Int))
              have P8_6 := (P8_5.other (show g8 ≠ g7 by omega) 0 (.int .u64 (xh : Int))).other (show g8 ≠ g7 by omega) 1 (.int .u64 (xl : Int))
              refine hK.out _ _ s6 (fun _ => ?_)
              clear hK K
              try simp only [Act.put, List.setIfInBounds_toArray, List.set_cons_zero, List.set_cons_succ]
              obtain ⟨W6, hW⟩ : ∃ W', ((W5.setCell ⟨g7, 0, none⟩ (.int .u64 (xh : Int))).setCell ⟨g7, 1, none⟩ (.int .u64 (xl : Int))) = W' := ⟨_, rfl⟩
              rw [hW] at s6 b6 P7_6 P8_6 ⊢
              clear hW s5 b5 P7_5 P8_5
              refine wpAnyH_ready (rs := [9]) (by kernel_rfl) (by simp) ?_
              refine AllReadyH.cons (o := { dst := none, op := Go.Op.store 64 (Go.Operand.tmp 8) (Go.Operand.tmp 30), type := 0, pos := "decimal.go:136", after := #[{ on := 7, ground := Go.Ground.data }, { on := 5, ground := Go.Ground.data }, { on := 8, ground := Go.Ground.chain }, { on := 0, ground := Go.Ground.phase }, { on := 1, ground := Go.Ground.phase }, { on := 2, ground := Go.Ground.phase }, { on := 3, ground := Go.Ground.phase }, { on := 4, ground := Go.Ground.phase }, { on := 5, ground := Go.Ground.phase }, { on := 6, ground := Go.Ground.phase }, { on := 7, ground := Go.Ground.phase }, { on := 8, ground := Go.Ground.phase }], guard := none }) rfl (fun K hK => ?_) ?_
              ·
                have c0 := P8_6.cell0
                have c1 := P8_6.cell1
                have f0 := P8_6.frozen0
                have f1 := P8_6.frozen1
                go_simp
                clear c0 c1 f0 f1
                have s7 := keep6_set (o := 1) (v := .int .u64 (yl : Int)) (keep6_set (b := g8) (o := 0) (v := .int .u64 (yh : Int)) s6 (by omega) (by omega)) (b := g8) (by omega) (by omega)
                have b7 := (b6.setCell (p := ⟨g8, 0, none⟩) l8 (.int .u64 (yh : Int))).setCell (p := ⟨g8, 1, none⟩) l8 (.int .u64 (yl : Int))
                have P8_7 := (P8_6.set0 (.int .u64 (yh : Int))).set1 (.int .u64 (yl : Int))
                have P7_7 := (P7_6.other (show g7 ≠ g8 by omega) 0 (.int .u64 (yh : Int))).other (show g7 ≠ g8 by omega) 1 (.int .u64 (yl : Int))
                refine hK.out _ _ s7 (fun _ => ?_)
                clear hK K
                try simp only [Act.put, List.setIfInBounds_toArray, List.set_cons_zero, List.set_cons_succ]
                obtain ⟨W7, hW⟩ : ∃ W', ((W6.setCell ⟨g8, 0, none⟩ (.int .u64 (yh : Int))).setCell ⟨g8, 1, none⟩ (.int .u64 (yl : Int))) = W' := ⟨_, rfl⟩
                rw [hW] at s7 b7 P7_7 P8_7 ⊢
                clear hW s6 b6 P7_6 P8_6
                refine wpAnyH_done (by kernel_rfl) ?_ _
                refine NoPanic.normal ?_
                go_wp2_with fail
                go_meet
                exact ⟨g7, g8, rfl, rfl, b7, P7_7, P8_7⟩
              exact AllReadyH.nil
            exact AllReadyH.nil
          exact AllReadyH.nil
        refine AllReadyH.cons (o := { dst := some 8, op := Go.Op.alloc 64, type := 0, pos := "decimal.go:136", after := #[], guard := none }) rfl (fun K hK => ?_) ?_
        ·
          go_simp
          have s4 := keep6_alloc (.cells #[.int .u64 0, .int .u64 0] 64) s3
          have b4 := b3.alloc b3.size (.cells #[.int .u64 0, .int .u64 0] 64)
          have P8_4 := Pair.new W3 64 (.int .u64 0) (.int .u64 0)
          have l8 : W0.heap.size ≤ W3.heap.size := b3.size
          have P7_4 := P7_3.alloc (.cells #[.int .u64 0, .int .u64 0] 64)
          have ne : g7 < W3.heap.size := P7_3.lt
          refine hK.out _ _ s4 (fun _ => ?_)
          clear hK K
          try simp only [Act.put, List.setIfInBounds_toArray, List.set_cons_zero, List.set_cons_succ]
          obtain ⟨W4, hW⟩ : ∃ W', W3.alloc (.cells #[.int .u64 0, .int .u64 0] 64) = W' := ⟨_, rfl⟩
          obtain ⟨g8, hg⟩ : ∃ g, W3.heap.size = g := ⟨_, rfl⟩
          rw [hW] at s4 b4 P7_4 ⊢
          rw [hW, hg] at P8_4
          rw [hg] at l8 ne ⊢
          clear hW hg s3 b3 P7_3
          refine wpAnyH_ready (rs := [5]) (by kernel_rfl) (by simp) ?_
          refine AllReadyH.cons (o := { dst := some 30, op := Go.Op.call { callee := Go.Callee.value (Go.Operand.func 48), args := #[Go.Operand.tmp 28, Go.Operand.tmp 29], argTypes := #[24, 3] }, type := 64, pos := "decimal.go:136", after := #[{ on := 3, ground := Go.Ground.data }, { on := 4, ground := Go.Ground.data }, { on := 2, ground := Go.Ground.chain }], guard := none }) rfl (fun K hK => ?_) ?_
          ·
            go_simp
            go_at_call 48
            refine (C2 _).out.mono ?_
            rintro e W5 ⟨rfl, hb⟩
            have s5 := keep6 hb s4
            refine hK.out _ _ s5 (fun _ => ?_)
            clear hK K
            try simp only [Act.put, List.setIfInBounds_toArray, List.set_cons_zero, List.set_cons_succ]
            have b5 := b4.trans (hb.mono b4.size)
            have P7_5 := P7_4.below hb
            have P8_5 := P8_4.below hb
            clear hb s4 b4 P7_4 P8_4
            refine wpAnyH_ready (rs := [8]) (by kernel_rfl) (by simp) ?_
            refine AllReadyH.cons (o := { dst := none, op := Go.Op.store 64 (Go.Operand.tmp 7) (Go.Operand.tmp 27), type := 0, pos := "decimal.go:136", after := #[{ on := 6, ground := Go.Ground.data }, { on := 2, ground := Go.Ground.data }, { on := 5, ground := Go.Ground.chain }, { on := 0, ground := Go.Ground.phase }, { on := 1, ground := Go.Ground.phase }, { on := 2, ground := Go.Ground.phase }, { on := 3, ground := Go.Ground.textOnly Go.Departure.lateStores }, { on := 4, ground := Go.Ground.textOnly Go.Departure.lateStores }, { on := 5, ground := Go.Ground.textOnly Go.Departure.lateStoresUnsure }, { on := 6, ground := Go.Ground.phase }, { on := 7, ground := Go.Ground.phase }], guard := none }) rfl (fun K hK => ?_) ?_
            ·
              have c0 := P7_5.cell0
              have c1 := P7_5.cell1
              have f0 := P7_5.frozen0
              have f1 := P7_5.frozen1
              go_simp
              clear c0 c1 f0 f1
              have s6 := keep6_set (o := 1) (v := .int .u64 (xl : Int)) (keep6_set (b := g7) (o := 0) (v := .int .u64 (xh : Int)) s5 (by omega) (by omega)) (b := g7) (by omega) (by omega)
              have b6 := (b5.setCell (p := ⟨g7, 0, none⟩) l7 (.int .u64 (xh : Int))).setCell (p := ⟨g7, 1, none⟩) l7 (.int .u64 (xl : Int))
              have P7_6 := (P7_5.set0 (.int .u64 (xh : Int))).set1 (.int .u64 (xl : Int))
              have P8_6 := (P8_5.other (show g8 ≠ g7 by omega) 0 (.int .u64 (xh : Int))).other (show g8 ≠ g7 by omega) 1 (.int .u64 (xl : Int))
              refine hK.out _ _ s6 (fun _ => ?_)
              clear hK K
              try simp only [Act.put, List.setIfInBounds_toArray, List.set_cons_zero, List.set_cons_succ]
              obtain ⟨W6, hW⟩ : ∃ W', ((W5.setCell ⟨g7, 0, none⟩ (.int .u64 (xh : Int))).setCell ⟨g7, 1, none⟩ (.int .u64 (xl : Int))) = W' := ⟨_, rfl⟩
              rw [hW] at s6 b6 P7_6 P8_6 ⊢
              clear hW s5 b5 P7_5 P8_5
              refine wpAnyH_ready (rs := [9]) (by kernel_rfl) (by simp) ?_
              refine AllReadyH.cons (o := { dst := none, op := Go.Op.store 64 (Go.Operand.tmp 8) (Go.Operand.tmp 30), type := 0, pos := "decimal.go:136", after := #[{ on := 7, ground := Go.Ground.data }, { on := 5, ground := Go.Ground.data }, { on := 8, ground := Go.Ground.chain }, { on := 0, ground := Go.Ground.phase }, { on := 1, ground := Go.Ground.phase }, { on := 2, ground := Go.Ground.phase }, { on := 3, ground := Go.Ground.phase }, { on := 4, ground := Go.Ground.phase }, { on := 5, ground := Go.Ground.phase }, { on := 6, ground := Go.Ground.phase }, { on := 7, ground := Go.Ground.phase }, { on := 8, ground := Go.Ground.phase }], guard := none }) rfl (fun K hK => ?_) ?_
              ·
                have c0 := P8_6.cell0
                have c1 := P8_6.cell1
                have f0 := P8_6.frozen0
                have f1 := P8_6.frozen1
                go_simp
                clear c0 c1 f0 f1
                have s7 := keep6_set (o := 1) (v := .int .u64 (yl : Int)) (keep6_set (b := g8) (o := 0) (v := .int .u64 (yh : Int)) s6 (by omega) (by omega)) (b := g8) (by omega) (by omega)
                have b7 := (b6.setCell (p := ⟨g8, 0, none⟩) l8 (.int .u64 (yh : Int))).setCell (p := ⟨g8, 1, none⟩) l8 (.int .u64 (yl : Int))
                have P8_7 := (P8_6.set0 (.int .u64 (yh : Int))).set1 (.int .u64 (yl : Int))
                have P7_7 := (P7_6.other (show g7 ≠ g8 by omega) 0 (.int .u64 (yh : Int))).other (show g7 ≠ g8 by omega) 1 (.int .u64 (yl : Int))
                refine hK.out _ _ s7 (fun _ => ?_)
                clear hK K
                try simp only [Act.put, List.setIfInBounds_toArray, List.set_cons_zero, List.set_cons_succ]
                obtain ⟨W7, hW⟩ : ∃ W', ((W6.setCell ⟨g8, 0, none⟩ (.int .u64 (yh : Int))).setCell ⟨g8, 1, none⟩ (.int .u64 (yl : Int))) = W' := ⟨_, rfl⟩
                rw [hW] at s7 b7 P7_7 P8_7 ⊢
                clear hW s6 b6 P7_6 P8_6
                refine wpAnyH_done (by kernel_rfl) ?_ _
                refine NoPanic.normal ?_
                go_wp2_with fail
                go_meet
                exact ⟨g7, g8, rfl, rfl, b7, P7_7, P8_7⟩
              exact AllReadyH.nil
            exact AllReadyH.nil
          exact AllReadyH.nil
        exact AllReadyH.nil
      refine AllReadyH.cons (o := { dst := some 8, op := Go.Op.alloc 64, type := 0, pos := "decimal.go:136", after := #[], guard := none }) rfl (fun K hK => ?_) ?_
      ·
        go_simp
        have s3 := keep6_alloc (.cells #[.int .u64 0, .int .u64 0] 64) s2
        have b3 := b2.alloc b2.size (.cells #[.int .u64 0, .int .u64 0] 64)
        have P8_3 := Pair.new W2 64 (.int .u64 0) (.int .u64 0)
        have l8 : W0.heap.size ≤ W2.heap.size := b2.size
        refine hK.out _ _ s3 (fun _ => ?_)
        clear hK K
        try simp only [Act.put, List.setIfInBounds_toArray, List.set_cons_zero, List.set_cons_succ]
        obtain ⟨W3, hW⟩ : ∃ W', W2.alloc (.cells #[.int .u64 0, .int .u64 0] 64) = W' := ⟨_, rfl⟩
        obtain ⟨g8, hg⟩ : ∃ g, W2.heap.size = g := ⟨_, rfl⟩
        rw [hW] at s3 b3 ⊢
        rw [hW, hg] at P8_3
        rw [hg] at l8 ⊢
        clear hW hg s2 b2
        refine wpAnyH_ready (rs := [5, 6]) (by kernel_rfl) (by simp) ?_
        refine AllReadyH.cons (o := { dst := some 30, op := Go.Op.call { callee := Go.Callee.value (Go.Operand.func 48), args := #[Go.Operand.tmp 28, Go.Operand.tmp 29], argTypes := #[24, 3] }, type := 64, pos := "decimal.go:136", after := #[{ on := 3, ground := Go.Ground.data }, { on := 4, ground := Go.Ground.data }, { on := 2, ground := Go.Ground.chain }], guard := none }) rfl (fun K hK => ?_) ?_
        ·
          go_simp
          go_at_call 48
          refine (C2 _).out.mono ?_
          rintro e W4 ⟨rfl, hb⟩
          have s4 := keep6 hb s3
          refine hK.out _ _ s4 (fun _ => ?_)
          clear hK K
          try simp only [Act.put, List.setIfInBounds_toArray, List.set_cons_zero, List.set_cons_succ]
          have b4 := b3.trans (hb.mono b3.size)
          have P8_4 := P8_3.below hb
          clear hb s3 b3 P8_3
          refine wpAnyH_ready (rs := [6]) (by kernel_rfl) (by simp) ?_
          refine AllReadyH.cons (o := { dst := some 7, op := Go.Op.alloc 64, type := 0, pos := "decimal.go:136", after := #[], guard := none }) rfl (fun K hK => ?_) ?_
          ·
            go_simp
            have s5 := keep6_alloc (.cells #[.int .u64 0, .int .u64 0] 64) s4
            have b5 := b4.alloc b4.size (.cells #[.int .u64 0, .int .u64 0] 64)
            have P7_5 := Pair.new W4 64 (.int .u64 0) (.int .u64 0)
            have l7 : W0.heap.size ≤ W4.heap.size := b4.size
            have P8_5 := P8_4.alloc (.cells #[.int .u64 0, .int .u64 0] 64)
            have ne : g8 < W4.heap.size := P8_4.lt
            refine hK.out _ _ s5 (fun _ => ?_)
            clear hK K
            try simp only [Act.put, List.setIfInBounds_toArray, List.set_cons_zero, List.set_cons_succ]
            obtain ⟨W5, hW⟩ : ∃ W', W4.alloc (.cells #[.int .u64 0, .int .u64 0] 64) = W' := ⟨_, rfl⟩
            obtain ⟨g7, hg⟩ : ∃ g, W4.heap.size = g := ⟨_, rfl⟩
            rw [hW] at s5 b5 P8_5 ⊢
            rw [hW, hg] at P7_5
            rw [hg] at l7 ne ⊢
            clear hW hg s4 b4 P8_4
            refine wpAnyH_ready (rs := [8]) (by kernel_rfl) (by simp) ?_
            refine AllReadyH.cons (o := { dst := none, op := Go.Op.store 64 (Go.Operand.tmp 7) (Go.Operand.tmp 27), type := 0, pos := "decimal.go:136", after := #[{ on := 6, ground := Go.Ground.data }, { on := 2, ground := Go.Ground.data }, { on := 5, ground := Go.Ground.chain }, { on := 0, ground := Go.Ground.phase }, { on := 1, ground := Go.Ground.phase }, { on := 2, ground := Go.Ground.phase }, { on := 3, ground := Go.Ground.textOnly Go.Departure.lateStores }, { on := 4, ground := Go.Ground.textOnly Go.Departure.lateStores }, { on := 5, ground := Go.Ground.textOnly Go.Departure.lateStoresUnsure }, { on := 6, ground := Go.Ground.phase }, { on := 7, ground := Go.Ground.phase }], guard := none }) rfl (fun K hK => ?_) ?_
            ·
              have c0 := P7_5.cell0
              have c1 := P7_5.cell1
              have f0 := P7_5.frozen0
              have f1 := P7_5.frozen1
              go_simp
              clear c0 c1 f0 f1
              have s6 := keep6_set (o := 1) (v := .int .u64 (xl : Int)) (keep6_set (b := g7) (o := 0) (v := .int .u64 (xh : Int)) s5 (by omega) (by omega)) (b := g7) (by omega) (by omega)
              have b6 := (b5.setCell (p := ⟨g7, 0, none⟩) l7 (.int .u64 (xh : Int))).setCell (p := ⟨g7, 1, none⟩) l7 (.int .u64 (xl : Int))
              have P7_6 := (P7_5.set0 (.int .u64 (xh : Int))).set1 (.int .u64 (xl : Int))
              have P8_6 := (P8_5.other (show g8 ≠ g7 by omega) 0 (.int .u64 (xh : Int))).other (show g8 ≠ g7 by omega) 1 (.int .u64 (xl : Int))
              refine hK.out _ _ s6 (fun _ => ?_)
              clear hK K
              try simp only [Act.put, List.setIfInBounds_toArray, List.set_cons_zero, List.set_cons_succ]
              obtain ⟨W6, hW⟩ : ∃ W', ((W5.setCell ⟨g7, 0, none⟩ (.int .u64 (xh : Int))).setCell ⟨g7, 1, none⟩ (.int .u64 (xl : Int))) = W' := ⟨_, rfl⟩
              rw [hW] at s6 b6 P7_6 P8_6 ⊢
              clear hW s5 b5 P7_5 P8_5
              refine wpAnyH_ready (rs := [9]) (by kernel_rfl) (by simp) ?_
              refine AllReadyH.cons (o := { dst := none, op := Go.Op.store 64 (Go.Operand.tmp 8) (Go.Operand.tmp 30), type := 0, pos := "decimal.go:136", after := #[{ on := 7, ground := Go.Ground.data }, { on := 5, ground := Go.Ground.data }, { on := 8, ground := Go.Ground.chain }, { on := 0, ground := Go.Ground.phase }, { on := 1, ground := Go.Ground.phase }, { on := 2, ground := Go.Ground.phase }, { on := 3, ground := Go.Ground.phase }, { on := 4, ground := Go.Ground.phase }, { on := 5, ground := Go.Ground.phase }, { on := 6, ground := Go.Ground.phase }, { on := 7, ground := Go.Ground.phase }, { on := 8, ground := Go.Ground.phase }], guard := none }) rfl (fun K hK => ?_) ?_
              ·
                have c0 := P8_6.cell0
                have c1 := P8_6.cell1
                have f0 := P8_6.frozen0
                have f1 := P8_6.frozen1
                go_simp
                clear c0 c1 f0 f1
                have s7 := keep6_set (o := 1) (v := .int .u64 (yl : Int)) (keep6_set (b := g8) (o := 0) (v := .int .u64 (yh : Int)) s6 (by omega) (by omega)) (b := g8) (by omega) (by omega)
                have b7 := (b6.setCell (p := ⟨g8, 0, none⟩) l8 (.int .u64 (yh : Int))).setCell (p := ⟨g8, 1, none⟩) l8 (.int .u64 (yl : Int))
                have P8_7 := (P8_6.set0 (.int .u64 (yh : Int))).set1 (.int .u64 (yl : Int))
                have P7_7 := (P7_6.other (show g7 ≠ g8 by omega) 0 (.int .u64 (yh : Int))).other (show g7 ≠ g8 by omega) 1 (.int .u64 (yl : Int))
                refine hK.out _ _ s7 (fun _ => ?_)
                clear hK K
                try simp only [Act.put, List.setIfInBounds_toArray, List.set_cons_zero, List.set_cons_succ]
                obtain ⟨W7, hW⟩ : ∃ W', ((W6.setCell ⟨g8, 0, none⟩ (.int .u64 (yh : Int))).setCell ⟨g8, 1, none⟩ (.int .u64 (yl : Int))) = W' := ⟨_, rfl⟩
                rw [hW] at s7 b7 P7_7 P8_7 ⊢
                clear hW s6 b6 P7_6 P8_6
                refine wpAnyH_done (by kernel_rfl) ?_ _
                refine NoPanic.normal ?_
                go_wp2_with fail
                go_meet
                exact ⟨g7, g8, rfl, rfl, b7, P7_7, P8_7⟩
              exact AllReadyH.nil
            exact AllReadyH.nil
          exact AllReadyH.nil
        refine AllReadyH.cons (o := { dst := some 7, op := Go.Op.alloc 64, type := 0, pos := "decimal.go:136", after := #[], guard := none }) rfl (fun K hK => ?_) ?_
        ·
          go_simp
          have s4 := keep6_alloc (.cells #[.int .u64 0, .int .u64 0] 64) s3
          have b4 := b3.alloc b3.size (.cells #[.int .u64 0, .int .u64 0] 64)
          have P7_4 := Pair.new W3 64 (.int .u64 0) (.int .u64 0)
          have l7 : W0.heap.size ≤ W3.heap.size := b3.size
          have P8_4 := P8_3.alloc (.cells #[.int .u64 0, .int .u64 0] 64)
          have ne : g8 < W3.heap.size := P8_3.lt
          refine hK.out _ _ s4 (fun _ => ?_)
          clear hK K
          try simp only [Act.put, List.setIfInBounds_toArray, List.set_cons_zero, List.set_cons_succ]
          obtain ⟨W4, hW⟩ : ∃ W', W3.alloc (.cells #[.int .u64 0, .int .u64 0] 64) = W' := ⟨_, rfl⟩
          obtain ⟨g7, hg⟩ : ∃ g, W3.heap.size = g := ⟨_, rfl⟩
          rw [hW] at s4 b4 P8_4 ⊢
          rw [hW, hg] at P7_4
          rw [hg] at l7 ne ⊢
          clear hW hg s3 b3 P8_3
          refine wpAnyH_ready (rs := [5]) (by kernel_rfl) (by simp) ?_
          refine AllReadyH.cons (o := { dst := some 30, op := Go.Op.call { callee := Go.Callee.value (Go.Operand.func 48), args := #[Go.Operand.tmp 28, Go.Operand.tmp 29], argTypes := #[24, 3] }, type := 64, pos := "decimal.go:136", after := #[{ on := 3, ground := Go.Ground.data }, { on := 4, ground := Go.Ground.data }, { on := 2, ground := Go.Ground.chain }], guard := none }) rfl (fun K hK => ?_) ?_
          ·
            go_simp
            go_at_call 48
            refine (C2 _).out.mono ?_
            rintro e W5 ⟨rfl, hb⟩
            have s5 := keep6 hb s4
            refine hK.out _ _ s5 (fun _ => ?_)
            clear hK K
            try simp only [Act.put, List.setIfInBounds_toArray, List.set_cons_zero, List.set_cons_succ]
            have b5 := b4.trans (hb.mono b4.size)
            have P7_5 := P7_4.below hb
            have P8_5 := P8_4.below hb
            clear hb s4 b4 P7_4 P8_4
            refine wpAnyH_ready (rs := [8]) (by kernel_rfl) (by simp) ?_
            refine AllReadyH.cons (o := { dst := none, op := Go.Op.store 64 (Go.Operand.tmp 7) (Go.Operand.tmp 27), type := 0, pos := "decimal.go:136", after := #[{ on := 6, ground := Go.Ground.data }, { on := 2, ground := Go.Ground.data }, { on := 5, ground := Go.Ground.chain }, { on := 0, ground := Go.Ground.phase }, { on := 1, ground := Go.Ground.phase }, { on := 2, ground := Go.Ground.phase }, { on := 3, ground := Go.Ground.textOnly Go.Departure.lateStores }, { on := 4, ground := Go.Ground.textOnly Go.Departure.lateStores }, { on := 5, ground := Go.Ground.textOnly Go.Departure.lateStoresUnsure }, { on := 6, ground := Go.Ground.phase }, { on := 7, ground := Go.Ground.phase }], guard := none }) rfl (fun K hK => ?_) ?_
            ·
              have c0 := P7_5.cell0
              have c1 := P7_5.cell1
              have f0 := P7_5.frozen0
              have f1 := P7_5.frozen1
              go_simp
              clear c0 c1 f0 f1
              have s6 := keep6_set (o := 1) (v := .int .u64 (xl : Int)) (keep6_set (b := g7) (o := 0) (v := .int .u64 (xh : Int)) s5 (by omega) (by omega)) (b := g7) (by omega) (by omega)
              have b6 := (b5.setCell (p := ⟨g7, 0, none⟩) l7 (.int .u64 (xh : Int))).setCell (p := ⟨g7, 1, none⟩) l7 (.int .u64 (xl : Int))
              have P7_6 := (P7_5.set0 (.int .u64 (xh : Int))).set1 (.int .u64 (xl : Int))
              have P8_6 := (P8_5.other (show g8 ≠ g7 by omega) 0 (.int .u64 (xh : Int))).other (show g8 ≠ g7 by omega) 1 (.int .u64 (xl : Int))
              refine hK.out _ _ s6 (fun _ => ?_)
              clear hK K
              try simp only [Act.put, List.setIfInBounds_toArray, List.set_cons_zero, List.set_cons_succ]
              obtain ⟨W6, hW⟩ : ∃ W', ((W5.setCell ⟨g7, 0, none⟩ (.int .u64 (xh : Int))).setCell ⟨g7, 1, none⟩ (.int .u64 (xl : Int))) = W' := ⟨_, rfl⟩
              rw [hW] at s6 b6 P7_6 P8_6 ⊢
              clear hW s5 b5 P7_5 P8_5
              refine wpAnyH_ready (rs := [9]) (by kernel_rfl) (by simp) ?_
              refine AllReadyH.cons (o := { dst := none, op := Go.Op.store 64 (Go.Operand.tmp 8) (Go.Operand.tmp 30), type := 0, pos := "decimal.go:136", after := #[{ on := 7, ground := Go.Ground.data }, { on := 5, ground := Go.Ground.data }, { on := 8, ground := Go.Ground.chain }, { on := 0, ground := Go.Ground.phase }, { on := 1, ground := Go.Ground.phase }, { on := 2, ground := Go.Ground.phase }, { on := 3, ground := Go.Ground.phase }, { on := 4, ground := Go.Ground.phase }, { on := 5, ground := Go.Ground.phase }, { on := 6, ground := Go.Ground.phase }, { on := 7, ground := Go.Ground.phase }, { on := 8, ground := Go.Ground.phase }], guard := none }) rfl (fun K hK => ?_) ?_
              ·
                have c0 := P8_6.cell0
                have c1 := P8_6.cell1
                have f0 := P8_6.frozen0
                have f1 := P8_6.frozen1
                go_simp
                clear c0 c1 f0 f1
                have s7 := keep6_set (o := 1) (v := .int .u64 (yl : Int)) (keep6_set (b := g8) (o := 0) (v := .int .u64 (yh : Int)) s6 (by omega) (by omega)) (b := g8) (by omega) (by omega)
                have b7 := (b6.setCell (p := ⟨g8, 0, none⟩) l8 (.int .u64 (yh : Int))).setCell (p := ⟨g8, 1, none⟩) l8 (.int .u64 (yl : Int))
                have P8_7 := (P8_6.set0 (.int .u64 (yh : Int))).set1 (.int .u64 (yl : Int))
                have P7_7 := (P7_6.other (show g7 ≠ g8 by omega) 0 (.int .u64 (yh : Int))).other (show g7 ≠ g8 by omega) 1 (.int .u64 (yl : Int))
                refine hK.out _ _ s7 (fun _ => ?_)
                clear hK K
                try simp only [Act.put, List.setIfInBounds_toArray, List.set_cons_zero, List.set_cons_succ]
                obtain ⟨W7, hW⟩ : ∃ W', ((W6.setCell ⟨g8, 0, none⟩ (.int .u64 (yh : Int))).setCell ⟨g8, 1, none⟩ (.int .u64 (yl : Int))) = W' := ⟨_, rfl⟩
                rw [hW] at s7 b7 P7_7 P8_7 ⊢
                clear hW s6 b6 P7_6 P8_6
                refine wpAnyH_done (by kernel_rfl) ?_ _
                refine NoPanic.normal ?_
                go_wp2_with fail
                go_meet
                exact ⟨g7, g8, rfl, rfl, b7, P7_7, P8_7⟩
              exact AllReadyH.nil
            exact AllReadyH.nil
          exact AllReadyH.nil
        exact AllReadyH.nil
      exact AllReadyH.nil
    refine AllReadyH.cons (o := { dst := some 7, op := Go.Op.alloc 64, type := 0, pos := "decimal.go:136", after := #[], guard := none }) rfl (fun K hK => ?_) ?_
    ·
      go_simp
      have s2 := keep6_alloc (.cells #[.int .u64 0, .int .u64 0] 64) s1
      have b2 := b1.alloc b1.size (.cells #[.int .u64 0, .int .u64 0] 64)
      have P7_2 := Pair.new W1 64 (.int .u64 0) (.int .u64 0)
      have l7 : W0.heap.size ≤ W1.heap.size := b1.size
      refine hK.out _ _ s2 (fun _ => ?_)
      clear hK K
      try simp only [Act.put, List.setIfInBounds_toArray, List.set_cons_zero, List.set_cons_succ]
      obtain ⟨W2, hW⟩ : ∃ W', W1.alloc (.cells #[.int .u64 0, .int .u64 0] 64) = W' := ⟨_, rfl⟩
      obtain ⟨g7, hg⟩ : ∃ g, W1.heap.size = g := ⟨_, rfl⟩
      rw [hW] at s2 b2 ⊢
      rw [hW, hg] at P7_2
      rw [hg] at l7 ⊢
      clear hW hg s1 b1
      refine wpAnyH_ready (rs := [2, 7]) (by kernel_rfl) (by simp) ?_
      refine AllReadyH.cons (o := { dst := some 27, op := Go.Op.call { callee := Go.Callee.value (Go.Operand.func 48), args := #[Go.Operand.tmp 25, Go.Operand.tmp 26], argTypes := #[24, 3] }, type := 64, pos := "decimal.go:136", after := #[{ on := 0, ground := Go.Ground.data }, { on := 1, ground := Go.Ground.data }], guard := none }) rfl (fun K hK => ?_) ?_
      ·
        go_simp
        go_at_call 48
        refine (C1 _).out.mono ?_
        rintro e W3 ⟨rfl, hb⟩
        have s3 := keep6 hb s2
        refine hK.out _ _ s3 (fun _ => ?_)
        clear hK K
        try simp only [Act.put, List.setIfInBounds_toArray, List.set_cons_zero, List.set_cons_succ]
        have b3 := b2.trans (hb.mono b2.size)
        have P7_3 := P7_2.below hb
        clear hb s2 b2 P7_2
        refine wpAnyH_ready (rs := [5, 7]) (by kernel_rfl) (by simp) ?_
        refine AllReadyH.cons (o := { dst := some 30, op := Go.Op.call { callee := Go.Callee.value (Go.Operand.func 48), args := #[Go.Operand.tmp 28, Go.Operand.tmp 29], argTypes := #[24, 3] }, type := 64, pos := "decimal.go:136", after := #[{ on := 3, ground := Go.Ground.data }, { on := 4, ground := Go.Ground.data }, { on := 2, ground := Go.Ground.chain }], guard := none }) rfl (fun K hK => ?_) ?_
        ·
          go_simp
          go_at_call 48
          refine (C2 _).out.mono ?_
          rintro e W4 ⟨rfl, hb⟩
          have s4 := keep6 hb s3
          refine hK.out _ _ s4 (fun _ => ?_)
          clear hK K
          try simp only [Act.put, List.setIfInBounds_toArray, List.set_cons_zero, List.set_cons_succ]
          have b4 := b3.trans (hb.mono b3.size)
          have P7_4 := P7_3.below hb
          clear hb s3 b3 P7_3
          refine wpAnyH_ready (rs := [7]) (by kernel_rfl) (by simp) ?_
          refine AllReadyH.cons (o := { dst := some 8, op := Go.Op.alloc 64, type := 0, pos := "decimal.go:136", after := #[], guard := none }) rfl (fun K hK => ?_) ?_
          ·
            go_simp
            have s5 := keep6_alloc (.cells #[.int .u64 0, .int .u64 0] 64) s4
            have b5 := b4.alloc b4.size (.cells #[.int .u64 0, .int .u64 0] 64)
            have P8_5 := Pair.new W4 64 (.int .u64 0) (.int .u64 0)
            have l8 : W0.heap.size ≤ W4.heap.size := b4.size
            have P7_5 := P7_4.alloc (.cells #[.int .u64 0, .int .u64 0] 64)
            have ne : g7 < W4.heap.size := P7_4.lt
            refine hK.out _ _ s5 (fun _ => ?_)
            clear hK K
            try simp only [Act.put, List.setIfInBounds_toArray, List.set_cons_zero, List.set_cons_succ]
            obtain ⟨W5, hW⟩ : ∃ W', W4.alloc (.cells #[.int .u64 0, .int .u64 0] 64) = W' := ⟨_, rfl⟩
            obtain ⟨g8, hg⟩ : ∃ g, W4.heap.size = g := ⟨_, rfl⟩
            rw [hW] at s5 b5 P7_5 ⊢
            rw [hW, hg] at P8_5
            rw [hg] at l8 ne ⊢
            clear hW hg s4 b4 P7_4
            refine wpAnyH_ready (rs := [8]) (by kernel_rfl) (by simp) ?_
            refine AllReadyH.cons (o := { dst := none, op := Go.Op.store 64 (Go.Operand.tmp 7) (Go.Operand.tmp 27), type := 0, pos := "decimal.go:136", after := #[{ on := 6, ground := Go.Ground.data }, { on := 2, ground := Go.Ground.data }, { on := 5, ground := Go.Ground.chain }, { on := 0, ground := Go.Ground.phase }, { on := 1, ground := Go.Ground.phase }, { on := 2, ground := Go.Ground.phase }, { on := 3, ground := Go.Ground.textOnly Go.Departure.lateStores }, { on := 4, ground := Go.Ground.textOnly Go.Departure.lateStores }, { on := 5, ground := Go.Ground.textOnly Go.Departure.lateStoresUnsure }, { on := 6, ground := Go.Ground.phase }, { on := 7, ground := Go.Ground.phase }], guard := none }) rfl (fun K hK => ?_) ?_
            ·
              have c0 := P7_5.cell0
              have c1 := P7_5.cell1
              have f0 := P7_5.frozen0
              have f1 := P7_5.frozen1
              go_simp
              clear c0 c1 f0 f1
              have s6 := keep6_set (o := 1) (v := .int .u64 (xl : Int)) (keep6_set (b := g7) (o := 0) (v := .int .u64 (xh : Int)) s5 (by omega) (by omega)) (b := g7) (by omega) (by omega)
              have b6 := (b5.setCell (p := ⟨g7, 0, none⟩) l7 (.int .u64 (xh : Int))).setCell (p := ⟨g7, 1, none⟩) l7 (.int .u64 (xl : Int))
              have P7_6 := (P7_5.set0 (.int .u64 (xh : Int))).set1 (.int .u64 (xl : Int))
              have P8_6 := (P8_5.other (show g8 ≠ g7 by omega) 0 (.int .u64 (xh : Int))).other (show g8 ≠ g7 by omega) 1 (.int .u64 (xl : Int))
              refine hK.out _ _ s6 (fun _ => ?_)
              clear hK K
              try simp only [Act.put, List.setIfInBounds_toArray, List.set_cons_zero, List.set_cons_succ]
              obtain ⟨W6, hW⟩ : ∃ W', ((W5.setCell ⟨g7, 0, none⟩ (.int .u64 (xh : Int))).setCell ⟨g7, 1, none⟩ (.int .u64 (xl : Int))) = W' := ⟨_, rfl⟩
              rw [hW] at s6 b6 P7_6 P8_6 ⊢
              clear hW s5 b5 P7_5 P8_5
              refine wpAnyH_ready (rs := [9]) (by kernel_rfl) (by simp) ?_
              refine AllReadyH.cons (o := { dst := none, op := Go.Op.store 64 (Go.Operand.tmp 8) (Go.Operand.tmp 30), type := 0, pos := "decimal.go:136", after := #[{ on := 7, ground := Go.Ground.data }, { on := 5, ground := Go.Ground.data }, { on := 8, ground := Go.Ground.chain }, { on := 0, ground := Go.Ground.phase }, { on := 1, ground := Go.Ground.phase }, { on := 2, ground := Go.Ground.phase }, { on := 3, ground := Go.Ground.phase }, { on := 4, ground := Go.Ground.phase }, { on := 5, ground := Go.Ground.phase }, { on := 6, ground := Go.Ground.phase }, { on := 7, ground := Go.Ground.phase }, { on := 8, ground := Go.Ground.phase }], guard := none }) rfl (fun K hK => ?_) ?_
              ·
                have c0 := P8_6.cell0
                have c1 := P8_6.cell1
                have f0 := P8_6.frozen0
                have f1 := P8_6.frozen1
                go_simp
                clear c0 c1 f0 f1
                have s7 := keep6_set (o := 1) (v := .int .u64 (yl : Int)) (keep6_set (b := g8) (o := 0) (v := .int .u64 (yh : Int)) s6 (by omega) (by omega)) (b := g8) (by omega) (by omega)
                have b7 := (b6.setCell (p := ⟨g8, 0, none⟩) l8 (.int .u64 (yh : Int))).setCell (p := ⟨g8, 1, none⟩) l8 (.int .u64 (yl : Int))
                have P8_7 := (P8_6.set0 (.int .u64 (yh : Int))).set1 (.int .u64 (yl : Int))
                have P7_7 := (P7_6.other (show g7 ≠ g8 by omega) 0 (.int .u64 (yh : Int))).other (show g7 ≠ g8 by omega) 1 (.int .u64 (yl : Int))
                refine hK.out _ _ s7 (fun _ => ?_)
                clear hK K
                try simp only [Act.put, List.setIfInBounds_toArray, List.set_cons_zero, List.set_cons_succ]
                obtain ⟨W7, hW⟩ : ∃ W', ((W6.setCell ⟨g8, 0, none⟩ (.int .u64 (yh : Int))).setCell ⟨g8, 1, none⟩ (.int .u64 (yl : Int))) = W' := ⟨_, rfl⟩
                rw [hW] at s7 b7 P7_7 P8_7 ⊢
                clear hW s6 b6 P7_6 P8_6
                refine wpAnyH_done (by kernel_rfl) ?_ _
                refine NoPanic.normal ?_
                go_wp2_with fail
                go_meet
                exact ⟨g7, g8, rfl, rfl, b7, P7_7, P8_7⟩
              exact AllReadyH.nil
            exact AllReadyH.nil
          exact AllReadyH.nil
        refine AllReadyH.cons (o := { dst := some 8, op := Go.Op.alloc 64, type := 0, pos := "decimal.go:136", after := #[], guard := none }) rfl (fun K hK => ?_) ?_
        ·
          go_simp
          have s4 := keep6_alloc (.cells #[.int .u64 0, .int .u64 0] 64) s3
          have b4 := b3.alloc b3.size (.cells #[.int .u64 0, .int .u64 0] 64)
          have P8_4 := Pair.new W3 64 (.int .u64 0) (.int .u64 0)
          have l8 : W0.heap.size ≤ W3.heap.size := b3.size
          have P7_4 := P7_3.alloc (.cells #[.int .u64 0, .int .u64 0] 64)
          have ne : g7 < W3.heap.size := P7_3.lt
          refine hK.out _ _ s4 (fun _ => ?_)
          clear hK K
          try simp only [Act.put, List.setIfInBounds_toArray, List.set_cons_zero, List.set_cons_succ]
          obtain ⟨W4, hW⟩ : ∃ W', W3.alloc (.cells #[.int .u64 0, .int .u64 0] 64) = W' := ⟨_, rfl⟩
          obtain ⟨g8, hg⟩ : ∃ g, W3.heap.size = g := ⟨_, rfl⟩
          rw [hW] at s4 b4 P7_4 ⊢
          rw [hW, hg] at P8_4
          rw [hg] at l8 ne ⊢
          clear hW hg s3 b3 P7_3
          refine wpAnyH_ready (rs := [5]) (by kernel_rfl) (by simp) ?_
          refine AllReadyH.cons (o := { dst := some 30, op := Go.Op.call { callee := Go.Callee.value (Go.Operand.func 48), args := #[Go.Operand.tmp 28, Go.Operand.tmp 29], argTypes := #[24, 3] }, type := 64, pos := "decimal.go:136", after := #[{ on := 3, ground := Go.Ground.data }, { on := 4, ground := Go.Ground.data }, { on := 2, ground := Go.Ground.chain }], guard := none }) rfl (fun K hK => ?_) ?_
          ·
            go_simp
            go_at_call 48
            refine (C2 _).out.mono ?_
            rintro e W5 ⟨rfl, hb⟩
            have s5 := keep6 hb s4
            refine hK.out _ _ s5 (fun _ => ?_)
            clear hK K
            try simp only [Act.put, List.setIfInBounds_toArray, List.set_cons_zero, List.set_cons_succ]
            have b5 := b4.trans (hb.mono b4.size)
            have P7_5 := P7_4.below hb
            have P8_5 := P8_4.below hb
            clear hb s4 b4 P7_4 P8_4
            refine wpAnyH_ready (rs := [8]) (by kernel_rfl) (by simp) ?_
            refine AllReadyH.cons (o := { dst := none, op := Go.Op.store 64 (Go.Operand.tmp 7) (Go.Operand.tmp 27), type := 0, pos := "decimal.go:136", after := #[{ on := 6, ground := Go.Ground.data }, { on := 2, ground := Go.Ground.data }, { on := 5, ground := Go.Ground.chain }, { on := 0, ground := Go.Ground.phase }, { on := 1, ground := Go.Ground.phase }, { on := 2, ground := Go.Ground.phase }, { on := 3, ground := Go.Ground.textOnly Go.Departure.lateStores }, { on := 4, ground := Go.Ground.textOnly Go.Departure.lateStores }, { on := 5, ground := Go.Ground.textOnly Go.Departure.lateStoresUnsure }, { on := 6, ground := Go.Ground.phase }, { on := 7, ground := Go.Ground.phase }], guard := none }) rfl (fun K hK => ?_) ?_
            ·
              have c0 := P7_5.cell0
              have c1 := P7_5.cell1
              have f0 := P7_5.frozen0
              have f1 := P7_5.frozen1
              go_simp
              clear c0 c1 f0 f1
              have s6 := keep6_set (o := 1) (v := .int .u64 (xl : Int)) (keep6_set (b := g7) (o := 0) (v := .int .u64 (xh : Int)) s5 (by omega) (by omega)) (b := g7) (by omega) (by omega)
              have b6 := (b5.setCell (p := ⟨g7, 0, none⟩) l7 (.int .u64 (xh : Int))).setCell (p := ⟨g7, 1, none⟩) l7 (.int .u64 (xl : Int))
              have P7_6 := (P7_5.set0 (.int .u64 (xh : Int))).set1 (.int .u64 (xl : Int))
              have P8_6 := (P8_5.other (show g8 ≠ g7 by omega) 0 (.int .u64 (xh : Int))).other (show g8 ≠ g7 by omega) 1 (.int .u64 (xl : Int))
              refine hK.out _ _ s6 (fun _ => ?_)
              clear hK K
              try simp only [Act.put, List.setIfInBounds_toArray, List.set_cons_zero, List.set_cons_succ]
              obtain ⟨W6, hW⟩ : ∃ W', ((W5.setCell ⟨g7, 0, none⟩ (.int .u64 (xh : Int))).setCell ⟨g7, 1, none⟩ (.int .u64 (xl : Int))) = W' := ⟨_, rfl⟩
              rw [hW] at s6 b6 P7_6 P8_6 ⊢
              clear hW s5 b5 P7_5 P8_5
              refine wpAnyH_ready (rs := [9]) (by kernel_rfl) (by simp) ?_
              refine AllReadyH.cons (o := { dst := none, op := Go.Op.store 64 (Go.Operand.tmp 8) (Go.Operand.tmp 30), type := 0, pos := "decimal.go:136", after := #[{ on := 7, ground := Go.Ground.data }, { on := 5, ground := Go.Ground.data }, { on := 8, ground := Go.Ground.chain }, { on := 0, ground := Go.Ground.phase }, { on := 1, ground := Go.Ground.phase }, { on := 2, ground := Go.Ground.phase }, { on := 3, ground := Go.Ground.phase }, { on := 4, ground := Go.Ground.phase }, { on := 5, ground := Go.Ground.phase }, { on := 6, ground := Go.Ground.phase }, { on := 7, ground := Go.Ground.phase }, { on := 8, ground := Go.Ground.phase }], guard := none }) rfl (fun K hK => ?_) ?_
              ·
                have c0 := P8_6.cell0
                have c1 := P8_6.cell1
                have f0 := P8_6.frozen0
                have f1 := P8_6.frozen1
                go_simp
                clear c0 c1 f0 f1
                have s7 := keep6_set (o := 1) (v := .int .u64 (yl : Int)) (keep6_set (b := g8) (o := 0) (v := .int .u64 (yh : Int)) s6 (by omega) (by omega)) (b := g8) (by omega) (by omega)
                have b7 := (b6.setCell (p := ⟨g8, 0, none⟩) l8 (.int .u64 (yh : Int))).setCell (p := ⟨g8, 1, none⟩) l8 (.int .u64 (yl : Int))
                have P8_7 := (P8_6.set0 (.int .u64 (yh : Int))).set1 (.int .u64 (yl : Int))
                have P7_7 := (P7_6.other (show g7 ≠ g8 by omega) 0 (.int .u64 (yh : Int))).other (show g7 ≠ g8 by omega) 1 (.int .u64 (yl : Int))
                refine hK.out _ _ s7 (fun _ => ?_)
                clear hK K
                try simp only [Act.put, List.setIfInBounds_toArray, List.set_cons_zero, List.set_cons_succ]
                obtain ⟨W7, hW⟩ : ∃ W', ((W6.setCell ⟨g8, 0, none⟩ (.int .u64 (yh : Int))).setCell ⟨g8, 1, none⟩ (.int .u64 (yl : Int))) = W' := ⟨_, rfl⟩
                rw [hW] at s7 b7 P7_7 P8_7 ⊢
                clear hW s6 b6 P7_6 P8_6
                refine wpAnyH_done (by kernel_rfl) ?_ _
                refine NoPanic.normal ?_
                go_wp2_with fail
                go_meet
                exact ⟨g7, g8, rfl, rfl, b7, P7_7, P8_7⟩
              exact AllReadyH.nil
            exact AllReadyH.nil
          exact AllReadyH.nil
        exact AllReadyH.nil
      refine AllReadyH.cons (o := { dst := some 8, op := Go.Op.alloc 64, type := 0, pos := "decimal.go:136", after := #[], guard := none }) rfl (fun K hK => ?_) ?_
      ·
        go_simp
        have s3 := keep6_alloc (.cells #[.int .u64 0, .int .u64 0] 64) s2
        have b3 := b2.alloc b2.size (.cells #[.int .u64 0, .int .u64 0] 64)
        have P8_3 := Pair.new W2 64 (.int .u64 0) (.int .u64 0)
        have l8 : W0.heap.size ≤ W2.heap.size := b2.size
        have P7_3 := P7_2.alloc (.cells #[.int .u64 0, .int .u64 0] 64)
        have ne : g7 < W2.heap.size := P7_2.lt
        refine hK.out _ _ s3 (fun _ => ?_)
        clear hK K
        try simp only [Act.put, List.setIfInBounds_toArray, List.set_cons_zero, List.set_cons_succ]
        obtain ⟨W3, hW⟩ : ∃ W', W2.alloc (.cells #[.int .u64 0, .int .u64 0] 64) = W' := ⟨_, rfl⟩
        obtain ⟨g8, hg⟩ : ∃ g, W2.heap.size = g := ⟨_, rfl⟩
        rw [hW] at s3 b3 P7_3 ⊢
        rw [hW, hg] at P8_3
        rw [hg] at l8 ne ⊢
        clear hW hg s2 b2 P7_2
        refine wpAnyH_ready (rs := [2]) (by kernel_rfl) (by simp) ?_
        refine AllReadyH.cons (o := { dst := some 27, op := Go.Op.call { callee := Go.Callee.value (Go.Operand.func 48), args := #[Go.Operand.tmp 25, Go.Operand.tmp 26], argTypes := #[24, 3] }, type := 64, pos := "decimal.go:136", after := #[{ on := 0, ground := Go.Ground.data }, { on := 1, ground := Go.Ground.data }], guard := none }) rfl (fun K hK => ?_) ?_
        ·
          go_simp
          go_at_call 48
          refine (C1 _).out.mono ?_
          rintro e W4 ⟨rfl, hb⟩
          have s4 := keep6 hb s3
          refine hK.out _ _ s4 (fun _ => ?_)
          clear hK K
          try simp only [Act.put, List.setIfInBounds_toArray, List.set_cons_zero, List.set_cons_succ]
          have b4 := b3.trans (hb.mono b3.size)
          have P7_4 := P7_3.below hb
          have P8_4 := P8_3.below hb
          clear hb s3 b3 P7_3 P8_3
          refine wpAnyH_ready (rs := [5]) (by kernel_rfl) (by simp) ?_
          refine AllReadyH.cons (o := { dst := some 30, op := Go.Op.call { callee := Go.Callee.value (Go.Operand.func 48), args := #[Go.Operand.tmp 28, Go.Operand.tmp 29], argTypes := #[24, 3] }, type := 64, pos := "decimal.go:136", after := #[{ on := 3, ground := Go.Ground.data }, { on := 4, ground := Go.Ground.data }, { on := 2, ground := Go.Ground.chain }], guard := none }) rfl (fun K hK => ?_) ?_
          ·
            go_simp
            go_at_call 48
            refine (C2 _).out.mono ?_
            rintro e W5 ⟨rfl, hb⟩
            have s5 := keep6 hb s4
            refine hK.out _ _ s5 (fun _ => ?_)
            clear hK K
            try simp only [Act.put, List.setIfInBounds_toArray, List.set_cons_zero, List.set_cons_succ]
            have b5 := b4.trans (hb.mono b4.size)
            have P7_5 := P7_4.below hb
            have P8_5 := P8_4.below hb
            clear hb s4 b4 P7_4 P8_4
            refine wpAnyH_ready (rs := [8]) (by kernel_rfl) (by simp) ?_
            refine AllReadyH.cons (o := { dst := none, op := Go.Op.store 64 (Go.Operand.tmp 7) (Go.Operand.tmp 27), type := 0, pos := "decimal.go:136", after := #[{ on := 6, ground := Go.Ground.data }, { on := 2, ground := Go.Ground.data }, { on := 5, ground := Go.Ground.chain }, { on := 0, ground := Go.Ground.phase }, { on := 1, ground := Go.Ground.phase }, { on := 2, ground := Go.Ground.phase }, { on := 3, ground := Go.Ground.textOnly Go.Departure.lateStores }, { on := 4, ground := Go.Ground.textOnly Go.Departure.lateStores }, { on := 5, ground := Go.Ground.textOnly Go.Departure.lateStoresUnsure }, { on := 6, ground := Go.Ground.phase }, { on := 7, ground := Go.Ground.phase }], guard := none }) rfl (fun K hK => ?_) ?_
            ·
              have c0 := P7_5.cell0
              have c1 := P7_5.cell1
              have f0 := P7_5.frozen0
              have f1 := P7_5.frozen1
              go_simp
              clear c0 c1 f0 f1
              have s6 := keep6_set (o := 1) (v := .int .u64 (xl : Int)) (keep6_set (b := g7) (o := 0) (v := .int .u64 (xh : Int)) s5 (by omega) (by omega)) (b := g7) (by omega) (by omega)
              have b6 := (b5.setCell (p := ⟨g7, 0, none⟩) l7 (.int .u64 (xh : Int))).setCell (p := ⟨g7, 1, none⟩) l7 (.int .u64 (xl : Int))
              have P7_6 := (P7_5.set0 (.int .u64 (xh : Int))).set1 (.int .u64 (xl : Int))
              have P8_6 := (P8_5.other (show g8 ≠ g7 by omega) 0 (.int .u64 (xh : Int))).other (show g8 ≠ g7 by omega) 1 (.int .u64 (xl : Int))
              refine hK.out _ _ s6 (fun _ => ?_)
              clear hK K
              try simp only [Act.put, List.setIfInBounds_toArray, List.set_cons_zero, List.set_cons_succ]
              obtain ⟨W6, hW⟩ : ∃ W', ((W5.setCell ⟨g7, 0, none⟩ (.int .u64 (xh : Int))).setCell ⟨g7, 1, none⟩ (.int .u64 (xl : Int))) = W' := ⟨_, rfl⟩
              rw [hW] at s6 b6 P7_6 P8_6 ⊢
              clear hW s5 b5 P7_5 P8_5
              refine wpAnyH_ready (rs := [9]) (by kernel_rfl) (by simp) ?_
              refine AllReadyH.cons (o := { dst := none, op := Go.Op.store 64 (Go.Operand.tmp 8) (Go.Operand.tmp 30), type := 0, pos := "decimal.go:136", after := #[{ on := 7, ground := Go.Ground.data }, { on := 5, ground := Go.Ground.data }, { on := 8, ground := Go.Ground.chain }, { on := 0, ground := Go.Ground.phase }, { on := 1, ground := Go.Ground.phase }, { on := 2, ground := Go.Ground.phase }, { on := 3, ground := Go.Ground.phase }, { on := 4, ground := Go.Ground.phase }, { on := 5, ground := Go.Ground.phase }, { on := 6, ground := Go.Ground.phase }, { on := 7, ground := Go.Ground.phase }, { on := 8, ground := Go.Ground.phase }], guard := none }) rfl (fun K hK => ?_) ?_
              ·
                have c0 := P8_6.cell0
                have c1 := P8_6.cell1
                have f0 := P8_6.frozen0
                have f1 := P8_6.frozen1
                go_simp
                clear c0 c1 f0 f1
                have s7 := keep6_set (o := 1) (v := .int .u64 (yl : Int)) (keep6_set (b := g8) (o := 0) (v := .int .u64 (yh : Int)) s6 (by omega) (by omega)) (b := g8) (by omega) (by omega)
                have b7 := (b6.setCell (p := ⟨g8, 0, none⟩) l8 (.int .u64 (yh : Int))).setCell (p := ⟨g8, 1, none⟩) l8 (.int .u64 (yl : Int))
                have P8_7 := (P8_6.set0 (.int .u64 (yh : Int))).set1 (.int .u64 (yl : Int))
                have P7_7 := (P7_6.other (show g7 ≠ g8 by omega) 0 (.int .u64 (yh : Int))).other (show g7 ≠ g8 by omega) 1 (.int .u64 (yl : Int))
                refine hK.out _ _ s7 (fun _ => ?_)
                clear hK K
                try simp only [Act.put, List.setIfInBounds_toArray, List.set_cons_zero, List.set_cons_succ]
                obtain ⟨W7, hW⟩ : ∃ W', ((W6.setCell ⟨g8, 0, none⟩ (.int .u64 (yh : Int))).setCell ⟨g8, 1, none⟩ (.int .u64 (yl : Int))) = W' := ⟨_, rfl⟩
                rw [hW] at s7 b7 P7_7 P8_7 ⊢
                clear hW s6 b6 P7_6 P8_6
                refine wpAnyH_done (by kernel_rfl) ?_ _
                refine NoPanic.normal ?_
                go_wp2_with fail
                go_meet
                exact ⟨g7, g8, rfl, rfl, b7, P7_7, P8_7⟩
              exact AllReadyH.nil
            exact AllReadyH.nil
          exact AllReadyH.nil
        exact AllReadyH.nil
      exact AllReadyH.nil
    refine AllReadyH.cons (o := { dst := some 8, op := Go.Op.alloc 64, type := 0, pos := "decimal.go:136", after := #[], guard := none }) rfl (fun K hK => ?_) ?_
    ·
      go_simp
      have s2 := keep6_alloc (.cells #[.int .u64 0, .int .u64 0] 64) s1
      have b2 := b1.alloc b1.size (.cells #[.int .u64 0, .int .u64 0] 64)
      have P8_2 := Pair.new W1 64 (.int .u64 0) (.int .u64 0)
      have l8 : W0.heap.size ≤ W1.heap.size := b1.size
      refine hK.out _ _ s2 (fun _ => ?_)
      clear hK K
      try simp only [Act.put, List.setIfInBounds_toArray, List.set_cons_zero, List.set_cons_succ]
      obtain ⟨W2, hW⟩ : ∃ W', W1.alloc (.cells #[.int .u64 0, .int .u64 0] 64) = W' := ⟨_, rfl⟩
      obtain ⟨g8, hg⟩ : ∃ g, W1.heap.size = g := ⟨_, rfl⟩
      rw [hW] at s2 b2 ⊢
      rw [hW, hg] at P8_2
      rw [hg] at l8 ⊢
      clear hW hg s1 b1
      refine wpAnyH_ready (rs := [2, 6]) (by kernel_rfl) (by simp) ?_
      refine AllReadyH.cons (o := { dst := some 27, op := Go.Op.call { callee := Go.Callee.value (Go.Operand.func 48), args := #[Go.Operand.tmp 25, Go.Operand.tmp 26], argTypes := #[24, 3] }, type := 64, pos := "decimal.go:136", after := #[{ on := 0, ground := Go.Ground.data }, { on := 1, ground := Go.Ground.data }], guard := none }) rfl (fun K hK => ?_) ?_
      ·
        go_simp
        go_at_call 48
        refine (C1 _).out.mono ?_
        rintro e W3 ⟨rfl, hb⟩
        have s3 := keep6 hb s2
        refine hK.out _ _ s3 (fun _ => ?_)
        clear hK K
        try simp only [Act.put, List.setIfInBounds_toArray, List.set_cons_zero, List.set_cons_succ]
        have b3 := b2.trans (hb.mono b2.size)
        have P8_3 := P8_2.below hb
        clear hb s2 b2 P8_2
        refine wpAnyH_ready (rs := [5, 6]) (by kernel_rfl) (by simp) ?_
        refine AllReadyH.cons (o := { dst := some 30, op := Go.Op.call { callee := Go.Callee.value (Go.Operand.func 48), args := #[Go.Operand.tmp 28, Go.Operand.tmp 29], argTypes := #[24, 3] }, type := 64, pos := "decimal.go:136", after := #[{ on := 3, ground := Go.Ground.data }, { on := 4, ground := Go.Ground.data }, { on := 2, ground := Go.Ground.chain }], guard := none }) rfl (fun K hK => ?_) ?_
        ·
          go_simp
          go_at_call 48
          refine (C2 _).out.mono ?_
          rintro e W4 ⟨rfl, hb⟩
          have s4 := keep6 hb s3
          refine hK.out _ _ s4 (fun _ => ?_)
          clear hK K
          try simp only [Act.put, List.setIfInBounds_toArray, List.set_cons_zero, List.set_cons_succ]
          have b4 := b3.trans (hb.mono b3.size)
          have P8_4 := P8_3.below hb
          clear hb s3 b3 P8_3
          refine wpAnyH_ready (rs := [6]) (by kernel_rfl) (by simp) ?_
          refine AllReadyH.cons (o := { dst := some 7, op := Go.Op.alloc 64, type := 0, pos := "decimal.go:136", after := #[], guard := none }) rfl (fun K hK => ?_) ?_
          ·
            go_simp
            have s5 := keep6_alloc (.cells #[.int .u64 0, .int .u64 0] 64) s4
            have b5 := b4.alloc b4.size (.cells #[.int .u64 0, .int .u64 0] 64)
            have P7_5 := Pair.new W4 64 (.int .u64 0) (.int .u64 0)
            have l7 : W0.heap.size ≤ W4.heap.size := b4.size
            have P8_5 := P8_4.alloc (.cells #[.int .u64 0, .int .u64 0] 64)
            have ne : g8 < W4.heap.size := P8_4.lt
            refine hK.out _ _ s5 (fun _ => ?_)
            clear hK K
            try simp only [Act.put, List.setIfInBounds_toArray, List.set_cons_zero, List.set_cons_succ]
            obtain ⟨W5, hW⟩ : ∃ W', W4.alloc (.cells #[.int .u64 0, .int .u64 0] 64) = W' := ⟨_, rfl⟩
            obtain ⟨g7, hg⟩ : ∃ g, W4.heap.size = g := ⟨_, rfl⟩
            rw [hW] at s5 b5 P8_5 ⊢
            rw [hW, hg] at P7_5
            rw [hg] at l7 ne ⊢
            clear hW hg s4 b4 P8_4
            refine wpAnyH_ready (rs := [8]) (by kernel_rfl) (by simp) ?_
            refine AllReadyH.cons (o := { dst := none, op := Go.Op.store 64 (Go.Operand.tmp 7) (Go.Operand.tmp 27), type := 0, pos := "decimal.go:136", after := #[{ on := 6, ground := Go.Ground.data }, { on := 2, ground := Go.Ground.data }, { on := 5, ground := Go.Ground.chain }, { on := 0, ground := Go.Ground.phase }, { on := 1, ground := Go.Ground.phase }, { on := 2, ground := Go.Ground.phase }, { on := 3, ground := Go.Ground.textOnly Go.Departure.lateStores }, { on := 4, ground := Go.Ground.textOnly Go.Departure.lateStores }, { on := 5, ground := Go.Ground.textOnly Go.Departure.lateStoresUnsure }, { on := 6, ground := Go.Ground.phase }, { on := 7, ground := Go.Ground.phase }], guard := none }) rfl (fun K hK => ?_) ?_
            ·
              have c0 := P7_5.cell0
              have c1 := P7_5.cell1
              have f0 := P7_5.frozen0
              have f1 := P7_5.frozen1
              go_simp
              clear c0 c1 f0 f1
              have s6 := keep6_set (o := 1) (v := .int .u64 (xl : Int)) (keep6_set (b := g7) (o := 0) (v := .int .u64 (xh : Int)) s5 (by omega) (by omega)) (b := g7) (by omega) (by omega)
              have b6 := (b5.setCell (p := ⟨g7, 0, none⟩) l7 (.int .u64 (xh : Int))).setCell (p := ⟨g7, 1, none⟩) l7 (.int .u64 (xl : Int))
              have P7_6 := (P7_5.set0 (.int .u64 (xh : Int))).set1 (.int .u64 (xl : Int))
              have P8_6 := (P8_5.other (show g8 ≠ g7 by omega) 0 (.int .u64 (xh : Int))).other (show g8 ≠ g7 by omega) 1 (.int .u64 (xl : Int))
              refine hK.out _ _ s6 (fun _ => ?_)
              clear hK K
              try simp only [Act.put, List.setIfInBounds_toArray, List.set_cons_zero, List.set_cons_succ]
              obtain ⟨W6, hW⟩ : ∃ W', ((W5.setCell ⟨g7, 0, none⟩ (.int .u64 (xh : Int))).setCell ⟨g7, 1, none⟩ (.int .u64 (xl : Int))) = W' := ⟨_, rfl⟩
              rw [hW] at s6 b6 P7_6 P8_6 ⊢
              clear hW s5 b5 P7_5 P8_5
              refine wpAnyH_ready (rs := [9]) (by kernel_rfl) (by simp) ?_
              refine AllReadyH.cons (o := { dst := none, op := Go.Op.store 64 (Go.Operand.tmp 8) (Go.Operand.tmp 30), type := 0, pos := "decimal.go:136", after := #[{ on := 7, ground := Go.Ground.data }, { on := 5, ground := Go.Ground.data }, { on := 8, ground := Go.Ground.chain }, { on := 0, ground := Go.Ground.phase }, { on := 1, ground := Go.Ground.phase }, { on := 2, ground := Go.Ground.phase }, { on := 3, ground := Go.Ground.phase }, { on := 4, ground := Go.Ground.phase }, { on := 5, ground := Go.Ground.phase }, { on := 6, ground := Go.Ground.phase }, { on := 7, ground := Go.Ground.phase }, { on := 8, ground := Go.Ground.phase }], guard := none }) rfl (fun K hK => ?_) ?_
              ·
                have c0 := P8_6.cell0
                have c1 := P8_6.cell1
                have f0 := P8_6.frozen0
                have f1 := P8_6.frozen1
                go_simp
                clear c0 c1 f0 f1
                have s7 := keep6_set (o := 1) (v := .int .u64 (yl : Int)) (keep6_set (b := g8) (o := 0) (v := .int .u64 (yh : Int)) s6 (by omega) (by omega)) (b := g8) (by omega) (by omega)
                have b7 := (b6.setCell (p := ⟨g8, 0, none⟩) l8 (.int .u64 (yh : Int))).setCell (p := ⟨g8, 1, none⟩) l8 (.int .u64 (yl : Int))
                have P8_7 := (P8_6.set0 (.int .u64 (yh : Int))).set1 (.int .u64 (yl : Int))
                have P7_7 := (P7_6.other (show g7 ≠ g8 by omega) 0 (.int .u64 (yh : Int))).other (show g7 ≠ g8 by omega) 1 (.int .u64 (yl : Int))
                refine hK.out _ _ s7 (fun _ => ?_)
                clear hK K
                try simp only [Act.put, List.setIfInBounds_toArray, List.set_cons_zero, List.set_cons_succ]
                obtain ⟨W7, hW⟩ : ∃ W', ((W6.setCell ⟨g8, 0, none⟩ (.int .u64 (yh : Int))).setCell ⟨g8, 1, none⟩ (.int .u64 (yl : Int))) = W' := ⟨_, rfl⟩
                rw [hW] at s7 b7 P7_7 P8_7 ⊢
                clear hW s6 b6 P7_6 P8_6
                refine wpAnyH_done (by kernel_rfl) ?_ _
                refine NoPanic.normal ?_
                go_wp2_with fail
                go_meet
                exact ⟨g7, g8, rfl, rfl, b7, P7_7, P8_7⟩
              exact AllReadyH.nil
            exact AllReadyH.nil
          exact AllReadyH.nil
        refine AllReadyH.cons (o := { dst := some 7, op := Go.Op.alloc 64, type := 0, pos := "decimal.go:136", after := #[], guard := none }) rfl (fun K hK => ?_) ?_
        ·
          go_simp
          have s4 := keep6_alloc (.cells #[.int .u64 0, .int .u64 0] 64) s3
          have b4 := b3.alloc b3.size (.cells #[.int .u64 0, .int .u64 0] 64)
          have P7_4 := Pair.new W3 64 (.int .u64 0) (.int .u64 0)
          have l7 : W0.heap.size ≤ W3.heap.size := b3.size
          have P8_4 := P8_3.alloc (.cells #[.int .u64 0, .int .u64 0] 64)
          have ne : g8 < W3.heap.size := P8_3.lt
          refine hK.out _ _ s4 (fun _ => ?_)
          clear hK K
          try simp only [Act.put, List.setIfInBounds_toArray, List.set_cons_zero, List.set_cons_succ]
          obtain ⟨W4, hW⟩ : ∃ W', W3.alloc (.cells #[.int .u64 0, .int .u64 0] 64) = W' := ⟨_, rfl⟩
          obtain ⟨g7, hg⟩ : ∃ g, W3.heap.size = g := ⟨_, rfl⟩
          rw [hW] at s4 b4 P8_4 ⊢
          rw [hW, hg] at P7_4
          rw [hg] at l7 ne ⊢
          clear hW hg s3 b3 P8_3
          refine wpAnyH_ready (rs := [5]) (by kernel_rfl) (by simp) ?_
          refine AllReadyH.cons (o := { dst := some 30, op := Go.Op.call { callee := Go.Callee.value (Go.Operand.func 48), args := #[Go.Operand.tmp 28, Go.Operand.tmp 29], argTypes := #[24, 3] }, type := 64, pos := "decimal.go:136", after := #[{ on := 3, ground := Go.Ground.data }, { on := 4, ground := Go.Ground.data }, { on := 2, ground := Go.Ground.chain }], guard := none }) rfl (fun K hK => ?_) ?_
          ·
            go_simp
            go_at_call 48
            refine (C2 _).out.mono ?_
            rintro e W5 ⟨rfl, hb⟩
            have s5 := keep6 hb s4
            refine hK.out _ _ s5 (fun _ => ?_)
            clear hK K
            try simp only [Act.put, List.setIfInBounds_toArray, List.set_cons_zero, List.set_cons_succ]
            have b5 := b4.trans (hb.mono b4.size)
            have P7_5 := P7_4.below hb
            have P8_5 := P8_4.below hb
            clear hb s4 b4 P7_4 P8_4
            refine wpAnyH_ready (rs := [8]) (by kernel_rfl) (by simp) ?_
            refine AllReadyH.cons (o := { dst := none, op := Go.Op.store 64 (Go.Operand.tmp 7) (Go.Operand.tmp 27), type := 0, pos := "decimal.go:136", after := #[{ on := 6, ground := Go.Ground.data }, { on := 2, ground := Go.Ground.data }, { on := 5, ground := Go.Ground.chain }, { on := 0, ground := Go.Ground.phase }, { on := 1, ground := Go.Ground.phase }, { on := 2, ground := Go.Ground.phase }, { on := 3, ground := Go.Ground.textOnly Go.Departure.lateStores }, { on := 4, ground := Go.Ground.textOnly Go.Departure.lateStores }, { on := 5, ground := Go.Ground.textOnly Go.Departure.lateStoresUnsure }, { on := 6, ground := Go.Ground.phase }, { on := 7, ground := Go.Ground.phase }], guard := none }) rfl (fun K hK => ?_) ?_
            ·
              have c0 := P7_5.cell0
              have c1 := P7_5.cell1
              have f0 := P7_5.frozen0
              have f1 := P7_5.frozen1
              go_simp
              clear c0 c1 f0 f1
              have s6 := keep6_set (o := 1) (v := .int .u64 (xl : Int)) (keep6_set (b := g7) (o := 0) (v := .int .u64 (xh : Int)) s5 (by omega) (by omega)) (b := g7) (by omega) (by omega)
              have b6 := (b5.setCell (p := ⟨g7, 0, none⟩) l7 (.int .u64 (xh : Int))).setCell (p := ⟨g7, 1, none⟩) l7 (.int .u64 (xl : Int))
              have P7_6 := (P7_5.set0 (.int .u64 (xh : Int))).set1 (.int .u64 (xl : Int))
              have P8_6 := (P8_5.other (show g8 ≠ g7 by omega) 0 (.int .u64 (xh : Int))).other (show g8 ≠ g7 by omega) 1 (.int .u64 (xl : Int))
              refine hK.out _ _ s6 (fun _ => ?_)
              clear hK K
              try simp only [Act.put, List.setIfInBounds_toArray, List.set_cons_zero, List.set_cons_succ]
              obtain ⟨W6, hW⟩ : ∃ W', ((W5.setCell ⟨g7, 0, none⟩ (.int .u64 (xh : Int))).setCell ⟨g7, 1, none⟩ (.int .u64 (xl : Int))) = W' := ⟨_, rfl⟩
              rw [hW] at s6 b6 P7_6 P8_6 ⊢
              clear hW s5 b5 P7_5 P8_5
              refine wpAnyH_ready (rs := [9]) (by kernel_rfl) (by simp) ?_
              refine AllReadyH.cons (o := { dst := none, op := Go.Op.store 64 (Go.Operand.tmp 8) (Go.Operand.tmp 30), type := 0, pos := "decimal.go:136", after := #[{ on := 7, ground := Go.Ground.data }, { on := 5, ground := Go.Ground.data }, { on := 8, ground := Go.Ground.chain }, { on := 0, ground := Go.Ground.phase }, { on := 1, ground := Go.Ground.phase }, { on := 2, ground := Go.Ground.phase }, { on := 3, ground := Go.Ground.phase }, { on := 4, ground := Go.Ground.phase }, { on := 5, ground := Go.Ground.phase }, { on := 6, ground := Go.Ground.phase }, { on := 7, ground := Go.Ground.phase }, { on := 8, ground := Go.Ground.phase }], guard := none }) rfl (fun K hK => ?_) ?_
              ·
                have c0 := P8_6.cell0
                have c1 := P8_6.cell1
                have f0 := P8_6.frozen0
                have f1 := P8_6.frozen1
                go_simp
                clear c0 c1 f0 f1
                have s7 := keep6_set (o := 1) (v := .int .u64 (yl : Int)) (keep6_set (b := g8) (o := 0) (v := .int .u64 (yh : Int)) s6 (by omega) (by omega)) (b := g8) (by omega) (by omega)
                have b7 := (b6.setCell (p := ⟨g8, 0, none⟩) l8 (.int .u64 (yh : Int))).setCell (p := ⟨g8, 1, none⟩) l8 (.int .u64 (yl : Int))
                have P8_7 := (P8_6.set0 (.int .u64 (yh : Int))).set1 (.int .u64 (yl : Int))
                have P7_7 := (P7_6.other (show g7 ≠ g8 by omega) 0 (.int .u64 (yh : Int))).other (show g7 ≠ g8 by omega) 1 (.int .u64 (yl : Int))
                refine hK.out _ _ s7 (fun _ => ?_)
                clear hK K
                try simp only [Act.put, List.setIfInBounds_toArray, List.set_cons_zero, List.set_cons_succ]
                obtain ⟨W7, hW⟩ : ∃ W', ((W6.setCell ⟨g8, 0, none⟩ (.int .u64 (yh : Int))).setCell ⟨g8, 1, none⟩ (.int .u64 (yl : Int))) = W' := ⟨_, rfl⟩
                rw [hW] at s7 b7 P7_7 P8_7 ⊢
                clear hW s6 b6 P7_6 P8_6
                refine wpAnyH_done (by kernel_rfl) ?_ _
                refine NoPanic.normal ?_
                go_wp2_with fail
                go_meet
                exact ⟨g7, g8, rfl, rfl, b7, P7_7, P8_7⟩
              exact AllReadyH.nil
            exact AllReadyH.nil
          exact AllReadyH.nil
        exact AllReadyH.nil
      refine AllReadyH.cons (o := { dst := some 7, op := Go.Op.alloc 64, type := 0, pos := "decimal.go:136", after := #[], guard := none }) rfl (fun K hK => ?_) ?_
      ·
        go_simp
        have s3 := keep6_alloc (.cells #[.int .u64 0, .int .u64 0] 64) s2
        have b3 := b2.alloc b2.size (.cells #[.int .u64 0, .int .u64 0] 64)
        have P7_3 := Pair.new W2 64 (.int .u64 0) (.int .u64 0)
        have l7 : W0.heap.size ≤ W2.heap.size := b2.size
        have P8_3 := P8_2.alloc (.cells #[.int .u64 0, .int .u64 0] 64)
        have ne : g8 < W2.heap.size := P8_2.lt
        refine hK.out _ _ s3 (fun _ => ?_)
        clear hK K
        try simp only [Act.put, List.setIfInBounds_toArray, List.set_cons_zero, List.set_cons_succ]
        obtain ⟨W3, hW⟩ : ∃ W', W2.alloc (.cells #[.int .u64 0, .int .u64 0] 64) = W' := ⟨_, rfl⟩
        obtain ⟨g7, hg⟩ : ∃ g, W2.heap.size = g := ⟨_, rfl⟩
        rw [hW] at s3 b3 P8_3 ⊢
        rw [hW, hg] at P7_3
        rw [hg] at l7 ne ⊢
        clear hW hg s2 b2 P8_2
        refine wpAnyH_ready (rs := [2]) (by kernel_rfl) (by simp) ?_
        refine AllReadyH.cons (o := { dst := some 27, op := Go.Op.call { callee := Go.Callee.value (Go.Operand.func 48), args := #[Go.Operand.tmp 25, Go.Operand.tmp 26], argTypes := #[24, 3] }, type := 64, pos := "decimal.go:136", after := #[{ on := 0, ground := Go.Ground.data }, { on := 1, ground := Go.Ground.data }], guard := none }) rfl (fun K hK => ?_) ?_
        ·
          go_simp
          go_at_call 48
          refine (C1 _).out.mono ?_
          rintro e W4 ⟨rfl, hb⟩
          have s4 := keep6 hb s3
          refine hK.out _ _ s4 (fun _ => ?_)
          clear hK K
          try simp only [Act.put, List.setIfInBounds_toArray, List.set_cons_zero, List.set_cons_succ]
          have b4 := b3.trans (hb.mono b3.size)
          have P7_4 := P7_3.below hb
          have P8_4 := P8_3.below hb
          clear hb s3 b3 P7_3 P8_3
          refine wpAnyH_ready (rs := [5]) (by kernel_rfl) (by simp) ?_
          refine AllReadyH.cons (o := { dst := some 30, op := Go.Op.call { callee := Go.Callee.value (Go.Operand.func 48), args := #[Go.Operand.tmp 28, Go.Operand.tmp 29], argTypes := #[24, 3] }, type := 64, pos := "decimal.go:136", after := #[{ on := 3, ground := Go.Ground.data }, { on := 4, ground := Go.Ground.data }, { on := 2, ground := Go.Ground.chain }], guard := none }) rfl (fun K hK => ?_) ?_
          ·
            go_simp
            go_at_call 48
            refine (C2 _).out.mono ?_
            rintro e W5 ⟨rfl, hb⟩
            have s5 := keep6 hb s4
            refine hK.out _ _ s5 (fun _ => ?_)
            clear hK K
            try simp only [Act.put, List.setIfInBounds_toArray, List.set_cons_zero, List.set_cons_succ]
            have b5 := b4.trans (hb.mono b4.size)
            have P7_5 := P7_4.below hb
            have P8_5 := P8_4.below hb
            clear hb s4 b4 P7_4 P8_4
            refine wpAnyH_ready (rs := [8]) (by kernel_rfl) (by simp) ?_
            refine AllReadyH.cons (o := { dst := none, op := Go.Op.store 64 (Go.Operand.tmp 7) (Go.Operand.tmp 27), type := 0, pos := "decimal.go:136", after := #[{ on := 6, ground := Go.Ground.data }, { on := 2, ground := Go.Ground.data }, { on := 5, ground := Go.Ground.chain }, { on := 0, ground := Go.Ground.phase }, { on := 1, ground := Go.Ground.phase }, { on := 2, ground := Go.Ground.phase }, { on := 3, ground := Go.Ground.textOnly Go.Departure.lateStores }, { on := 4, ground := Go.Ground.textOnly Go.Departure.lateStores }, { on := 5, ground := Go.Ground.textOnly Go.Departure.lateStoresUnsure }, { on := 6, ground := Go.Ground.phase }, { on := 7, ground := Go.Ground.phase }], guard := none }) rfl (fun K hK => ?_) ?_
            ·
              have c0 := P7_5.cell0
              have c1 := P7_5.cell1
              have f0 := P7_5.frozen0
              have f1 := P7_5.frozen1
              go_simp
              clear c0 c1 f0 f1
              have s6 := keep6_set (o := 1) (v := .int .u64 (xl : Int)) (keep6_set (b := g7) (o := 0) (v := .int .u64 (xh : Int)) s5 (by omega) (by omega)) (b := g7) (by omega) (by omega)
              have b6 := (b5.setCell (p := ⟨g7, 0, none⟩) l7 (.int .u64 (xh : Int))).setCell (p := ⟨g7, 1, none⟩) l7 (.int .u64 (xl : Int))
              have P7_6 := (P7_5.set0 (.int .u64 (xh : Int))).set1 (.int .u64 (xl : Int))
              have P8_6 := (P8_5.other (show g8 ≠ g7 by omega) 0 (.int .u64 (xh : Int))).other (show g8 ≠ g7 by omega) 1 (.int .u64 (xl : Int))
              refine hK.out _ _ s6 (fun _ => ?_)
              clear hK K
              try simp only [Act.put, List.setIfInBounds_toArray, List.set_cons_zero, List.set_cons_succ]
              obtain ⟨W6, hW⟩ : ∃ W', ((W5.setCell ⟨g7, 0, none⟩ (.int .u64 (xh : Int))).setCell ⟨g7, 1, none⟩ (.int .u64 (xl : Int))) = W' := ⟨_, rfl⟩
              rw [hW] at s6 b6 P7_6 P8_6 ⊢
              clear hW s5 b5 P7_5 P8_5
              refine wpAnyH_ready (rs := [9]) (by kernel_rfl) (by simp) ?_
              refine AllReadyH.cons (o := { dst := none, op := Go.Op.store 64 (Go.Operand.tmp 8) (Go.Operand.tmp 30), type := 0, pos := "decimal.go:136", after := #[{ on := 7, ground := Go.Ground.data }, { on := 5, ground := Go.Ground.data }, { on := 8, ground := Go.Ground.chain }, { on := 0, ground := Go.Ground.phase }, { on := 1, ground := Go.Ground.phase }, { on := 2, ground := Go.Ground.phase }, { on := 3, ground := Go.Ground.phase }, { on := 4, ground := Go.Ground.phase }, { on := 5, ground := Go.Ground.phase }, { on := 6, ground := Go.Ground.phase }, { on := 7, ground := Go.Ground.phase }, { on := 8, ground := Go.Ground.phase }], guard := none }) rfl (fun K hK => ?_) ?_
              ·
                have c0 := P8_6.cell0
                have c1 := P8_6.cell1
                have f0 := P8_6.frozen0
                have f1 := P8_6.frozen1
                go_simp
                clear c0 c1 f0 f1
                have s7 := keep6_set (o := 1) (v := .int .u64 (yl : Int)) (keep6_set (b := g8) (o := 0) (v := .int .u64 (yh : Int)) s6 (by omega) (by omega)) (b := g8) (by omega) (by omega)
                have b7 := (b6.setCell (p := ⟨g8, 0, none⟩) l8 (.int .u64 (yh : Int))).setCell (p := ⟨g8, 1, none⟩) l8 (.int .u64 (yl : Int))
                have P8_7 := (P8_6.set0 (.int .u64 (yh : Int))).set1 (.int .u64 (yl : Int))
                have P7_7 := (P7_6.other (show g7 ≠ g8 by omega) 0 (.int .u64 (yh : Int))).other (show g7 ≠ g8 by omega) 1 (.int .u64 (yl : Int))
                refine hK.out _ _ s7 (fun _ => ?_)
                clear hK K
                try simp only [Act.put, List.setIfInBounds_toArray, List.set_cons_zero, List.set_cons_succ]
                obtain ⟨W7, hW⟩ : ∃ W', ((W6.setCell ⟨g8, 0, none⟩ (.int .u64 (yh : Int))).setCell ⟨g8, 1, none⟩ (.int .u64 (yl : Int))) = W' := ⟨_, rfl⟩
                rw [hW] at s7 b7 P7_7 P8_7 ⊢
                clear hW s6 b6 P7_6 P8_6
                refine wpAnyH_done (by kernel_rfl) ?_ _
                refine NoPanic.normal ?_
                go_wp2_with fail
                go_meet
                exact ⟨g7, g8, rfl, rfl, b7, P7_7, P8_7⟩
              exact AllReadyH.nil
            exact AllReadyH.nil
          exact AllReadyH.nil
        exact AllReadyH.nil
      exact AllReadyH.nil
    exact AllReadyH.nil
  case rest =>
    clear C1 C2 ka0 ka1 ka2 kb0 kb1 kb2 kr0 kr1 kr2 fr0 fr1 fr2
    obtain ⟨g7, g8, rfl, rfl, hbc, P7, P8⟩ := hcut
    have ya := HXA.out.below hbc
    have yb := HXB.out.below hbc
    have yr := HXR.out.below hbc
    have hBw := HB0.out.trans (hbc.mono HB0.out.size)
    have ka0 := ya.cell0
    have hma : max (sa : Int) (sb : Int) = ((max sa sb : Nat) : Int) := by omega
    clear HXA HXB HXR hbc HB0 HZ0 hz5 hsa hsb
    rw [hma]
    obtain ⟨s, hs⟩ : ∃ s : Nat, max sa sb = s := ⟨_, rfl⟩
    rw [hs] at HX HY ⊢
    have HSM := Lib.hid hs
    clear hma hs
    have hxb : x < 170141183460469231731687303715884105728 := by
      have h1 : (10 : Nat) ^ (s - sa) ≤ 100000 := Nat.le_trans (Nat.pow_le_pow_right (by decide) (show s - sa ≤ 5 by have := HA.out.2.1; have := HBb.out.2.1; have := HSM.out; omega)) (by decide)
      have h2 : ca * 10 ^ (s - sa) ≤ 1000000000000000000 * 100000 := Nat.mul_le_mul (by have := HA.out.1; omega) h1
      rw [HX.out] at h2
      omega
    have hyb : y < 170141183460469231731687303715884105728 := by
      have h1 : (10 : Nat) ^ (s - sb) ≤ 100000 := Nat.le_trans (Nat.pow_le_pow_right (by decide) (show s - sb ≤ 5 by have := HA.out.2.1; have := HBb.out.2.1; have := HSM.out; omega)) (by decide)
      have h2 : cb * 10 ^ (s - sb) ≤ 1000000000000000000 * 100000 := Nat.mul_le_mul (by have := HBb.out.1; omega) h1
      rw [HY.out] at h2
      omega
    have XB := Lib.hid hxb
    have YB := Lib.hid hyb
    clear hxb hyb
    go_upto_block 0 with fail
    obtain ⟨g9, hg9⟩ : ∃ g9, wc.heap.size = g9 := ⟨_, rfl⟩
    obtain ⟨W1, hW1⟩ : ∃ W1, (wc.alloc (.cells #[.bool na, .int .i64 0, .int .i64 (s : Int)] 24)).alloc (.cells #[.int .u64 0, .int .u64 0] 64) = W1 := ⟨_, rfl⟩
    have za := (ya.alloc (.cells #[.bool na, .int .i64 0, .int .i64 (s : Int)] 24)).alloc (.cells #[.int .u64 0, .int .u64 0] 64)
    have zb := (yb.alloc (.cells #[.bool na, .int .i64 0, .int .i64 (s : Int)] 24)).alloc (.cells #[.int .u64 0, .int .u64 0] 64)
    have zr := (yr.alloc (.cells #[.bool na, .int .i64 0, .int .i64 (s : Int)] 24)).alloc (.cells #[.int .u64 0, .int .u64 0] 64)
    have Q7 := (P7.alloc (.cells #[.bool na, .int .i64 0, .int .i64 (s : Int)] 24)).alloc (.cells #[.int .u64 0, .int .u64 0] 64)
    have Q8 := (P8.alloc (.cells #[.bool na, .int .i64 0, .int .i64 (s : Int)] 24)).alloc (.cells #[.int .u64 0, .int .u64 0] 64)
    have Q9 := (Box3.new wc 24 (.bool na) (.int .i64 0) (.int .i64 (s : Int))).alloc (.cells #[.int .u64 0, .int .u64 0] 64)
    have Q10 := Pair.new (wc.alloc (.cells #[.bool na, .int .i64 0, .int .i64 (s : Int)] 24)) 64 (.int .u64 0) (.int .u64 0)
    have hB1 := (hBw.alloc hBw.size (.cells #[.bool na, .int .i64 0, .int .i64 (s : Int)] 24)).alloc (by rw [World.size_alloc]; exact Nat.le_succ_of_le hBw.size) (.cells #[.int .u64 0, .int .u64 0] 64)
    have n9 : w.heap.size + 1 + 1 < g9 := by rw [← hg9]; exact yr.lt
    have n79 : g7 < g9 := by rw [← hg9]; exact P7.lt
    have n89 : g8 < g9 := by rw [← hg9]; exact P8.lt
    rw [World.size_alloc] at Q10
    rw [hW1] at za zb zr Q7 Q8 Q9 Q10 hB1 ⊢
    rw [hg9] at Q9 Q10 ⊢
    clear hW1 hg9 ya yb yr P7 P8 hBw ka0
    go_cut [10] (fun s10 wx => ∃ (v : Nat) (sg : Bool), s10 = .pointer (some ⟨g9 + 1, 0, none⟩) ∧ Hid ((na = nb ∧ v = x + y ∧ sg = na) ∨ (na ≠ nb ∧ y ≤ x ∧ v = x - y ∧ sg = na) ∨ (na ≠ nb ∧ x < y ∧ v = y - x ∧ sg = nb)) ∧
      Box3 wx (w.heap.size + 1 + 1) 24 (.bool false) (.int .i64 0) (.int .i64 0) ∧ Box3 wx g9 24 (.bool sg) (.int .i64 0) (.int .i64 s) ∧
      Pair wx (g9 + 1) 64 (.int .u64 ((v / 18446744073709551616 : Nat) : Int)) (.int .u64 ((v % 18446744073709551616 : Nat) : Int)) ∧ Below w.heap.size w wx)
    case first =>
      have k70 := Q7.cell0
      have k71 := Q7.cell1
      have k80 := Q8.cell0
      have k81 := Q8.cell1
      have kA := Lib.hid Q10.cell0
      have ka := za.cell0
      have kb := zb.cell0
      by_cases hnn : na = nb
      · obtain ⟨v, hv⟩ : ∃ v, x + y = v := ⟨_, rfl⟩
        obtain ⟨vh, hvh⟩ : ∃ z : Nat, v / 18446744073709551616 = z := ⟨_, rfl⟩
        obtain ⟨vl, hvl⟩ : ∃ z : Nat, v % 18446744073709551616 = z := ⟨_, rfl⟩
        have CP := fun (W : World) => Lib.hid (plus_walk x y (by have := XB.out; have := YB.out; omega) W)
        unfold wideV at CP
        rw [hv, E1.out, E2.out, E3.out, E4.out, hvh, hvl] at CP
        have HV := Lib.hid hv
        have HVH := Lib.hid hvh
        have HVL := Lib.hid hvl
        have hbe : (na == nb) = true := by rw [hnn]; exact beq_self_eq_true _
        have HN := Lib.hid hnn
        clear hv hvh hvl hnn
        go_wp2_with (go_at_call 49; refine (CP _).out.mono ?_; rintro e W2 ⟨rfl, hb2⟩; have R10 := Q10.below hb2; have t0 := R10.cell0; have t1 := R10.cell1; have u0 := R10.frozen0; have u1 := R10.frozen1)
        go_meet
        refine ⟨v, na, rfl, Lib.hid (.inl ⟨HN.out, HV.out.symm, rfl⟩), ?_⟩
        rw [HVH.out, HVL.out]
        exact ⟨((zr.below hb2).other (by omega) 0 _).other (by omega) 1 _, ((Q9.below hb2).other (by omega) 0 _).other (by omega) 1 _, (R10.set0 _).set1 _, ((hB1.trans (hb2.mono hB1.size)).setCell (p := ⟨g9 + 1, 0, none⟩) (by show w.heap.size ≤ g9 + 1; omega) _).setCell (p := ⟨g9 + 1, 1, none⟩) (by show w.heap.size ≤ g9 + 1; omega) _⟩
      · have hbe : (na == nb) = false := by cases na <;> cases nb <;> first | rfl | exact absurd rfl hnn
        have CC := fun (W : World) => Lib.hid (wcmp_walk x y W)
        unfold wideV at CC
        rw [E1.out, E2.out, E3.out, E4.out] at CC
        have HN := Lib.hid hnn
        clear hnn
        by_cases hyx : y ≤ x
        · have hc : 0 ≤ cmpN x y := by unfold cmpN; rw [if_neg (by omega)]; split <;> omega
          obtain ⟨c, hce⟩ : ∃ c, cmpN x y = c := ⟨_, rfl⟩
          rw [hce] at CC hc
          obtain ⟨v, hv⟩ : ∃ v, x - y = v := ⟨_, rfl⟩
          obtain ⟨vh, hvh⟩ : ∃ z : Nat, v / 18446744073709551616 = z := ⟨_, rfl⟩
          obtain ⟨vl, hvl⟩ : ∃ z : Nat, v % 18446744073709551616 = z := ⟨_, rfl⟩
          have CP := fun (W : World) => Lib.hid (minus_walk x y hyx (by have := XB.out; omega) W)
          unfold wideV at CP
          rw [hv, E1.out, E2.out, E3.out, E4.out, hvh, hvl] at CP
          have HV := Lib.hid hv
          have HVH := Lib.hid hvh
          have HVL := Lib.hid hvl
          have HYX := Lib.hid hyx
          clear hv hvh hvl hyx hce
          go_wp2_with (first | (go_at_call 50; refine (CC _).out.mono ?_; rintro e W2 ⟨rfl, hb2⟩; have S7 := Q7.below hb2; have S8 := Q8.below hb2; have R10 := Q10.below hb2; have m70 := S7.cell0; have m71 := S7.cell1; have m80 := S8.cell0; have m81 := S8.cell1) | (go_at_call 51; refine (CP _).out.mono ?_; rintro e W3 ⟨rfl, hb3⟩; have T10 := R10.below hb3; have t0 := T10.cell0; have t1 := T10.cell1; have u0 := T10.frozen0; have u1 := T10.frozen1))
          go_meet
          refine ⟨v, na, rfl, Lib.hid (.inr (.inl ⟨HN.out, HYX.out, HV.out.symm, rfl⟩)), ?_⟩
          rw [HVH.out, HVL.out]
          have hB2 := hB1.trans (hb2.mono hB1.size)
          exact ⟨(((zr.below hb2).below hb3).other (by omega) 0 _).other (by omega) 1 _, (((Q9.below hb2).below hb3).other (by omega) 0 _).other (by omega) 1 _, (T10.set0 _).set1 _, ((hB2.trans (hb3.mono hB2.size)).setCell (p := ⟨g9 + 1, 0, none⟩) (by show w.heap.size ≤ g9 + 1; omega) _).setCell (p := ⟨g9 + 1, 1, none⟩) (by show w.heap.size ≤ g9 + 1; omega) _⟩
        · have hxy : x < y := by omega
          have hce : cmpN x y = -1 := by unfold cmpN; rw [if_pos hxy]
          rw [hce] at CC
          obtain ⟨v, hv⟩ : ∃ v, y - x = v := ⟨_, rfl⟩
          obtain ⟨vh, hvh⟩ : ∃ z : Nat, v / 18446744073709551616 = z := ⟨_, rfl⟩
          obtain ⟨vl, hvl⟩ : ∃ z : Nat, v % 18446744073709551616 = z := ⟨_, rfl⟩
          have CP := fun (W : World) => Lib.hid (minus_walk y x (by omega) (by have := YB.out; omega) W)
          unfold wideV at CP
          rw [hv, E1.out, E2.out, E3.out, E4.out, hvh, hvl] at CP
          have HV := Lib.hid hv
          have HVH := Lib.hid hvh
          have HVL := Lib.hid hvl
          have HXY := Lib.hid hxy
          clear hv hvh hvl hyx hxy hce
          go_wp2_with (go_at_call 50; refine (CC _).out.mono ?_; rintro e W2 ⟨rfl, hb2⟩; have S7 := Q7.below hb2; have S8 := Q8.below hb2; have R10 := Q10.below hb2; have R9 := Q9.below hb2; have zb2 := zb.below hb2; have zr2 := zr.below hb2; have m70 := S7.cell0; have m71 := S7.cell1; have m80 := S8.cell0; have m81 := S8.cell1; have mb := zb2.cell0)
          have hB2 := hB1.trans (hb2.mono hB1.size)
          clear k70 k71 k80 k81 ka kb m70 m71 m80 m81 mb
          have m70 := S7.cell0
          have m71 := S7.cell1
          have m80 := S8.cell0
          have m81 := S8.cell1
          have mb := zb2.cell0
          have n1 : w.heap.size + 1 < g9 := by omega
          go_region_held3 (fun w' => w'.cell? ⟨g8, 0, none⟩ = some (.int .u64 yh) ∧ w'.cell? ⟨g8, 1, none⟩ = some (.int .u64 yl) ∧ w'.cell? ⟨g7, 0, none⟩ = some (.int .u64 xh) ∧ w'.cell? ⟨g7, 1, none⟩ = some (.int .u64 xl) ∧ w'.cell? ⟨w.heap.size + 1, 0, none⟩ = some (.bool nb))
            (first | exact ⟨m80, m81, m70, m71, mb⟩ | exact ⟨o80, o81, o70, o71, ob⟩ | (refine ⟨?_, ?_, ?_, ?_, ?_⟩ <;> go_simp))
            (first | (go_at_call 51; refine (CP _).out.mono ?_; rintro e W3 ⟨rfl, hb3⟩; have T10 := (show Pair W2.drew (g9 + 1) 64 _ _ from R10).below hb3; have T9 := (show Box3 W2.drew g9 24 _ _ _ from R9).below hb3; have T7 := (show Pair W2.drew g7 64 _ _ from S7).below hb3; have T8 := (show Pair W2.drew g8 64 _ _ from S8).below hb3; have Tb := (show Box3 W2.drew (w.heap.size + 1) 24 _ _ _ from zb2).below hb3; have t0 := T10.cell0; have t1 := T10.cell1; have u0 := T10.frozen0; have u1 := T10.frozen1; have t9 := T9.cell0; have u9 := T9.frozen0; have o70 := T7.cell0; have o71 := T7.cell1; have o80 := T8.cell0; have o81 := T8.cell1; have ob := Tb.cell0))
          go_wp2_with fail
          go_meet
          refine ⟨v, nb, rfl, Lib.hid (.inr (.inr ⟨HN.out, HXY.out, HV.out.symm, rfl⟩)), ?_⟩
          rw [HVH.out, HVL.out]
          have hB2d : Below w.heap.size w W2.drew := hB2.drew
          exact ⟨((((show Box3 W2.drew (w.heap.size + 1 + 1) 24 _ _ _ from zr2).below hb3).other (by omega) 0 _).other (by omega) 1 _).other (by omega) 0 _, ((T9.other (by omega) 0 _).other (by omega) 1 _).set0 _, ((T10.set0 _).set1 _).other (by omega) 0 _,
            (((hB2d.trans (hb3.mono hB2d.size)).setCell (p := ⟨g9 + 1, 0, none⟩) (by show w.heap.size ≤ g9 + 1; omega) _).setCell (p := ⟨g9 + 1, 1, none⟩) (by show w.heap.size ≤ g9 + 1; omega) _).setCell (p := ⟨g9, 0, none⟩) (by show w.heap.size ≤ g9; omega) _⟩
    case rest =>
      clear za zb zr Q7 Q8 Q9 Q10 hB1
      obtain ⟨v, sg, rfl, HREL, zr, Q9, Q10, hB⟩ := hcut
      have hfin := add_fin HREL.out
      have HR := HRES.out
      unfold addV at HR
      rw [HSM.out, HX.out, HY.out] at HR
      have r0 := zr.cell0
      have r1 := zr.cell1
      have r2 := zr.cell2
      have q0 := zr.frozen0
      have q1 := zr.frozen1
      have q2 := zr.frozen2
      by_cases hlt : v < 1000000000000000000
      · rw [show v / 18446744073709551616 = 0 by omega, show v % 18446744073709551616 = v by omega] at Q10
        rw [if_pos (by rw [hfin.1]; exact hlt), hfin.1, hfin.2] at HR
        simp only [Prod.mk.injEq] at HR
        obtain ⟨e1, e2, e3, e4⟩ := HR
        have HE1 := Lib.hid e1
        have HE2 := Lib.hid e2
        have HE3 := Lib.hid e3
        have HE4 := Lib.hid e4
        clear e1 e2 e3 e4
        have a0 : _ = some (Value.int .u64 0) := Q10.cell0
        have a1 := Q10.cell1
        have c0 := Q9.cell0
        have c1 := Q9.cell1
        have c2 := Q9.cell2
        have d0 := Q9.frozen0
        have d1 := Q9.frozen1
        have hw1 : IntKind.i64.wrap (v : Int) = (v : Int) := IntWalk.i64_in _ (by omega)
        have hvI : decide ((1000000000000000000 : Int) ≤ (v : Int)) = false := decide_eq_false (by omega)
        clear hfin HREL hlt
        cases sg
        · have HF : Hid (rn = false) := Lib.hid (by rw [← HE1.out, Bool.false_and])
          go_wp2
          refine bodyPost_ret (results_numt rfl _ _ (w.heap.size + 1 + 1) false (v : Int) (s : Int) (.int .i64 0) rfl rfl ?_) rfl ⟨by rw [HF.out, ← HE2.out, ← HE3.out, ← HE4.out]; (try rfl), ?_⟩
          · exact ((((zr.other (show w.heap.size + 1 + 1 ≠ g9 by omega) 1 (.int .i64 (v : Int))).other (show w.heap.size + 1 + 1 ≠ g9 by omega) 0 (.bool false)).set0 (.bool false)).set1 (.int .i64 (v : Int))).set2 (.int .i64 (s : Int))
          · exact ((((hB.setCell (p := ⟨g9, 1, none⟩) (by show w.heap.size ≤ g9; omega) (.int .i64 (v : Int))).setCell (p := ⟨g9, 0, none⟩) (by show w.heap.size ≤ g9; omega) (.bool false)).setCell (p := ⟨w.heap.size + 1 + 1, 0, none⟩) (by show w.heap.size ≤ w.heap.size + 1 + 1; omega) (.bool false)).setCell (p := ⟨w.heap.size + 1 + 1, 1, none⟩) (by show w.heap.size ≤ w.heap.size + 1 + 1; omega) (.int .i64 (v : Int))).setCell (p := ⟨w.heap.size + 1 + 1, 2, none⟩) (by show w.heap.size ≤ w.heap.size + 1 + 1; omega) (.int .i64 (s : Int))
        · by_cases h0 : v = 0
          · subst h0
            have HF : Hid (rn = false) := Lib.hid (by rw [← HE1.out]; rfl)
            go_wp2
            refine bodyPost_ret (results_numt rfl _ _ (w.heap.size + 1 + 1) false 0 (s : Int) (.int .i64 0) rfl rfl ?_) rfl ⟨by rw [HF.out, ← HE2.out, ← HE3.out, ← HE4.out]; (try rfl), ?_⟩
            · exact ((((zr.other (show w.heap.size + 1 + 1 ≠ g9 by omega) 1 (.int .i64 0)).other (show w.heap.size + 1 + 1 ≠ g9 by omega) 0 (.bool false)).set0 (.bool false)).set1 (.int .i64 0)).set2 (.int .i64 (s : Int))
            · exact ((((hB.setCell (p := ⟨g9, 1, none⟩) (by show w.heap.size ≤ g9; omega) (.int .i64 0)).setCell (p := ⟨g9, 0, none⟩) (by show w.heap.size ≤ g9; omega) (.bool false)).setCell (p := ⟨w.heap.size + 1 + 1, 0, none⟩) (by show w.heap.size ≤ w.heap.size + 1 + 1; omega) (.bool false)).setCell (p := ⟨w.heap.size + 1 + 1, 1, none⟩) (by show w.heap.size ≤ w.heap.size + 1 + 1; omega) (.int .i64 0)).setCell (p := ⟨w.heap.size + 1 + 1, 2, none⟩) (by show w.heap.size ≤ w.heap.size + 1 + 1; omega) (.int .i64 (s : Int))
          · have hd : decide (0 < v) = true := decide_eq_true (by omega)
            have hne : ((v : Int) != 0) = true := bne_iff_ne.2 (by omega)
            have HF : Hid (rn = true) := Lib.hid (by rw [← HE1.out, hd]; rfl)
            clear hd
            go_wp2
            refine bodyPost_ret (results_numt rfl _ _ (w.heap.size + 1 + 1) true (v : Int) (s : Int) (.int .i64 0) rfl rfl ?_) rfl ⟨by rw [HF.out, ← HE2.out, ← HE3.out, ← HE4.out]; (try rfl), ?_⟩
            · exact ((((zr.other (show w.heap.size + 1 + 1 ≠ g9 by omega) 1 (.int .i64 (v : Int))).other (show w.heap.size + 1 + 1 ≠ g9 by omega) 0 (.bool true)).set0 (.bool true)).set1 (.int .i64 (v : Int))).set2 (.int .i64 (s : Int))
            · exact ((((hB.setCell (p := ⟨g9, 1, none⟩) (by show w.heap.size ≤ g9; omega) (.int .i64 (v : Int))).setCell (p := ⟨g9, 0, none⟩) (by show w.heap.size ≤ g9; omega) (.bool true)).setCell (p := ⟨w.heap.size + 1 + 1, 0, none⟩) (by show w.heap.size ≤ w.heap.size + 1 + 1; omega) (.bool true)).setCell (p := ⟨w.heap.size + 1 + 1, 1, none⟩) (by show w.heap.size ≤ w.heap.size + 1 + 1; omega) (.int .i64 (v : Int))).setCell (p := ⟨w.heap.size + 1 + 1, 2, none⟩) (by show w.heap.size ≤ w.heap.size + 1 + 1; omega) (.int .i64 (s : Int))
      · rw [if_neg (by rw [hfin.1]; exact hlt)] at HR
        simp only [Prod.mk.injEq] at HR
        obtain ⟨e1, e2, e3, e4⟩ := HR
        have HE1 := Lib.hid e1
        have HE2 := Lib.hid e2
        have HE3 := Lib.hid e3
        have HE4 := Lib.hid e4
        clear e1 e2 e3 e4
        obtain ⟨vh, hvh⟩ : ∃ z : Nat, v / 18446744073709551616 = z := ⟨_, rfl⟩
        obtain ⟨vl, hvl⟩ : ∃ z : Nat, v % 18446744073709551616 = z := ⟨_, rfl⟩
        rw [hvh, hvl] at Q10
        have a0 := Q10.cell0
        have a1 := Q10.cell1
        by_cases hz : vh = 0
        · have hge : (1000000000000000000 : Int) ≤ (vl : Int) := by omega
          subst hz
          clear hfin HREL hlt hvh hvl
          go_wp2
          refine bodyPost_ret (results_numt rfl _ _ (w.heap.size + 1 + 1) false 0 0 (.int .i64 11) rfl rfl ?_) rfl ⟨by rw [← HE1.out, ← HE2.out, ← HE3.out, ← HE4.out], ?_⟩
          · exact ((zr.set0 (.bool false)).set1 (.int .i64 0)).set2 (.int .i64 0)
          · exact ((hB.setCell (p := ⟨w.heap.size + 1 + 1, 0, none⟩) (by show w.heap.size ≤ w.heap.size + 1 + 1; omega) (.bool false)).setCell (p := ⟨w.heap.size + 1 + 1, 1, none⟩) (by show w.heap.size ≤ w.heap.size + 1 + 1; omega) (.int .i64 0)).setCell (p := ⟨w.heap.size + 1 + 1, 2, none⟩) (by show w.heap.size ≤ w.heap.size + 1 + 1; omega) (.int .i64 0)
        · have hne : ((vh : Int) != 0) = true := bne_iff_ne.2 (by omega)
          clear hfin HREL hlt hvh hvl hz
          go_wp2
          refine bodyPost_ret (results_numt rfl _ _ (w.heap.size + 1 + 1) false 0 0 (.int .i64 11) rfl rfl ?_) rfl ⟨by rw [← HE1.out, ← HE2.out, ← HE3.out, ← HE4.out], ?_⟩
          · exact ((zr.set0 (.bool false)).set1 (.int .i64 0)).set2 (.int .i64 0)
          · exact ((hB.setCell (p := ⟨w.heap.size + 1 + 1, 0, none⟩) (by show w.heap.size ≤ w.heap.size + 1 + 1; omega) (.bool false)).setCell (p := ⟨w.heap.size + 1 + 1, 1, none⟩) (by show w.heap.size ≤ w.heap.size + 1 + 1; omega) (.int .i64 0)).setCell (p := ⟨w.heap.size + 1 + 1, 2, none⟩) (by show w.heap.size ≤ w.heap.size + 1 + 1; omega) (.int .i64 0)
theorem good_false {n : Bool} {c s : Int} (w : World) (h : Hid (goodB n c s = false)) :
    Calls Tryd.prog 23 #[.agg #[.bool n, .int .i64 c, .int .i64 s]] w fun e w' => e = .returned (.bool false) ∧ w' = w.alloc (.cells #[.bool n, .int .i64 c, .int .i64 s] 24) :=
  (good_walk n c s w).mono fun _ _ ⟨he, hw⟩ => ⟨he.trans (congrArg (fun b => Ending.returned (Value.bool b)) h.out), hw⟩
theorem add_bad1 (na : Bool) (ca sa : Int) (nb : Bool) (cb sb : Int) (g1 : Hid (goodB na ca sa = false)) (w : World) :
    Calls Tryd.prog 27 #[numV na ca sa, numV nb cb sb] w fun e w' => e = .returned (.tuple #[numV false 0 0, .int .i64 1]) ∧ Below w.heap.size w w' := by
  go_enter Tryd.func27, Tryd.ntmps27
  go_wp2_with (go_at_call 23; refine (good_false _ (by with_reducible exact g1)).mono ?_; rintro e w1 ⟨rfl, rfl⟩)
  refine bodyPost_ret (results_numt rfl _ _ (w.heap.size + 1 + 1) false 0 0 (.int .i64 1) rfl rfl ?_) rfl ⟨rfl, ?_⟩
  · have h := (Box3.new ((w.alloc (.cells #[.bool na, .int .i64 ca, .int .i64 sa] 24)).alloc (.cells #[.bool nb, .int .i64 cb, .int .i64 sb] 24)) 24 (.bool false) (.int .i64 0) (.int .i64 0)).alloc (.cells #[.bool na, .int .i64 ca, .int .i64 sa] 24)
    rw [World.size_alloc, World.size_alloc] at h
    exact h
  · exact ((((Below.refl _ w).alloc (Nat.le_refl _) _).alloc (by simp) _).alloc (by simp; omega) _).alloc (by simp; omega) _
theorem add_bad2 (na : Bool) (ca sa : Int) (nb : Bool) (cb sb : Int) (g1 : Hid (goodB na ca sa = true)) (g2 : Hid (goodB nb cb sb = false)) (w : World) :
    Calls Tryd.prog 27 #[numV na ca sa, numV nb cb sb] w fun e w' => e = .returned (.tuple #[numV false 0 0, .int .i64 1]) ∧ Below w.heap.size w w' := by
  go_enter Tryd.func27, Tryd.ntmps27
  go_wp2_with (first | (go_at_call 23; refine (good_true _ (by with_reducible exact g1)).mono ?_; rintro e w1 ⟨rfl, rfl⟩) | (go_at_call 23; refine (good_false _ (by with_reducible exact g2)).mono ?_; rintro e w1 ⟨rfl, rfl⟩))
  refine bodyPost_ret (results_numt rfl _ _ (w.heap.size + 1 + 1) false 0 0 (.int .i64 1) rfl rfl ?_) rfl ⟨rfl, ?_⟩
  · have h := ((Box3.new ((w.alloc (.cells #[.bool na, .int .i64 ca, .int .i64 sa] 24)).alloc (.cells #[.bool nb, .int .i64 cb, .int .i64 sb] 24)) 24 (.bool false) (.int .i64 0) (.int .i64 0)).alloc (.cells #[.bool na, .int .i64 ca, .int .i64 sa] 24)).alloc (.cells #[.bool nb, .int .i64 cb, .int .i64 sb] 24)
    rw [World.size_alloc, World.size_alloc] at h
    exact h
  · exact (((((Below.refl _ w).alloc (Nat.le_refl _) _).alloc (by simp) _).alloc (by simp; omega) _).alloc (by simp; omega) _).alloc (by simp; omega) _
theorem goodN_of {n : Bool} {c s : Int} (h : goodB n c s = true) : c = (c.toNat : Int) ∧ s = (s.toNat : Int) ∧ GoodN n c.toNat s.toNat := by
  unfold goodB at h
  simp only [Bool.and_eq_true, Bool.or_eq_true, decide_eq_true_eq] at h
  obtain ⟨⟨⟨⟨h1, h2⟩, h3⟩, h4⟩, h5⟩ := h
  refine ⟨by omega, by omega, by omega, by omega, fun e => ?_⟩
  rcases h5 with h | h
  · rw [e] at h; cases h
  · omega
def decimal_Add.f (a0_0 : Bool) (a0_1 a0_2 : Int) (a1_0 : Bool) (a1_1 a1_2 : Int) : Option (Bool × Int × Int × Int) :=
  some (if goodB a0_0 a0_1 a0_2 && goodB a1_0 a1_1 a1_2 then addV a0_0 a0_1.toNat a0_2.toNat a1_0 a1_1.toNat a1_2.toNat else (false, 0, 0, 1))
theorem decimal_Add.calls (a0_0 : Bool) (a0_1 a0_2 : Int) (a1_0 : Bool) (a1_1 a1_2 : Int) (r1 : Bool) (r2 r3 r4 : Int) (w : World) (h : decimal_Add.f a0_0 a0_1 a0_2 a1_0 a1_1 a1_2 = some (r1, r2, r3, r4)) :
    Calls Tryd.prog 27 #[.agg #[.bool a0_0, .int .i64 a0_1, .int .i64 a0_2], .agg #[.bool a1_0, .int .i64 a1_1, .int .i64 a1_2]] w fun e w' => e = .returned (.tuple #[.agg #[.bool r1, .int .i64 r2, .int .i64 r3], .int .i64 r4]) ∧ Below w.heap.size w w' := by
  have h := Option.some.inj h
  cases g1 : goodB a0_0 a0_1 a0_2
  · rw [g1, Bool.false_and, if_neg (by decide)] at h
    simp only [Prod.mk.injEq] at h
    obtain ⟨rfl, rfl, rfl, rfl⟩ := h
    exact add_bad1 _ _ _ _ _ _ (Lib.hid g1) w
  · cases g2 : goodB a1_0 a1_1 a1_2
    · rw [g1, g2, Bool.and_false, if_neg (by decide)] at h
      simp only [Prod.mk.injEq] at h
      obtain ⟨rfl, rfl, rfl, rfl⟩ := h
      exact add_bad2 _ _ _ _ _ _ (Lib.hid g1) (Lib.hid g2) w
    · rw [g1, g2, Bool.and_self, if_pos rfl] at h
      obtain ⟨e1, e2, h1⟩ := goodN_of g1
      obtain ⟨e3, e4, h2⟩ := goodN_of g2
      rw [e1, e2, e3, e4]
      rw [e1, e2, e3, e4] at h
      simp only [Int.toNat_natCast] at h
      exact add_good _ _ _ _ _ _ h1 h2 _ _ _ _ h w
end Go.Proofs.YtggakekljbgeoaaDoor.PAll

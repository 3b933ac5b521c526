/- date.CheckMoment, by hand: its drawn region is walked in its one forced order (wip/tools/regprint.py prints the lines). -/
import Derived.Test.YtjemnphmjbodfaaDoorGClos
import Derived.Deep.RegionHeld3
namespace Go.Proofs.YtjemnphmjbodfaaDoor.PAll
open Go.RowKit Go.Proofs.YtjemnphmjbodfaaDoorW.PrintWords GPlain
set_option linter.unusedSimpArgs false
theorem below_drew (B : Nat) (w : World) : Below B w w.drew := ⟨rfl, rfl, rfl, Nat.le_refl _, fun _ _ => rfl⟩
theorem below_le2 {w1 w2 : World} {n : Nat} (h : Below w1.heap.size w1 w2) (hn : n ≤ w1.heap.size) : n ≤ w2.heap.size := Nat.le_trans hn h.size
theorem below_11 (s : ByteArray) (x : Int) (hs : s.size = 19) (hn : date_number.f (s.extract 11 13) = some x) (B : Nat) (w : World) (hB : w.cell? ⟨B, 0, none⟩ = some (.string s)) :
    Calls Tryd.prog 26 #[.int .i64 11, .int .i64 24, .pointer (some ⟨B, 0, none⟩)] w fun e w' => e = .returned (.bool (decide (0 ≤ x) && decide (x < 24))) ∧ Below w.heap.size w w' :=
  below_calls s 11 24 x hs (.inl rfl) hn B w hB
theorem below_14 (s : ByteArray) (x : Int) (hs : s.size = 19) (hn : date_number.f (s.extract 14 16) = some x) (B : Nat) (w : World) (hB : w.cell? ⟨B, 0, none⟩ = some (.string s)) :
    Calls Tryd.prog 26 #[.int .i64 14, .int .i64 60, .pointer (some ⟨B, 0, none⟩)] w fun e w' => e = .returned (.bool (decide (0 ≤ x) && decide (x < 60))) ∧ Below w.heap.size w w' :=
  below_calls s 14 60 x hs (.inr (.inl rfl)) hn B w hB
theorem below_17 (s : ByteArray) (x : Int) (hs : s.size = 19) (hn : date_number.f (s.extract 17 19) = some x) (B : Nat) (w : World) (hB : w.cell? ⟨B, 0, none⟩ = some (.string s)) :
    Calls Tryd.prog 26 #[.int .i64 17, .int .i64 60, .pointer (some ⟨B, 0, none⟩)] w fun e w' => e = .returned (.bool (decide (0 ≤ x) && decide (x < 60))) ∧ Below w.heap.size w w' :=
  below_calls s 17 60 x hs (.inr (.inr rfl)) hn B w hB
/-- Are all seven so? -/
def all7 (b1 b2 b3 b4 b5 b6 b7 : Bool) : Bool := b1 && b2 && b3 && b4 && b5 && b6 && b7
theorem all_7 (W : World) (T : TypeId) (b1 b2 b3 b4 b5 b6 b7 : Bool) :
    Calls Tryd.prog 27 #[.slice (some ⟨W.heap.size, 0, none⟩) 7 7] (W.alloc (.cells #[.bool b1, .bool b2, .bool b3, .bool b4, .bool b5, .bool b6, .bool b7] T)) fun e w' => e = .returned (.bool (all7 b1 b2 b3 b4 b5 b6 b7)) ∧ (W.alloc (.cells #[.bool b1, .bool b2, .bool b3, .bool b4, .bool b5, .bool b6, .bool b7] T)) = w' := by
  refine (all_calls [b1, b2, b3, b4, b5, b6, b7] (by simp) W.heap.size 7 _ ?_).mono ?_
  · intro j hj
    have h7 : j < 7 := hj
    rcases (show j = 0 ∨ j = 1 ∨ j = 2 ∨ j = 3 ∨ j = 4 ∨ j = 5 ∨ j = 6 by omega) with rfl | rfl | rfl | rfl | rfl | rfl | rfl <;> simp
  · rintro e w' ⟨rfl, rfl⟩
    refine ⟨?_, rfl⟩
    simp [all7, Bool.and_assoc]
theorem cellB {s : ByteArray} {w1 w2 : World} {B : Nat} (hb : Below w1.heap.size w1 w2) (hc : w1.cell? ⟨B, 0, none⟩ = some (.string s)) : w2.cell? ⟨B, 0, none⟩ = some (.string s) :=
  (hb.cell (p := ⟨B, 0, none⟩) (World.block_lt_of_cell? _ _ hc)).trans hc
theorem cellB0 {s : ByteArray} {w w2 : World} {a : Nat} (hb : Below ((w.alloc (.cells #[.string s] 9)).drewN a).heap.size ((w.alloc (.cells #[.string s] 9)).drewN a) w2) : w2.cell? ⟨w.heap.size, 0, none⟩ = some (.string s) := cellB hb (by simp)
set_option maxRecDepth 100000 in
set_option maxHeartbeats 4000000 in
theorem moment_long (s : ByteArray) (hs : s.size = 19) (x1 x2 x3 e0 : Int) (c1 c2 c3 : UInt8) (he : date_CheckXML.f (s.extract 0 10) = some e0) (h1 : date_number.f (s.extract 11 13) = some x1) (h2 : date_number.f (s.extract 14 16) = some x2) (h3 : date_number.f (s.extract 17 19) = some x3) (i1 : s[10]'(by omega) = c1) (i2 : s[13]'(by omega) = c2) (i3 : s[16]'(by omega) = c3) (v : Bool) (hv : all7 (e0 == 0) ((c1.toNat : Int) == 84) ((c2.toNat : Int) == 58) ((c3.toNat : Int) == 58) (decide (0 ≤ x1) && decide (x1 < 24)) (decide (0 ≤ x2) && decide (x2 < 60)) (decide (0 ≤ x3) && decide (x3 < 60)) = v) (w : World) :
    Calls Tryd.prog 15 #[.string s] w fun e w' => e = .returned (.int .i64 (if v = true then 0 else 16)) ∧ Below w.heap.size w w' := by
  have HE := Lib.hid he
  have H1 := Lib.hid h1
  have H2 := Lib.hid h2
  have H3 := Lib.hid h3
  have HV := Lib.hid hv
  clear he h1 h2 h3 hv
  have q1 : ∀ w, (Instr.index 9 (.string s) (.int .i64 10)).run Tryd.prog w = .ok (.int .u8 ((c1.toNat : Nat) : Int)) w := fun w => by
    rw [run_index_string w 9 s .i64 10 Tryd.underlying9, dif_pos ⟨by omega, by omega⟩, ← i1]; rfl
  have q2 : ∀ w, (Instr.index 9 (.string s) (.int .i64 13)).run Tryd.prog w = .ok (.int .u8 ((c2.toNat : Nat) : Int)) w := fun w => by
    rw [run_index_string w 9 s .i64 13 Tryd.underlying9, dif_pos ⟨by omega, by omega⟩, ← i2]; rfl
  have q3 : ∀ w, (Instr.index 9 (.string s) (.int .i64 16)).run Tryd.prog w = .ok (.int .u8 ((c3.toNat : Nat) : Int)) w := fun w => by
    rw [run_index_string w 9 s .i64 16 Tryd.underlying9, dif_pos ⟨by omega, by omega⟩, ← i3]; rfl
  clear i1 i2 i3
  have hmf : ∀ (fn : Fn) (first cap : Array Value) (w : World), (Instr.makeFunc fn first cap).run Tryd.prog w = .ok (.func fn first cap) w := fun _ _ _ _ => rfl
  go_enter Tryd.func15, Tryd.ntmps15
  go_wp2
  have hB0 : (w.alloc (.cells #[.string s] 9)).drew.cell? ⟨w.heap.size, 0, none⟩ = some (.string s) := by simp
  refine wp_region_held_drew (S := fun w' => w'.cell? ⟨w.heap.size, 0, none⟩ = some (.string s)) (by kernel_rfl) hB0 (fun hHeld => ?_)
  -- 22 operations
  refine wpAnyH_take (i := 0) (oi := { dst := some 8, op := Go.Op.load 9 (Go.Operand.tmp 1), type := 9, pos := "date.go:94", after := #[], guard := none }) (v := ?_) rfl (by kernel_rfl) (by kernel_rfl) (by kernel_rfl) (fun _ _ _ h => h) (Or.inl ⟨by rfl, ?_⟩) (by assumption) ?_
  rotate_left
  · (intro w' hSw; (try dsimp only at hSw); go_simp; try with_reducible rfl)
  try simp only [Act.put, List.setIfInBounds_toArray, List.set_cons_zero, List.set_cons_succ]
  refine wpAnyH_take (i := 1) (oi := { dst := some 9, op := Go.Op.slice 9 (Go.Operand.tmp 8) none (some (Go.Operand.const (Go.Value.int Go.IntKind.i64 10))) none, type := 9, pos := "date.go:94", after := #[{ on := 0, ground := Go.Ground.data }], guard := none }) (v := ?_) rfl (by kernel_rfl) (by kernel_rfl) (by kernel_rfl) (fun _ _ _ h => h) (Or.inl ⟨by rfl, ?_⟩) (by assumption) ?_
  rotate_left
  · (intro w' hSw; (try dsimp only at hSw); go_simp; try with_reducible rfl)
  try simp only [Act.put, List.setIfInBounds_toArray, List.set_cons_zero, List.set_cons_succ]
  refine wpAnyH_take (i := 4) (oi := { dst := some 12, op := Go.Op.load 9 (Go.Operand.tmp 1), type := 9, pos := "date.go:94", after := #[], guard := none }) (v := ?_) rfl (by kernel_rfl) (by kernel_rfl) (by kernel_rfl) (fun _ _ _ h => h) (Or.inl ⟨by rfl, ?_⟩) (by assumption) ?_
  rotate_left
  · (intro w' hSw; (try dsimp only at hSw); go_simp; try with_reducible rfl)
  try simp only [Act.put, List.setIfInBounds_toArray, List.set_cons_zero, List.set_cons_succ]
  refine wpAnyH_take (i := 5) (oi := { dst := some 13, op := Go.Op.index 9 (Go.Operand.tmp 12) (Go.Operand.const (Go.Value.int Go.IntKind.i64 10)), type := 5, pos := "date.go:94", after := #[{ on := 4, ground := Go.Ground.data }], guard := none }) (v := ?_) rfl (by kernel_rfl) (by kernel_rfl) (by kernel_rfl) (fun _ _ _ h => h) (Or.inl ⟨by rfl, ?_⟩) (by assumption) ?_
  rotate_left
  · (intro w' hSw; (try dsimp only at hSw); go_simp; try with_reducible rfl)
  try simp only [Act.put, List.setIfInBounds_toArray, List.set_cons_zero, List.set_cons_succ]
  refine wpAnyH_take (i := 6) (oi := { dst := some 14, op := Go.Op.binOp Go.BinOp.eql 5 (Go.Operand.tmp 13) (Go.Operand.const (Go.Value.int Go.IntKind.u8 84)) 5, type := 4, pos := "date.go:94", after := #[{ on := 5, ground := Go.Ground.data }], guard := none }) (v := ?_) rfl (by kernel_rfl) (by kernel_rfl) (by kernel_rfl) (fun _ _ _ h => h) (Or.inl ⟨by rfl, ?_⟩) (by assumption) ?_
  rotate_left
  · (intro w' hSw; (try dsimp only at hSw); go_simp; try with_reducible rfl)
  try simp only [Act.put, List.setIfInBounds_toArray, List.set_cons_zero, List.set_cons_succ]
  refine wpAnyH_take (i := 7) (oi := { dst := some 15, op := Go.Op.load 9 (Go.Operand.tmp 1), type := 9, pos := "date.go:94", after := #[], guard := none }) (v := ?_) rfl (by kernel_rfl) (by kernel_rfl) (by kernel_rfl) (fun _ _ _ h => h) (Or.inl ⟨by rfl, ?_⟩) (by assumption) ?_
  rotate_left
  · (intro w' hSw; (try dsimp only at hSw); go_simp; try with_reducible rfl)
  try simp only [Act.put, List.setIfInBounds_toArray, List.set_cons_zero, List.set_cons_succ]
  refine wpAnyH_take (i := 8) (oi := { dst := some 16, op := Go.Op.index 9 (Go.Operand.tmp 15) (Go.Operand.const (Go.Value.int Go.IntKind.i64 13)), type := 5, pos := "date.go:94", after := #[{ on := 7, ground := Go.Ground.data }], guard := none }) (v := ?_) rfl (by kernel_rfl) (by kernel_rfl) (by kernel_rfl) (fun _ _ _ h => h) (Or.inl ⟨by rfl, ?_⟩) (by assumption) ?_
  rotate_left
  · (intro w' hSw; (try dsimp only at hSw); go_simp; try with_reducible rfl)
  try simp only [Act.put, List.setIfInBounds_toArray, List.set_cons_zero, List.set_cons_succ]
  refine wpAnyH_take (i := 9) (oi := { dst := some 17, op := Go.Op.binOp Go.BinOp.eql 5 (Go.Operand.tmp 16) (Go.Operand.const (Go.Value.int Go.IntKind.u8 58)) 5, type := 4, pos := "date.go:94", after := #[{ on := 8, ground := Go.Ground.data }], guard := none }) (v := ?_) rfl (by kernel_rfl) (by kernel_rfl) (by kernel_rfl) (fun _ _ _ h => h) (Or.inl ⟨by rfl, ?_⟩) (by assumption) ?_
  rotate_left
  · (intro w' hSw; (try dsimp only at hSw); go_simp; try with_reducible rfl)
  try simp only [Act.put, List.setIfInBounds_toArray, List.set_cons_zero, List.set_cons_succ]
  refine wpAnyH_take (i := 10) (oi := { dst := some 18, op := Go.Op.load 9 (Go.Operand.tmp 1), type := 9, pos := "date.go:94", after := #[], guard := none }) (v := ?_) rfl (by kernel_rfl) (by kernel_rfl) (by kernel_rfl) (fun _ _ _ h => h) (Or.inl ⟨by rfl, ?_⟩) (by assumption) ?_
  rotate_left
  · (intro w' hSw; (try dsimp only at hSw); go_simp; try with_reducible rfl)
  try simp only [Act.put, List.setIfInBounds_toArray, List.set_cons_zero, List.set_cons_succ]
  refine wpAnyH_take (i := 11) (oi := { dst := some 19, op := Go.Op.index 9 (Go.Operand.tmp 18) (Go.Operand.const (Go.Value.int Go.IntKind.i64 16)), type := 5, pos := "date.go:94", after := #[{ on := 10, ground := Go.Ground.data }], guard := none }) (v := ?_) rfl (by kernel_rfl) (by kernel_rfl) (by kernel_rfl) (fun _ _ _ h => h) (Or.inl ⟨by rfl, ?_⟩) (by assumption) ?_
  rotate_left
  · (intro w' hSw; (try dsimp only at hSw); go_simp; try with_reducible rfl)
  try simp only [Act.put, List.setIfInBounds_toArray, List.set_cons_zero, List.set_cons_succ]
  refine wpAnyH_take (i := 12) (oi := { dst := some 20, op := Go.Op.binOp Go.BinOp.eql 5 (Go.Operand.tmp 19) (Go.Operand.const (Go.Value.int Go.IntKind.u8 58)) 5, type := 4, pos := "date.go:94", after := #[{ on := 11, ground := Go.Ground.data }], guard := none }) (v := ?_) rfl (by kernel_rfl) (by kernel_rfl) (by kernel_rfl) (fun _ _ _ h => h) (Or.inl ⟨by rfl, ?_⟩) (by assumption) ?_
  rotate_left
  · (intro w' hSw; (try dsimp only at hSw); go_simp; try with_reducible rfl)
  try simp only [Act.put, List.setIfInBounds_toArray, List.set_cons_zero, List.set_cons_succ]
  refine wpAnyH_take (i := 13) (oi := { dst := some 21, op := Go.Op.move (Go.Operand.tmp 3), type := 45, pos := "date.go:94", after := #[], guard := none }) (v := ?_) rfl (by kernel_rfl) (by kernel_rfl) (by kernel_rfl) (fun _ _ _ h => h) (Or.inl ⟨by rfl, ?_⟩) (by assumption) ?_
  rotate_left
  · (intro w' hSw; (try dsimp only at hSw); go_simp; try with_reducible rfl)
  try simp only [Act.put, List.setIfInBounds_toArray, List.set_cons_zero, List.set_cons_succ]
  refine wpAnyH_take (i := 15) (oi := { dst := some 23, op := Go.Op.move (Go.Operand.tmp 3), type := 45, pos := "date.go:94", after := #[], guard := none }) (v := ?_) rfl (by kernel_rfl) (by kernel_rfl) (by kernel_rfl) (fun _ _ _ h => h) (Or.inl ⟨by rfl, ?_⟩) (by assumption) ?_
  rotate_left
  · (intro w' hSw; (try dsimp only at hSw); go_simp; try with_reducible rfl)
  try simp only [Act.put, List.setIfInBounds_toArray, List.set_cons_zero, List.set_cons_succ]
  refine wpAnyH_take (i := 17) (oi := { dst := some 25, op := Go.Op.move (Go.Operand.tmp 3), type := 45, pos := "date.go:94", after := #[], guard := none }) (v := ?_) rfl (by kernel_rfl) (by kernel_rfl) (by kernel_rfl) (fun _ _ _ h => h) (Or.inl ⟨by rfl, ?_⟩) (by assumption) ?_
  rotate_left
  · (intro w' hSw; (try dsimp only at hSw); go_simp; try with_reducible rfl)
  try simp only [Act.put, List.setIfInBounds_toArray, List.set_cons_zero, List.set_cons_succ]
  refine wpAnyH_ready (rs := [2]) (by kernel_rfl) (by simp) ?_
  refine AllReadyH.cons (o := { dst := some 10, op := Go.Op.call { callee := Go.Callee.value (Go.Operand.func 14), args := #[Go.Operand.tmp 9], argTypes := #[9] }, type := 23, pos := "date.go:94", after := #[{ on := 1, ground := Go.Ground.data }], guard := none }) rfl (fun K hK => ?_) AllReadyH.nil
  go_simp
  go_at_call 14
  (with_reducible refine (date_CheckXML.calls _ e0 _ HE.out).mono ?_)
  rintro e' w1 ⟨rfl, hb1⟩
  have hc1 := cellB hb1 (by assumption)
  try go_wp2_with fail
  refine hK.out _ _ (by first | assumption | go_keep) (fun hHeld => ?_)
  clear hK K
  try simp only [Act.put, List.setIfInBounds_toArray, List.set_cons_zero, List.set_cons_succ]
  refine wpAnyH_take (i := 3) (oi := { dst := some 11, op := Go.Op.binOp Go.BinOp.eql 23 (Go.Operand.tmp 10) (Go.Operand.const (Go.Value.int Go.IntKind.i64 0)) 23, type := 4, pos := "date.go:94", after := #[{ on := 2, ground := Go.Ground.data }], guard := none }) (v := ?_) rfl (by kernel_rfl) (by kernel_rfl) (by kernel_rfl) (fun _ _ _ h => h) (Or.inl ⟨by rfl, ?_⟩) (by assumption) ?_
  rotate_left
  · (intro w' hSw; (try dsimp only at hSw); go_simp; try with_reducible rfl)
  try simp only [Act.put, List.setIfInBounds_toArray, List.set_cons_zero, List.set_cons_succ]
  refine wpAnyH_ready (rs := [14]) (by kernel_rfl) (by simp) ?_
  refine AllReadyH.cons (o := { dst := some 22, op := Go.Op.call { callee := Go.Callee.value (Go.Operand.tmp 21), args := #[Go.Operand.const (Go.Value.int Go.IntKind.i64 11), Go.Operand.const (Go.Value.int Go.IntKind.i64 24)], argTypes := #[3, 3] }, type := 4, pos := "date.go:94", after := #[{ on := 13, ground := Go.Ground.data }, { on := 2, ground := Go.Ground.chain }], guard := none }) rfl (fun K hK => ?_) AllReadyH.nil
  go_simp
  go_at_call 26
  (with_reducible refine (below_11 s x1 hs H1.out _ _ (by assumption)).mono ?_)
  rintro e' w2 ⟨rfl, hb2⟩
  have hc2 := cellB hb2 (by assumption)
  try go_wp2_with fail
  refine hK.out _ _ (by first | assumption | go_keep) (fun hHeld => ?_)
  clear hK K
  try simp only [Act.put, List.setIfInBounds_toArray, List.set_cons_zero, List.set_cons_succ]
  refine wpAnyH_ready (rs := [16]) (by kernel_rfl) (by simp) ?_
  refine AllReadyH.cons (o := { dst := some 24, op := Go.Op.call { callee := Go.Callee.value (Go.Operand.tmp 23), args := #[Go.Operand.const (Go.Value.int Go.IntKind.i64 14), Go.Operand.const (Go.Value.int Go.IntKind.i64 60)], argTypes := #[3, 3] }, type := 4, pos := "date.go:94", after := #[{ on := 15, ground := Go.Ground.data }, { on := 14, ground := Go.Ground.chain }], guard := none }) rfl (fun K hK => ?_) AllReadyH.nil
  go_simp
  go_at_call 26
  (with_reducible refine (below_14 s x2 hs H2.out _ _ (by assumption)).mono ?_)
  rintro e' w3 ⟨rfl, hb3⟩
  have hc3 := cellB hb3 (by assumption)
  try go_wp2_with fail
  refine hK.out _ _ (by first | assumption | go_keep) (fun hHeld => ?_)
  clear hK K
  try simp only [Act.put, List.setIfInBounds_toArray, List.set_cons_zero, List.set_cons_succ]
  refine wpAnyH_ready (rs := [18]) (by kernel_rfl) (by simp) ?_
  refine AllReadyH.cons (o := { dst := some 26, op := Go.Op.call { callee := Go.Callee.value (Go.Operand.tmp 25), args := #[Go.Operand.const (Go.Value.int Go.IntKind.i64 17), Go.Operand.const (Go.Value.int Go.IntKind.i64 60)], argTypes := #[3, 3] }, type := 4, pos := "date.go:94", after := #[{ on := 17, ground := Go.Ground.data }, { on := 16, ground := Go.Ground.chain }], guard := none }) rfl (fun K hK => ?_) AllReadyH.nil
  go_simp
  go_at_call 26
  (with_reducible refine (below_17 s x3 hs H3.out _ _ (by assumption)).mono ?_)
  rintro e' w4 ⟨rfl, hb4⟩
  have hc4 := cellB hb4 (by assumption)
  try go_wp2_with fail
  refine hK.out _ _ (by first | assumption | go_keep) (fun hHeld => ?_)
  clear hK K
  try simp only [Act.put, List.setIfInBounds_toArray, List.set_cons_zero, List.set_cons_succ]
  refine wpAnyH_ready (rs := [19]) (by kernel_rfl) (by simp) ?_
  refine AllReadyH.cons (o := { dst := some 27, op := Go.Op.buildSlice 51 7 #[(0, Go.Operand.tmp 11), (1, Go.Operand.tmp 14), (2, Go.Operand.tmp 17), (3, Go.Operand.tmp 20), (4, Go.Operand.tmp 22), (5, Go.Operand.tmp 24), (6, Go.Operand.tmp 26)], type := 51, pos := "date.go:94", after := #[{ on := 3, ground := Go.Ground.data }, { on := 6, ground := Go.Ground.data }, { on := 9, ground := Go.Ground.data }, { on := 12, ground := Go.Ground.data }, { on := 14, ground := Go.Ground.data }, { on := 16, ground := Go.Ground.data }, { on := 18, ground := Go.Ground.data }], guard := none }) rfl (fun K hK => ?_) AllReadyH.nil
  go_simp
  refine hK.out _ _ (by first | assumption | go_keep) (fun hHeld => ?_)
  clear hK K
  try simp only [Act.put, List.setIfInBounds_toArray, List.set_cons_zero, List.set_cons_succ]
  refine wpAnyH_ready (rs := [20]) (by kernel_rfl) (by simp) ?_
  refine AllReadyH.cons (o := { dst := some 28, op := Go.Op.call { callee := Go.Callee.value (Go.Operand.func 27), args := #[Go.Operand.tmp 27], argTypes := #[51] }, type := 4, pos := "date.go:94", after := #[{ on := 19, ground := Go.Ground.data }, { on := 18, ground := Go.Ground.chain }], guard := none }) rfl (fun K hK => ?_) AllReadyH.nil
  go_simp
  go_at_call 27
  (with_reducible refine (all_7 _ _ _ _ _ _ _ _ _).mono ?_)
  rintro e' w5 ⟨rfl, rfl⟩
  try go_wp2_with fail
  refine hK.out _ _ (by first | assumption | go_keep) (fun hHeld => ?_)
  clear hK K
  try simp only [Act.put, List.setIfInBounds_toArray, List.set_cons_zero, List.set_cons_succ]
  refine wpAnyH_take (i := 21) (oi := { dst := some 29, op := Go.Op.unOp Go.UnOp.not 4 (Go.Operand.tmp 28), type := 4, pos := "date.go:94", after := #[{ on := 20, ground := Go.Ground.data }], guard := none }) (v := ?_) rfl (by kernel_rfl) (by kernel_rfl) (by kernel_rfl) (fun _ _ _ h => h) (Or.inl ⟨by rfl, ?_⟩) (by assumption) ?_
  rotate_left
  · (intro w' hSw; (try dsimp only at hSw); go_simp; try with_reducible rfl)
  try simp only [Act.put, List.setIfInBounds_toArray, List.set_cons_zero, List.set_cons_succ]
  refine wpAnyH_done (by kernel_rfl) ?_ _
  have hbe : Below w.heap.size w w4 := below_then (below_then (below_then (below_then (((Below.refl _ w).alloc (Nat.le_refl _) _).trans (below_drew _ _)) (by simp) hb1) (below_le2 hb1 (by simp)) hb2) (below_le2 hb2 (below_le2 hb1 (by simp))) hb3) (below_le2 hb3 (below_le2 hb2 (below_le2 hb1 (by simp)))) hb4
  have hsz : w.heap.size ≤ w4.heap.size := hbe.size
  have hv := HV.out
  cases v
  · simp only [hv, Bool.not_false]
    clear hv
    go_wp2
    go_ret
    exact ⟨rfl, hbe.alloc hsz _⟩
  · simp only [hv, Bool.not_true]
    clear hv
    go_wp2
    go_ret
    exact ⟨rfl, hbe.alloc hsz _⟩
/-- date.CheckMoment. -/
def date_CheckMoment.f (s : ByteArray) : Option Int :=
  if s.size = 19 then (date_CheckXML.f (s.extract 0 10)).bind fun e0 => (date_number.f (s.extract 11 13)).bind fun x1 => (date_number.f (s.extract 14 16)).bind fun x2 => (date_number.f (s.extract 17 19)).bind fun x3 =>
    some (if all7 (e0 == 0) (bt s 10 == 84) (bt s 13 == 58) (bt s 16 == 58) (decide (0 ≤ x1) && decide (x1 < 24)) (decide (0 ≤ x2) && decide (x2 < 60)) (decide (0 ≤ x3) && decide (x3 < 60)) = true then 0 else 16)
  else some 16
theorem bt_nth (s : ByteArray) (i : Nat) (h : i < s.size) : bt s (i : Int) = ((s[i].toNat : Nat) : Int) := by
  unfold bt
  rw [dif_pos (by simpa using h)]
  rfl
theorem date_CheckMoment.calls (a0 : ByteArray) (r : Int) (w : World) (h : date_CheckMoment.f a0 = some r) :
    Calls Tryd.prog 15 #[.string a0] w fun e w' => e = .returned (.int .i64 r) ∧ Below w.heap.size w w' := by
  unfold date_CheckMoment.f at h
  by_cases hs : a0.size = 19
  · rw [if_pos hs] at h
    obtain ⟨e0, he, h⟩ := Option.bind_eq_some_iff.1 h
    obtain ⟨x1, h1, h⟩ := Option.bind_eq_some_iff.1 h
    obtain ⟨x2, h2, h⟩ := Option.bind_eq_some_iff.1 h
    obtain ⟨x3, h3, h⟩ := Option.bind_eq_some_iff.1 h
    obtain rfl := Option.some.inj h
    have b1 := bt_nth a0 10 (by omega)
    have b2 := bt_nth a0 13 (by omega)
    have b3 := bt_nth a0 16 (by omega)
    refine moment_long a0 hs x1 x2 x3 e0 _ _ _ he h1 h2 h3 rfl rfl rfl _ ?_ w
    rw [← b1, ← b2, ← b3]
    rfl
  · rw [if_neg hs] at h
    obtain rfl := Option.some.inj h
    exact moment_short a0 hs w
end Go.Proofs.YtjemnphmjbodfaaDoor.PAll

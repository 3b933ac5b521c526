/- fin.Parse, by hand: its two last regions. -/
import Derived.Test.YtkklccccjmipkaaDoorZFChain
import Derived.Outline
namespace Go.Proofs.YtkklccccjmipkaaDoor.Fin
open Go.RowKit Go.Proofs.YtkklccccjmipkaaDoorW.PrintWords Go.Proofs.YtkklccccjmipkaaDoorW.PrintLast GPlain Go.Proofs.YtkklccccjmipkaaDoor.PAll
set_option linter.unusedSimpArgs false
theorem keepD {V V2 : World} {b : Nat} {v : Value} (h : Hid (V.cell? ⟨b, 0, none⟩ = some v)) (hb : Below V.heap.size V V2) : Hid (V2.cell? ⟨b, 0, none⟩ = some v) :=
  Lib.hid ((hb.cell (p := ⟨b, 0, none⟩) (World.block_lt_of_cell? _ _ h.out)).trans h.out)
theorem keepA {V : World} {p : Addr} {v : Value} (o : Obj) (h : V.cell? p = some v) : (V.alloc o).cell? p = some v :=
  (((Below.refl _ V).alloc (Nat.le_refl _) o).cell (World.block_lt_of_cell? _ _ h)).trans h
theorem at6 (w : World) (o0 o1 o2 o3 o4 o5 : Obj) : let E := (((((w.alloc o0).alloc o1).alloc o2).alloc o3).alloc o4).alloc o5
    E.heap[w.heap.size]? = some o0 ∧ E.heap[w.heap.size + 1]? = some o1 ∧ E.heap[w.heap.size + 1 + 1]? = some o2 ∧ E.heap[w.heap.size + 1 + 1 + 1]? = some o3 ∧ E.heap[w.heap.size + 1 + 1 + 1 + 1]? = some o4 ∧ E.heap[w.heap.size + 1 + 1 + 1 + 1 + 1]? = some o5 ∧ E.heap.size = w.heap.size + 6 ∧ Below w.heap.size w E := by
  have nw := fun (W : World) (o : Obj) => World.alloc_heap_new W o
  have old := fun (W : World) (o : Obj) (b : Nat) (hb : b < W.heap.size) => Below.heap_alloc W o b hb
  simp only
  refine ⟨?_, ?_, ?_, ?_, ?_, ?_, by simp, (((((((Below.refl _ w).alloc (Nat.le_refl _) _).alloc (by simp) _).alloc (by first | (simp; done) | (simp; omega)) _).alloc (by first | (simp; done) | (simp; omega)) _).alloc (by first | (simp; done) | (simp; omega)) _).alloc (by first | (simp; done) | (simp; omega)) _)⟩
  · rw [old _ _ _ (by first | (simp; done) | (simp; omega)), old _ _ _ (by first | (simp; done) | (simp; omega)), old _ _ _ (by first | (simp; done) | (simp; omega)), old _ _ _ (by first | (simp; done) | (simp; omega)), old _ _ _ (by simp)]; exact nw _ _
  · rw [old _ _ _ (by first | (simp; done) | (simp; omega)), old _ _ _ (by first | (simp; done) | (simp; omega)), old _ _ _ (by first | (simp; done) | (simp; omega)), old _ _ _ (by simp)]; have := nw (w.alloc o0) o1; simpa using this
  · rw [old _ _ _ (by first | (simp; done) | (simp; omega)), old _ _ _ (by first | (simp; done) | (simp; omega)), old _ _ _ (by simp)]; have := nw ((w.alloc o0).alloc o1) o2; simpa using this
  · rw [old _ _ _ (by first | (simp; done) | (simp; omega)), old _ _ _ (by simp)]; have := nw (((w.alloc o0).alloc o1).alloc o2) o3; simpa using this
  · rw [old _ _ _ (by simp)]; have := nw ((((w.alloc o0).alloc o1).alloc o2).alloc o3) o4; simpa using this
  · have := nw (((((w.alloc o0).alloc o1).alloc o2).alloc o3).alloc o4) o5; simpa using this
theorem Post.drew {p : Nat} {s : ByteArray} {w W : World} {st : FS} (h : Post p s w W st) : Post p s w W.drew st := ⟨h.rd, h.ms, h.rb, h.sb, h.res, below_drew h.below, h.le⟩
theorem set5 {W : World} {b : Nat} {a0 a1 a2 a3 a4 : Value} {t : TypeId} (h : W.heap[b]? = some (.cells #[a0, a1, a2, a3, a4] t (0, 0))) (v0 v1 v2 v3 v4 : Value) :
    (((((W.setCell ⟨b, 0, none⟩ v0).setCell ⟨b, 1, none⟩ v1).setCell ⟨b, 2, none⟩ v2).setCell ⟨b, 3, none⟩ v3).setCell ⟨b, 4, none⟩ v4).heap[b]? = some (.cells #[v0, v1, v2, v3, v4] t (0, 0)) := heap_set (heap_set (heap_set (heap_set (heap_set h))))
theorem set5_below {w W : World} {b : Nat} (h : Below w.heap.size w W) (hb : w.heap.size ≤ b) (v0 v1 v2 v3 v4 : Value) :
    Below w.heap.size w (((((W.setCell ⟨b, 0, none⟩ v0).setCell ⟨b, 1, none⟩ v1).setCell ⟨b, 2, none⟩ v2).setCell ⟨b, 3, none⟩ v3).setCell ⟨b, 4, none⟩ v4) :=
  ((((h.setCell (p := ⟨b, 0, none⟩) hb _).setCell (p := ⟨b, 1, none⟩) hb _).setCell (p := ⟨b, 2, none⟩) hb _).setCell (p := ⟨b, 3, none⟩) hb _).setCell (p := ⟨b, 4, none⟩) hb _
theorem cell_setCell_other {W : World} {b o : Nat} {p : Addr} {v u : Value} (h : W.cell? p = some v) (hp : p.block ≠ b) : (W.setCell ⟨b, o, none⟩ u).cell? p = some v := (World.cell?_of_block (w := W) (Below.heap_setCell _ _ _ p.block hp)).trans h
theorem keep5 {W : World} {b : Nat} {p : Addr} {v : Value} (h : W.cell? p = some v) (hp : p.block ≠ b) (v0 v1 v2 v3 v4 : Value) :
    (((((W.setCell ⟨b, 0, none⟩ v0).setCell ⟨b, 1, none⟩ v1).setCell ⟨b, 2, none⟩ v2).setCell ⟨b, 3, none⟩ v3).setCell ⟨b, 4, none⟩ v4).cell? p = some v := cell_setCell_other (cell_setCell_other (cell_setCell_other (cell_setCell_other (cell_setCell_other h hp) hp) hp) hp) hp
theorem drewC (W : World) (p : Addr) : W.drew.cell? p = W.cell? p := rfl
theorem drewH (W : World) (b : Nat) : W.drew.heap[b]? = W.heap[b]? := rfl
theorem keep5d {W : World} {b : Nat} {p : Addr} {v : Value} (h : W.cell? p = some v) (hp : p.block ≠ b) (v0 v1 v2 v3 v4 : Value) :
    (((((W.setCell ⟨b, 0, none⟩ v0).setCell ⟨b, 1, none⟩ v1).setCell ⟨b, 2, none⟩ v2).setCell ⟨b, 3, none⟩ v3).setCell ⟨b, 4, none⟩ v4).drew.cell? p = some v := (drewC _ _).trans (keep5 h hp v0 v1 v2 v3 v4)
theorem set5d {W : World} {b : Nat} {a0 a1 a2 a3 a4 : Value} {t : TypeId} (h : W.heap[b]? = some (.cells #[a0, a1, a2, a3, a4] t (0, 0))) (v0 v1 v2 v3 v4 : Value) :
    (((((W.setCell ⟨b, 0, none⟩ v0).setCell ⟨b, 1, none⟩ v1).setCell ⟨b, 2, none⟩ v2).setCell ⟨b, 3, none⟩ v3).setCell ⟨b, 4, none⟩ v4).drew.heap[b]? = some (.cells #[v0, v1, v2, v3, v4] t (0, 0)) := by rw [drewH]; exact set5 h v0 v1 v2 v3 v4
theorem set5d_below {w W : World} {b : Nat} (h : Below w.heap.size w W) (hb : w.heap.size ≤ b) (v0 v1 v2 v3 v4 : Value) :
    Below w.heap.size w (((((W.setCell ⟨b, 0, none⟩ v0).setCell ⟨b, 1, none⟩ v1).setCell ⟨b, 2, none⟩ v2).setCell ⟨b, 3, none⟩ v3).setCell ⟨b, 4, none⟩ v4).drew := (set5_below h hb v0 v1 v2 v3 v4).drew
def regOf (n : Nat) : Code → Option Code
  | .region id ops d => if id = n then some (.region id ops d) else none
  | .seq a b => match regOf n a with
    | some c => some c
    | none => regOf n b
  | .block _ c => regOf n c
  | .scope c => regOf n c
  | .cond _ a b => match regOf n a with
    | some c => some c
    | none => regOf n b
  | _ => none
noncomputable def reg (n : Nat) : Code := (Tryd.f15.body.bind (regOf n)).getD .skip
set_option maxRecDepth 100000 in
set_option maxHeartbeats 4000000 in
theorem tail_bad {p : Nat} {s : ByteArray} {w V : World} {st : FS} (hp : w.heap.size = p) (HP : Hid (Post p s w V st)) {Q : Exit → Act → World → Prop} (x0 x3 x4 x7 x8 x9 x10 x11 x12 x13 x14 x15 x16 x17 x18 x19 x20 x21 x22 x23 x24 x25 x26 x27 x28 x29 x30 x31 x32 x33 x34 x35 x36 x37 x38 x39 x40 x41 x42 x43 x44 x45 x46 x47 x48 x49 x50 x51 x52 x53 x54 x55 x56 x57 x58 x59 x60 x61 x62 x63 x64 x65 x66 x67 x68 x69 : Value)
    (hQ : ∀ (a : Act) (V' : World), a.tmps.getD 2 undef = ptr (p + 1) 0 → a.tmps.getD 3 undef = Value.int .i64 (st.at_ : Int) → a.tmps.getD 4 undef = Value.int .i64 30 → a.defers = [] → V'.heap[p + 1]? = some (.cells #[.string ⟨#[]⟩, .string ⟨#[]⟩, .string ⟨#[]⟩, .string ⟨#[]⟩, .string ⟨#[]⟩] 24 (0, 0)) → Below p w V' → Q .normal a V') (hPn : ∀ c (a a' : Act) (V' : World), Q (.panic c) a V' → Q (.panic c) a' V') :
    Code.wp Tryd.prog (reg 8) Q ⟨#[x0, ptr p 0, ptr (p + 1) 0, x3, x4, ptr (p + 1 + 1 + 1) 0, ptr (p + 1 + 1 + 1 + 1) 0, x7, x8, x9, x10, x11, x12, x13, x14, x15, x16, x17, x18, x19, x20, x21, x22, x23, x24, x25, x26, x27, x28, x29, x30, x31, x32, x33, x34, x35, x36, x37, x38, x39, x40, x41, x42, x43, x44, x45, x46, x47, x48, x49, x50, x51, x52, x53, x54, x55, x56, x57, x58, x59, x60, x61, x62, x63, x64, x65, x66, x67, x68, x69], []⟩ V := by
  conv => arg 2; whnf
  have c0 : V.cell? ⟨p + 1, 0, none⟩ = some (.string ⟨#[]⟩) := blk_cell HP.out.res rfl
  have f0 : V.frozen? ⟨p + 1, 0, none⟩ = false := blk_frozen HP.out.res
  have c1 : V.cell? ⟨p + 1, 1, none⟩ = some (.string ⟨#[]⟩) := blk_cell HP.out.res rfl
  have f1 : V.frozen? ⟨p + 1, 1, none⟩ = false := blk_frozen HP.out.res
  have c2 : V.cell? ⟨p + 1, 2, none⟩ = some (.string ⟨#[]⟩) := blk_cell HP.out.res rfl
  have f2 : V.frozen? ⟨p + 1, 2, none⟩ = false := blk_frozen HP.out.res
  have c3 : V.cell? ⟨p + 1, 3, none⟩ = some (.string ⟨#[]⟩) := blk_cell HP.out.res rfl
  have f3 : V.frozen? ⟨p + 1, 3, none⟩ = false := blk_frozen HP.out.res
  have c4 : V.cell? ⟨p + 1, 4, none⟩ = some (.string ⟨#[]⟩) := blk_cell HP.out.res rfl
  have f4 : V.frozen? ⟨p + 1, 4, none⟩ = false := blk_frozen HP.out.res
  refine wp_region_held_drew (S := (fun w' => w'.cell? ⟨p + 1 + 1 + 1, 0, none⟩ = some (ptr (p + 1 + 1) 0) ∧ w'.cell? ⟨p + 1 + 1, 1, none⟩ = some (.int .i64 (st.at_ : Int)))) (by kernel_rfl) ⟨HP.out.drew.rb, blk_cell HP.out.drew.rd rfl⟩ (fun hHeld => ?_)
  refine wpAnyH_take (i := 0) (v := ?_) rfl (by kernel_rfl) (by kernel_rfl) (by kernel_rfl) (fun _ _ _ h => hPn _ _ _ _ h) (Or.inl ⟨by rfl, ?_⟩) hHeld ?_
  rotate_left
  · (intro w hSw; (try dsimp only at hSw); go_split_ands; go_simp; try with_reducible rfl)
  simp only [Act.put, List.setIfInBounds_toArray, List.set_cons_zero, List.set_cons_succ]
  refine wpAnyH_take (i := 1) (v := ?_) rfl (by kernel_rfl) (by kernel_rfl) (by kernel_rfl) (fun _ _ _ h => hPn _ _ _ _ h) (Or.inl ⟨by rfl, ?_⟩) hHeld ?_
  rotate_left
  · (intro w hSw; (try dsimp only at hSw); go_split_ands; go_simp; try with_reducible rfl)
  simp only [Act.put, List.setIfInBounds_toArray, List.set_cons_zero, List.set_cons_succ]
  refine wpAnyH_take (i := 2) (v := ?_) rfl (by kernel_rfl) (by kernel_rfl) (by kernel_rfl) (fun _ _ _ h => hPn _ _ _ _ h) (Or.inl ⟨by rfl, ?_⟩) hHeld ?_
  rotate_left
  · (intro w hSw; (try dsimp only at hSw); go_split_ands; go_simp; try with_reducible rfl)
  simp only [Act.put, List.setIfInBounds_toArray, List.set_cons_zero, List.set_cons_succ]
  refine wpAnyH_take (i := 3) (v := ?_) rfl (by kernel_rfl) (by kernel_rfl) (by kernel_rfl) (fun _ _ _ h => hPn _ _ _ _ h) (Or.inl ⟨by rfl, ?_⟩) hHeld ?_
  rotate_left
  · (intro w hSw; (try dsimp only at hSw); go_split_ands; go_simp; try with_reducible rfl)
  simp only [Act.put, List.setIfInBounds_toArray, List.set_cons_zero, List.set_cons_succ]
  refine wpAnyH_take (i := 4) (v := ?_) rfl (by kernel_rfl) (by kernel_rfl) (by kernel_rfl) (fun _ _ _ h => hPn _ _ _ _ h) (Or.inl ⟨by rfl, ?_⟩) hHeld ?_
  rotate_left
  · (intro w hSw; (try dsimp only at hSw); go_split_ands; go_simp; try with_reducible rfl)
  simp only [Act.put, List.setIfInBounds_toArray, List.set_cons_zero, List.set_cons_succ]
  refine wpAnyH_ready (rs := [5]) (by kernel_rfl) (by simp) ?_
  refine AllReadyH.cons rfl (fun K hK => ?_) AllReadyH.nil
  go_simp
  clear hHeld
  refine hK.out _ _ ⟨keep5d (HP.out.rb) (by show _ ≠ _; simp only; omega) _ _ _ _ _, keep5d (blk_cell HP.out.rd rfl) (by show _ ≠ _; simp only; omega) _ _ _ _ _⟩ (fun hHeld => ?_)
  clear hK K
  try simp only [Act.put, List.setIfInBounds_toArray, List.set_cons_zero, List.set_cons_succ]
  refine wpAnyH_take (i := 6) (v := ?_) rfl (by kernel_rfl) (by kernel_rfl) (by kernel_rfl) (fun _ _ _ h => hPn _ _ _ _ h) (Or.inl ⟨by rfl, ?_⟩) hHeld ?_
  rotate_left
  · (intro w hSw; (try dsimp only at hSw); go_split_ands; go_simp; try with_reducible rfl)
  simp only [Act.put, List.setIfInBounds_toArray, List.set_cons_zero, List.set_cons_succ]
  refine wpAnyH_take (i := 7) (v := ?_) rfl (by kernel_rfl) (by kernel_rfl) (by kernel_rfl) (fun _ _ _ h => hPn _ _ _ _ h) (Or.inl ⟨by rfl, ?_⟩) hHeld ?_
  rotate_left
  · (intro w hSw; (try dsimp only at hSw); go_split_ands; go_simp; try with_reducible rfl)
  simp only [Act.put, List.setIfInBounds_toArray, List.set_cons_zero, List.set_cons_succ]
  refine wpAnyH_done (by kernel_rfl) ?_ _
  try simp only [Act.put, List.setIfInBounds_toArray, List.set_cons_zero, List.set_cons_succ]
  refine hQ _ _ rfl rfl rfl rfl (set5d HP.out.res _ _ _ _ _) ?_
  subst hp
  exact set5d_below HP.out.below (Nat.le_succ _) _ _ _ _ _
set_option maxRecDepth 100000 in
set_option maxHeartbeats 4000000 in
theorem tail_good {p : Nat} {s : ByteArray} {w V : World} {st : FS} (hp : w.heap.size = p) (HP : Hid (Post p s w V st)) {Q : Exit → Act → World → Prop} (x0 x3 x4 x7 x8 x9 x10 x11 x12 x13 x14 x15 x16 x17 x18 x19 x20 x21 x22 x23 x24 x25 x26 x27 x28 x29 x30 x31 x32 x33 x34 x35 x36 x37 x38 x39 x40 x41 x42 x43 x44 x45 x46 x47 x48 x49 x50 x51 x52 x53 x54 x55 x56 x57 x58 x59 x60 x61 x62 x63 x64 x65 x66 x67 x68 x69 : Value)
    (hQ : ∀ (a : Act) (V' : World), a.tmps.getD 2 undef = ptr (p + 1) 0 → a.tmps.getD 3 undef = Value.int .i64 (s.size : Int) → a.tmps.getD 4 undef = Value.int .i64 0 → a.defers = [] → V'.heap[p + 1]? = some (.cells #[.string st.se, .string st.ki, .string st.re, .string st.ue, .string st.bo] 24 (0, 0)) → Below p w V' → Q .normal a V') (hPn : ∀ c (a a' : Act) (V' : World), Q (.panic c) a V' → Q (.panic c) a' V') :
    Code.wp Tryd.prog (reg 9) Q ⟨#[x0, ptr p 0, ptr (p + 1) 0, x3, x4, ptr (p + 1 + 1 + 1) 0, ptr (p + 1 + 1 + 1 + 1) 0, x7, x8, x9, x10, x11, x12, x13, x14, x15, x16, x17, x18, x19, x20, x21, x22, x23, x24, x25, x26, x27, x28, x29, x30, x31, x32, x33, x34, x35, x36, x37, x38, x39, x40, x41, x42, x43, x44, x45, x46, x47, x48, x49, x50, x51, x52, x53, x54, x55, x56, x57, x58, x59, x60, x61, x62, x63, x64, x65, x66, x67, x68, x69], []⟩ V := by
  conv => arg 2; whnf
  have c0 : V.cell? ⟨p + 1, 0, none⟩ = some (.string ⟨#[]⟩) := blk_cell HP.out.res rfl
  have f0 : V.frozen? ⟨p + 1, 0, none⟩ = false := blk_frozen HP.out.res
  have c1 : V.cell? ⟨p + 1, 1, none⟩ = some (.string ⟨#[]⟩) := blk_cell HP.out.res rfl
  have f1 : V.frozen? ⟨p + 1, 1, none⟩ = false := blk_frozen HP.out.res
  have c2 : V.cell? ⟨p + 1, 2, none⟩ = some (.string ⟨#[]⟩) := blk_cell HP.out.res rfl
  have f2 : V.frozen? ⟨p + 1, 2, none⟩ = false := blk_frozen HP.out.res
  have c3 : V.cell? ⟨p + 1, 3, none⟩ = some (.string ⟨#[]⟩) := blk_cell HP.out.res rfl
  have f3 : V.frozen? ⟨p + 1, 3, none⟩ = false := blk_frozen HP.out.res
  have c4 : V.cell? ⟨p + 1, 4, none⟩ = some (.string ⟨#[]⟩) := blk_cell HP.out.res rfl
  have f4 : V.frozen? ⟨p + 1, 4, none⟩ = false := blk_frozen HP.out.res
  refine wp_region_held_drew (S := (fun w' => w'.cell? ⟨p + 1 + 1 + 1 + 1, 0, none⟩ = some (.string st.se) ∧ w'.cell? ⟨p + 1 + 1 + 1 + 1, 1, none⟩ = some (.string st.ki) ∧ w'.cell? ⟨p + 1 + 1 + 1 + 1, 2, none⟩ = some (.string st.re) ∧ w'.cell? ⟨p + 1 + 1 + 1 + 1, 3, none⟩ = some (.string st.ue) ∧ w'.cell? ⟨p + 1 + 1 + 1 + 1, 4, none⟩ = some (.string st.bo) ∧ w'.cell? ⟨p, 0, none⟩ = some (.string s))) (by kernel_rfl) ⟨blk_cell HP.out.drew.ms rfl, blk_cell HP.out.drew.ms rfl, blk_cell HP.out.drew.ms rfl, blk_cell HP.out.drew.ms rfl, blk_cell HP.out.drew.ms rfl, HP.out.drew.sb⟩ (fun hHeld => ?_)
  refine wpAnyH_take (i := 0) (v := ?_) rfl (by kernel_rfl) (by kernel_rfl) (by kernel_rfl) (fun _ _ _ h => hPn _ _ _ _ h) (Or.inl ⟨by rfl, ?_⟩) hHeld ?_
  rotate_left
  · (intro w hSw; (try dsimp only at hSw); go_split_ands; go_simp; try with_reducible rfl)
  simp only [Act.put, List.setIfInBounds_toArray, List.set_cons_zero, List.set_cons_succ]
  refine wpAnyH_take (i := 1) (v := ?_) rfl (by kernel_rfl) (by kernel_rfl) (by kernel_rfl) (fun _ _ _ h => hPn _ _ _ _ h) (Or.inl ⟨by rfl, ?_⟩) hHeld ?_
  rotate_left
  · (intro w hSw; (try dsimp only at hSw); go_split_ands; go_simp; try with_reducible rfl)
  simp only [Act.put, List.setIfInBounds_toArray, List.set_cons_zero, List.set_cons_succ]
  refine wpAnyH_take (i := 2) (v := ?_) rfl (by kernel_rfl) (by kernel_rfl) (by kernel_rfl) (fun _ _ _ h => hPn _ _ _ _ h) (Or.inl ⟨by rfl, ?_⟩) hHeld ?_
  rotate_left
  · (intro w hSw; (try dsimp only at hSw); go_split_ands; go_simp; try with_reducible rfl)
  simp only [Act.put, List.setIfInBounds_toArray, List.set_cons_zero, List.set_cons_succ]
  refine wpAnyH_ready (rs := [3]) (by kernel_rfl) (by simp) ?_
  refine AllReadyH.cons rfl (fun K hK => ?_) AllReadyH.nil
  go_simp
  clear hHeld
  refine hK.out _ _ ⟨keep5d (blk_cell HP.out.ms rfl) (by show _ ≠ _; simp only; omega) _ _ _ _ _, keep5d (blk_cell HP.out.ms rfl) (by show _ ≠ _; simp only; omega) _ _ _ _ _, keep5d (blk_cell HP.out.ms rfl) (by show _ ≠ _; simp only; omega) _ _ _ _ _, keep5d (blk_cell HP.out.ms rfl) (by show _ ≠ _; simp only; omega) _ _ _ _ _, keep5d (blk_cell HP.out.ms rfl) (by show _ ≠ _; simp only; omega) _ _ _ _ _, keep5d (HP.out.sb) (by show _ ≠ _; simp only; omega) _ _ _ _ _⟩ (fun hHeld => ?_)
  clear hK K
  try simp only [Act.put, List.setIfInBounds_toArray, List.set_cons_zero, List.set_cons_succ]
  refine wpAnyH_take (i := 4) (v := ?_) rfl (by kernel_rfl) (by kernel_rfl) (by kernel_rfl) (fun _ _ _ h => hPn _ _ _ _ h) (Or.inl ⟨by rfl, ?_⟩) hHeld ?_
  rotate_left
  · (intro w hSw; (try dsimp only at hSw); go_split_ands; go_simp; try with_reducible rfl)
  simp only [Act.put, List.setIfInBounds_toArray, List.set_cons_zero, List.set_cons_succ]
  refine wpAnyH_take (i := 5) (v := ?_) rfl (by kernel_rfl) (by kernel_rfl) (by kernel_rfl) (fun _ _ _ h => hPn _ _ _ _ h) (Or.inl ⟨by rfl, ?_⟩) hHeld ?_
  rotate_left
  · (intro w hSw; (try dsimp only at hSw); go_split_ands; go_simp; try with_reducible rfl)
  simp only [Act.put, List.setIfInBounds_toArray, List.set_cons_zero, List.set_cons_succ]
  refine wpAnyH_done (by kernel_rfl) ?_ _
  try simp only [Act.put, List.setIfInBounds_toArray, List.set_cons_zero, List.set_cons_succ]
  refine hQ _ _ rfl rfl rfl rfl (set5d HP.out.res _ _ _ _ _) ?_
  subst hp
  exact set5d_below HP.out.below (Nat.le_succ _) _ _ _ _ _
end Go.Proofs.YtkklccccjmipkaaDoor.Fin

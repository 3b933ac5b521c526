/- fin.Parse, by hand: how its steps are made. -/
import Derived.Test.YtkklccccjmipkaaDoorZFSteps5
import Derived.Deep.RegionHeld3
import Derived.RangeFuncBox
namespace Go.Proofs.YtkklccccjmipkaaDoor.Fin
open Go.RowKit Go.Proofs.YtkklccccjmipkaaDoorW.PrintWords Go.Proofs.YtkklccccjmipkaaDoorW.PrintLast GPlain Go.Proofs.YtkklccccjmipkaaDoor.PAll
set_option linter.unusedSimpArgs false
/-- Captured variables, each in a box, one behind the other from n on. -/
def Boxes (V : World) (n : Nat) (vs : List Value) : Prop := n + vs.length ≤ V.heap.size ∧ ∀ j v, vs[j]? = some v → V.cell? ⟨n + j, 0, none⟩ = some v
theorem Boxes.below {V V2 : World} {n : Nat} {vs : List Value} (h : Boxes V n vs) (hb : Below V.heap.size V V2) : Boxes V2 n vs :=
  ⟨Nat.le_trans h.1 hb.size, fun j v hj => (hb.cell (p := ⟨n + j, 0, none⟩) (by
    have := (List.getElem?_eq_some_iff.1 hj).1
    show n + j < _
    have := h.1
    omega)).trans (h.2 j v hj)⟩
theorem boxes2 (W : World) (a b : Value) (ta tb : TypeId) : Boxes ((W.alloc (.cells #[a] ta)).alloc (.cells #[b] tb)) W.heap.size [a, b] ∧ Below W.heap.size W ((W.alloc (.cells #[a] ta)).alloc (.cells #[b] tb)) := by
  have h1 := (Boxed.new W ta a).alloc (.cells #[b] tb)
  have h2 := Boxed.new (W.alloc (.cells #[a] ta)) tb b
  rw [World.size_alloc] at h2
  refine ⟨⟨by rw [World.size_alloc, World.size_alloc]; exact Nat.le_refl _, fun j v hj => ?_⟩, ((Below.refl _ W).alloc (Nat.le_refl _) _).alloc (by simp) _⟩
  match j, hj with
  | 0, hj => cases hj; exact h1.cell
  | 1, hj => cases hj; exact h2.cell
theorem boxes3 (W : World) (a b c : Value) (ta tb tc : TypeId) : Boxes (((W.alloc (.cells #[a] ta)).alloc (.cells #[b] tb)).alloc (.cells #[c] tc)) W.heap.size [a, b, c] ∧ Below W.heap.size W (((W.alloc (.cells #[a] ta)).alloc (.cells #[b] tb)).alloc (.cells #[c] tc)) := by
  obtain ⟨h, hb⟩ := boxes2 W a b ta tb
  have hb2 : Below W.heap.size W (((W.alloc (.cells #[a] ta)).alloc (.cells #[b] tb)).alloc (.cells #[c] tc)) := hb.alloc (by simp; omega) _
  have h3 := Boxed.new ((W.alloc (.cells #[a] ta)).alloc (.cells #[b] tb)) tc c
  rw [World.size_alloc, World.size_alloc] at h3
  have h' := h.below ((Below.refl _ ((W.alloc (.cells #[a] ta)).alloc (.cells #[b] tb))).alloc (Nat.le_refl _) (.cells #[c] tc))
  refine ⟨⟨by rw [World.size_alloc, World.size_alloc, World.size_alloc]; exact Nat.le_refl _, fun j v hj => ?_⟩, hb2⟩
  match j, hj with
  | 0, hj => exact h'.2 0 v hj
  | 1, hj => exact h'.2 1 v hj
  | 2, hj => cases hj; exact h3.cell
theorem boxes4 (W : World) (a b c d : Value) (ta tb tc td : TypeId) : Boxes ((((W.alloc (.cells #[a] ta)).alloc (.cells #[b] tb)).alloc (.cells #[c] tc)).alloc (.cells #[d] td)) W.heap.size [a, b, c, d] ∧ Below W.heap.size W ((((W.alloc (.cells #[a] ta)).alloc (.cells #[b] tb)).alloc (.cells #[c] tc)).alloc (.cells #[d] td)) := by
  obtain ⟨h, hb⟩ := boxes3 W a b c ta tb tc
  have hb2 : Below W.heap.size W ((((W.alloc (.cells #[a] ta)).alloc (.cells #[b] tb)).alloc (.cells #[c] tc)).alloc (.cells #[d] td)) := hb.alloc (by simp; omega) _
  have h3 := Boxed.new (((W.alloc (.cells #[a] ta)).alloc (.cells #[b] tb)).alloc (.cells #[c] tc)) td d
  rw [World.size_alloc, World.size_alloc, World.size_alloc] at h3
  have h' := h.below ((Below.refl _ (((W.alloc (.cells #[a] ta)).alloc (.cells #[b] tb)).alloc (.cells #[c] tc))).alloc (Nat.le_refl _) (.cells #[d] td))
  refine ⟨⟨by rw [World.size_alloc, World.size_alloc, World.size_alloc, World.size_alloc]; exact Nat.le_refl _, fun j v hj => ?_⟩, hb2⟩
  match j, hj with
  | 0, hj => exact h'.2 0 v hj
  | 1, hj => exact h'.2 1 v hj
  | 2, hj => exact h'.2 2 v hj
  | 3, hj => cases hj; exact h3.cell
abbrev ptr (b o : Nat) : Value := .pointer (some ⟨b, o, none⟩)
/-- What a call that makes a step hands back. -/
def Makes (W : World) (fid : FuncId) (caps : Nat → Array Value) (vs : List Value) (e : Ending) (W' : World) : Prop :=
  ∃ n, W.heap.size ≤ n ∧ e = .returned (.func (.func fid) #[] (caps n)) ∧ Boxes W' n vs ∧ Below W.heap.size W W'
theorem mk_text (R : Nat) (t : ByteArray) (W : World) : Calls Tryd.prog 40 #[ptr R 0, .string t] W (Makes W 75 (fun n => #[ptr (n + 1) 0, ptr n 0]) [ptr R 0, .string t]) := by
  have hmf : ∀ (fn : Fn) (first cap : Array Value) (w : World), (Instr.makeFunc fn first cap).run Tryd.prog w = .ok (.func fn first cap) w := fun _ _ _ _ => rfl
  go_enter Tryd.func40, Tryd.ntmps40
  go_wp2
  go_ret
  exact ⟨W.heap.size, Nat.le_refl _, rfl, (boxes2 W _ _ _ _).1, (boxes2 W _ _ _ _).2⟩
theorem mk_whole (R : Nat) (n0 : Int) (cf : FuncId) (b o : Nat) (W : World) : Calls Tryd.prog 41 #[ptr R 0, .int .i64 n0, .func (.func cf) #[] #[], ptr b o] W (Makes W 76 (fun n => #[ptr n 0, ptr (n + 1) 0, ptr (n + 2) 0, ptr (n + 3) 0]) [ptr R 0, .int .i64 n0, .func (.func cf) #[] #[], ptr b o]) := by
  have hmf : ∀ (fn : Fn) (first cap : Array Value) (w : World), (Instr.makeFunc fn first cap).run Tryd.prog w = .ok (.func fn first cap) w := fun _ _ _ _ => rfl
  go_enter Tryd.func41, Tryd.ntmps41
  go_wp2
  go_ret
  exact ⟨W.heap.size, Nat.le_refl _, rfl, (boxes4 W _ _ _ _ _ _ _ _).1, (boxes4 W _ _ _ _ _ _ _ _).2⟩
theorem mk_some (R : Nat) (n0 : Int) (t : ByteArray) (b o : Nat) (W : World) : Calls Tryd.prog 43 #[ptr R 0, .int .i64 n0, .string t, ptr b o] W (Makes W 78 (fun n => #[ptr n 0, ptr (n + 1) 0, ptr (n + 2) 0, ptr (n + 3) 0]) [ptr R 0, .int .i64 n0, .string t, ptr b o]) := by
  have hmf : ∀ (fn : Fn) (first cap : Array Value) (w : World), (Instr.makeFunc fn first cap).run Tryd.prog w = .ok (.func fn first cap) w := fun _ _ _ _ => rfl
  go_enter Tryd.func43, Tryd.ntmps43
  go_wp2
  go_ret
  exact ⟨W.heap.size, Nat.le_refl _, rfl, (boxes4 W _ _ _ _ _ _ _ _).1, (boxes4 W _ _ _ _ _ _ _ _).2⟩
theorem mk_maybe (R : Nat) (t : ByteArray) (b m c : Nat) (W : World) : Calls Tryd.prog 44 #[ptr R 0, .string t, .slice (some ⟨b, 0, none⟩) m c] W (Makes W 80 (fun n => #[ptr n 0, ptr (n + 1) 0, ptr (n + 2) 0]) [ptr R 0, .string t, .slice (some ⟨b, 0, none⟩) m c]) := by
  have hmf : ∀ (fn : Fn) (first cap : Array Value) (w : World), (Instr.makeFunc fn first cap).run Tryd.prog w = .ok (.func fn first cap) w := fun _ _ _ _ => rfl
  go_enter Tryd.func44, Tryd.ntmps44
  go_wp2
  go_ret
  exact ⟨W.heap.size, Nat.le_refl _, rfl, (boxes3 W _ _ _ _ _ _).1, (boxes3 W _ _ _ _ _ _).2⟩
theorem mk_body (R : Nat) (b o : Nat) (W : World) : Calls Tryd.prog 46 #[ptr R 0, ptr b o] W (Makes W 83 (fun n => #[ptr n 0, ptr (n + 1) 0]) [ptr R 0, ptr b o]) := by
  have hmf : ∀ (fn : Fn) (first cap : Array Value) (w : World), (Instr.makeFunc fn first cap).run Tryd.prog w = .ok (.func fn first cap) w := fun _ _ _ _ => rfl
  go_enter Tryd.func46, Tryd.ntmps46
  go_wp2
  go_ret
  exact ⟨W.heap.size, Nat.le_refl _, rfl, (boxes2 W _ _ _ _).1, (boxes2 W _ _ _ _).2⟩
end Go.Proofs.YtkklccccjmipkaaDoor.Fin

/- The contract of iban.Rest, by hand: a loop over iban.values, left early. -/
import Derived.Test.YtjblihfgpbnhbaaDoorGVals
import Derived.Maps.AppendAt
import Derived.Stop.RegionWithIn
namespace Go.Proofs.YtjblihfgpbnhbaaDoor.PAll
open Go.RowKit Go.Shelf GPlain
set_option linter.unusedSimpArgs false
attribute [local go_sem] Oper.semAt_some

def stepV (n v : Int) : Int := if v < 10 then (n * 10 + v) % 97 else (n * 100 + v) % 97
def foldV (xs : List VI) : Int := xs.foldl (fun n x => stepV n x.1) 0
theorem stepV_bd {n v : Int} (_ : 0 ≤ n ∧ n < 97) (_ : 0 ≤ v) : 0 ≤ stepV n v ∧ stepV n v < 97 := by
  unfold stepV
  split <;> omega
theorem foldV_snoc (pre : List VI) (x : VI) : foldV (pre ++ [x]) = stepV (foldV pre) x.1 := by unfold foldV; rw [List.foldl_append]; rfl
theorem foldV_bd : ∀ (xs : List VI), (∀ x ∈ xs, 0 ≤ x.1) → 0 ≤ foldV xs ∧ foldV xs < 97 := by
  intro xs
  unfold foldV
  suffices h : ∀ (xs : List VI) (n : Int), 0 ≤ n ∧ n < 97 → (∀ x ∈ xs, 0 ≤ x.1) → 0 ≤ xs.foldl (fun n x => stepV n x.1) n ∧ xs.foldl (fun n x => stepV n x.1) n < 97 from h xs 0 (by omega)
  intro xs
  induction xs with
  | nil => intro n hn _; exact hn
  | cons x r ih => intro n hn h; exact ih _ (stepV_bd hn (h x List.mem_cons_self)) (fun y hy => h y (List.mem_cons_of_mem _ hy))
/-- What a text turned about gives. -/
def restL (l : List UInt8) : Int × Bool := if (l.map valB).any (fun x => decide (x.1 < 0)) then (0, false) else (foldV (l.map valB), true)

def NonNeg (xs : List VI) : Prop := ∀ x ∈ xs, 0 ≤ x.1
def HasNeg (xs : List VI) : Prop := ∃ x ∈ xs, x.1 < 0
theorem NonNeg.snoc {xs : List VI} {x : VI} (h : NonNeg xs) (hx : 0 ≤ x.1) : NonNeg (xs ++ [x]) := fun y hy => by
  rcases List.mem_append.1 hy with hy | hy
  · exact h y hy
  · rw [List.mem_singleton.1 hy]; exact hx
theorem HasNeg.snoc {xs : List VI} {x : VI} (hx : x.1 < 0) : HasNeg (xs ++ [x]) := ⟨x, by simp, hx⟩
theorem KeepBut.setCell {B2 B3 B4 : Nat} (W : World) (B : Nat) (hB : B = B2 ∨ B = B3 ∨ B = B4) (v : Value) : KeepBut B2 B3 B4 W (W.setCell ⟨B, 0, none⟩ v) := fun j cs t fr h2 h3 h4 e => by
  rw [Below.heap_setCell _ _ _ j (fun e' => by have : j = B := e'; omega)]
  exact e
/-- Two results that lie in cells. -/
theorem results_cell2 {fn : Func} {p q : Tmp} (h : fn.results = #[.cell p 3, .cell q 4]) (tmps : Array Value) (w : World) (g1 g2 : Nat) (v1 : Int) (v2 : Bool)
    (h1 : tmps.getD p undef = .pointer (some ⟨g1, 0, none⟩)) (h2 : tmps.getD q undef = .pointer (some ⟨g2, 0, none⟩)) (c1 : w.cell? ⟨g1, 0, none⟩ = some (.int .i64 v1)) (c2 : w.cell? ⟨g2, 0, none⟩ = some (.bool v2)) :
    (results fn tmps).run Tryd.prog w = .ok (.tuple #[.int .i64 v1, .bool v2]) w := by
  have h1' : tmps[p]?.getD undef = .pointer (some ⟨g1, 0, none⟩) := by simpa using h1
  have h2' : tmps[q]?.getD undef = .pointer (some ⟨g2, 0, none⟩) := by simpa using h2
  simp only [results, h]
  simp [Sem.run_bind, Result.andThen, h1', h2', asAddr]
  go_simp
/-- What is asked behind a region that does not panic. -/
def noPanic (Q : Exit → Act → World → Prop) : Exit → Act → World → Prop
  | .panic _, _, _ => False
  | e, a, w => Q e a w
theorem noPanic_normal {Q : Exit → Act → World → Prop} {a : Act} {w : World} (h : Q .normal a w) : noPanic Q .normal a w := h
theorem noPanic_le {Q : Exit → Act → World → Prop} : ∀ e a w, noPanic Q e a w → Q e a w := by
  intro e a w h
  cases e <;> first | exact h | exact h.elim

set_option maxRecDepth 100000 in
set_option maxHeartbeats 4000000 in
theorem rest_walk (s : ByteArray) (h4 : 4 ≤ s.size) (hs : s.size ≤ 1048576) (w : World) (t : ByteArray) (ht : s.extract 4 s.size ++ s.extract 0 4 = t) (r : Int) (ok : Bool) (hr : restL t.data.toList = (r, ok)) :
    CallsIn Fence.wide 4 Tryd.prog 7 #[.string s] w fun e w' => e = .returned (.tuple #[.int .i64 r, .bool ok]) ∧ Below w.heap.size w w' := by
  have hts : t.size = s.size := by rw [← ht, ByteArray.size_append, ByteArray.size_extract, ByteArray.size_extract]; omega
  have h4i : ¬ (s.size : Int) < 4 := by omega
  have HT := Lib.hid ht
  have HR := Lib.hid hr
  have hsz : (s.extract 4 s.size).size + (s.extract 0 4).size ≤ 9223372036854775807 := by rw [ByteArray.size_extract, ByteArray.size_extract]; omega
  clear hr ht
  refine callsIn_of_wp_marks Tryd.func7 rfl trivial ?_ rfl
  simp only [Tryd.ntmps7, List.size_toArray, List.length_cons, List.length_nil, Nat.reduceAdd, Nat.reduceSub, Array.replicate_succ, Array.replicate_zero, List.push_toArray, List.append_toArray, List.nil_append, List.cons_append]
  gi_wp2
  refine Code.wpIn_mono noPanic_le ?_
  gi_region_with (refine ⟨trivial, ?_⟩; gi_at_call 15; rw [HT.out]; refine (callsIn_wide.2 (values_calls t _)).mono ?_; rintro e w3 ⟨rfl, rfl⟩)
  refine noPanic_normal ?_
  gi_wp2
  obtain ⟨W0, hW0⟩ : ∃ W0, ((((w.alloc (.cells #[.int .i64 0] 3)).alloc (.cells #[.bool false] 4)).alloc (.cells #[.int .i64 0] 3)).alloc (.cells #[.string t] 9)).drew = W0 := ⟨_, rfl⟩
  have b2 : Boxed W0 w.heap.size 3 (.int .i64 0) := by rw [← hW0]; exact ((((Boxed.new w 3 (.int .i64 0)).alloc (.cells #[.bool false] 4)).alloc (.cells #[.int .i64 0] 3)).alloc (.cells #[.string t] 9) : _)
  have b3 : Boxed W0 (w.heap.size + 1) 4 (.bool false) := by
    have h := ((Boxed.new (w.alloc (.cells #[.int .i64 0] 3)) 4 (.bool false)).alloc (.cells #[.int .i64 0] 3)).alloc (.cells #[.string t] 9)
    rw [World.size_alloc] at h
    rw [← hW0]; exact h
  have b4 : Boxed W0 (w.heap.size + 1 + 1) 3 (.int .i64 0) := by
    have h := (Boxed.new ((w.alloc (.cells #[.int .i64 0] 3)).alloc (.cells #[.bool false] 4)) 3 (.int .i64 0)).alloc (.cells #[.string t] 9)
    rw [World.size_alloc, World.size_alloc] at h
    rw [← hW0]; exact h
  have b5 : Boxed W0 (w.heap.size + 1 + 1 + 1) 9 (.string t) := by
    have h := Boxed.new (((w.alloc (.cells #[.int .i64 0] 3)).alloc (.cells #[.bool false] 4)).alloc (.cells #[.int .i64 0] 3)) 9 (.string t)
    rw [World.size_alloc, World.size_alloc, World.size_alloc] at h
    rw [← hW0]; exact h
  have hB0 : Below w.heap.size w W0 := by
    rw [← hW0]
    exact (((((Below.refl _ w).alloc (Nat.le_refl _) _).alloc (by simp) _).alloc (by simp; omega) _).alloc (by simp; omega) _).drew
  have hz0 : W0.heap.size = w.heap.size + 4 := by rw [← hW0]; simp
  rw [hW0]
  clear hW0
  refine wpIn_rangeFunc_ownF rfl (by omega) (gf := 19) (lb := #[.pointer (some ⟨w.heap.size + 1 + 1 + 1, 0, none⟩)]) rfl trivial (enters_of Tryd.func19 (by kernel_rfl) rfl)
    (values_stops 3 (by omega) (w.heap.size + 1 + 1 + 1) w.heap.size (w.heap.size + 1) (w.heap.size + 1 + 1) t (by omega) W0 (by omega) (by omega) (by omega) (by omega) b5.cell) (fun h k => h.trans k) (fun W l o o' _ h hc _ => KeepBut.putObj W l o o' h hc) (Below.refl _ _) (fun _ => rfl)
    (fun pre W => (Boxed W w.heap.size 3 (.int .i64 0) ∧ Boxed W (w.heap.size + 1) 4 (.bool false) ∧ Boxed W (w.heap.size + 1 + 1) 3 (.int .i64 (foldV pre)) ∧ NonNeg pre) ∧ Below w.heap.size w W)
    (fun c pre W => (c = .ret ∧ Boxed W w.heap.size 3 (.int .i64 0) ∧ Boxed W (w.heap.size + 1) 4 (.bool false) ∧ HasNeg pre) ∧ Below w.heap.size w W)
    (fun s A B row hs hg hr => ⟨⟨hs.1.1.kept hg (fun e => by have := (hr _ e.symm).1; omega), hs.1.2.1.kept hg (fun e => by have := (hr _ e.symm).1; omega), hs.1.2.2.1.kept hg (fun e => by have := (hr _ e.symm).1; omega), hs.1.2.2.2⟩, hs.2.grown hg hs.2.size (fun j hj => by have := (hr _ hj).1; omega)⟩)
    (fun c s A B row hs hg hr => ⟨⟨hs.1.1, hs.1.2.1.kept hg (fun e => by have := (hr _ e.symm).1; omega), hs.1.2.2.1.kept hg (fun e => by have := (hr _ e.symm).1; omega), hs.1.2.2.2⟩, hs.2.grown hg hs.2.size (fun j hj => by have := (hr _ hj).1; omega)⟩)
    ⟨⟨b2, b3, b4, fun _ h => by cases h⟩, hB0⟩
    (fun x => { tmps := #[Value.string s, undef, Value.pointer (some { block := w.heap.size, off := 0 }),
          Value.pointer (some { block := w.heap.size + 1, off := 0 }),
          Value.pointer (some { block := w.heap.size + 1 + 1, off := 0 }), .int .i64 x.1, Value.string s,
          Value.int IntKind.i64 ↑s.size, Value.bool false, Value.string s, Value.string (s.extract 4 s.size),
          Value.string s, Value.string (s.extract 0 4), Value.string t,
          Value.func (Fn.func 19) #[] #[Value.pointer (some { block := w.heap.size + 1 + 1 + 1, off := 0 })], .int .i64 x.1,
          undef, undef, undef, undef, undef, undef, undef, undef, undef, undef, undef, undef, undef, undef, undef,
          undef, undef], defers := [] })
    ?assign ?body ?done ?stop
  case assign =>
    intro l x W K hK
    unfold encV
    gi_wp2
    exact hK
  case body =>
    rintro ln pre x W ⟨⟨h2, h3, h4', hall⟩, hB⟩ hlt
    have c2 := h2.cell
    have c3 := h3.cell
    have c4 := h4'.cell
    have f2 := h2.frozen
    have f3 := h3.frozen
    have f4 := h4'.frozen
    obtain ⟨x1, hx⟩ := x
    have hbd := foldV_bd pre hall
    obtain ⟨a, ha⟩ : ∃ a, foldV pre = a := ⟨_, rfl⟩
    rw [ha] at hbd c4
    have HA := Lib.hid ha
    have HALL := Lib.hid hall
    clear ha hall hlt
    by_cases hneg : x1 < 0
    · gi_wp2
      exact ⟨(KeepsOthers.setCell _ _ _).trans (KeepsOthers.setCell _ _ _), ⟨rfl, (h2.set _).other (by omega) _, (h3.other (by omega) _).set _, HasNeg.snoc hneg⟩, (hB.setCell (p := ⟨w.heap.size, 0, none⟩) (Nat.le_refl _) _).setCell (p := ⟨w.heap.size + 1, 0, none⟩) (Nat.le_succ _) _⟩
    · by_cases h10 : x1 < 10
      · gi_wp2
        exact ⟨KeepsOthers.setCell _ _ _, KeepBut.setCell _ _ (.inr (.inr rfl)) _, ⟨h2.other (by omega) _, h3.other (by omega) _, by rw [foldV_snoc, HA.out]; unfold stepV; rw [if_pos (show (⟨x1, hx⟩ : VI).1 < 10 by show x1 < 10; omega)]; exact h4'.set _, HALL.out.snoc (by show 0 ≤ x1; omega)⟩, hB.setCell (p := ⟨w.heap.size + 1 + 1, 0, none⟩) (by show w.heap.size ≤ w.heap.size + 1 + 1; omega) _⟩
      · gi_wp2
        exact ⟨KeepsOthers.setCell _ _ _, KeepBut.setCell _ _ (.inr (.inr rfl)) _, ⟨h2.other (by omega) _, h3.other (by omega) _, by rw [foldV_snoc, HA.out]; unfold stepV; rw [if_neg (show ¬ (⟨x1, hx⟩ : VI).1 < 10 by show ¬ x1 < 10; omega)]; exact h4'.set _, HALL.out.snoc (by show 0 ≤ x1; omega)⟩, hB.setCell (p := ⟨w.heap.size + 1 + 1, 0, none⟩) (by show w.heap.size ≤ w.heap.size + 1 + 1; omega) _⟩
  case stop =>
    rintro D c pre W hD hpre ⟨⟨rfl, h2, h3, x, hx, hneg⟩, hB⟩ hdd
    have e0 : r = 0 ∧ ok = false := by
      have h := HR.out
      unfold restL at h
      rw [if_pos (List.any_eq_true.2 ⟨x, hpre.subset hx, by simpa using hneg⟩)] at h
      exact ⟨(Prod.mk.inj h).1.symm, (Prod.mk.inj h).2.symm⟩
    obtain ⟨rfl, rfl⟩ := e0
    have hDB : w.heap.size + 4 ≤ D := by omega
    clear HR hx hneg hpre
    gi_wp2
    refine ⟨by simp, .inl ⟨_, _, rfl, run_takeDeferred hdd, ?_⟩⟩
    have k2 : Boxed (W.putObj D (.deferred none)) w.heap.size 3 (.int .i64 0) := h2.kept (grownBy_putObj' W D _) (fun e => by have := Option.some.inj e; omega)
    have k3 : Boxed (W.putObj D (.deferred none)) (w.heap.size + 1) 4 (.bool false) := h3.kept (grownBy_putObj' W D _) (fun e => by have := Option.some.inj e; omega)
    exact ⟨_, results_cell2 rfl _ _ w.heap.size (w.heap.size + 1) 0 false rfl rfl k2.cell k3.cell, rfl, hB.trans (belowK_b (w := w) (Nat.le_refl _) W D _ _ (by omega) hdd rfl rfl)⟩
  case done =>
    rintro D xs W hD rfl ⟨⟨h2, h3, h4', hall⟩, hB⟩ hdd
    have e0 : foldV (t.data.toList.map valB) = r ∧ true = ok := by
      have h := HR.out
      unfold restL at h
      rw [if_neg (fun h => by
        obtain ⟨x, hx, hn⟩ := List.any_eq_true.1 h
        have := hall x hx
        simp at hn
        omega)] at h
      exact Prod.mk.inj h
    obtain ⟨er, rfl⟩ := e0
    rw [er] at h4'
    have hDB : w.heap.size + 4 ≤ D := by omega
    have c2 := h2.cell
    have c3 := h3.cell
    have c4 := h4'.cell
    have f2 := h2.frozen
    have f3 := h3.frozen
    clear HR er hall
    gi_wp2
    have hdd2 : ((W.setCell ⟨w.heap.size, 0, none⟩ (.int .i64 r)).setCell ⟨w.heap.size + 1, 0, none⟩ (.bool true)).heap[D]? = some (.deferred (some [])) := by
      rw [Below.heap_setCell _ _ _ D (fun e => by have : D = w.heap.size + 1 := e; omega), Below.heap_setCell _ _ _ D (fun e => by have : D = w.heap.size := e; omega)]
      exact hdd
    have k2 := (((h2.set (.int .i64 r)).other (B' := w.heap.size + 1) (by omega) (.bool true))).kept (grownBy_putObj' _ D (.deferred none)) (fun e => by have := Option.some.inj e; omega)
    have k3 := (((h3.other (B' := w.heap.size) (by omega) (.int .i64 r))).set (.bool true)).kept (grownBy_putObj' _ D (.deferred none)) (fun e => by have := Option.some.inj e; omega)
    refine ⟨by simp, .inl ⟨_, _, rfl, run_takeDeferred hdd2, ?_⟩⟩
    exact ⟨_, results_cell2 rfl _ _ w.heap.size (w.heap.size + 1) r true rfl rfl k2.cell k3.cell, rfl, ((hB.setCell (p := ⟨w.heap.size, 0, none⟩) (Nat.le_refl _) _).setCell (p := ⟨w.heap.size + 1, 0, none⟩) (Nat.le_succ _) _).trans (belowK_b (w := w) (Nat.le_refl _) _ D _ _ (by omega) hdd2 rfl rfl)⟩
/-- iban.Rest. -/
def iban_Rest.f (a0 : ByteArray) : Option (Int × Bool) := if a0.size ≤ 1048576 then some (if a0.size < 4 then (0, false) else restL (a0.data.toList.drop 4 ++ a0.data.toList.take 4)) else none
theorem iban_Rest.calls (a0 : ByteArray) (r1 : Int) (r2 : Bool) (w : World) (h : iban_Rest.f a0 = some (r1, r2)) :
    Calls Tryd.prog 7 #[.string a0] w fun e w' => e = .returned (.tuple #[.int .i64 r1, .bool r2]) ∧ Below w.heap.size w w' := by
  unfold iban_Rest.f at h
  by_cases hc : a0.size ≤ 1048576
  · rw [if_pos hc] at h
    have h := Option.some.inj h
    by_cases h4 : a0.size < 4
    · rw [if_pos h4] at h
      obtain ⟨rfl, rfl⟩ := Prod.mk.inj h
      clear h
      have h4i : (a0.size : Int) < 4 := by omega
      go_enter Tryd.func7, Tryd.ntmps7
      go_wp2
      refine bodyPost_ret (results_cell2 rfl _ _ w.heap.size (w.heap.size + 1) 0 false rfl rfl (by simp) (by simp)) rfl ?_
      exact ⟨rfl, ((Below.refl _ w).alloc (Nat.le_refl _) _).alloc (by simp) _⟩
    · rw [if_neg h4] at h
      obtain ⟨l, rfl⟩ := bs_ex a0
      rw [bs_data] at h
      rw [bs_size] at h4 hc
      refine callsIn_wide.1 ((rest_walk (bs l) (by rw [bs_size]; omega) (by rw [bs_size]; omega) w (bs (l.drop 4 ++ l.take 4)) (by rw [bs_size, bs_extract, bs_extract, bs_append, List.take_length]; simp) r1 r2 (by rw [bs_data]; exact h)).mono fun _ _ hh => hh)
  · rw [if_neg hc] at h
    cases h
end Go.Proofs.YtjblihfgpbnhbaaDoor.PAll

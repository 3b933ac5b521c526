/- A slice of fields as an argument: opened to a row that the walk reads. -/
import Derived.Test.YtkklccccjmipkaaDoorLPLin0
import Derived.WalkKit
import Derived.ProofKit
import Derived.OpenShut
import Derived.ChangeSame
import Derived.SizedLaws
import Derived.Deep.Slices
import Derived.Deep.Fields
import Derived.Carry
namespace Go.Proofs.YtkklccccjmipkaaDoor.FieldRow
open Go Go.ChangeShapes Go.WideShapes Go.ChangeAt Go.RowKit Go.Deep Go.Proofs.YtkklccccjmipkaaDoor.PAll Go.Proofs.YtkklccccjmipkaaDoorW.PrintWords
theorem laidOut : laidOutB Tryd.prog = true := by kernel_rfl
theorem cells68 : Tryd.prog.cellsOf 68 = 3 := by kernel_rfl
section
variable {H : Type} {enc : TypeId × Value → H} {P : Program} {w : World} {base : Nat} {spare : Nat → Bool} {held : Bool}
theorem open_slice_fields {t e : TypeId} {fs : Array Field} {fuel : Nat} {cs : List Value} {x : DataW H × List MemPlace} (ht : P.underlying t = some (.slice e)) (he : P.underlying e = some (.struct fs))
    (hone : oneCellFields P fs = true) (hC : P.cellsOf e = fs.size) (h : DataW.trod enc P w base spare held fuel t cs = some x) :
    (cs = [.slice none 0 0] ∧ x = (.nil, [])) ∨
    ∃ (a : Addr) (len cap m : Nat) (D : Nat → DataW H) (Pl : Nat → List MemPlace), cs = [.slice (some a) len cap] ∧ base ≤ a.block ∧ len ≤ cap ∧ cap ≤ maxLen ∧ m = (if spare a.block then cap else len) ∧
      x = (.slice ((List.range len).map D) ((List.range (m - len)).map fun j => D (len + j)), MemPlace.row a (m * fs.size) ++ (List.range m).flatMap Pl) ∧
      ∀ i, i < m → ∃ (ys : List (DataW H × List MemPlace)) (n : Nat), D i = .agg (ys.map (·.1)) ∧ Pl i = ys.flatMap (·.2) ∧ ys.length = fs.size ∧
        ∀ (j : Nat) (f : Field), fs[j]? = some f → ∃ (v : Value) (y : DataW H × List MemPlace), w.cell? (a.add (i * fs.size + j)) = some v ∧ ys[j]? = some y ∧ DataW.trod enc P w base spare held n f.type [v] = some y := by
  rcases open_slice ht h with h0 | ⟨a, len, cap, m, n, D, Pl, hcs, hb, hl, hm, hmm, hx, hi⟩
  · exact .inl h0
  · refine .inr ⟨a, len, cap, m, D, Pl, hcs, hb, hl, hm, hmm, by rw [hC] at hx; exact hx, fun i him => ?_⟩
    obtain ⟨cs', hc, ht'⟩ := hi i him
    rw [hC] at hc
    obtain ⟨ys, n', hn', hy, hlen, hyl, hf⟩ := DataW.trod_struct he ht'
    obtain ⟨_, hcl, hat⟩ := World.cells?_some hc
    simp only [Prod.mk.injEq] at hy
    refine ⟨ys, n', hy.1, hy.2, hyl, fun j f hj => ?_⟩
    obtain ⟨ho, hk⟩ := hone_of hone j f hj
    have hjl : j < fs.size := (Array.getElem?_eq_some_iff.1 hj).1
    have hcell := hat j hjl
    have hv : cs'[j]? = some (cs'[j]'(by omega)) := List.getElem?_eq_getElem (by omega)
    have h1 := hf j f hj
    rw [ho, hk] at h1
    have hone' : (cs'.drop j).take 1 = [cs'[j]'(by omega)] := by
      rw [List.drop_eq_getElem_cons (by omega)]
      rfl
    rw [hone'] at h1
    have hys : ys[j]? = some (ys[j]'(by omega)) := List.getElem?_eq_getElem (by omega)
    refine ⟨_, _, ?_, hys, h1.trans hys⟩
    rw [← Go.Deep.add_add, hcell, hv]
end
section
variable {H : Type} {enc : TypeId × Value → H} {w : World}
/-- A slice of fields, as the walk reads it; and how large its texts are. -/
theorem open_fieldsRow {A : Option Addr} {len cap : Nat} {d : DataW H} {p : List MemPlace} (h : DataW.Trod enc Tryd.prog w 0 (fun _ => true) true 58 (.slice A len cap) d p)
    (hsz : ∀ n ∈ d.weights Tryd.prog 58, n ≤ reachBytes) :
    ∃ l0 : List S68, len = l0.length ∧ Kd.C k68 w A l0.length l0 ∧ l0.length ≤ cap ∧ ∀ x ∈ l0, x.f0.size ≤ 140737488351232 ∧ x.f1.size ≤ 140737488351232 := by
  obtain ⟨fuel, hf⟩ := h
  rcases open_slice_fields Tryd.underlying58 Tryd.underlying68 (by kernel_rfl) cells68 hf with ⟨hcs, hx⟩ | ⟨a, len', cap', m, D, Pl, hcs, _, hl, hm, hmm, hx, hi⟩
  · simp only [Value.cells, List.cons.injEq, Value.slice.injEq, and_true] at hcs
    obtain ⟨rfl, rfl, rfl⟩ := hcs
    exact ⟨[], rfl, ⟨rfl, Nat.zero_le _, fun h => absurd h (Nat.lt_irrefl 0)⟩, Nat.zero_le _, fun x hx => by cases hx⟩
  · simp only [Value.cells, List.cons.injEq, Value.slice.injEq, and_true] at hcs
    obtain ⟨rfl, rfl, rfl⟩ := hcs
    have key : ∀ i, i < len → ∃ x : S68, w.cell? (a.add (i * 3)) = some (.string x.f0) ∧ w.cell? (a.add (i * 3 + 1)) = some (.string x.f1) ∧ w.cell? (a.add (i * 3 + 2)) = some (.int .i64 x.f2) ∧
        D i = .agg [.lit (.string x.f0.data.toList), .lit (.string x.f1.data.toList), .lit (.int .i64 x.f2)] := by
      intro i hil
      have him : i < m := by rw [hmm]; simp only [↓reduceIte]; omega
      obtain ⟨ys, n, hD, _, hyl, hj⟩ := hi i him
      obtain ⟨v0, y0, c0, e0, t0⟩ := hj 0 _ rfl
      obtain ⟨v1, y1, c1, e1, t1⟩ := hj 1 _ rfl
      obtain ⟨v2, y2, c2, e2, t2⟩ := hj 2 _ rfl
      obtain ⟨a0, u0, rfl, _⟩ := DataW.trod_string Tryd.underlying9 t0
      obtain ⟨a1, u1, rfl, _⟩ := DataW.trod_string Tryd.underlying9 t1
      obtain ⟨a2, u2, rfl, _⟩ := DataW.trod_int Tryd.underlying3 t2
      simp only [List.cons.injEq, and_true] at u0 u1 u2
      subst u0 u1 u2
      refine ⟨⟨a0, a1, a2⟩, c0, c1, c2, ?_⟩
      rw [hD]
      match ys, hyl with
      | [z0, z1, z2], _ =>
        simp only [List.getElem?_cons_zero, List.getElem?_cons_succ, Option.some.injEq] at e0 e1 e2
        rw [e0, e1, e2]
        rfl
    have hex : ∃ l0 : List S68, l0.length = len ∧ ∀ i (hil : i < l0.length), w.cell? (a.add (i * 3)) = some (.string l0[i].f0) ∧ w.cell? (a.add (i * 3 + 1)) = some (.string l0[i].f1) ∧ w.cell? (a.add (i * 3 + 2)) = some (.int .i64 l0[i].f2) ∧
        D i = .agg [.lit (.string l0[i].f0.data.toList), .lit (.string l0[i].f1.data.toList), .lit (.int .i64 l0[i].f2)] := by
      refine ⟨(List.range len).map fun i => if h : i < len then Classical.choose (key i h) else z68, by simp, fun i hil => ?_⟩
      have hil' : i < len := by simpa using hil
      have := Classical.choose_spec (key i hil')
      simp only [List.getElem_map, List.getElem_range, dif_pos hil']
      exact this
    obtain ⟨l0, rfl, hl0⟩ := hex
    refine ⟨l0, rfl, ⟨rfl, Nat.le_trans hl (Nat.le_trans hm (by decide)), fun _ => ⟨a, rfl, fun j x hj => ?_⟩⟩, hl, fun x hx' => ?_⟩
    · obtain ⟨hjl, rfl⟩ := List.getElem?_eq_some_iff.1 hj
      obtain ⟨k0, k1, k2, _⟩ := hl0 j hjl
      refine ⟨[.string l0[j].f0, .string l0[j].f1, .int .i64 l0[j].f2], rfl, k68_mk w _, fun i u hu => ?_⟩
      match i, hu with
      | 0, hu => rw [← Option.some.inj hu]; exact k0
      | 1, hu => rw [← Option.some.inj hu]; exact k1
      | 2, hu => rw [← Option.some.inj hu]; exact k2
    · obtain ⟨j, hjl, rfl⟩ := List.getElem_of_mem hx'
      obtain ⟨_, _, _, hD⟩ := hl0 j hjl
      simp only [Prod.mk.injEq] at hx
      have hw : ∀ b : List UInt8, (b = l0[j].f0.data.toList ∨ b = l0[j].f1.data.toList) → b.length ≤ 140737488351232 := by
        intro b hb
        refine Nat.le_trans (hsz b.length ?_) (by decide)
        rw [hx.1]
        simp only [DataW.weights, Tryd.underlying58, List.mem_cons, List.mem_append]
        refine .inr (.inl ?_)
        have : ∀ (l : List (DataW H)) (d : DataW H) (n : Nat), d ∈ l → n ∈ d.weights Tryd.prog 68 → n ∈ DataW.weightsAll Tryd.prog 68 l := by
          intro l
          induction l with
          | nil => intro d n h; cases h
          | cons z l ih =>
            intro d n h hn
            simp only [DataW.weightsAll, List.mem_append]
            rcases List.mem_cons.1 h with rfl | h
            · exact .inl hn
            · exact .inr (ih d n h hn)
        refine this _ (D j) _ (List.mem_map.2 ⟨j, List.mem_range.2 hjl, rfl⟩) ?_
        rw [hD]
        rcases hb with rfl | rfl <;> simp [DataW.weights, Tryd.underlying68, DataW.weightsEach]
      have s0 : l0[j].f0.data.toList.length = l0[j].f0.size := by rw [Array.length_toList]; rfl
      have s1 : l0[j].f1.data.toList.length = l0[j].f1.size := by rw [Array.length_toList]; rfl
      exact ⟨by rw [← s0]; exact hw _ (.inl rfl), by rw [← s1]; exact hw _ (.inr rfl)⟩
end
end Go.Proofs.YtkklccccjmipkaaDoor.FieldRow

/- A message by value (five texts), opened and shut; and how large its texts are. -/
import Derived.Test.YtkklccccjmipkaaDoorZPAllx0
import Derived.WalkKit
import Derived.ProofKit
import Derived.OpenShut
import Derived.ChangeSame
import Derived.SizedLaws
import Derived.Lib.SmallJoins
namespace Go.Proofs.YtkklccccjmipkaaDoor.MsgRow
open Go Go.ChangeShapes Go.WideShapes Go.ChangeAt Go.RowKit Go.Joins
open Go.ChangeMaps (open_string shut_string)
theorem cells24 : Tryd.prog.cellsOf 24 = 5 := by kernel_rfl
theorem cells9 : Tryd.prog.cellsOf 9 = 1 := by kernel_rfl
/-- A message's reading. -/
abbrev msgD (H : Type) (a0 a1 a2 a3 a4 : ByteArray) : DataW H := .agg [.lit (.string a0.data.toList), .lit (.string a1.data.toList), .lit (.string a2.data.toList), .lit (.string a3.data.toList), .lit (.string a4.data.toList)]
abbrev msgV (a0 a1 a2 a3 a4 : ByteArray) : Value := .agg #[.string a0, .string a1, .string a2, .string a3, .string a4]
section
variable {H : Type} {enc : TypeId × Value → H} {w : World} {base : Nat} {spare : Nat → Bool} {held : Bool}
set_option maxRecDepth 100000 in
theorem open_msg {r : Reach} {b0 : Nat} {v : Value} {d : DataW H} {p : List MemPlace} (hv : Value.okWide Tryd.prog w r b0 24 v) (h : DataW.Trod enc Tryd.prog w base spare held 24 v d p) :
    ∃ a0 a1 a2 a3 a4 : ByteArray, v = msgV a0 a1 a2 a3 a4 ∧ d = msgD H a0 a1 a2 a3 a4 ∧ p = [] ∧ (a0.size ≤ maxLen ∧ a1.size ≤ maxLen ∧ a2.size ≤ maxLen ∧ a3.size ≤ maxLen ∧ a4.size ≤ maxLen) := by
  obtain ⟨cs, rfl, hsz⟩ := okWide_struct Tryd.underlying24 hv
  obtain ⟨l⟩ := cs
  have hl : l.length = 5 := hsz.trans cells24
  match l, hl with
  | [c0, c1, c2, c3, c4], _ =>
    obtain ⟨fuel, hf⟩ := h
    obtain ⟨xs, n, _, hx, _, hlen, hg⟩ := DataW.trod_struct Tryd.underlying24 hf
    match xs, hlen with
    | [y0, y1, y2, y3, y4], _ =>
      simp only [Prod.mk.injEq] at hx
      have g0 : DataW.trod enc Tryd.prog w base spare held n 9 [c0] = some y0 := by simpa [Value.cells, cells9] using hg 0 _ rfl
      have g1 : DataW.trod enc Tryd.prog w base spare held n 9 [c1] = some y1 := by simpa [Value.cells, cells9] using hg 1 _ rfl
      have g2 : DataW.trod enc Tryd.prog w base spare held n 9 [c2] = some y2 := by simpa [Value.cells, cells9] using hg 2 _ rfl
      have g3 : DataW.trod enc Tryd.prog w base spare held n 9 [c3] = some y3 := by simpa [Value.cells, cells9] using hg 3 _ rfl
      have g4 : DataW.trod enc Tryd.prog w base spare held n 9 [c4] = some y4 := by simpa [Value.cells, cells9] using hg 4 _ rfl
      obtain ⟨a0, e0, rfl, s0⟩ := DataW.trod_string Tryd.underlying9 g0
      obtain ⟨a1, e1, rfl, s1⟩ := DataW.trod_string Tryd.underlying9 g1
      obtain ⟨a2, e2, rfl, s2⟩ := DataW.trod_string Tryd.underlying9 g2
      obtain ⟨a3, e3, rfl, s3⟩ := DataW.trod_string Tryd.underlying9 g3
      obtain ⟨a4, e4, rfl, s4⟩ := DataW.trod_string Tryd.underlying9 g4
      simp only [List.cons.injEq, and_true] at e0 e1 e2 e3 e4
      subst e0 e1 e2 e3 e4
      exact ⟨a0, a1, a2, a3, a4, rfl, by simpa [msgD] using hx.1, by simpa using hx.2, s0, s1, s2, s3, s4⟩
set_option maxRecDepth 100000 in
theorem shut_msg {a0 a1 a2 a3 a4 : ByteArray} (hy : a0.size ≤ maxLen ∧ a1.size ≤ maxLen ∧ a2.size ≤ maxLen ∧ a3.size ≤ maxLen ∧ a4.size ≤ maxLen) :
    DataW.Trod enc Tryd.prog w base spare held 24 (msgV a0 a1 a2 a3 a4) (msgD H a0 a1 a2 a3 a4) [] := by
  have sh : ∀ {a : ByteArray}, a.size ≤ maxLen → DataW.trod enc Tryd.prog w base spare held 1 9 [.string a] = some (.lit (.string a.data.toList), []) := fun h => by simp [DataW.trod, Tryd.underlying9, h]
  have := trod_struct_mk (enc := enc) (w := w) (base := base) (spare := spare) (held := held) (n := 1) (cs := [.string a0, .string a1, .string a2, .string a3, .string a4])
    (xs := [(.lit (.string a0.data.toList), []), (.lit (.string a1.data.toList), []), (.lit (.string a2.data.toList), []), (.lit (.string a3.data.toList), []), (.lit (.string a4.data.toList), [])]) Tryd.underlying24 (by rw [cells24]; rfl)
    (by simp [cells9, sh hy.1, sh hy.2.1, sh hy.2.2.1, sh hy.2.2.2.1, sh hy.2.2.2.2])
  exact ⟨2, by simpa [Value.cells, msgV, msgD] using this⟩
theorem sized_msg {ts : List TypeId} {ds : List (DataW H)} (h : (DataW.weightsEach Tryd.prog ts ds).all (· ≤ reachBytes) = true) {j : Nat} {a0 a1 a2 a3 a4 : ByteArray} (ht : ts[j]? = some 24) (hd : ds[j]? = some (msgD H a0 a1 a2 a3 a4)) :
    a0.size ≤ 140737488351232 ∧ a1.size ≤ 140737488351232 ∧ a2.size ≤ 140737488351232 ∧ a3.size ≤ 140737488351232 ∧ a4.size ≤ 140737488351232 := by
  have key : ∀ b : List UInt8, b.length ∈ (msgD H a0 a1 a2 a3 a4).weights Tryd.prog 24 → b.length ≤ 140737488351232 := fun b hb => by
    have z := List.all_eq_true.1 h _ (DataW.weights_mem_each ht hd b.length hb)
    have z2 : b.length ≤ reachBytes := by simpa using z
    exact Nat.le_trans z2 (by decide)
  have e : (msgD H a0 a1 a2 a3 a4).weights Tryd.prog 24 = [a0.data.toList.length, a1.data.toList.length, a2.data.toList.length, a3.data.toList.length, a4.data.toList.length] := by
    simp [DataW.weights, Tryd.underlying24, DataW.weightsEach]
  rw [e] at key
  have sz : ∀ a : ByteArray, a.data.toList.length = a.size := fun a => by rw [Array.length_toList]; rfl
  refine ⟨?_, ?_, ?_, ?_, ?_⟩
  · have := key a0.data.toList (by simp); rwa [sz] at this
  · have := key a1.data.toList (by simp); rwa [sz] at this
  · have := key a2.data.toList (by simp); rwa [sz] at this
  · have := key a3.data.toList (by simp); rwa [sz] at this
  · have := key a4.data.toList (by simp); rwa [sz] at this
end
end Go.Proofs.YtkklccccjmipkaaDoor.MsgRow

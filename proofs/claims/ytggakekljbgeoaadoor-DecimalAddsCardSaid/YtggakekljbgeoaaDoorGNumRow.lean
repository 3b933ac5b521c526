/- A number by value (a flag, the digits, the scale), opened and shut. -/
import Derived.Test.YtggakekljbgeoaaDoorPAllx0
import Derived.WalkKit
import Derived.ProofKit
import Derived.OpenShut
import Derived.ChangeSame
import Derived.Lib.SmallJoins
namespace Go.Proofs.YtggakekljbgeoaaDoor.NumRow
open Go Go.ChangeShapes Go.WideShapes Go.ChangeAt Go.RowKit Go.Joins
theorem cells24 : Tryd.prog.cellsOf 24 = 3 := by kernel_rfl
section
variable {H : Type} {enc : TypeId × Value → H} {w : World} {base : Nat} {spare : Nat → Bool} {held : Bool}
set_option maxRecDepth 100000 in
theorem open_num {r : Reach} {b0 : Nat} {v : Value} {d : DataW H} {p : List MemPlace} (hv : Value.okWide Tryd.prog w r b0 24 v) (h : DataW.Trod enc Tryd.prog w base spare held 24 v d p) :
    ∃ (n : Bool) (c s : Int), v = .agg #[.bool n, .int .i64 c, .int .i64 s] ∧ d = .agg [.lit (.bool n), .lit (.int .i64 c), .lit (.int .i64 s)] ∧ p = [] ∧ (Lit.int .i64 c).wf = true ∧ (Lit.int .i64 s).wf = true := by
  obtain ⟨c0, c1, c2, y0, y1, y2, m, rfl, rfl, rfl, hy0, hy1, hy2⟩ := open_agg3 Tryd.underlying24 (by kernel_rfl) cells24 hv h
  obtain ⟨n, e0, rfl⟩ := DataW.trod_bool Tryd.underlying4 hy0
  obtain ⟨c, e1, rfl, w1⟩ := DataW.trod_int Tryd.underlying2 hy1
  obtain ⟨s, e2, rfl, w2⟩ := DataW.trod_int Tryd.underlying3 hy2
  simp at e0 e1 e2
  subst e0 e1 e2
  exact ⟨n, c, s, rfl, rfl, rfl, w1, w2⟩
set_option maxRecDepth 100000 in
theorem shut_num {n : Bool} {c s : Int} (w1 : (Lit.int .i64 c).wf = true) (w2 : (Lit.int .i64 s).wf = true) :
    DataW.Trod enc Tryd.prog w base spare held 24 (.agg #[.bool n, .int .i64 c, .int .i64 s]) (.agg [.lit (.bool n), .lit (.int .i64 c), .lit (.int .i64 s)]) [] :=
  shut_agg3 (y0 := (.lit (.bool n), [])) (y1 := (.lit (.int .i64 c), [])) (y2 := (.lit (.int .i64 s), [])) Tryd.underlying24 (by kernel_rfl) cells24
    ⟨1, by simp [DataW.trod, Tryd.underlying4]⟩ ⟨1, by simp [DataW.trod, Tryd.underlying2, w1]⟩ ⟨1, by simp [DataW.trod, Tryd.underlying3, w2]⟩
end
end Go.Proofs.YtggakekljbgeoaaDoor.NumRow

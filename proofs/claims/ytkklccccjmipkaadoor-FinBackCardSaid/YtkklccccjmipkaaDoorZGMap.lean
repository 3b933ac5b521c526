/- Maps that a call makes out of a literal: what they hold, key by key. -/
import Derived.Test.YtkklccccjmipkaaDoorProg
import Derived.Test.YtkklccccjmipkaaDoorZGPlain
import Derived.WalkKit
import Derived.Maps.Own
import Derived.Maps.OwnSet
import Derived.Maps.StringElems
import Derived.Lib.Hide
namespace Go.Proofs.YtkklccccjmipkaaDoor.GMap
open Go.RowKit Go.Maps GPlain

/-- A map of texts at whole numbers: the entry put last stands first. -/
def putR : List (Int × List UInt8) → DataW Unit
  | [] => .map []
  | (k, l) :: r => (putR r).put (.int .i64 k) (.lit (.string l))
/-- The text at a key. -/
def lookR : List (Int × List UInt8) → Int → Option (List UInt8)
  | [], _ => none
  | (k, l) :: r, n => if n = k then some l else lookR r n
theorem putR_map : ∀ l, Maps.IsMap (putR l)
  | [] => isMap_empty
  | (k, l) :: r => (putR_map r).put (.int .i64 k) (.lit (.string l))
theorem keyI_lit (n : Int) : WideAt.IsKeyLit (Lit.int .i64 n) := trivial
theorem keyI_ne {a b : Int} (h : a ≠ b) : (Lit.int .i64 a) ≠ .int .i64 b := fun e => h (by injection e)
theorem putR_at (n : Int) (zd : DataW Unit) : ∀ l, (putR l).atKey (.int .i64 n) zd = (match lookR l n with | some l => .lit (.string l) | none => zd)
  | [] => rfl
  | (k, l) :: r => by
    unfold putR lookR
    by_cases h : n = k
    · subst h
      rw [if_pos rfl, atKey_put_same (putR_map r) (keyI_lit _)]
    · rw [if_neg h, atKey_put_other (keyI_ne h), putR_at n zd r]
theorem putR_has (n : Int) : ∀ l, Maps.has (putR l) (.int .i64 n) = (lookR l n).isSome
  | [] => rfl
  | (k, l) :: r => by
    unfold putR lookR
    by_cases h : n = k
    · subst h
      rw [if_pos rfl, has_put_same (putR_map r) (keyI_lit _)]
      rfl
    · rw [if_neg h, has_put_other (keyI_ne h), putR_has n r]
theorem keyedI : Keyed Tryd.prog 3 := int_keyed Tryd.underlying3
theorem keyI_ok (n : Int) (h : -9223372036854775808 ≤ n ∧ n ≤ 9223372036854775807) : keyOf Tryd.prog 3 (.int .i64 n) = some (.int .i64 n) := keyOf_int_mk Tryd.underlying3 (by
  have hmin : IntKind.i64.min = -9223372036854775808 := rfl
  have hmax : IntKind.i64.max = 9223372036854775807 := rfl
  simp only [Lit.wf, Bool.and_eq_true, decide_eq_true_eq]
  omega)
theorem elemS_ok (l : List UInt8) (h : l.length ≤ 1000) : plainElem (H := Unit) Tryd.prog 9 (.string ⟨l.toArray⟩) = some (.lit (.string l), []) := by
  have := plainElem_string (H := Unit) Tryd.underlying9 (s := ⟨l.toArray⟩) (by
    show (⟨l.toArray⟩ : ByteArray).size ≤ maxLen
    have : (⟨l.toArray⟩ : ByteArray).size = l.length := by show l.toArray.size = _; simp
    rw [this]
    unfold maxLen
    omega)
  simpa using this
set_option maxRecDepth 100000 in
/-- The look-up with 'ok'. -/
theorem look_putR {ops : Array Oper} {rest : List Oper} {o : Oper} {a : Act} {Q : Exit → Act → World → Prop} (w : World) (hg : o.guard = none) (m x : Operand) (t : TypeId) (hop : o.op = Op.lookup t m x true) (ht : Tryd.prog.underlying t = some (.map 3 9)) (b k : Nat) (L : List (Int × List UInt8))
    (hm : a.eval m = .map (some b)) (hown : w.ownsMap Tryd.prog 3 (plainElem Tryd.prog 9) b k (putR L)) (n : Int) (hn : -9223372036854775808 ≤ n ∧ n ≤ 9223372036854775807) (hx : a.eval x = .int .i64 n) (v : ByteArray) (ok : Bool) (hv : (match lookR L n with | some l => bs l | none => bs []) = v) (hok : (lookR L n).isSome = ok)
    (hK : wpList Tryd.prog ops Q rest (a.put o.dst (.tuple #[.string v, .bool ok])) w) : wpList Tryd.prog ops Q (o :: rest) a w := by
  refine wpList_lookup_own_ok w hg m x t hop 3 9 keyedI ht (plainElem Tryd.prog 9) (Tryd.zeroValue9 w) (.lit (.string [])) [] (elemS_ok [] (by simp)) b k (putR L) hm hown (.int .i64 n) (.int .i64 n) hx (keyI_ok n hn) ?_
  intro v' ps hv'
  obtain ⟨s, rfl, hs, _⟩ := plainElem_string_inv Tryd.underlying9 hv'
  rw [putR_has, hok]
  have e : s = v := by
    rw [putR_at] at hs
    have e1 := (Prod.mk.inj hs).1
    rw [bs_of s, ← hv]
    cases h : lookR L n with
    | none => rw [h] at e1; injection e1 with e1; injection e1 with e1; rw [← e1]
    | some l => rw [h] at e1; injection e1 with e1; injection e1 with e1; rw [← e1]
  rw [e]
  exact hK
end Go.Proofs.YtkklccccjmipkaaDoor.GMap

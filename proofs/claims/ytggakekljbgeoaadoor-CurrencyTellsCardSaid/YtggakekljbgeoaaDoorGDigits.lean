/- The contract of currency.Digits, by hand: a look-up in the made table. -/
import Derived.Test.YtggakekljbgeoaaDoorGTable
namespace Go.Proofs.YtggakekljbgeoaaDoor.PAll
open Go.RowKit Go.Shelf Go.Maps Go.WideMaps GPlain
set_option linter.unusedSimpArgs false

/-- The words of a text of codes. -/
def wordsC (s : ByteArray) (m : Nat) : List (List UInt8) := (seqF s m).map (fun c => c.1.data.toList)
/-- A currency's digits. -/
def digitsC (c : List UInt8) : Option Int :=
  if c ∈ wordsC ccy4 2 then some 4 else if c ∈ wordsC ccy3 7 then some 3 else if c ∈ wordsC ccy2 36 then some 2 else if c ∈ wordsC ccy0 16 then some 0 else none
theorem keyS_lit (c : List UInt8) : WideAt.IsKeyLit (Lit.string c) := trivial
theorem keyS_ne {a b : List UInt8} (h : a ≠ b) : (Lit.string a) ≠ .string b := fun e => h (by injection e)
theorem putAll_map (x : Int) : ∀ (xs : List CI) (D : DataW Unit), IsMap D → IsMap (putAll D xs x)
  | [], _, h => h
  | _ :: r, _, h => putAll_map x r _ (h.put _ _)
theorem putAll_at (x : Int) (c : List UInt8) (zd : DataW Unit) : ∀ (xs : List CI) (D : DataW Unit), IsMap D →
    (putAll D xs x).atKey (.string c) zd = if c ∈ xs.map (fun c => c.1.data.toList) then .lit (.int .i64 x) else D.atKey (.string c) zd
  | [], D, h => by simp [putAll]
  | d :: r, D, h => by
    have ih := putAll_at x c zd r (D.put (.string d.1.data.toList) (.lit (.int .i64 x))) (h.put _ _)
    show (putAll (D.put (.string d.1.data.toList) (.lit (.int .i64 x))) r x).atKey (.string c) zd = _
    rw [ih, List.map_cons]
    by_cases h1 : c ∈ r.map (fun c => c.1.data.toList)
    · rw [if_pos h1, if_pos (List.mem_cons_of_mem _ h1)]
    · rw [if_neg h1]
      by_cases h2 : c = d.1.data.toList
      · subst h2
        rw [if_pos List.mem_cons_self, atKey_put_same h (keyS_lit _)]
      · rw [if_neg (fun hm => by rcases List.mem_cons.1 hm with e | e; exact h2 e; exact h1 e), atKey_put_other (keyS_ne h2)]
theorem putAll_has (x : Int) (c : List UInt8) : ∀ (xs : List CI) (D : DataW Unit), IsMap D →
    Maps.has (putAll D xs x) (.string c) = (decide (c ∈ xs.map (fun c => c.1.data.toList)) || Maps.has D (.string c))
  | [], D, h => by simp [putAll]
  | d :: r, D, h => by
    have ih := putAll_has x c r (D.put (.string d.1.data.toList) (.lit (.int .i64 x))) (h.put _ _)
    show Maps.has (putAll (D.put (.string d.1.data.toList) (.lit (.int .i64 x))) r x) (.string c) = _
    rw [ih, List.map_cons]
    by_cases h2 : c = d.1.data.toList
    · subst h2
      rw [has_put_same h (keyS_lit _)]
      simp
    · have h3 : (c == d.1.data.toList) = false := beq_eq_false_iff_ne.2 h2
      rw [has_put_other (keyS_ne h2)]
      simp [h3]
theorem tabD_map : IsMap tabD := putAll_map _ _ _ (putAll_map _ _ _ (putAll_map _ _ _ (putAll_map _ _ _ isMap_empty)))
theorem tabD_at (c : List UInt8) (zd : DataW Unit) : tabD.atKey (.string c) zd = match digitsC c with | some n => .lit (.int .i64 n) | none => zd := by
  unfold tabD
  rw [putAll_at _ _ _ _ _ (putAll_map _ _ _ (putAll_map _ _ _ (putAll_map _ _ _ isMap_empty))), putAll_at _ _ _ _ _ (putAll_map _ _ _ (putAll_map _ _ _ isMap_empty)), putAll_at _ _ _ _ _ (putAll_map _ _ _ isMap_empty), putAll_at _ _ _ _ _ isMap_empty]
  unfold digitsC wordsC
  split
  · rfl
  · split
    · rfl
    · split
      · rfl
      · split
        · rfl
        · rfl
theorem tabD_has (c : List UInt8) : Maps.has tabD (.string c) = (digitsC c).isSome := by
  unfold tabD
  rw [putAll_has _ _ _ _ (putAll_map _ _ _ (putAll_map _ _ _ (putAll_map _ _ _ isMap_empty))), putAll_has _ _ _ _ (putAll_map _ _ _ (putAll_map _ _ _ isMap_empty)), putAll_has _ _ _ _ (putAll_map _ _ _ isMap_empty), putAll_has _ _ _ _ isMap_empty]
  unfold digitsC wordsC
  rw [show Maps.has (DataW.map [] : DataW Unit) (.string c) = false from rfl, Bool.or_false]
  repeat' split
  all_goals simp_all
/-- currency.Digits. -/
def currency_Digits.f (a0 : ByteArray) : Option (Int × Bool) := if a0.size ≤ 9223372036854775807 then some (match digitsC a0.data.toList with | some n => (n, true) | none => (0, false)) else none
theorem digits_walk (c : ByteArray) (hc : c.size ≤ maxLen) (n : Int) (ok : Bool) (h : (match digitsC c.data.toList with | some n => (n, true) | none => (0, false)) = (n, ok)) (w : World) (hG : GWS w) :
    Calls Tryd.prog 35 #[.string c] w fun e w' => e = .returned (.tuple #[.int .i64 n, .bool ok]) ∧ Below w.heap.size w w' := by
  have HC := Lib.hid (table_calls w hG)
  have HH := Lib.hid h
  clear h
  go_enter Tryd.func35, Tryd.ntmps35
  go_wp2_with (first | (go_at_call 58; refine HC.out.mono ?_; rintro e w1 ⟨rfl, hown, hb⟩) | (at_lookup; refine wpList_lookup_own_ok_int _ rfl _ _ 76 rfl 9 3 .i64 keyedS Tryd.underlying76 Tryd.underlying3 (Tryd.zeroValue3 _) w.heap.size 61 tabD rfl hown (.string c) (.string c.data.toList) rfl (keyOf_string_mk Tryd.underlying9 hc) ?_; intro v hat hwv) | go_in)
  go_ret2
  refine ⟨?_, hb⟩
  have h := HH.out
  rw [tabD_at] at hat
  have h2 := tabD_has c.data.toList
  rw [h2]
  cases hn : digitsC c.data.toList with
  | none =>
    rw [hn] at h hat
    have h : ((0 : Int), false) = (n, ok) := h
    have hat : (DataW.lit (.int .i64 0) : DataW Unit) = .lit (.int .i64 v) := hat
    simp only [DataW.lit.injEq, Lit.int.injEq, true_and] at hat
    simp only [Prod.mk.injEq] at h
    obtain ⟨rfl, rfl⟩ := h
    subst hat
    rfl
  | some k =>
    rw [hn] at h hat
    have h : ((k : Int), true) = (n, ok) := h
    have hat : (DataW.lit (.int .i64 k) : DataW Unit) = .lit (.int .i64 v) := hat
    simp only [DataW.lit.injEq, Lit.int.injEq, true_and] at hat
    simp only [Prod.mk.injEq] at h
    obtain ⟨rfl, rfl⟩ := h
    subst hat
    rfl
theorem currency_Digits.calls (a0 : ByteArray) (r1 : Int) (r2 : Bool) (w : World) (h : currency_Digits.f a0 = some (r1, r2)) (hGS : GWS w) :
    Calls Tryd.prog 35 #[.string a0] w fun e w' => e = .returned (.tuple #[.int .i64 r1, .bool r2]) ∧ Below w.heap.size w w' := by
  unfold currency_Digits.f at h
  by_cases hc : a0.size ≤ 9223372036854775807
  · rw [if_pos hc] at h
    exact digits_walk a0 hc r1 r2 (Option.some.inj h) w hGS
  · rw [if_neg hc] at h
    cases h
end Go.Proofs.YtggakekljbgeoaaDoor.PAll

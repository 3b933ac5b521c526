/- The contracts of charset.sets and charset.Check, by hand: the sets are a map that the call makes. -/
import Derived.Test.YtkklccccjmipkaaDoorProg
import Derived.Test.YtkklccccjmipkaaDoorLShelf
import Derived.Test.YtkklccccjmipkaaDoorLW
import Derived.Test.YtkklccccjmipkaaDoorLGPlain
import Derived.WalkKit
import Derived.Maps.Own
import Derived.Maps.OwnSet
import Derived.Maps.StringElems
import Derived.Lib.Hide
namespace Go.Proofs.YtkklccccjmipkaaDoor.PAll
open Go.RowKit Go.Maps Go.Proofs.YtkklccccjmipkaaDoorW.PrintWords GPlain
set_option linter.unusedSimpArgs false

/-- 'insert' of a map literal is a store. -/
theorem wpList_insert_own {H : Type} {P : Program} (w : World) {ops : Array Oper} {rest : List Oper} {o : Oper} {a : Act} {Q : Exit → Act → World → Prop}
    (hg : o.guard = none) (m x v : Operand) (t : TypeId) (hop : o.op = Op.insert t m x v)
    (k e : TypeId) (K : Keyed P k) (ht : P.underlying t = some (.map k e)) (R : Value → Option (DataW H × List MemPlace)) (b n : Nat) (D : DataW H)
    (hm : a.eval m = .map (some b)) (hown : w.ownsMap P k R b n D) (hn : n < maxLen) (key val : Value) (kl : Lit) (hx : a.eval x = key) (hv : a.eval v = val) (hkey : keyOf P k key = some kl)
    (d : DataW H) (ps : List MemPlace) (hval : R val = some (d, ps))
    (hK : ∀ w', w'.ownsMap P k R b (n + 1) (D.put kl d) → w.grownBy w' (some b) → wpList P ops Q rest (a.put o.dst undef) w') :
    wpList P ops Q (o :: rest) a w := by
  refine wpList_plain hg fun K' hK' => ?_
  obtain ⟨w', hrun, r1, r2⟩ := hown.update K ht hn hkey hval
  unfold Oper.wp
  simp [execOp, hop, hm, hx, hv, hrun, Result.andThen]
  exact hK' _ _ (hK w' r1 r2)

def setX : List UInt8 := [97, 98, 99, 100, 101, 102, 103, 104, 105, 106, 107, 108, 109, 110, 111, 112, 113, 114, 115, 116, 117, 118, 119, 120, 121, 122, 65, 66, 67, 68, 69, 70, 71, 72, 73, 74, 75, 76, 77, 78, 79, 80, 81, 82, 83, 84, 85, 86, 87, 88, 89, 90, 48, 49, 50, 51, 52, 53, 54, 55, 56, 57, 47, 45, 63, 58, 40, 41, 46, 44, 39, 43, 32]
def setY : List UInt8 := [65, 66, 67, 68, 69, 70, 71, 72, 73, 74, 75, 76, 77, 78, 79, 80, 81, 82, 83, 84, 85, 86, 87, 88, 89, 90, 48, 49, 50, 51, 52, 53, 54, 55, 56, 57, 32, 46, 44, 45, 40, 41, 47, 61, 39, 43, 58, 63, 33, 34, 37, 38, 42, 60, 62, 59]
def setZ : List UInt8 := [97, 98, 99, 100, 101, 102, 103, 104, 105, 106, 107, 108, 109, 110, 111, 112, 113, 114, 115, 116, 117, 118, 119, 120, 121, 122, 65, 66, 67, 68, 69, 70, 71, 72, 73, 74, 75, 76, 77, 78, 79, 80, 81, 82, 83, 84, 85, 86, 87, 88, 89, 90, 48, 49, 50, 51, 52, 53, 54, 55, 56, 57, 47, 45, 63, 58, 40, 41, 46, 44, 39, 43, 32, 61, 33, 34, 37, 38, 42, 60, 62, 59, 64, 35, 95, 123]
abbrev keyB (n : Int) : Lit := .int .u8 n
def setsD : DataW Unit := (((DataW.map []).put (keyB 88) (.lit (.string setX))).put (keyB 89) (.lit (.string setY))).put (keyB 90) (.lit (.string setZ))
theorem Tryd.keyed : Keyed Tryd.prog 5 := int_keyed Tryd.underlying5
theorem key_ok (n : Int) (h : 0 ≤ n ∧ n ≤ 255) : keyOf Tryd.prog 5 (.int .u8 n) = some (keyB n) := keyOf_int_mk Tryd.underlying5 (by
  have hmin : IntKind.u8.min = 0 := rfl
  have hmax : IntKind.u8.max = 255 := rfl
  simp only [Lit.wf, Bool.and_eq_true, decide_eq_true_eq]
  omega)
theorem elem_ok (l : List UInt8) (h : l.length ≤ 1000) : plainElem (H := Unit) Tryd.prog 9 (.string ⟨l.toArray⟩) = some (.lit (.string l), []) := by
  have := plainElem_string (H := Unit) Tryd.underlying9 (s := ⟨l.toArray⟩) (by
    show (⟨l.toArray⟩ : ByteArray).size ≤ maxLen
    have : (⟨l.toArray⟩ : ByteArray).size = l.length := by show l.toArray.size = _; simp
    rw [this]
    unfold maxLen
    omega)
  simpa using this

set_option maxRecDepth 100000 in
theorem sets_any (w : World) :
    Calls Tryd.prog 124 #[] w fun e w' => e = .returned (.map (some w.heap.size)) ∧ w'.ownsMap Tryd.prog 5 (plainElem Tryd.prog 9) w.heap.size 3 setsD ∧ Below w.heap.size w w' := by
  have hmm := @run_makeMap Tryd.prog
  have h0 : (w.alloc (.map #[] 0)).ownsMap Tryd.prog 5 (plainElem (H := Unit) Tryd.prog 9) w.heap.size 0 (.map []) := World.ownsMap_made _ _ _ _
  go_enter Tryd.func124, Tryd.ntmps124
  go_wp2_with (first | ((with_reducible show wpList _ _ _ (⟨_, Op.insert _ _ (Operand.const (Value.int IntKind.u8 88)) _, _, _, _, _⟩ :: _) _ _); refine wpList_insert_own _ rfl _ _ _ 159 rfl 5 9 Tryd.keyed Tryd.underlying159 _ w.heap.size 0 _ rfl h0 (by unfold maxLen; omega) (.int .u8 88) (.string ⟨setX.toArray⟩) _ rfl rfl (key_ok 88 (by omega)) _ [] (elem_ok setX (by decide)) ?_; intro w1 hown1 hgrow1) | ((with_reducible show wpList _ _ _ (⟨_, Op.insert _ _ (Operand.const (Value.int IntKind.u8 89)) _, _, _, _, _⟩ :: _) _ _); refine wpList_insert_own _ rfl _ _ _ 159 rfl 5 9 Tryd.keyed Tryd.underlying159 _ w.heap.size 1 _ rfl hown1 (by unfold maxLen; omega) (.int .u8 89) (.string ⟨setY.toArray⟩) _ rfl rfl (key_ok 89 (by omega)) _ [] (elem_ok setY (by decide)) ?_; intro w2 hown2 hgrow2) | ((with_reducible show wpList _ _ _ (⟨_, Op.insert _ _ (Operand.const (Value.int IntKind.u8 90)) _, _, _, _, _⟩ :: _) _ _); refine wpList_insert_own _ rfl _ _ _ 159 rfl 5 9 Tryd.keyed Tryd.underlying159 _ w.heap.size 2 _ rfl hown2 (by unfold maxLen; omega) (.int .u8 90) (.string ⟨setZ.toArray⟩) _ rfl rfl (key_ok 90 (by omega)) _ [] (elem_ok setZ (by decide)) ?_; intro w3 hown3 hgrow3))
  go_ret
  refine ⟨rfl, hown3, ?_⟩
  have c0 : Below w.heap.size w (w.alloc (.map #[] 0)) := (Below.refl _ _).alloc (Nat.le_refl _) _
  have c1 := c0.grown hgrow1 c0.size (fun j hj => by cases hj; exact Nat.le_refl _)
  have c2 := c1.grown hgrow2 c1.size (fun j hj => by cases hj; exact Nat.le_refl _)
  exact c2.grown hgrow3 c2.size (fun j hj => by cases hj; exact Nat.le_refl _)

def setOf (n : Int) : Option (List UInt8) := if n = 88 then some setX else if n = 89 then some setY else if n = 90 then some setZ else none
theorem key_ne {a b : Int} (h : a ≠ b) : keyB a ≠ keyB b := fun e => h (by injection e)
theorem key_lit (n : Int) : WideAt.IsKeyLit (keyB n) := trivial
theorem sets_at (n : Int) (zd : DataW Unit) : setsD.atKey (keyB n) zd = (match setOf n with | some l => .lit (.string l) | none => zd) := by
  unfold setsD setOf
  have m0 : Maps.IsMap (DataW.map [] : DataW Unit) := isMap_empty
  have m1 := m0.put (keyB 88) (.lit (.string setX))
  have m2 := m1.put (keyB 89) (.lit (.string setY))
  by_cases h88 : n = 88
  · subst h88
    rw [atKey_put_other (key_ne (by omega)), atKey_put_other (key_ne (by omega)), atKey_put_same m0 (key_lit _)]
    rfl
  · rw [if_neg h88]
    by_cases h89 : n = 89
    · subst h89
      rw [atKey_put_other (key_ne (by omega)), atKey_put_same m1 (key_lit _)]
      rfl
    · rw [if_neg h89]
      by_cases h90 : n = 90
      · subst h90
        rw [atKey_put_same m2 (key_lit _)]
        rfl
      · rw [if_neg h90, atKey_put_other (key_ne h90), atKey_put_other (key_ne h89), atKey_put_other (key_ne h88)]
        rfl
theorem sets_has (n : Int) : Maps.has setsD (keyB n) = (setOf n).isSome := by
  unfold setsD setOf
  have m0 : Maps.IsMap (DataW.map [] : DataW Unit) := isMap_empty
  have m1 := m0.put (keyB 88) (.lit (.string setX))
  have m2 := m1.put (keyB 89) (.lit (.string setY))
  by_cases h88 : n = 88
  · subst h88
    rw [has_put_other (key_ne (by omega)), has_put_other (key_ne (by omega)), has_put_same m0 (key_lit _)]
    rfl
  · rw [if_neg h88]
    by_cases h89 : n = 89
    · subst h89
      rw [has_put_other (key_ne (by omega)), has_put_same m1 (key_lit _)]
      rfl
    · rw [if_neg h89]
      by_cases h90 : n = 90
      · subst h90
        rw [has_put_same m2 (key_lit _)]
        rfl
      · rw [if_neg h90, has_put_other (key_ne h90), has_put_other (key_ne h89), has_put_other (key_ne h88)]
        rfl
set_option maxRecDepth 100000 in
/-- The look-up in the sets, with 'ok' or without. -/
theorem look_sets {ops : Array Oper} {rest : List Oper} {o : Oper} {a : Act} {Q : Exit → Act → World → Prop} (w : World) (hg : o.guard = none) (m x : Operand) (t : TypeId) (hop : o.op = Op.lookup t m x true) (ht : Tryd.prog.underlying t = some (.map 5 9)) (b k : Nat)
    (hm : a.eval m = .map (some b)) (hown : w.ownsMap Tryd.prog 5 (plainElem Tryd.prog 9) b k setsD) (n : Int) (hn : 0 ≤ n ∧ n ≤ 255) (hx : a.eval x = .int .u8 n) (v : ByteArray) (ok : Bool) (hv : (match setOf n with | some l => bs l | none => bs []) = v) (hok : (setOf n).isSome = ok)
    (hK : wpList Tryd.prog ops Q rest (a.put o.dst (.tuple #[.string v, .bool ok])) w) : wpList Tryd.prog ops Q (o :: rest) a w := by
  refine wpList_lookup_own_ok w hg m x t hop 5 9 Tryd.keyed ht (plainElem Tryd.prog 9) (Tryd.zeroValue9 w) (.lit (.string [])) [] (elem_ok [] (by simp)) b k setsD hm hown (.int .u8 n) (keyB n) hx (key_ok n hn) ?_
  intro v' ps hv'
  obtain ⟨s, rfl, hs, _⟩ := plainElem_string_inv Tryd.underlying9 hv'
  rw [sets_has, hok]
  have e : s = v := by
    rw [sets_at] at hs
    have e1 := (Prod.mk.inj hs).1
    rw [bs_of s, ← hv]
    cases h : setOf n with
    | none => rw [h] at e1; injection e1 with e1; injection e1 with e1; rw [← e1]
    | some l => rw [h] at e1; injection e1 with e1; injection e1 with e1; rw [← e1]
  rw [e]
  exact hK

/-- The place of the first byte that is not in the set; the length: there is none. -/
def firstBad (l s : List UInt8) : Nat := s.findIdx fun c => decide (Lib.indexByte l c < 0)
/-- The error that goes with it. -/
def badE (l s : List UInt8) : Int := if firstBad l s < s.length then 15 else 0
theorem firstBad_at {l s : List UInt8} {k : Nat} (hk : k < s.length) (h0 : ∀ j, j < k → decide (Lib.indexByte l (s.getD j 0) < 0) = false) (h1 : decide (Lib.indexByte l (s.getD k 0) < 0) = true) : firstBad l s = k := by
  unfold firstBad
  rw [List.findIdx_eq hk]
  rw [List.getD_eq_getElem?_getD, List.getElem?_eq_getElem hk] at h1
  refine ⟨h1, fun j hj => ?_⟩
  have := h0 j hj
  rw [List.getD_eq_getElem?_getD, List.getElem?_eq_getElem (by omega)] at this
  exact this
theorem firstBad_none {l s : List UInt8} (h0 : ∀ j, j < s.length → decide (Lib.indexByte l (s.getD j 0) < 0) = false) : firstBad l s = s.length := by
  unfold firstBad
  rw [List.findIdx_eq_length]
  intro x hx
  obtain ⟨j, hj, rfl⟩ := List.getElem_of_mem hx
  have := h0 j hj
  rw [List.getD_eq_getElem?_getD, List.getElem?_eq_getElem hj] at this
  exact this
theorem indexByte_any (l : List UInt8) (s : ByteArray) (k : Nat) (hk : k < s.size) (b : Bool) (hb : decide (Lib.indexByte l (s.data.toList.getD k 0) < 0) = b) (w : World) :
    Calls Tryd.prog 79 #[.string (bs l), .int .u8 (s[k].toNat : Int)] w fun e w' => (∃ n : Int, e = .returned (.int .i64 n) ∧ decide (n < 0) = b) ∧ w = w' := by
  refine (Tryd.strings_IndexByte _ _ w).mono ?_
  rintro e w' ⟨rfl, rfl⟩
  refine ⟨⟨_, rfl, ?_⟩, rfl⟩
  rw [bs_data, ← hb]
  have e1 : s.data.toList.getD k 0 = s[k] := by
    rw [List.getD_eq_getElem?_getD]
    simp [hk]
    rfl
  have e2 : ((s[k].toNat : Int)).toNat.toUInt8 = s[k] := by simp
  rw [e1, e2]

set_option maxRecDepth 100000 in
theorem check_none (n : Int) (hn : 0 ≤ n ∧ n ≤ 255) (hs : setOf n = none) (s : ByteArray) (w : World) :
    Calls Tryd.prog 68 #[.int .u8 n, .string s] w fun e w' => e = .returned (.tuple #[.int .i64 0, .int .i64 1]) ∧ Below w.heap.size w w' := by
  have HS := Lib.hid hs
  clear hs
  go_enter Tryd.func68, Tryd.ntmps68
  go_wp2_with (first | (go_at_call 124; refine (sets_any _).mono ?_; rintro e w1 ⟨rfl, hown, hb1⟩) | ((with_reducible show wpList _ _ _ (⟨_, Op.lookup _ _ _ _, _, _, _, _⟩ :: _) _ _); refine look_sets _ rfl _ _ _ rfl Tryd.underlying159 _ _ rfl hown n hn rfl (bs []) false (by rw [HS.out]) (by rw [HS.out]; rfl) ?_))
  go_ret2
  exact ⟨rfl, hb1⟩

set_option maxRecDepth 100000 in
theorem check_some (n : Int) (hn : 0 ≤ n ∧ n ≤ 255) (l : List UInt8) (hs : setOf n = some l) (s : ByteArray) (hz : s.size ≤ 9223372036854775807) (w : World) :
    Calls Tryd.prog 68 #[.int .u8 n, .string s] w fun e w' => e = .returned (.tuple #[.int .i64 (firstBad l s.data.toList : Nat), .int .i64 (badE l s.data.toList)]) ∧ Below w.heap.size w w' := by
  have HS := Lib.hid hs
  clear hs
  have hlen : s.data.toList.length = s.size := by rw [Array.length_toList]; rfl
  have HL := Lib.hid hlen
  clear hlen
  go_enter Tryd.func68, Tryd.ntmps68
  go_wp2_with (first | (go_at_call 124; refine (sets_any _).mono ?_; rintro e w1 ⟨rfl, hown, hb1⟩) | ((with_reducible show wpList _ _ _ (⟨_, Op.lookup _ _ _ _, _, _, _, _⟩ :: _) _ _); refine look_sets _ rfl _ _ _ rfl Tryd.underlying159 _ _ rfl hown n hn rfl (bs l) true (by rw [HS.out]) (by rw [HS.out]; rfl) ?_))
  go_loop [19] (fun i => ∃ k : Nat, k ≤ s.size ∧ i = .int .i64 k ∧ Hid (∀ j, j < k → decide (Lib.indexByte l (s.data.toList.getD j 0) < 0) = false)) (fun i => s.size - (intOf i).toNat)
  case atStart => exact ⟨0, Nat.zero_le _, rfl, Lib.hid (fun j hj => by omega)⟩
  case round =>
    obtain ⟨k, hk, rfl, HA⟩ := hrel
    by_cases hlt : k < s.size
    · cases hb : decide (Lib.indexByte l (s.data.toList.getD k 0) < 0)
      · have HB := Lib.hid hb
        clear hb
        go_wp2_with (go_at_call 79; refine (indexByte_any l s k hlt false HB _).mono ?_; rintro e w2 ⟨⟨n2, rfl, hn2⟩, rfl⟩)
        go_round
        case rel => exact ⟨k + 1, by omega, by go_num, Lib.hid (fun j hj => by rcases Nat.lt_succ_iff_lt_or_eq.1 hj with h | h; exact HA j h; subst h; exact HB)⟩
        case measure => simp [intOf]; omega
      · have HB := Lib.hid hb
        clear hb
        go_wp2_with (go_at_call 79; refine (indexByte_any l s k hlt true HB _).mono ?_; rintro e w2 ⟨⟨n2, rfl, hn2⟩, rfl⟩)
        go_ret2
        have e := firstBad_at (by rw [HL.out]; exact hlt) HA HB
        have e2 : badE l s.data.toList = 15 := by unfold badE; rw [e, HL.out, if_pos hlt]
        exact ⟨by rw [e, e2]; rfl, hb1⟩
    · go_wp2
      go_ret2
      have e := firstBad_none (l := l) (s := s.data.toList) (fun j hj => HA j (by rw [HL.out] at hj; omega))
      have e2 : badE l s.data.toList = 0 := by unfold badE; rw [e, if_neg (Nat.lt_irrefl _)]
      exact ⟨by rw [e2, e, HL.out]; rfl, hb1⟩

/-- charset.Check: of a set that is none: 0, ErrArg; else the first byte's place that is not of it, ErrChar, or the length, OK. -/
def charset_Check.f (a0 : Int) (a1 : ByteArray) : Option (Int × Int) :=
  if 0 ≤ a0 ∧ a0 ≤ 255 then if a1.size ≤ 9223372036854775807 then
    match setOf a0 with
    | none => some (0, 1)
    | some l => some ((firstBad l a1.data.toList : Nat), badE l a1.data.toList)
  else none else none
theorem charset_Check.calls (a0 : Int) (a1 : ByteArray) (r1 : Int) (r2 : Int) (w : World) (h : charset_Check.f a0 a1 = some (r1, r2)) :
    Calls Tryd.prog 68 #[.int .u8 a0, .string a1] w fun e w' => e = .returned (.tuple #[.int .i64 r1, .int .i64 r2]) ∧ Below w.heap.size w w' := by
  unfold charset_Check.f at h
  by_cases h1 : 0 ≤ a0 ∧ a0 ≤ 255
  · rw [if_pos h1] at h
    by_cases h2 : a1.size ≤ 9223372036854775807
    · rw [if_pos h2] at h
      cases hs : setOf a0 with
      | none =>
        rw [hs] at h
        obtain ⟨rfl, rfl⟩ := Prod.mk.inj (Option.some.inj h)
        exact check_none a0 h1 hs a1 w
      | some l =>
        rw [hs] at h
        obtain ⟨rfl, rfl⟩ := Prod.mk.inj (Option.some.inj h)
        exact check_some a0 h1 l hs a1 h2 w
    · rw [if_neg h2] at h
      cases h
  · rw [if_neg h1] at h
    cases h
end Go.Proofs.YtkklccccjmipkaaDoor.PAll

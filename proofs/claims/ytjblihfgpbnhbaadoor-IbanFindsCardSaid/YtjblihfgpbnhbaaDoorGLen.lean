/- The contract of iban.lengths and iban.Length, by hand: a map filled while another one is ranged over, in whatever order. -/
import Derived.Test.YtjblihfgpbnhbaaDoorGMapW
import Derived.Test.YtjblihfgpbnhbaaDoorGLenP
import Derived.Test.YtjblihfgpbnhbaaDoorGWorld
import Derived.Maps.RangeWalk
import Derived.Maps.Ext
import Derived.StringKeys
import Derived.Laws.AppendOwn
namespace Go.Proofs.YtjblihfgpbnhbaaDoor.PAll
open Go.RowKit Go.WideMaps Go.Maps GPlain GMapW GLenP
set_option linter.unusedSimpArgs false

/-- 'insert' of a map literal is a store. -/
theorem wpList_insert_own {H : Type} {P : Program} (w : World) {ops : Array Oper} {rest : List Oper} {o : Oper} {a : Act} {Q : Exit → Act → World → Prop}
    (hg : o.guard = none) (m x v : Operand) (t : TypeId) (hop : o.op = Op.insert t m x v)
    (k e : TypeId) (K : Keyed P k) (ht : P.underlying t = some (.map k e)) (R : Value → Option (DataW H × List MemPlace)) (b n : Nat) (D : DataW H)
    (hm : a.eval m = .map (some b)) (hown : w.ownsMap P k R b n D) (hn : n < maxLen) (key val : Value) (kl : Lit) (hx : a.eval x = key) (hv : a.eval v = val) (hkey : keyOf P k key = some kl)
    (d : DataW H) (ps : List MemPlace) (hval : R val = some (d, ps))
    (hK : ∀ w', w'.ownsMap P k R b (n + 1) (D.put kl d) → w.grownBy w' (some b) → wpList P ops Q rest (a.put o.dst undef) w') :
    wpList P ops Q (o :: rest) a w := by
  refine wpList_plain hg fun K' hK' => ?_
  obtain ⟨w', hrun, r1, r2⟩ := hown.update K ht hn hkey hval
  unfold Oper.wp
  simp [execOp, hop, hm, hx, hv, hrun, Result.andThen]
  exact hK' _ _ (hK w' r1 r2)

/-- What the filled map holds while some numbers are still to come. -/
def Filled (D : DataW Unit) (left : Lit → Bool) : Prop := (∀ c : List UInt8, Maps.has D (.string c) = (match numOf c with | some n => !left (.int .i64 n) | none => false)) ∧ ∀ (c : List UInt8) (n : Int) (zd : DataW Unit), numOf c = some n → Maps.has D (.string c) = true → D.atKey (.string c) zd = .lit (.int .i64 n)
/-- .. and while a number's words are laid in. -/
def Laying (D : DataW Unit) (left : Lit → Bool) (ws : List (List UInt8)) : Prop := (∀ c : List UInt8, Maps.has D (.string c) = ((match numOf c with | some n => !left (.int .i64 n) | none => false) || ws.contains c)) ∧ ∀ (c : List UInt8) (n : Int) (zd : DataW Unit), numOf c = some n → Maps.has D (.string c) = true → D.atKey (.string c) zd = .lit (.int .i64 n)
theorem laying_nil {D : DataW Unit} {left : Lit → Bool} (h : Filled D left) : Laying D left [] := ⟨fun c => by rw [h.1 c]; simp, h.2⟩
theorem keyS_lit (c : List UInt8) : WideAt.IsKeyLit (Lit.string c) := trivial
theorem keyS_ne {a b : List UInt8} (h : a ≠ b) : (Lit.string a) ≠ .string b := fun e => h (by injection e)
theorem laying_put {D : DataW Unit} {left : Lit → Bool} {x : Int} {ws : List (List UInt8)} {c : List UInt8} (hm : IsMap D) (h : Laying D left ws) (hc : numOf c = some x) : Laying (D.put (.string c) (.lit (.int .i64 x))) left (ws ++ [c]) := by
  refine ⟨fun d => ?_, fun d n zd hn hh => ?_⟩
  · by_cases e : d = c
    · subst e
      rw [has_put_same hm (keyS_lit _)]
      simp
    · rw [has_put_other (keyS_ne e), h.1 d]
      simp [e]
  · by_cases e : d = c
    · subst e
      obtain rfl := Option.some.inj (hn.symm.trans hc)
      rw [atKey_put_same hm (keyS_lit _)]
    · rw [has_put_other (keyS_ne e)] at hh
      rw [atKey_put_other (keyS_ne e)]
      exact h.2 d n zd hn hh
theorem filled_next {D : DataW Unit} {left : Lit → Bool} {x : Int} {l : List UInt8} (hw : wordAt wordsR x = some l) (h : Laying D left (Lib.fields l)) : Filled D (fun z => left z && !z.sameKey (.int .i64 x)) := by
  refine ⟨fun c => ?_, h.2⟩
  rw [h.1 c]
  cases hn : numOf c with
  | none =>
    have : c ∉ Lib.fields l := fun hm => by rw [numOf_of_mem hw hm] at hn; cases hn
    simp [this]
  | some n =>
    by_cases e : n = x
    · subst e
      have := mem_of_numOf hw hn
      have e2 : (Lit.int .i64 n).sameKey (.int .i64 n) = true := by simp [Lit.sameKey]
      simp [this, e2]
    · have e1 : c ∉ Lib.fields l := fun hm => e (Option.some.inj (hn.symm.trans (numOf_of_mem hw hm)))
      have e2 : (Lit.int .i64 n).sameKey (.int .i64 x) = false := sameKey_ne (fun e' => e (by injection e'))
      simp [e1, e2]
theorem at_word {x : Int} {l : List UInt8} (h : ∀ zd : DataW Unit, (putR wordsR).atKey (.int .i64 x) zd = .lit (.string l)) : wordAt wordsR x = some l := by
  have e : ∀ L : List (Int × List UInt8), lookR L x = wordAt L x := fun L => by
    induction L with
    | nil => rfl
    | cons p r ih => obtain ⟨k, m⟩ := p; unfold lookR wordAt; rw [ih]
  have h1 := h .nil
  rw [putR_at, e] at h1
  cases hw : wordAt wordsR x with
  | none => rw [hw] at h1; cases h1
  | some m => rw [hw] at h1; injection h1 with h1; injection h1 with h1; rw [h1]
theorem keyedS : Keyed Tryd.prog 9 := string_keyed Tryd.underlying9
theorem filled_start (L : Lit → Bool) (h : ∀ e ∈ wordsR, L (.int .i64 e.1) = true) : Filled (.map []) L := by
  refine ⟨fun c => ?_, fun c n zd _ hh => by cases hh⟩
  show false = _
  cases hn : numOf c with
  | none => rfl
  | some n =>
    have : ∃ e ∈ wordsR, e.1 = n := by
      unfold numOf at hn
      obtain ⟨p, hp, rfl⟩ := Option.map_eq_some_iff.1 hn
      have hm := List.mem_of_find?_eq_some hp
      have : (pairs.all fun p => wordsR.any fun e => e.1 == p.2) = true := by decide +kernel
      have := List.all_eq_true.1 this p hm
      simpa using this
    obtain ⟨e, he, rfl⟩ := this
    simp [h e he]
theorem words_left : ∀ e ∈ wordsR, Maps.has (putR wordsR) (.int .i64 e.1) = true := by
  have : (wordsR.all fun e => Maps.has (putR wordsR) (.int .i64 e.1)) = true := by decide +kernel
  exact fun e he => List.all_eq_true.1 this e he
theorem words_size : Maps.size (putR wordsR) = 14 := by decide +kernel

theorem keyS_ok (c : List UInt8) (h : c.length ≤ 1000000) : keyOf Tryd.prog 9 (.string ⟨c.toArray⟩) = some (.string c) :=
  keyOf_string_mk Tryd.underlying9 (by
    show c.toArray.size ≤ maxLen
    unfold maxLen
    simp
    omega)
/-- strings.Fields at one of the texts. -/
theorem fields_in (s : ByteArray) (ws : List (List UInt8)) (hws : Lib.fields s.data.toList = ws) (hs : s.size ≤ 1000) (hasc : ∀ (j : Nat) b, s.data.toList[j]? = some b → b.toNat < 128) (w : World) (hG : GWS w) :
    Calls Tryd.prog 20 #[.string s] w fun e w' => e = .returned (.slice (some ⟨w.heap.size, 0, none⟩) ws.length ws.length) ∧ w.grownBy w' none ∧ w.heap.size < w'.heap.size ∧ ∀ j d, ws[j]? = some d → w'.cell? ⟨w.heap.size, j, none⟩ = some (.string ⟨d.toArray⟩) := by
  refine (Tryd.strings_Fields s w (by omega) hasc hG).mono ?_
  rintro e w' ⟨rfl, rfl⟩
  rw [hws]
  refine ⟨rfl, World.grownBy_alloc _ _ _, by simp, fun j d hj => ?_⟩
  rw [World.cell?_alloc_new]
  simp [hj]
set_option maxRecDepth 100000 in
set_option maxHeartbeats 4000000 in
theorem lengths_calls (w : World) (hG : GWS w) :
    Calls Tryd.prog 16 #[] w fun e w' => ∃ n D, e = .returned (.map (some w.heap.size)) ∧ w'.ownsMap Tryd.prog 9 (plainElem Tryd.prog 3) w.heap.size n D ∧ Filled D (fun _ => false) ∧ Below w.heap.size w w' := by
  have hmm := @run_makeMap Tryd.prog
  have hown0 : ((w.alloc (.map #[] 0)).alloc (.map #[] 0)).ownsMap Tryd.prog 3 (plainElem (H := Unit) Tryd.prog 9) (w.heap.size + 1) 0 (putR []) := by
    have h := World.ownsMap_made (w.alloc (.map #[] 0)) Tryd.prog 3 (plainElem (H := Unit) Tryd.prog 9)
    rw [show (w.alloc (.map #[] 0)).heap.size = w.heap.size + 1 by simp] at h
    exact h
  have hout0 : ((w.alloc (.map #[] 0)).alloc (.map #[] 0)).ownsMap Tryd.prog 9 (plainElem (H := Unit) Tryd.prog 3) w.heap.size 0 (.map []) := (World.ownsMap_made w Tryd.prog 9 (plainElem (H := Unit) Tryd.prog 3)).alloc _
  have hnx0 : Below w.heap.size w ((w.alloc (.map #[] 0)).alloc (.map #[] 0)) := ((Below.refl _ _).alloc (Nat.le_refl _) _).alloc (by simp) _
  go_enter Tryd.func16, Tryd.ntmps16
  go_wp2_with (first | ((with_reducible show wpList _ _ _ (⟨_, Op.insert _ _ (Operand.const (Value.int IntKind.i64 15)) _, _, _, _, _⟩ :: _) _ _); refine wpList_insert_own _ rfl _ _ _ 42 rfl 3 9 GMapW.keyedI Tryd.underlying42 _ (w.heap.size + 1) 0 _ rfl hown0 (by unfold maxLen; omega) (.int .i64 15) (.string ⟨([78, 79] : List UInt8).toArray⟩) _ rfl rfl (GMapW.keyI_ok 15 (by omega)) _ [] (GMapW.elemS_ok [78, 79] (by decide)) ?_; intro w1 hown1 hgrow1) | ((with_reducible show wpList _ _ _ (⟨_, Op.insert _ _ (Operand.const (Value.int IntKind.i64 16)) _, _, _, _, _⟩ :: _) _ _); refine wpList_insert_own _ rfl _ _ _ 42 rfl 3 9 GMapW.keyedI Tryd.underlying42 _ (w.heap.size + 1) 1 _ rfl hown1 (by unfold maxLen; omega) (.int .i64 16) (.string ⟨([66, 69] : List UInt8).toArray⟩) _ rfl rfl (GMapW.keyI_ok 16 (by omega)) _ [] (GMapW.elemS_ok [66, 69] (by decide)) ?_; intro w2 hown2 hgrow2) | ((with_reducible show wpList _ _ _ (⟨_, Op.insert _ _ (Operand.const (Value.int IntKind.i64 18)) _, _, _, _, _⟩ :: _) _ _); refine wpList_insert_own _ rfl _ _ _ 42 rfl 3 9 GMapW.keyedI Tryd.underlying42 _ (w.heap.size + 1) 2 _ rfl hown2 (by unfold maxLen; omega) (.int .i64 18) (.string ⟨([68, 75, 32, 70, 73, 32, 78, 76] : List UInt8).toArray⟩) _ rfl rfl (GMapW.keyI_ok 18 (by omega)) _ [] (GMapW.elemS_ok [68, 75, 32, 70, 73, 32, 78, 76] (by decide)) ?_; intro w3 hown3 hgrow3) | ((with_reducible show wpList _ _ _ (⟨_, Op.insert _ _ (Operand.const (Value.int IntKind.i64 19)) _, _, _, _, _⟩ :: _) _ _); refine wpList_insert_own _ rfl _ _ _ 42 rfl 3 9 GMapW.keyedI Tryd.underlying42 _ (w.heap.size + 1) 3 _ rfl hown3 (by unfold maxLen; omega) (.int .i64 19) (.string ⟨([77, 75, 32, 83, 73] : List UInt8).toArray⟩) _ rfl rfl (GMapW.keyI_ok 19 (by omega)) _ [] (GMapW.elemS_ok [77, 75, 32, 83, 73] (by decide)) ?_; intro w4 hown4 hgrow4) | ((with_reducible show wpList _ _ _ (⟨_, Op.insert _ _ (Operand.const (Value.int IntKind.i64 20)) _, _, _, _, _⟩ :: _) _ _); refine wpList_insert_own _ rfl _ _ _ 42 rfl 3 9 GMapW.keyedI Tryd.underlying42 _ (w.heap.size + 1) 4 _ rfl hown4 (by unfold maxLen; omega) (.int .i64 20) (.string ⟨([65, 84, 32, 66, 65, 32, 69, 69, 32, 76, 84, 32, 76, 85] : List UInt8).toArray⟩) _ rfl rfl (GMapW.keyI_ok 20 (by omega)) _ [] (GMapW.elemS_ok [65, 84, 32, 66, 65, 32, 69, 69, 32, 76, 84, 32, 76, 85] (by decide)) ?_; intro w5 hown5 hgrow5) | ((with_reducible show wpList _ _ _ (⟨_, Op.insert _ _ (Operand.const (Value.int IntKind.i64 21)) _, _, _, _, _⟩ :: _) _ _); refine wpList_insert_own _ rfl _ _ _ 42 rfl 3 9 GMapW.keyedI Tryd.underlying42 _ (w.heap.size + 1) 5 _ rfl hown5 (by unfold maxLen; omega) (.int .i64 21) (.string ⟨([67, 72, 32, 72, 82, 32, 76, 73, 32, 76, 86] : List UInt8).toArray⟩) _ rfl rfl (GMapW.keyI_ok 21 (by omega)) _ [] (GMapW.elemS_ok [67, 72, 32, 72, 82, 32, 76, 73, 32, 76, 86] (by decide)) ?_; intro w6 hown6 hgrow6) | ((with_reducible show wpList _ _ _ (⟨_, Op.insert _ _ (Operand.const (Value.int IntKind.i64 22)) _, _, _, _, _⟩ :: _) _ _); refine wpList_insert_own _ rfl _ _ _ 42 rfl 3 9 GMapW.keyedI Tryd.underlying42 _ (w.heap.size + 1) 6 _ rfl hown6 (by unfold maxLen; omega) (.int .i64 22) (.string ⟨([66, 71, 32, 68, 69, 32, 71, 66, 32, 71, 69, 32, 73, 69, 32, 77, 69, 32, 82, 83] : List UInt8).toArray⟩) _ rfl rfl (GMapW.keyI_ok 22 (by omega)) _ [] (GMapW.elemS_ok [66, 71, 32, 68, 69, 32, 71, 66, 32, 71, 69, 32, 73, 69, 32, 77, 69, 32, 82, 83] (by decide)) ?_; intro w7 hown7 hgrow7) | ((with_reducible show wpList _ _ _ (⟨_, Op.insert _ _ (Operand.const (Value.int IntKind.i64 23)) _, _, _, _, _⟩ :: _) _ _); refine wpList_insert_own _ rfl _ _ _ 42 rfl 3 9 GMapW.keyedI Tryd.underlying42 _ (w.heap.size + 1) 7 _ rfl hown7 (by unfold maxLen; omega) (.int .i64 23) (.string ⟨([65, 69, 32, 71, 73, 32, 73, 76] : List UInt8).toArray⟩) _ rfl rfl (GMapW.keyI_ok 23 (by omega)) _ [] (GMapW.elemS_ok [65, 69, 32, 71, 73, 32, 73, 76] (by decide)) ?_; intro w8 hown8 hgrow8) | ((with_reducible show wpList _ _ _ (⟨_, Op.insert _ _ (Operand.const (Value.int IntKind.i64 24)) _, _, _, _, _⟩ :: _) _ _); refine wpList_insert_own _ rfl _ _ _ 42 rfl 3 9 GMapW.keyedI Tryd.underlying42 _ (w.heap.size + 1) 8 _ rfl hown8 (by unfold maxLen; omega) (.int .i64 24) (.string ⟨([65, 68, 32, 67, 90, 32, 69, 83, 32, 77, 68, 32, 80, 75, 32, 82, 79, 32, 83, 65, 32, 83, 69, 32, 83, 75, 32, 84, 78] : List UInt8).toArray⟩) _ rfl rfl (GMapW.keyI_ok 24 (by omega)) _ [] (GMapW.elemS_ok [65, 68, 32, 67, 90, 32, 69, 83, 32, 77, 68, 32, 80, 75, 32, 82, 79, 32, 83, 65, 32, 83, 69, 32, 83, 75, 32, 84, 78] (by decide)) ?_; intro w9 hown9 hgrow9) | ((with_reducible show wpList _ _ _ (⟨_, Op.insert _ _ (Operand.const (Value.int IntKind.i64 25)) _, _, _, _, _⟩ :: _) _ _); refine wpList_insert_own _ rfl _ _ _ 42 rfl 3 9 GMapW.keyedI Tryd.underlying42 _ (w.heap.size + 1) 9 _ rfl hown9 (by unfold maxLen; omega) (.int .i64 25) (.string ⟨([80, 84] : List UInt8).toArray⟩) _ rfl rfl (GMapW.keyI_ok 25 (by omega)) _ [] (GMapW.elemS_ok [80, 84] (by decide)) ?_; intro w10 hown10 hgrow10) | ((with_reducible show wpList _ _ _ (⟨_, Op.insert _ _ (Operand.const (Value.int IntKind.i64 26)) _, _, _, _, _⟩ :: _) _ _); refine wpList_insert_own _ rfl _ _ _ 42 rfl 3 9 GMapW.keyedI Tryd.underlying42 _ (w.heap.size + 1) 10 _ rfl hown10 (by unfold maxLen; omega) (.int .i64 26) (.string ⟨([73, 83, 32, 84, 82] : List UInt8).toArray⟩) _ rfl rfl (GMapW.keyI_ok 26 (by omega)) _ [] (GMapW.elemS_ok [73, 83, 32, 84, 82] (by decide)) ?_; intro w11 hown11 hgrow11) | ((with_reducible show wpList _ _ _ (⟨_, Op.insert _ _ (Operand.const (Value.int IntKind.i64 27)) _, _, _, _, _⟩ :: _) _ _); refine wpList_insert_own _ rfl _ _ _ 42 rfl 3 9 GMapW.keyedI Tryd.underlying42 _ (w.heap.size + 1) 11 _ rfl hown11 (by unfold maxLen; omega) (.int .i64 27) (.string ⟨([70, 82, 32, 71, 82, 32, 73, 84, 32, 77, 67, 32, 83, 77] : List UInt8).toArray⟩) _ rfl rfl (GMapW.keyI_ok 27 (by omega)) _ [] (GMapW.elemS_ok [70, 82, 32, 71, 82, 32, 73, 84, 32, 77, 67, 32, 83, 77] (by decide)) ?_; intro w12 hown12 hgrow12) | ((with_reducible show wpList _ _ _ (⟨_, Op.insert _ _ (Operand.const (Value.int IntKind.i64 28)) _, _, _, _, _⟩ :: _) _ _); refine wpList_insert_own _ rfl _ _ _ 42 rfl 3 9 GMapW.keyedI Tryd.underlying42 _ (w.heap.size + 1) 12 _ rfl hown12 (by unfold maxLen; omega) (.int .i64 28) (.string ⟨([65, 76, 32, 65, 90, 32, 67, 89, 32, 68, 79, 32, 72, 85, 32, 76, 66, 32, 80, 76] : List UInt8).toArray⟩) _ rfl rfl (GMapW.keyI_ok 28 (by omega)) _ [] (GMapW.elemS_ok [65, 76, 32, 65, 90, 32, 67, 89, 32, 68, 79, 32, 72, 85, 32, 76, 66, 32, 80, 76] (by decide)) ?_; intro w13 hown13 hgrow13) | ((with_reducible show wpList _ _ _ (⟨_, Op.insert _ _ (Operand.const (Value.int IntKind.i64 29)) _, _, _, _, _⟩ :: _) _ _); refine wpList_insert_own _ rfl _ _ _ 42 rfl 3 9 GMapW.keyedI Tryd.underlying42 _ (w.heap.size + 1) 13 _ rfl hown13 (by unfold maxLen; omega) (.int .i64 29) (.string ⟨([66, 82] : List UInt8).toArray⟩) _ rfl rfl (GMapW.keyI_ok 29 (by omega)) _ [] (GMapW.elemS_ok [66, 82] (by decide)) ?_; intro w14 hown14 hgrow14) | (at_range; refine wpList_range_own _ rfl _ 42 rfl 3 9 GMapW.keyedI Tryd.underlying42 _ (w.heap.size + 1) 14 (putR wordsR) rfl hown14 ?_; intro w15 hrg0 hg0 hs0) | go_in)
  go_frame
  have hall : ((w.alloc (.map #[] 0)).alloc (.map #[] 0)).grownBy w15 (some (w.heap.size + 1)) := ((((((((((((((hgrow1).andThen hgrow2 (fun j hj => .inr (by cases hj; rfl))).andThen hgrow3 (fun j hj => .inr (by cases hj; rfl))).andThen hgrow4 (fun j hj => .inr (by cases hj; rfl))).andThen hgrow5 (fun j hj => .inr (by cases hj; rfl))).andThen hgrow6 (fun j hj => .inr (by cases hj; rfl))).andThen hgrow7 (fun j hj => .inr (by cases hj; rfl))).andThen hgrow8 (fun j hj => .inr (by cases hj; rfl))).andThen hgrow9 (fun j hj => .inr (by cases hj; rfl))).andThen hgrow10 (fun j hj => .inr (by cases hj; rfl))).andThen hgrow11 (fun j hj => .inr (by cases hj; rfl))).andThen hgrow12 (fun j hj => .inr (by cases hj; rfl))).andThen hgrow13 (fun j hj => .inr (by cases hj; rfl))).andThen hgrow14 (fun j hj => .inr (by cases hj; rfl))).andThen hg0 (fun j hj => by cases hj)
  have hr15 : w.heap.size + 1 < w14.heap.size := hown14.lt
  obtain ⟨r, hr⟩ : ∃ r, w14.heap.size = r := ⟨_, rfl⟩
  rw [hr] at hrg0 hr15 ⊢
  have hout15 := hout0.kept hall (by simp)
  have hnx15 := hnx0.grown hall hnx0.size (fun j hj => by cases hj; exact Nat.le_succ _)
  rw [words_size] at hrg0
  have hfil : Filled (.map []) (Maps.has (putR wordsR)) := filled_start _ words_left
  clear hown0 hown1 hown2 hown3 hown4 hown5 hown6 hown7 hown8 hown9 hown10 hown11 hown12 hown13 hown14 hall hgrow1 hgrow2 hgrow3 hgrow4 hgrow5 hgrow6 hgrow7 hgrow8 hgrow9 hgrow10 hgrow11 hgrow12 hgrow13 hgrow14 hout0 hnx0 hr hg0
  go_loopw [2] (fun _ wr => ∃ (left : Lit → Bool) (cnt n : Nat) (D : DataW Unit), wr.ranges Tryd.prog 3 (plainElem Tryd.prog 9) (w.heap.size + 1) r 14 (putR wordsR) left cnt ∧ n + 16 * cnt ≤ 224 ∧
      wr.ownsMap Tryd.prog 9 (plainElem Tryd.prog 3) w.heap.size n D ∧ Filled D left ∧ Below w.heap.size w wr)
    (fun _ wr => wr.rangeLeft (w.heap.size + 1) r)
  case atStart => exact ⟨_, 14, 0, _, hrg0, by omega, hout15, hfil, hnx15⟩
  case round =>
    obtain ⟨left, cnt, n, D, hrg, hcn, hout, hF, hnx⟩ := hrel
    clear hrg0 hout15 hnx15 hfil
    go_wp2_with (first
      | (at_next; refine wpList_next_ranges_is _ rfl _ rfl 3 9 .i64 GMapW.keyedI Tryd.underlying3 Tryd.underlying9 (w.heap.size + 1) r 14 _ _ _ rfl hrg ?_ ?_)
      | go_in)
    · intro hc0 hl0
      go_wp2
      go_ret
      have e0 : left = fun _ => false := funext hl0
      subst e0
      exact ⟨n, D, rfl, hout, hF, hnx⟩
    · intro x c w1 cnt1 hwx hwc hlx hat hrg1 hlt hg1 hs1 hen
      have hw := at_word hat
      obtain ⟨ws, hws⟩ : ∃ ws, Lib.fields c.data.toList = ws := ⟨_, rfl⟩
      have hsm := words_small hw
      rw [hws] at hsm
      have hcs : c.size ≤ 1000 := by have := hsm.2.1; rw [Array.length_toList] at this; exact Nat.le_trans this (by omega)
      have hout1 := hout.kept hg1 (by simp; omega)
      have hnx1 : Below w.heap.size w w1 := hnx.grown hg1 hnx.size (fun j hj => by cases hj; omega)
      have HC := Lib.hid (fields_in c ws hws hcs hsm.2.2.2.2.1 w1 (GWS_below hG hnx1))
      have HW := Lib.hid hw
      have HWS := Lib.hid hws
      have HSM := Lib.hid hsm
      have HAT := Lib.hid hat
      have HCS := Lib.hid hcs
      have hwl := hsm.1
      clear hw hws hsm hat hcs
      go_wp2_with (go_at_call 20; refine HC.out.mono ?_; rintro e w2 ⟨rfl, hg2, hz2, hcell⟩)
      have hrg2 := hrg1.kept hg2 (by simp) (by simp)
      have hout2 := hout1.kept hg2 (by simp)
      have hnx2 := hnx1.grown hg2 hnx1.size (fun j hj => by cases hj)
      have hb1 : w.heap.size + 1 < w1.heap.size := Nat.lt_trans hr15 hrg1.lt
      rw [hs1] at hcell hb1
      obtain ⟨B, hB⟩ : ∃ B, wr.heap.size = B := ⟨_, rfl⟩
      rw [hB] at hcell hb1 ⊢
      clear hB hs1
      go_loopw [18] (fun i wr => ∃ (q n' : Nat) (D' : DataW Unit), i = .int .i64 q ∧ q ≤ ws.length ∧ wr.ranges Tryd.prog 3 (plainElem Tryd.prog 9) (w.heap.size + 1) r 14 (putR wordsR) (fun z => left z && !z.sameKey (.int .i64 x)) cnt1 ∧
          wr.ownsMap Tryd.prog 9 (plainElem Tryd.prog 3) w.heap.size n' D' ∧ n' ≤ n + q ∧ Laying D' left (ws.take q) ∧ Below w.heap.size w wr ∧ (∀ j d, ws[j]? = some d → wr.cell? ⟨B, j, none⟩ = some (.string ⟨d.toArray⟩)))
        (fun i _ => ws.length - (intOf i).toNat)
      case atStart => exact ⟨0, n, D, rfl, Nat.zero_le _, hrg2, hout2, Nat.le_refl _, by rw [List.take_zero]; exact laying_nil hF, hnx2, hcell⟩
      case round =>
        obtain ⟨q, n', D', rfl, hq, hrgi, houti, hni, hL, hnxi, hci⟩ := hrel
        by_cases hlt2 : q < ws.length
        · obtain ⟨d, hd⟩ : ∃ d, ws[q]? = some d := ⟨_, List.getElem?_eq_getElem hlt2⟩
          have hcq := hci q d hd
          have hnd : numOf d = some x := numOf_of_mem HW.out (by rw [HWS.out]; exact List.mem_of_getElem? hd)
          have hdl : d.length ≤ 100 := HSM.out.2.2.2.2.2 d (List.mem_of_getElem? hd)
          have HD := Lib.hid hd
          have HCI := Lib.hid hci
          clear hd hci
          go_wp2_with (first
            | (at_mapUpdate; refine wpList_mapUpdate_own _ rfl _ _ _ 38 rfl 9 3 keyedS Tryd.underlying38 _ w.heap.size _ _ rfl houti (by unfold maxLen; omega) (.string ⟨d.toArray⟩) _ (.string d) rfl rfl (keyS_ok d (by omega)) _ [] (plainElem_int Tryd.underlying3 hwx) ?_; intro w3 hout3 hg3; go_frame)
            | go_in)
          have hrg3 := hrgi.kept hg3 (fun e => by have := Option.some.inj e; omega) (fun e => by have := Option.some.inj e; omega)
          have hL3 := laying_put houti.isMap hL hnd
          rw [show ws.take q ++ [d] = ws.take (q + 1) by rw [List.take_add_one, HD.out]; rfl] at hL3
          have hnx3 := hnxi.grown hg3 hnxi.size (fun j hj => by cases hj; exact Nat.le_refl _)
          have hc3 : ∀ j d, ws[j]? = some d → w3.cell? ⟨B, j, none⟩ = some (.string ⟨d.toArray⟩) := fun j d hj => hg3.cell (HCI.out j d hj) (fun e => by have := Option.some.inj e; simp at this; omega)
          go_roundw
          case rel => exact ⟨q + 1, n' + 1, _, rfl, hlt2, hrg3, hout3, by omega, hL3, hnx3, hc3⟩
          case measure => simp [intOf]; omega
        · obtain rfl : q = ws.length := by omega
          rw [List.take_length] at hL
          have hF2 := filled_next HW.out (by rw [HWS.out]; exact hL)
          go_wp2
          go_roundw
          case rel => exact ⟨_, cnt1, n', D', hrgi, by omega, houti, hF2, hnxi⟩
          case measure => rw [hrgi.left_eq, hrg.left_eq]; exact hlt
/-- iban.Length. -/
def iban_Length.f (a0 : ByteArray) : Option (Int × Bool) := if a0.size ≤ 9223372036854775807 then some (match numOf a0.data.toList with | some n => (n, true) | none => (0, false)) else none
theorem length_walk (c : ByteArray) (hc : c.size ≤ maxLen) (n : Int) (ok : Bool) (h : (match numOf c.data.toList with | some n => (n, true) | none => (0, false)) = (n, ok)) (w : World) (hG : GWS w) :
    Calls Tryd.prog 9 #[.string c] w fun e w' => e = .returned (.tuple #[.int .i64 n, .bool ok]) ∧ Below w.heap.size w w' := by
  have HC := Lib.hid (lengths_calls w hG)
  have HH := Lib.hid h
  clear h
  go_enter Tryd.func9, Tryd.ntmps9
  go_wp2_with (first | (go_at_call 16; refine HC.out.mono ?_; rintro e w1 ⟨m, D, rfl, hown, hF, hb⟩) | (at_lookup; refine wpList_lookup_own_ok_int _ rfl _ _ 38 rfl 9 3 .i64 keyedS Tryd.underlying38 Tryd.underlying3 (Tryd.zeroValue3 _) w.heap.size m D rfl hown (.string c) (.string c.data.toList) rfl (keyOf_string_mk Tryd.underlying9 hc) ?_; intro v hat hwv) | go_in)
  go_ret2
  refine ⟨?_, hb⟩
  have h := HH.out
  cases hn : numOf c.data.toList with
  | none =>
    rw [hn] at h
    obtain ⟨rfl, rfl⟩ := Prod.mk.inj h
    have h1 := hF.1 c.data.toList
    rw [hn] at h1
    rw [h1]
    rw [atKey_of_not_has h1] at hat
    injection hat with hat
    injection hat with _ hat
    rw [← hat]
    rfl
  | some k =>
    rw [hn] at h
    obtain ⟨rfl, rfl⟩ := Prod.mk.inj h
    have h1 := hF.1 c.data.toList
    rw [hn] at h1
    rw [h1]
    rw [hF.2 _ _ _ hn h1] at hat
    injection hat with hat
    injection hat with _ hat
    rw [← hat]
    rfl
theorem iban_Length.calls (a0 : ByteArray) (r1 : Int) (r2 : Bool) (w : World) (h : iban_Length.f a0 = some (r1, r2)) (hGS : GWS w) :
    Calls Tryd.prog 9 #[.string a0] w fun e w' => e = .returned (.tuple #[.int .i64 r1, .bool r2]) ∧ Below w.heap.size w w' := by
  unfold iban_Length.f at h
  by_cases hc : a0.size ≤ 9223372036854775807
  · rw [if_pos hc] at h
    exact length_walk a0 hc r1 r2 (Option.some.inj h) w hGS
  · rw [if_neg hc] at h
    cases h
end Go.Proofs.YtjblihfgpbnhbaaDoor.PAll

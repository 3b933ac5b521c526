/- The contracts of currency.table and of its closure, by hand: a map that is filled in the rounds of an iterator. -/
import Derived.Test.YtggakekljbgeoaaDoorGFieldsSeq
import Derived.Maps.OwnIn
import Derived.Maps.Own
import Derived.Maps.OwnSet
import Derived.Maps.StringElems
import Derived.StringKeys
namespace Go.Proofs.YtggakekljbgeoaaDoor.PAll
open Go.RowKit Go.Shelf Go.Maps Go.WideMaps GPlain
set_option linter.unusedSimpArgs false
attribute [local go_sem] Oper.semAt_some

theorem keyedS : Keyed Tryd.prog 9 := string_keyed Tryd.underlying9
theorem keyB_ok (c : ByteArray) (h : c.size ≤ 1000000) : keyOf Tryd.prog 9 (.string c) = some (.string c.data.toList) := by
  have := keyOf_string_mk (P := Tryd.prog) Tryd.underlying9 (s := c) (by unfold maxLen; omega)
  exact this
/-- A number at each of the keys. -/
def putAll (D : DataW Unit) (xs : List CI) (x : Int) : DataW Unit := xs.foldl (fun D c => D.put (.string c.1.data.toList) (.lit (.int .i64 x))) D
theorem putAll_snoc (D : DataW Unit) (xs : List CI) (c : CI) (x : Int) : putAll D (xs ++ [c]) x = (putAll D xs x).put (.string c.1.data.toList) (.lit (.int .i64 x)) := by unfold putAll; rw [List.foldl_append]; rfl
set_option maxRecDepth 100000 in
set_option maxHeartbeats 2000000 in
theorem put_in (d : Nat) (hd : 3 ≤ d) (x : Int) (hx : (Lit.int .i64 x).wf = true) (s : ByteArray) (m : Nat) (hc : Codes s m) (b0 Bm M cnt : Nat) (D : DataW Unit) (W : World) (hb : b0 ≤ M) (hM : M < W.heap.size) (hmc : W.cell? ⟨Bm, 0, none⟩ = some (.map (some M)))
    (hown : W.ownsMap Tryd.prog 9 (plainElem Tryd.prog 3) M cnt D) (hcnt : cnt ≤ 1000) (hG : GWS W) :
    CallsIn Fence.wide d Tryd.prog 76 #[.int .i64 x, .string s, .pointer (some ⟨Bm, 0, none⟩)] W fun e W' => (∃ v, e = .returned v) ∧ M < W'.heap.size ∧ W'.cell? ⟨Bm, 0, none⟩ = some (.map (some M)) ∧
      W'.ownsMap Tryd.prog 9 (plainElem Tryd.prog 3) M (cnt + m) (putAll D (seqF s m) x) ∧ Below b0 W W' := by
  have h1 : 1 ≤ d := by omega
  refine callsIn_of_wp_marks Tryd.func76 rfl trivial ?_ rfl
  simp only [Tryd.ntmps76, List.size_toArray, List.length_cons, List.length_nil, Nat.reduceAdd, Nat.reduceSub, Array.replicate_succ, Array.replicate_zero, List.push_toArray, List.append_toArray, List.nil_append, List.cons_append]
  gi_wp2_with (refine ⟨trivial, ?_⟩; gi_at_call 77; refine (callsIn_wide.2 (fieldsseq_calls s _)).mono ?_; rintro e w3 ⟨rfl, rfl⟩)
  have bN := (Boxed.new W 3 (.int .i64 x)).alloc (.cells #[.string s] 9)
  have bS := Boxed.new (W.alloc (.cells #[.int .i64 x] 3)) 9 (.string s)
  simp only [World.size_alloc] at bS bN
  have hB0 : Below b0 W ((W.alloc (.cells #[.int .i64 x] 3)).alloc (.cells #[.string s] 9)) := ((Below.refl _ W).alloc (by omega) _).alloc (by simp; omega) _
  have hBW : Below W.heap.size W ((W.alloc (.cells #[.int .i64 x] 3)).alloc (.cells #[.string s] 9)) := ((Below.refl _ W).alloc (Nat.le_refl _) _).alloc (by simp) _
  have hG2 := GWS_below hG hBW
  have hm2 := (hown.alloc (.cells #[.int .i64 x] 3)).alloc (.cells #[.string s] 9)
  have hmc2 := (hBW.cell (p := ⟨Bm, 0, none⟩) (World.block_lt_of_cell? _ _ hmc)).trans hmc
  refine wpIn_rangeFunc_ownG rfl h1 (gf := 91) (lb := #[.pointer (some ⟨W.heap.size + 1, 0, none⟩)]) rfl trivial (enters_of Tryd.func91 (by kernel_rfl) rfl)
    (fieldsseq_stops (d - 1) (by omega) (W.heap.size + 1) s m hc _ (by simp) bS.cell hG2) (fun h k => h.trans k) (fun W l o o' _ h hc _ => KeepC.putObj W l o o' h hc) (Below.refl _ _) (fun _ => rfl)
    (fun pre V => (V.cell? ⟨Bm, 0, none⟩ = some (.map (some M)) ∧ V.cell? ⟨W.heap.size, 0, none⟩ = some (.int .i64 x) ∧ M < V.heap.size ∧ V.ownsMap Tryd.prog 9 (plainElem Tryd.prog 3) M (cnt + pre.length) (putAll D pre x)) ∧ Below b0 W V)
    (fun _ _ _ => False)
    (OwnFrom.and (fun s A B row hs hg hr => ⟨cell_kept hs.1 hg (fun r e => (hr r e).2), cell_kept hs.2.1 hg (fun r e => (hr r e).2), Nat.lt_of_lt_of_le hs.2.2.1 hg.size, hs.2.2.2.kept hg (fun e => by have := (hr _ e.symm).1; simp at this; omega)⟩) (ownFrom_below (by omega) (by simp; omega)))
    (fun _ _ _ _ _ hs _ _ => hs)
    ⟨⟨hmc2, bN.cell, by simp; omega, hm2⟩, hB0⟩
    (fun x_ => { tmps := #[.int .i64 x, .string s, .pointer (some ⟨Bm, 0, none⟩), .pointer (some ⟨W.heap.size, 0, none⟩), undef, .string x_.1, .string s, .func (.func 91) #[] #[.pointer (some ⟨W.heap.size + 1, 0, none⟩)], .string x_.1, undef, undef, undef], defers := [] }) ?assign ?body ?done ?stop
  case assign =>
    intro l x W K hK
    unfold encF
    gi_wp2
    exact hK
  case body =>
    rintro l pre c V ⟨⟨hc1, hn1, hM1, hown1⟩, hB⟩ hlt
    obtain ⟨c, hc3⟩ := c
    have hkey := keyB_ok c (by omega)
    have hs1 := putAll_snoc D pre ⟨c, hc3⟩ x
    have hmost := hc.most
    gi_wp2_with (gi_at_mapUpdate; refine wpListIn_mapUpdate_own _ rfl _ _ _ 76 rfl 9 3 keyedS Tryd.underlying76 _ M (cnt + pre.length) _ rfl hown1 (by unfold maxLen; omega) _ _ _ rfl rfl hkey _ [] (plainElem_int Tryd.underlying3 hx) ?_; intro w1 hown2 hg2)
    obtain ⟨es, ck, hh, _⟩ := hown1
    exact ⟨KeepsFrom.of_grownBy hg2 (fun j e => by cases e; omega), KeepC.grown hg2 (fun r e => by cases e; exact ⟨_, hh, rfl⟩),
      ⟨cell_kept hc1 hg2 (fun r e => by cases e; exact ⟨_, hh, rfl⟩), cell_kept hn1 hg2 (fun r e => by cases e; exact ⟨_, hh, rfl⟩), Nat.lt_of_lt_of_le hM1 hg2.size,
        by rw [hs1, List.length_append]; exact hown2⟩, hB.grown hg2 (by omega) (fun k e => by cases e; exact hb)⟩
  case done =>
    rintro E ys V hE rfl ⟨⟨hc1, hn1, hM1, hown1⟩, hB⟩ hK
    gi_wp2
    refine ⟨by simp, .inl ⟨_, _, rfl, run_takeDeferred hK, ?_⟩⟩
    refine ⟨_, results_none rfl _ _ _, ⟨_, rfl⟩, Nat.lt_of_lt_of_le hM1 (grownBy_putObj' V E _).size, cell_kept hc1 (grownBy_putObj' V E _) (fun r e => by cases e; exact ⟨_, hK, rfl⟩), ?_, hB.trans ((belowK_b (w := W) (n₀ := b0) (by omega) V E _ _ (by simp at hE; omega) hK rfl rfl))⟩
    have h := hown1.kept (grownBy_putObj' V E (.deferred none)) (fun e => by cases e; simp at hE; omega)
    rw [seqF_len] at h
    exact h
  case stop =>
    rintro E c pre V _ _ h _
    exact h.elim

/-! The codes of the currencies with 0, 2, 3, 4 digits. -/
def ccy0 : ByteArray := ⟨#[66, 73, 70, 32, 67, 76, 80, 32, 68, 74, 70, 32, 71, 78, 70, 32, 73, 83, 75, 32, 74, 80, 89, 32, 75, 77, 70, 32, 75, 82, 87, 32, 80, 89, 71, 32, 82, 87, 70, 32, 85, 71, 88, 32, 86, 78, 68, 32, 86, 85, 86, 32, 88, 65, 70, 32, 88, 79, 70, 32, 88, 80, 70]⟩
def ccy2 : ByteArray := ⟨#[65, 69, 68, 32, 65, 85, 68, 32, 66, 82, 76, 32, 67, 65, 68, 32, 67, 72, 70, 32, 67, 78, 89, 32, 67, 90, 75, 32, 68, 75, 75, 32, 69, 71, 80, 32, 69, 85, 82, 32, 71, 66, 80, 32, 72, 75, 68, 32, 72, 85, 70, 32, 73, 68, 82, 32, 73, 76, 83, 32, 73, 78, 82, 32, 75, 69, 83, 32, 77, 65, 68, 32, 77, 88, 78, 32, 77, 89, 82, 32, 78, 71, 78, 32, 78, 79, 75, 32, 78, 90, 68, 32, 80, 72, 80, 32, 80, 76, 78, 32, 81, 65, 82, 32, 82, 79, 78, 32, 83, 65, 82, 32, 83, 69, 75, 32, 83, 71, 68, 32, 84, 72, 66, 32, 84, 82, 89, 32, 84, 87, 68, 32, 85, 65, 72, 32, 85, 83, 68, 32, 90, 65, 82]⟩
def ccy3 : ByteArray := ⟨#[66, 72, 68, 32, 73, 81, 68, 32, 74, 79, 68, 32, 75, 87, 68, 32, 76, 89, 68, 32, 79, 77, 82, 32, 84, 78, 68]⟩
def ccy4 : ByteArray := ⟨#[67, 76, 70, 32, 85, 89, 87]⟩
set_option maxRecDepth 100000 in
theorem codes0 : Codes ccy0 16 := ⟨by decide, by decide, by decide +kernel⟩
set_option maxRecDepth 100000 in
theorem codes2 : Codes ccy2 36 := ⟨by decide, by decide, by decide +kernel⟩
set_option maxRecDepth 100000 in
theorem codes3 : Codes ccy3 7 := ⟨by decide, by decide, by decide +kernel⟩
set_option maxRecDepth 100000 in
theorem codes4 : Codes ccy4 2 := ⟨by decide, by decide, by decide +kernel⟩
/-- What the table holds. -/
def tabD : DataW Unit := putAll (putAll (putAll (putAll (.map []) (seqF ccy0 16) 0) (seqF ccy2 36) 2) (seqF ccy3 7) 3) (seqF ccy4 2) 4
set_option maxRecDepth 100000 in
set_option maxHeartbeats 2000000 in
theorem table_calls (w : World) (hG : GWS w) :
    Calls Tryd.prog 58 #[] w fun e w' => e = .returned (.map (some w.heap.size)) ∧ w'.ownsMap Tryd.prog 9 (plainElem Tryd.prog 3) w.heap.size 61 tabD ∧ Below w.heap.size w w' := by
  have hmf : ∀ (fn : Fn) (first cap : Array Value) (w : World), (Instr.makeFunc fn first cap).run Tryd.prog w = .ok (.func fn first cap) w := fun _ _ _ _ => rfl
  have hmm := @run_makeMap Tryd.prog
  have bS := Boxed.new (w.alloc (.map #[] 0)) 76 (.map (some w.heap.size))
  simp only [World.size_alloc] at bS
  have HM0 := Lib.hid (show w.heap.size < ((w.alloc (.map #[] 0)).alloc (.cells #[.map (some w.heap.size)] 76)).heap.size by rw [World.size_alloc, World.size_alloc]; omega)
  have HC0 := Lib.hid bS.cell
  have HO0 := Lib.hid ((World.ownsMap_made w Tryd.prog 9 (plainElem (H := Unit) Tryd.prog 3)).alloc (.cells #[.map (some w.heap.size)] 76))
  have HB0 := Lib.hid (show Below w.heap.size w ((w.alloc (.map #[] 0)).alloc (.cells #[.map (some w.heap.size)] 76)) from ((Below.refl _ w).alloc (Nat.le_refl _) _).alloc (by simp) _)
  clear bS
  go_enter Tryd.func58, Tryd.ntmps58
  go_wp2_with (first
    | (go_at_call 76; refine (callsIn_wide.1 (put_in 5 (by decide) 4 rfl ccy4 2 codes4 w.heap.size (w.heap.size + 1) w.heap.size 59 _ _ (Nat.le_refl _) HM3.out HC3.out HO3.out (by decide) (GWS_below hG HB3.out))).mono ?_; rintro e w4 ⟨⟨v4, rfl⟩, hM, hC, hO, hB⟩; have HM4 := Lib.hid hM; have HC4 := Lib.hid hC; have HO4 := Lib.hid hO; have HB4 := Lib.hid (HB3.out.trans hB); clear hM hO hB)
    | (go_at_call 76; refine (callsIn_wide.1 (put_in 5 (by decide) 3 rfl ccy3 7 codes3 w.heap.size (w.heap.size + 1) w.heap.size 52 _ _ (Nat.le_refl _) HM2.out HC2.out HO2.out (by decide) (GWS_below hG HB2.out))).mono ?_; rintro e w3 ⟨⟨v3, rfl⟩, hM, hC, hO, hB⟩; have HM3 := Lib.hid hM; have HC3 := Lib.hid hC; have HO3 := Lib.hid hO; have HB3 := Lib.hid (HB2.out.trans hB); clear hM hO hB)
    | (go_at_call 76; refine (callsIn_wide.1 (put_in 5 (by decide) 2 rfl ccy2 36 codes2 w.heap.size (w.heap.size + 1) w.heap.size 16 _ _ (Nat.le_refl _) HM1.out HC1.out HO1.out (by decide) (GWS_below hG HB1.out))).mono ?_; rintro e w2 ⟨⟨v2, rfl⟩, hM, hC, hO, hB⟩; have HM2 := Lib.hid hM; have HC2 := Lib.hid hC; have HO2 := Lib.hid hO; have HB2 := Lib.hid (HB1.out.trans hB); clear hM hO hB)
    | (go_at_call 76; refine (callsIn_wide.1 (put_in 5 (by decide) 0 rfl ccy0 16 codes0 w.heap.size (w.heap.size + 1) w.heap.size 0 (.map []) _ (Nat.le_refl _) HM0.out HC0.out HO0.out (by decide) (GWS_below hG HB0.out))).mono ?_; rintro e w1 ⟨⟨v1, rfl⟩, hM, hC, hO, hB⟩; have HM1 := Lib.hid hM; have HC1 := Lib.hid hC; have HO1 := Lib.hid hO; have HB1 := Lib.hid (HB0.out.trans hB); clear hM hO hB)
    | fail)
  go_ret
  exact ⟨rfl, HO4.out, HB4.out⟩
end Go.Proofs.YtggakekljbgeoaaDoor.PAll

/- lines.Write, by hand. -/
import Derived.Test.YtkklccccjmipkaaDoorLLReadC
import Derived.Test.YtkklccccjmipkaaDoorLShelf2
import Derived.Shelf.Strings.MapGrows
namespace Go.Proofs.YtkklccccjmipkaaDoor.Lin
open Go.RowKit Go.Proofs.YtkklccccjmipkaaDoor.PAll Go.Proofs.YtkklccccjmipkaaDoorW.PrintWords GPlain
set_option linter.unusedSimpArgs false
/-- The text of fields, the first of them first or not. -/
def wbytes : Bool → List S68 → List UInt8
  | _, [] => []
  | first, f :: r => (if first = true then [] else [13, 10]) ++ ([58] ++ f.f0.data.toList ++ [58] ++ f.f1.data.toList) ++ wbytes false r
theorem wbytes_snoc : ∀ (first : Bool) (l : List S68) (f : S68), wbytes first (l ++ [f]) = wbytes first l ++ ((if (first && l.isEmpty) = true then [] else [13, 10]) ++ ([58] ++ f.f0.data.toList ++ [58] ++ f.f1.data.toList))
  | first, [], f => by cases first <;> simp [wbytes]
  | first, g :: l, f => by
    have ih := wbytes_snoc false l f
    simp only [List.cons_append, wbytes, ih, List.append_assoc, List.isEmpty_cons, Bool.and_false, Bool.false_and]
/-- Are two rows of fields the same, but for their places? -/
def sameF (a b : List S68) : Bool := a.map (fun x => (x.f0.toList, x.f1.toList)) == b.map (fun x => (x.f0.toList, x.f1.toList))
/-- lines.Write's answer. -/
def lwrite (l0 : List S68) : ByteArray × Int := match lines_Read.f ⟨(wbytes true l0).toArray⟩ with
  | some (r1, _, r3) => if r3 = 0 ∧ sameF r1 l0 = true then (⟨(wbytes true l0).toArray⟩, 0) else (⟨#[]⟩, 31)
  | none => (⟨#[]⟩, 31)
theorem lwrite_no {l0 r1 : List S68} {r2 r3 : Int} (h : lines_Read.f ⟨(wbytes true l0).toArray⟩ = some (r1, r2, r3)) (hn : ¬ (r3 = 0 ∧ sameF r1 l0 = true)) : lwrite l0 = (⟨#[]⟩, 31) := by
  unfold lwrite
  rw [h]
  exact if_neg hn
theorem lwrite_yes {l0 r1 : List S68} {r2 r3 : Int} (h : lines_Read.f ⟨(wbytes true l0).toArray⟩ = some (r1, r2, r3)) (hy : r3 = 0 ∧ sameF r1 l0 = true) : lwrite l0 = (⟨(wbytes true l0).toArray⟩, 0) := by
  unfold lwrite
  rw [h]
  exact if_pos hy
theorem sameF_len {a b : List S68} (h : sameF a b = true) : a.length = b.length := by
  have := congrArg List.length (beq_iff_eq.1 h)
  simpa using this
theorem sameF_at {a b : List S68} (h : sameF a b = true) (j : Nat) (hj : j < a.length) : (rd_T68 a (j : Int)).f0.toList = (rd_T68 b (j : Int)).f0.toList ∧ (rd_T68 a (j : Int)).f1.toList = (rd_T68 b (j : Int)).f1.toList := by
  have hl := sameF_len h
  have he := congrArg (fun l => l[j]?) (beq_iff_eq.1 h)
  simp only [List.getElem?_map, List.getElem?_eq_getElem hj, List.getElem?_eq_getElem (show j < b.length by omega), Option.map_some, Option.some.injEq, Prod.mk.injEq] at he
  unfold rd_T68
  rw [Int.toNat_natCast, List.getD_eq_getElem?_getD, List.getD_eq_getElem?_getD, List.getElem?_eq_getElem hj, List.getElem?_eq_getElem (show j < b.length by omega)]
  exact he
theorem sameF_of {a b : List S68} (hl : a.length = b.length) (h : ∀ j, j < a.length → (rd_T68 a (j : Int)).f0.toList = (rd_T68 b (j : Int)).f0.toList ∧ (rd_T68 a (j : Int)).f1.toList = (rd_T68 b (j : Int)).f1.toList) : sameF a b = true := by
  unfold sameF
  rw [beq_iff_eq]
  apply List.ext_getElem?
  intro j
  rw [List.getElem?_map, List.getElem?_map]
  by_cases hj : j < a.length
  · have := h j hj
    unfold rd_T68 at this
    rw [Int.toNat_natCast, List.getD_eq_getElem?_getD, List.getD_eq_getElem?_getD, List.getElem?_eq_getElem hj, List.getElem?_eq_getElem (show j < b.length by omega)] at this
    rw [List.getElem?_eq_getElem hj, List.getElem?_eq_getElem (show j < b.length by omega), Option.map_some, Option.map_some]
    exact congrArg some (Prod.ext this.1 this.2)
  · rw [List.getElem?_eq_none (by omega), List.getElem?_eq_none (by omega)]
set_option maxHeartbeats 4000000 in
set_option maxRecDepth 100000 in
theorem write_walk (A0 : Option Addr) (c0 : Nat) (l0 : List S68) (w : World) (hr0 : Kd.C k68 w A0 l0.length l0) (hc0 : l0.length ≤ c0) (hsz : ∀ n, (wbytes true (l0.take n)).length ≤ 1000000) (hG : GW w) :
    Calls Tryd.prog 36 #[.slice A0 l0.length c0] w fun e w' => e = .returned (.tuple #[.string (lwrite l0).1, .int .i64 (lwrite l0).2]) ∧ Below w.heap.size w w' := by
  go_enter Tryd.func36, Tryd.ntmps36
  go_wp2
  go_loopw [14] (fun i wr => ∃ n, n ≤ l0.length ∧ i = .int .i64 (n : Int) ∧ Lib.IsBuilderF 126 5 w.heap.size w.heap.size (Lib.byteCells (wbytes true (l0.take n))) wr ∧ Below w.heap.size w wr) (fun i wr => l0.length - (intOf i).toNat)
  case atStart => exact ⟨0, Nat.zero_le _, rfl, Lib.IsBuilderF.of (Lib.fresh_isBuilder _ _ w), (Below.refl _ w).alloc (Nat.le_refl _) _⟩
  case round =>
    obtain ⟨n, hn, rfl, hI, hB⟩ := hrel
    have hC := Kd.C_below hr0 hB
    by_cases hlt : n < l0.length
    · obtain ⟨ad, rfl, c0_, c1_, c2_⟩ := at_T68 hC (n : Int) (by omega) (by omega)
      simp only [Int.toNat_natCast] at c0_ c1_ c2_
      have hb0 : decide ((n : Int) < (l0.length : Int)) = true := decide_eq_true (by omega)
      obtain ⟨x, hx⟩ : ∃ x, rd_T68 l0 (n : Int) = x := ⟨_, rfl⟩
      have hxe : l0[n]'hlt = x := by rw [← hx]; unfold rd_T68; rw [Int.toNat_natCast, List.getD_eq_getElem?_getD, List.getElem?_eq_getElem hlt]; rfl
      have hw : wbytes true (l0.take (n + 1)) = wbytes true (l0.take n) ++ ((if (true && (l0.take n).isEmpty) = true then [] else [13, 10]) ++ ([58] ++ x.f0.data.toList ++ [58] ++ x.f1.data.toList)) := by
        rw [List.take_add_one, List.getElem?_eq_getElem hlt, hxe]; exact wbytes_snoc true _ x
      have hws := hsz (n + 1)
      have hws0 := hsz n
      have s0 : x.f0.data.toList.length = x.f0.size := by rw [Array.length_toList]; rfl
      have s1 : x.f1.data.toList.length = x.f1.size := by rw [Array.length_toList]; rfl
      have hsum : (wbytes true (l0.take n)).length + 2 + x.f0.size + x.f1.size ≤ 1000000 := by
        rw [hw] at hws
        simp only [List.length_append, List.length_cons, List.length_nil, s0, s1] at hws
        omega
      have hen : (l0.take n).isEmpty = decide (n = 0) := by
        by_cases h0 : n = 0
        · rw [h0]; rfl
        · rw [decide_eq_false h0]
          cases he : l0.take n with
          | nil => have := congrArg List.length he; rw [List.length_take] at this; simp only [List.length_nil] at this; omega
          | cons a r => rfl
      rw [hx] at c0_ c1_ c2_
      have e1 : (⟨#[58]⟩ : ByteArray).size = 1 := rfl
      have q1 := eq_true (show 1 + x.f0.size ≤ 9223372036854775807 by omega)
      have q2 := eq_true (show 1 + x.f0.size + 1 ≤ 9223372036854775807 by omega)
      have q3 := eq_true (show 1 + x.f0.size + 1 + x.f1.size ≤ 9223372036854775807 by omega)
      have q4 := eq_true (show ((⟨#[58]⟩ : ByteArray) ++ x.f0).size + 1 ≤ 9223372036854775807 by rw [ByteArray.size_append, e1]; omega)
      have q5 := eq_true (show (((⟨#[58]⟩ : ByteArray) ++ x.f0) ++ (⟨#[58]⟩ : ByteArray)).size + x.f1.size ≤ 9223372036854775807 by rw [ByteArray.size_append, ByteArray.size_append, e1]; omega)
      clear hxe hx
      have hIa := hI.alloc (.cells #[.string x.f0, .string x.f1, .int .i64 x.f2] 68 (0, 0))
      have hBa := hB.alloc hB.size (.cells #[.string x.f0, .string x.f1, .int .i64 x.f2] 68 (0, 0))
      have hl1 : (Lib.byteCells (wbytes true (l0.take n))).length ≤ 1000000 := by rw [Lib.byteCells_length]; omega
      have hts : ((((⟨#[58]⟩ : ByteArray) ++ x.f0) ++ (⟨#[58]⟩ : ByteArray)) ++ x.f1).size ≤ 2000000 := by rw [ByteArray.size_append, ByteArray.size_append, ByteArray.size_append, e1]; omega
      have htl : ((((⟨#[58]⟩ : ByteArray) ++ x.f0) ++ (⟨#[58]⟩ : ByteArray)) ++ x.f1).data.toList = [58] ++ x.f0.data.toList ++ [58] ++ x.f1.data.toList := by
        rw [ByteArray.data_append, ByteArray.data_append, ByteArray.data_append, Array.toList_append, Array.toList_append, Array.toList_append]
      have fin : ∀ (e : List UInt8) (W : World), (if (true && (l0.take n).isEmpty) = true then [] else [13, 10]) = e → Lib.BuilderAtF 126 5 w.heap.size w.heap.size (.pointer (some ⟨w.heap.size, 0, none⟩)) (Lib.byteCells (wbytes true (l0.take n) ++ e) ++ Lib.strCells ((((⟨#[58]⟩ : ByteArray) ++ x.f0) ++ (⟨#[58]⟩ : ByteArray)) ++ x.f1)) W →
          Lib.IsBuilderF 126 5 w.heap.size w.heap.size (Lib.byteCells (wbytes true (l0.take (n + 1)))) W := by
        intro e W he h
        rw [Lib.strCells_eq, ← Lib.byteCells_append, htl, List.append_assoc, ← he, ← hw] at h
        exact .inr h
      have HF := Lib.hid fin
      have HL1 := Lib.hid hl1
      have HTS := Lib.hid hts
      have HSB := Lib.hid hBa.size
      have HIA := Lib.hid hIa
      have HBA := Lib.hid hBa
      have hszw : w.heap.size < wr.heap.size := by
        rcases hI with h | h
        · exact h.lt
        · exact h.lt
      have HSZ := Lib.hid hszw
      clear hszw
      have hwn : wrap64 ((n : Int) + 1) = ((n + 1 : Nat) : Int) := by have := hr0.2.1; rw [wrap_ok (by omega) (by omega)]; omega
      have HWN := Lib.hid hwn
      have e2 : (⟨#[13, 10]⟩ : ByteArray).size = 2 := rfl
      have HE2 := Lib.hid e2
      clear hwn e2
      clear fin hw htl hl1 hts hBa hIa
      by_cases h0 : n = 0
      · have hb1 : decide (0 < n) = false := decide_eq_false (by omega)
        have HE : Hid ((if (true && (l0.take n).isEmpty) = true then [] else [13, 10]) = ([] : List UInt8)) := Lib.hid (by rw [h0]; rfl)
        clear h0
        go_wp2_with (go_at_call 73; refine (Tryd.Builder_WriteString_f w.heap.size w.heap.size _ _ _ HIA.out (by have := HL1.out; have := HTS.out; omega) HSB.out).mono ?_; rintro e w2 ⟨rfl, hI2, hb2⟩)
        refine ⟨⟨n + 1, by omega, congrArg (Value.int .i64) HWN.out, HF.out _ _ HE.out (by rw [List.append_nil]; exact hI2), HBA.out.trans hb2⟩, ?_⟩
        rw [HWN.out]
        simp only [intOf]
        omega
      · have hb1 : decide (0 < n) = true := decide_eq_true (by omega)
        have HE : Hid ((if (true && (l0.take n).isEmpty) = true then [] else [13, 10]) = ([13, 10] : List UInt8)) := Lib.hid (by
          cases he : l0.take n with
          | nil => have := congrArg List.length he; rw [List.length_take] at this; simp only [List.length_nil] at this; omega
          | cons a r => rfl)
        clear h0
        go_wp2_with (first
          | (go_at_call 73; refine (Tryd.Builder_WriteString_k w.heap.size w.heap.size _ _ _ HIA.out (by have := HL1.out; have := HE2.out; omega) HSB.out).mono ?_; rintro e w2 ⟨rfl, hI2, hb2, hk2⟩; have HI2 := Lib.hid hI2; have HB2 := Lib.hid hb2; have hf2 := hk2 wr.heap.size _ (World.alloc_heap_new _ _) (by intro h; have := HSZ.out; have := Option.some.inj h; omega) (by intro c fz hc; injection hc with _ h _; exact absurd h (by decide)); have d0 := (blk_cell hf2 0).trans rfl; have d1 := (blk_cell hf2 1).trans rfl; have g0 := blk_frozen hf2 0; clear hI2 hb2 hk2 hf2)
          | (go_at_call 73; refine (Tryd.Builder_WriteString_f w.heap.size w.heap.size _ _ _ (Or.inr HI2.out) (by have := HL1.out; have := HTS.out; have := HE2.out; rw [List.length_append, Lib.strCells_length]; omega) (Nat.le_trans HSB.out HB2.out.size)).mono ?_; rintro e w3 ⟨rfl, hI3, hb3⟩))
        refine ⟨⟨n + 1, by omega, congrArg (Value.int .i64) HWN.out, HF.out _ _ HE.out (by rw [Lib.byteCells_append]; exact hI3), (HBA.out.trans HB2.out).trans hb3⟩, ?_⟩
        rw [HWN.out]
        simp only [intOf]
        omega
    · obtain rfl : n = l0.length := by omega
      have hb0 : decide ((l0.length : Int) < (l0.length : Int)) = false := decide_eq_false (by omega)
      rw [List.take_length] at hI
      have hlen := hsz l0.length
      rw [List.take_length] at hlen
      obtain ⟨⟨r1, r2, r3⟩, hrd⟩ : ∃ r, lines_Read.f ⟨(wbytes true l0).toArray⟩ = some r := by
        unfold lines_Read.f
        rw [if_pos (by show (bs (wbytes true l0)).size ≤ _; rw [bs_size]; omega)]
        exact ⟨_, rfl⟩
      have HRD := Lib.hid hrd
      have HI := Lib.hid hI
      have HB := Lib.hid hB
      have HG := Lib.hid hG
      clear hrd hI hB hG hsz hlen
      by_cases h3 : r3 = 0
      · have b3 : (r3 != 0) = false := bne_eq_false_iff_eq.2 h3
        have B3 := Lib.hid h3
        clear h3
        by_cases h4 : r1.length = l0.length
        · have b4 : ((r1.length : Int) != (l0.length : Int)) = false := bne_eq_false_iff_eq.2 (by omega)
          have B4 := Lib.hid h4
          clear h4
          go_wp2_with (first
            | (go_at_call 74; refine (Tryd.Builder_String_any_f w.heap.size w.heap.size (wbytes true l0) _ HI.out HB.out.size).mono ?_; rintro e w2 ⟨rfl, hI2, hb2⟩; have HI2 := Lib.hid hI2; have HB2 := Lib.hid (HB.out.trans hb2); clear hI2 hb2)
            | (go_at_call 31; refine (lines_Read.calls _ r1 r2 r3 _ HRD.out (GW_below HG.out HB2.out)).mono ?_; rintro e w3 ⟨v0, rfl, hR, hb3⟩; obtain ⟨A1, c1, rfl, hc1, hC1⟩ := Kd.R_reads hR; have HR := Lib.hid hR; have HB3 := Lib.hid hb3; clear hR hb3))
          have hHB := HB2.out.trans (HB3.out.mono HB2.out.size)
          have HHB := Lib.hid hHB
          have hl4 := B4.out
          clear hHB
          go_loopw [48] (fun i wr => ∃ n, n ≤ r1.length ∧ i = .int .i64 (n : Int) ∧ (∀ j, j < n → (rd_T68 r1 (j : Int)).f0.toList = (rd_T68 l0 (j : Int)).f0.toList ∧ (rd_T68 r1 (j : Int)).f1.toList = (rd_T68 l0 (j : Int)).f1.toList) ∧ Below w3.heap.size w3 wr) (fun i wr => r1.length - (intOf i).toNat)
          case atStart => exact ⟨0, Nat.zero_le _, rfl, fun j h => absurd h (Nat.not_lt_zero j), Below.refl _ w3⟩
          case round =>
            obtain ⟨n, hn2, rfl, hS, hBr⟩ := hrel
            have hCa := Kd.C_below hr0 (HHB.out.trans (hBr.mono HHB.out.size))
            have hCb := Kd.C_below hC1 hBr
            by_cases hlt2 : n < r1.length
            · have hlt3 : n < l0.length := by omega
              obtain ⟨ad1, rfl, c0_, c1_, c2_⟩ := at_T68 hCb (n : Int) (by omega) (by omega)
              obtain ⟨ad0, rfl, d0_, d1_, d2_⟩ := at_T68 hCa (n : Int) (by omega) (by omega)
              have hbt : decide ((n : Int) < (r1.length : Int)) = true := decide_eq_true (by omega)
              have hSn : (rd_T68 r1 (n : Int)).f0.toList = (rd_T68 l0 (n : Int)).f0.toList → (rd_T68 r1 (n : Int)).f1.toList = (rd_T68 l0 (n : Int)).f1.toList → ∀ j, j < n + 1 → (rd_T68 r1 (j : Int)).f0.toList = (rd_T68 l0 (j : Int)).f0.toList ∧ (rd_T68 r1 (j : Int)).f1.toList = (rd_T68 l0 (j : Int)).f1.toList := by
                intro h1 h2 j hj
                by_cases h : j < n
                · exact hS j h
                · obtain rfl : j = n := by omega
                  exact ⟨h1, h2⟩
              have hno : ¬ ((rd_T68 r1 (n : Int)).f0.toList = (rd_T68 l0 (n : Int)).f0.toList ∧ (rd_T68 r1 (n : Int)).f1.toList = (rd_T68 l0 (n : Int)).f1.toList) → lwrite l0 = (⟨#[]⟩, 31) := fun h => lwrite_no HRD.out (fun h2 => h (sameF_at h2.2 n hlt2))
              generalize hx : rd_T68 r1 (n : Int) = x at c0_ c1_ c2_ hSn hno
              generalize hy : rd_T68 l0 (n : Int) = y at d0_ d1_ d2_ hSn hno
              simp only [Int.toNat_natCast] at c0_ c1_ c2_ d0_ d1_ d2_
              have d0a := cell_alloc d0_ (.cells #[.string x.f0, .string x.f1, .int .i64 x.f2] 68 (0, 0))
              have d1a := cell_alloc d1_ (.cells #[.string x.f0, .string x.f1, .int .i64 x.f2] 68 (0, 0))
              have HSn := Lib.hid hSn
              have HNO := Lib.hid hno
              have hBa := hBr.alloc hBr.size (.cells #[.string x.f0, .string x.f1, .int .i64 x.f2] 68 (0, 0))
              have HBA := Lib.hid hBa
              have HWN := Lib.hid (show wrap64 ((n : Int) + 1) = ((n + 1 : Nat) : Int) by have := hr0.2.1; rw [wrap_ok (by omega) (by omega)]; omega)
              have HBF := Lib.hid (HHB.out.trans (hBa.mono HHB.out.size))
              clear hSn hno hS hx hy hBa hBr hCa hCb
              have p1_ := eq_true (show 0 ≤ (n : Int) by omega)
              have q1_ := eq_true (show (n : Int) < (r1.length : Int) by omega)
              have q0_ := eq_true (show (n : Int) < (l0.length : Int) by omega)
              by_cases t0 : x.f0.toList = y.f0.toList
              · have t0a : (x.f0.toList == y.f0.toList) = true := beq_iff_eq.2 t0
                have t0b : (x.f0.toList != y.f0.toList) = false := bne_eq_false_iff_eq.2 t0
                have T0 := Lib.hid t0
                clear t0
                by_cases t1 : x.f1.toList = y.f1.toList
                · have t1a : (x.f1.toList == y.f1.toList) = true := beq_iff_eq.2 t1
                  have t1b : (x.f1.toList != y.f1.toList) = false := bne_eq_false_iff_eq.2 t1
                  have T1 := Lib.hid t1
                  clear t1
                  go_wp2
                  repeat (go_quiet (fail); try go_wp2)
                  all_goals first
                    | (refine ⟨⟨n + 1, by omega, congrArg (Value.int .i64) HWN.out, HSn.out T0.out T1.out, pw_below_drewN HBA.out _⟩, ?_⟩; rw [HWN.out]; simp only [intOf]; omega)
                    | (go_ret2; exact ⟨congrArg (fun q : ByteArray × Int => Ending.returned (.tuple #[.string q.1, .int .i64 q.2])) T1.out.symm, pw_below_drewN HBF.out _⟩)
                · have t1a : (x.f1.toList == y.f1.toList) = false := beq_eq_false_iff_ne.2 t1
                  have t1b : (x.f1.toList != y.f1.toList) = true := bne_iff_ne.2 t1
                  have T1 := Lib.hid (HNO.out (fun h => t1 h.2))
                  clear t1
                  go_wp2
                  repeat (go_quiet (fail); try go_wp2)
                  all_goals first
                    | (go_ret2; exact ⟨congrArg (fun q : ByteArray × Int => Ending.returned (.tuple #[.string q.1, .int .i64 q.2])) T1.out.symm, pw_below_drewN HBF.out _⟩)
                    | (go_ret2; exact ⟨congrArg (fun q : ByteArray × Int => Ending.returned (.tuple #[.string q.1, .int .i64 q.2])) T1.out.symm, pw_below_drewN HBF.out _⟩)
              · have t0a : (x.f0.toList == y.f0.toList) = false := beq_eq_false_iff_ne.2 t0
                have t0b : (x.f0.toList != y.f0.toList) = true := bne_iff_ne.2 t0
                have T1 := Lib.hid (HNO.out (fun h => t0 h.1))
                clear t0
                go_wp2
                repeat (go_quiet (fail); try go_wp2)
                all_goals first
                  | (go_ret2; exact ⟨congrArg (fun q : ByteArray × Int => Ending.returned (.tuple #[.string q.1, .int .i64 q.2])) T1.out.symm, pw_below_drewN HBF.out _⟩)
                  | (go_ret2; exact ⟨congrArg (fun q : ByteArray × Int => Ending.returned (.tuple #[.string q.1, .int .i64 q.2])) T1.out.symm, pw_below_drewN HBF.out _⟩)
            · obtain rfl : n = r1.length := by omega
              have hbt : decide ((r1.length : Int) < (r1.length : Int)) = false := decide_eq_false (by omega)
              have HYES := Lib.hid (lwrite_yes HRD.out ⟨B3.out, sameF_of hl4 hS⟩)
              have HIW : Hid (Lib.IsBuilderF 126 5 w.heap.size w.heap.size (Lib.byteCells (wbytes true l0)) _) := Lib.hid ((HI2.out.imp (fun h => h.below HB3.out) (fun h => h.below HB3.out)).imp (fun h => h.below hBr) (fun h => h.below hBr))
              have HBW := Lib.hid (HHB.out.trans (hBr.mono HHB.out.size))
              clear hS hBr hCa hCb
              go_wp2_with (go_at_call 74; refine (Tryd.Builder_String_any_f w.heap.size w.heap.size (wbytes true l0) _ HIW.out HBW.out.size).mono ?_; rintro e w5 ⟨rfl, hI5, hb5⟩; have HB5 := Lib.hid (HBW.out.trans hb5); clear hI5 hb5)
              go_ret2
              exact ⟨congrArg (fun q : ByteArray × Int => Ending.returned (.tuple #[.string q.1, .int .i64 q.2])) HYES.out.symm, HB5.out⟩
        · have b4 : ((r1.length : Int) != (l0.length : Int)) = true := bne_iff_ne.2 (by omega)
          have HNO := Lib.hid (lwrite_no HRD.out (fun h => h4 (sameF_len h.2)))
          clear h4
          go_wp2_with (first
            | (go_at_call 74; refine (Tryd.Builder_String_any_f w.heap.size w.heap.size (wbytes true l0) _ HI.out HB.out.size).mono ?_; rintro e w2 ⟨rfl, hI2, hb2⟩; have HI2 := Lib.hid hI2; have HB2 := Lib.hid (HB.out.trans hb2); clear hI2 hb2)
            | (go_at_call 31; refine (lines_Read.calls _ r1 r2 r3 _ HRD.out (GW_below HG.out HB2.out)).mono ?_; rintro e w3 ⟨v0, rfl, hR, hb3⟩; obtain ⟨A1, c1, rfl, hc1, hC1⟩ := Kd.R_reads hR; have HR := Lib.hid hR; have HB3 := Lib.hid hb3; clear hR hb3))
          go_ret2
          exact ⟨congrArg (fun q : ByteArray × Int => Ending.returned (.tuple #[.string q.1, .int .i64 q.2])) HNO.out.symm, HB2.out.trans (HB3.out.mono HB2.out.size)⟩
      · have b3 : (r3 != 0) = true := bne_iff_ne.2 h3
        have HNO := Lib.hid (lwrite_no HRD.out (fun h => h3 h.1))
        clear h3
        go_wp2_with (first
          | (go_at_call 74; refine (Tryd.Builder_String_any_f w.heap.size w.heap.size (wbytes true l0) _ HI.out HB.out.size).mono ?_; rintro e w2 ⟨rfl, hI2, hb2⟩; have HI2 := Lib.hid hI2; have HB2 := Lib.hid (HB.out.trans hb2); clear hI2 hb2)
          | (go_at_call 31; refine (lines_Read.calls _ r1 r2 r3 _ HRD.out (GW_below HG.out HB2.out)).mono ?_; rintro e w3 ⟨v0, rfl, hR, hb3⟩; obtain ⟨A1, c1, rfl, hc1, hC1⟩ := Kd.R_reads hR; have HR := Lib.hid hR; have HB3 := Lib.hid hb3; clear hR hb3))
        go_ret2
        exact ⟨congrArg (fun q : ByteArray × Int => Ending.returned (.tuple #[.string q.1, .int .i64 q.2])) HNO.out.symm, HB2.out.trans (HB3.out.mono HB2.out.size)⟩
end Go.Proofs.YtkklccccjmipkaaDoor.Lin

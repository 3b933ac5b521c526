/- CharsetKeeps: the walk by hand: the loop over the lines. -/
import Derived.Test.YtjemnphmjbodfaaGKeeps3
namespace Go.Proofs.Ytjemnphmjbodfaa.PAll
open Go.RowKit Go.Proofs.YtjemnphmjbodfaaW.PrintWords GPlain
set_option linter.unusedSimpArgs false

/-- What is known of a line. -/
def LineOk (ls : List ByteArray) (w : Nat) : Prop := ∀ (i : Nat) x, ls[i]? = some x → 1 ≤ x.size ∧ x.size ≤ w ∧ (i + 1 < ls.length → x.size = w) ∧ ∀ (h : 0 < x.size), ((x[0]'h).toNat : Int) ≠ 58 ∧ ((x[0]'h).toNat : Int) ≠ 45

set_option maxRecDepth 100000 in
set_option maxHeartbeats 4000000 in
theorem keeps_tail8 (w0 : World) (l : List UInt8) (hl : l.length ≤ 1000) (ls : List ByteArray) (A : Option Addr) (c : Nat) (kept f : Int) (w n : Nat) (hw : w ≤ 100) (hn : n ≤ 100) (hf : f = 0 ∨ f = 15) (W : World) (hC : Kd.C Kd.string W A ls.length ls) (hc : ls.length ≤ c) (hB : Below w0.heap.size w0 W)
    (hLs : ls.length ≤ 1000) (hL : LineOk ls w)
    (hJ : f = 0 → l.length ≤ w * n → Plain l → charset_Join.f ls = some (bs l) ∧ kept = (l.length : Int)) (u3 u4 u5 u6 u7 u8 u9 u10 u14 u15 u16 u17 u18 u19 u20 u21 u22 u23 u24 u25 u26 u27 u28 u29 u30 u31 u32 u33 u34 u35 u36 u37 u38 u39 u40 u41 u42 u43 u44 u45 u46 u47 u48 u49 u50 u51 u52 u53 u54 u55 u56 u57 u58 u59 u60 u61 u62 u63 u64 u65 u66 u67 u68 u69 u70 u71 u72 u73 u74 u75 u76 u77 u78 u79 u80 u81 u82 u83 u84 u85 u86 u87 u88 u89 u90 u91 u92 u93 u94 u95 u96 u97 u98 u99 u100 u101 u102 u103 u104 u105 u106 u107 u108 u109 u110 u111 u112 u113 u114 u115 u116 u117 u118 u119 u120 u121 u122 u123 u124 u125 u126 u127 u128 u129 u130 u131 u132 u133 u134 u135 u136 u137 u138 u139 u140 u141 u142 u143 u144 u145 u146 u147 u148 u149 u150 u151 u152 u153 u154 u155 u156 u157 u158 u159 u160 u161 u162 u163 u164 u165 u166 u167 u168 u169 u170 u171 u172 u173 u174 u175 u176 u177 u178 u179 u180 u181 u182 u183 u184 u185 u186 u187 u188 u189 u190 u191 u192 u193 u194 u195 u196 u197 u198 u199 u200 u201 : Value) :
    ∀ K2 : Act → World → Prop, (∀ a w, Code.wp Try.prog (keepsTail 9) (bodyPost Try.prog Try.f8 fun e w' => e = .returned (.bool true) ∧ Below w0.heap.size w0 w') a w → K2 a w) → ∀ K1 : Act → World → Prop, (∀ a w, Code.wp Try.prog (sndOf (fstOf (keepsTail 8))) (Exit.then K2 (bodyPost Try.prog Try.f8 fun e w' => e = .returned (.bool true) ∧ Below w0.heap.size w0 w')) a w → K1 a w) → Code.wp Try.prog (fstOf (fstOf (keepsTail 8))) (Exit.then K1 (Exit.then K2 (bodyPost Try.prog Try.f8 fun e w' => e = .returned (.bool true) ∧ Below w0.heap.size w0 w'))) { tmps := #[.string (bs l), .int .u8 (w : Int), .int .u8 (n : Int), u3, u4, u5, u6, u7, u8, u9, u10, .int .i64 f, .slice A ls.length c, .int .i64 kept, u14, u15, u16, u17, u18, u19, u20, u21, u22, u23, u24, u25, u26, u27, u28, u29, u30, u31, u32, u33, u34, u35, u36, u37, u38, u39, u40, u41, u42, u43, u44, u45, u46, u47, u48, u49, u50, u51, u52, u53, u54, u55, u56, u57, u58, u59, u60, u61, u62, u63, u64, u65, u66, u67, u68, u69, u70, u71, u72, u73, u74, u75, u76, u77, u78, u79, u80, u81, u82, u83, u84, u85, u86, u87, u88, u89, u90, u91, u92, u93, u94, u95, u96, u97, u98, u99, u100, u101, u102, u103, u104, u105, u106, u107, u108, u109, u110, u111, u112, u113, u114, u115, u116, u117, u118, u119, u120, u121, u122, u123, u124, u125, u126, u127, u128, u129, u130, u131, u132, u133, u134, u135, u136, u137, u138, u139, u140, u141, u142, u143, u144, u145, u146, u147, u148, u149, u150, u151, u152, u153, u154, u155, u156, u157, u158, u159, u160, u161, u162, u163, u164, u165, u166, u167, u168, u169, u170, u171, u172, u173, u174, u175, u176, u177, u178, u179, u180, u181, u182, u183, u184, u185, u186, u187, u188, u189, u190, u191, u192, u193, u194, u195, u196, u197, u198, u199, u200, u201], defers := [] } W := by
  have HC := Lib.hid hC
  have HN := Lib.hid hc
  have HB := Lib.hid hB
  have HJ := Lib.hid hJ
  have HL := Lib.hid hL
  have hw1 : wrap64 (w : Int) = (w : Int) := wrap_ok (by omega) (by omega)
  have hn1 : wrap64 (n : Int) = (n : Int) := wrap_ok (by omega) (by omega)
  have HW1 := Lib.hid hw1
  have HN1 := Lib.hid hn1
  clear hC hc hB hJ hL hw1 hn1
  intro K2 hK2 K1 hK1
  conv at hK2 => intro a w; arg 1; arg 2; whnf
  conv at hK1 => intro a w; arg 1; arg 2; whnf
  conv => arg 2; whnf
  go_wp2
  go_loopw [15] (fun v15 wr => ∃ (i : Nat), v15 = .int .i64 i ∧ i ≤ ls.length ∧ wr = W) (fun i _ => ls.length - (intOf i).toNat)
  case atStart => exact ⟨0, rfl, Nat.zero_le _, rfl⟩
  case round =>
    obtain ⟨i, rfl, hi, rfl⟩ := hrel
    by_cases h : i < ls.length
    · obtain ⟨b, o, rfl, hb, hcells⟩ := reads_strs HC.out (by omega)
      obtain ⟨x, hx⟩ : ∃ x, ls[i]? = some x := ⟨_, List.getElem?_eq_getElem h⟩
      have hcx := hcells i x hx
      obtain ⟨x1, x2, x3, x4⟩ := HL.out i x hx
      obtain ⟨x5, x6⟩ := x4 x1
      have hib : 0 ≤ (i : Int) ∧ (i : Int) < (ls.length : Int) := by omega
      have HX3 := Lib.hid x3
      have e0 : ¬ x.toList = [] := fun e => by
        rw [ByteArray.toList_eq] at e
        have e' := congrArg List.length e
        rw [Array.length_toList, List.length_nil] at e'
        have : x.size = 0 := e'
        omega
      have e1 : x.toList.isEmpty = false := by
        cases hh : x.toList with
        | nil => exact absurd hh e0
        | cons a r => rfl
      have e2 : (x.toList = []) = False := eq_false e0
      have e2b : (x.toList == []) = false := beq_eq_false_iff_ne.2 e0
      have e3 : decide ((w : Int) < (x.size : Int)) = false := decide_eq_false (by omega)
      have e4 : (((x[0]'x1).toNat : Int) == 58) = false := beq_eq_false_iff_ne.2 x5
      have e5 : (((x[0]'x1).toNat : Int) == 45) = false := beq_eq_false_iff_ne.2 x6
      have hwsub : wrap64 ((ls.length : Int) - 1) = (ls.length : Int) - 1 := wrap_ok (by omega) (by omega)
      clear hcells x3 x4 x5 x6
      by_cases hlast : i + 1 < ls.length
      · have e6 : x.size = w := HX3.out hlast
        have e7 : (((x.size : Nat) : Int) == (w : Int)) = true := beq_iff_eq.2 (by omega)
        have e8 : (((x.size : Nat) : Int) != (w : Int)) = false := bne_eq_false_iff_eq.2 (by omega)
        have e9 : decide ((i : Int) < (ls.length : Int) - 1) = true := decide_eq_true (by omega)
        go_wp2
        go_roundw
        case rel => exact ⟨i + 1, by simp, by omega, (by first | rfl | trivial)⟩
        case measure => simp [intOf]; omega
      · have e9 : decide ((i : Int) < (ls.length : Int) - 1) = false := decide_eq_false (by omega)
        go_wp2
        go_roundw
        case rel => exact ⟨i + 1, by simp, by omega, (by first | rfl | trivial)⟩
        case measure => simp [intOf]; omega
    · go_upto_region 16 with (fail)
      exact keeps_tail9 w0 l hl ls A c kept f w n hw hn hf _ HC.out HN.out HB.out HJ.out _ _ _ _ _ _ _ _ _ _ _ _ _ _ _ _ _ _ _ _ _ _ _ _ _ _ _ _ _ _ _ _ _ _ _ _ _ _ _ _ _ _ _ _ _ _ _ _ _ _ _ _ _ _ _ _ _ _ _ _ _ _ _ _ _ _ _ _ _ _ _ _ _ _ _ _ _ _ _ _ _ _ _ _ _ _ _ _ _ _ _ _ _ _ _ _ _ _ _ _ _ _ _ _ _ _ _ _ _ _ _ _ _ _ _ _ _ _ _ _ _ _ _ _ _ _ _ _ _ _ _ _ _ _ _ _ _ _ _ _ _ _ _ _ _ _ _ _ _ _ _ _ _ _ _ _ _ _ _ _ _ _ _ _ _ _ _ _ _ _ _ _ _ _ _ _ _ _ _ _ _ _ _ _ _ _ _ _ _ _ _ _ _ _ _ _ _ (by assumption)
end Go.Proofs.Ytjemnphmjbodfaa.PAll


/- CharsetKeeps: the walk by hand: the loop over the text, and what follows. -/
import Derived.Test.YtjemnphmjbodfaaGKeeps1
namespace Go.Proofs.Ytjemnphmjbodfaa.PAll
open Go.RowKit Go.Proofs.YtjemnphmjbodfaaW.PrintWords GPlain
set_option linter.unusedSimpArgs false

set_option maxRecDepth 100000 in
set_option maxHeartbeats 4000000 in
theorem keeps_tail10 (w0 : World) (l : List UInt8) (hl : l.length ≤ 1000) (ls : List ByteArray) (A : Option Addr) (c : Nat) (kept : Int) (b0 : Bool) (W : World) (hC : Kd.C Kd.string W A ls.length ls) (hc : ls.length ≤ c) (hB : Below w0.heap.size w0 W)
    (hJ : b0 = true → Plain l → charset_Join.f ls = some (bs l) ∧ kept = (l.length : Int)) (u1 u2 u3 u4 u5 u6 u7 u8 u9 u10 u11 u14 u15 u17 u18 u19 u20 u21 u22 u23 u24 u25 u26 u27 u28 u29 u30 u31 u32 u33 u34 u35 u36 u37 u38 u39 u40 u41 u42 u43 u44 u45 u46 u47 u48 u49 u50 u51 u52 u53 u54 u55 u56 u57 u58 u59 u60 u61 u62 u63 u64 u65 u66 u67 u68 u69 u70 u71 u72 u73 u74 u75 u76 u77 u78 u79 u80 u81 u82 u83 u84 u85 u86 u87 u88 u89 u90 u91 u92 u93 u94 u95 u96 u97 u98 u99 u100 u101 u102 u103 u104 u105 u106 u107 u108 u109 u110 u111 u112 u113 u114 u115 u116 u117 u118 u119 u120 u121 u122 u123 u124 u125 u126 u127 u128 u129 u130 u131 u132 u133 u134 u135 u136 u137 u138 u139 u140 u141 u142 u143 u144 u145 u146 u147 u148 u149 u150 u151 u152 u153 u154 u155 u156 u157 u158 u159 u160 u161 u162 u163 u164 u165 u166 u167 u168 u169 u170 u171 u172 u173 u174 u175 u176 u177 u178 u179 u180 u181 u182 u183 u184 u185 u186 u187 u188 u189 u190 u191 u192 u193 u194 u195 u196 u197 u198 u199 u200 u201 : Value) :
    ∀ K2 : Act → World → Prop, (∀ a w, Code.wp Try.prog (keepsTail 11) (bodyPost Try.prog Try.f8 fun e w' => e = .returned (.bool true) ∧ Below w0.heap.size w0 w') a w → K2 a w) → ∀ K1 : Act → World → Prop, (∀ a w, Code.wp Try.prog (sndOf (fstOf (keepsTail 10))) (Exit.then K2 (bodyPost Try.prog Try.f8 fun e w' => e = .returned (.bool true) ∧ Below w0.heap.size w0 w')) a w → K1 a w) → Code.wp Try.prog (fstOf (fstOf (keepsTail 10))) (Exit.then K1 (Exit.then K2 (bodyPost Try.prog Try.f8 fun e w' => e = .returned (.bool true) ∧ Below w0.heap.size w0 w'))) { tmps := #[.string (bs l), u1, u2, u3, u4, u5, u6, u7, u8, u9, u10, u11, .slice A ls.length c, .int .i64 kept, u14, u15, .bool b0, u17, u18, u19, u20, u21, u22, u23, u24, u25, u26, u27, u28, u29, u30, u31, u32, u33, u34, u35, u36, u37, u38, u39, u40, u41, u42, u43, u44, u45, u46, u47, u48, u49, u50, u51, u52, u53, u54, u55, u56, u57, u58, u59, u60, u61, u62, u63, u64, u65, u66, u67, u68, u69, u70, u71, u72, u73, u74, u75, u76, u77, u78, u79, u80, u81, u82, u83, u84, u85, u86, u87, u88, u89, u90, u91, u92, u93, u94, u95, u96, u97, u98, u99, u100, u101, u102, u103, u104, u105, u106, u107, u108, u109, u110, u111, u112, u113, u114, u115, u116, u117, u118, u119, u120, u121, u122, u123, u124, u125, u126, u127, u128, u129, u130, u131, u132, u133, u134, u135, u136, u137, u138, u139, u140, u141, u142, u143, u144, u145, u146, u147, u148, u149, u150, u151, u152, u153, u154, u155, u156, u157, u158, u159, u160, u161, u162, u163, u164, u165, u166, u167, u168, u169, u170, u171, u172, u173, u174, u175, u176, u177, u178, u179, u180, u181, u182, u183, u184, u185, u186, u187, u188, u189, u190, u191, u192, u193, u194, u195, u196, u197, u198, u199, u200, u201], defers := [] } W := by
  have HC := Lib.hid hC
  have HN := Lib.hid hc
  have HB := Lib.hid hB
  have HJ := Lib.hid hJ
  clear hC hc hB hJ
  have get : ∀ (j : Nat) (h : j < (bs l).size), (bs l)[j] = l.getD j 0 := fun j h => by
    rw [List.getD_eq_getElem?_getD, List.getElem?_eq_getElem (by rw [← bs_size]; exact h)]
    rfl
  have HG := Lib.hid get
  have HZ := Lib.hid (bs_size l)
  have hsm : (bs l).size ≤ 1000 := by rw [bs_size]; exact hl
  clear get
  intro K2 hK2 K1 hK1
  conv at hK2 => intro a w; arg 1; arg 2; whnf
  conv at hK1 => intro a w; arg 1; arg 2; whnf
  conv => arg 2; whnf
  go_wp2
  go_loopw [16, 17] (fun v16 v17 wr => ∃ (b : Bool) (i : Nat), v16 = .bool b ∧ v17 = .int .i64 i ∧ i ≤ (bs l).size ∧ Hid (b = true → b0 = true ∧ Plain (l.take i)) ∧ wr = W) (fun _ i _ => (bs l).size - (intOf i).toNat)
  case atStart => exact ⟨b0, 0, rfl, rfl, Nat.zero_le _, Lib.hid (fun e => ⟨e, by intro c hc; simp at hc⟩), rfl⟩
  case round =>
    obtain ⟨b, i, rfl, rfl, hi, HP, rfl⟩ := hrel
    by_cases h : i < (bs l).size
    · have hb : 0 ≤ (i : Int) ∧ (i : Int) < ((bs l).size : Int) := by omega
      have HS : Hid (∀ b', (b' = true → b = true ∧ ¬ (l.getD i 0 = 58 ∨ l.getD i 0 = 45)) → (b' = true → b0 = true ∧ Plain (l.take (i + 1)))) := Lib.hid (fun b' hb' e => by
        obtain ⟨e1, e2⟩ := hb' e
        obtain ⟨e3, e4⟩ := HP.out e1
        refine ⟨e3, fun c hc => ?_⟩
        have hlt : i < l.length := by rw [← HZ.out]; exact h
        rw [List.take_add_one, List.getElem?_eq_getElem hlt, List.mem_append] at hc
        rcases hc with hc | hc
        · exact e4 c hc
        · have : l.getD i 0 = l[i] := by rw [List.getD_eq_getElem?_getD, List.getElem?_eq_getElem hlt]; rfl
          simp only [Option.toList_some, List.mem_singleton] at hc
          rw [hc, ← this]
          exact e2)
      cases b
      · go_wp2
        go_roundw
        case rel => exact ⟨false, i + 1, rfl, by simp, h, Lib.hid (fun e => by cases e), (by first | rfl | trivial)⟩
        case measure => simp [intOf]; omega
      · by_cases h58 : l.getD i 0 = 58
        · have q1 : ((((bs l)[i]'h).toNat : Int) == 58) = true := by rw [HG.out i h, h58]; rfl
          have q2 : ((((bs l)[i]'h).toNat : Int) != 58) = false := by rw [HG.out i h, h58]; rfl
          go_wp2
          go_roundw
          case rel => exact ⟨false, i + 1, rfl, by simp, h, Lib.hid (fun e => by cases e), (by first | rfl | trivial)⟩
          case measure => simp [intOf]; omega
        · have q1 : ((((bs l)[i]'h).toNat : Int) == 58) = false := beq_eq_false_iff_ne.2 (fun e => h58 (UInt8.toNat_inj.1 (by rw [HG.out i h] at e; show _ = 58; omega)))
          have q2 : ((((bs l)[i]'h).toNat : Int) != 58) = true := bne_iff_ne.2 (fun e => h58 (UInt8.toNat_inj.1 (by rw [HG.out i h] at e; show _ = 58; omega)))
          by_cases h45 : l.getD i 0 = 45
          · have q3 : ((((bs l)[i]'h).toNat : Int) == 45) = true := by rw [HG.out i h, h45]; rfl
            have q4 : ((((bs l)[i]'h).toNat : Int) != 45) = false := by rw [HG.out i h, h45]; rfl
            go_wp2
            go_roundw
            case rel => exact ⟨false, i + 1, rfl, by simp, h, Lib.hid (fun e => by cases e), (by first | rfl | trivial)⟩
            case measure => simp [intOf]; omega
          · have q3 : ((((bs l)[i]'h).toNat : Int) == 45) = false := beq_eq_false_iff_ne.2 (fun e => h45 (UInt8.toNat_inj.1 (by rw [HG.out i h] at e; show _ = 45; omega)))
            have q4 : ((((bs l)[i]'h).toNat : Int) != 45) = true := bne_iff_ne.2 (fun e => h45 (UInt8.toNat_inj.1 (by rw [HG.out i h] at e; show _ = 45; omega)))
            have HN2 : Hid (¬ (l.getD i 0 = 58 ∨ l.getD i 0 = 45)) := Lib.hid (fun e => e.elim h58 h45)
            clear h58 h45
            go_wp2
            go_roundw
            case rel => exact ⟨true, i + 1, rfl, by simp, h, Lib.hid (HS.out true (fun _ => ⟨rfl, HN2.out⟩)), (by first | rfl | trivial)⟩
            case measure => simp [intOf]; omega
    · have hJ2 : Hid (b = true → charset_Join.f ls = some (bs l) ∧ kept = (l.length : Int)) := Lib.hid (fun e => by
        obtain ⟨e1, e2⟩ := HP.out e
        rw [List.take_of_length_le (by rw [← HZ.out]; omega)] at e2
        exact HJ.out e1 e2)
      go_upto_region 21 with (fail)
      exact keeps_tail11 w0 l ls A c kept b _ HC.out HN.out HB.out hJ2.out _ _ _ _ _ _ _ _ _ _ _ _ _ _ _ _ _ _ _ _ _ _ _ _ _ _ _ _ _ _ _ _ _ _ _ _ _ _ _ _ _ _ _ _ _ _ _ _ _ _ _ _ _ _ _ _ _ _ _ _ _ _ _ _ _ _ _ _ _ _ _ _ _ _ _ _ _ _ _ _ _ _ _ _ _ _ _ _ _ _ _ _ _ _ _ _ _ _ _ _ _ _ _ _ _ _ _ _ _ _ _ _ _ _ _ _ _ _ _ _ _ _ _ _ _ _ _ _ _ _ _ _ _ _ _ _ _ _ _ _ _ _ _ _ _ _ _ _ _ _ _ _ _ _ _ _ _ _ _ _ _ _ _ _ _ _ _ _ _ _ _ _ _ _ _ _ _ _ _ _ _ _ _ _ _ _ _ _ _ _ _ _ _ _ _ _ _ _ _ (by assumption)
end Go.Proofs.Ytjemnphmjbodfaa.PAll


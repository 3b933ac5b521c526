/- CharsetKeeps: the walk by hand: the loop over the lines, and what is asked ahead of the second loop. -/
import Derived.Test.YtjemnphmjbodfaaGKeeps2
namespace Go.Proofs.Ytjemnphmjbodfaa.PAll
open Go.RowKit Go.Proofs.YtjemnphmjbodfaaW.PrintWords GPlain
set_option linter.unusedSimpArgs false

set_option maxRecDepth 100000 in
set_option maxHeartbeats 4000000 in
theorem keeps_tail9 (w0 : World) (l : List UInt8) (hl : l.length ≤ 1000) (ls : List ByteArray) (A : Option Addr) (c : Nat) (kept f : Int) (w n : Nat) (hw : w ≤ 100) (hn : n ≤ 100) (hf : f = 0 ∨ f = 15) (W : World) (hC : Kd.C Kd.string W A ls.length ls) (hc : ls.length ≤ c) (hB : Below w0.heap.size w0 W)
    (hJ : f = 0 → l.length ≤ w * n → Plain l → charset_Join.f ls = some (bs l) ∧ kept = (l.length : Int)) (u3 u4 u5 u6 u7 u8 u9 u10 u14 u15 u16 u17 u18 u19 u20 u21 u22 u23 u24 u25 u26 u27 u28 u29 u30 u31 u32 u33 u34 u35 u36 u37 u38 u39 u40 u41 u42 u43 u44 u45 u46 u47 u48 u49 u50 u51 u52 u53 u54 u55 u56 u57 u58 u59 u60 u61 u62 u63 u64 u65 u66 u67 u68 u69 u70 u71 u72 u73 u74 u75 u76 u77 u78 u79 u80 u81 u82 u83 u84 u85 u86 u87 u88 u89 u90 u91 u92 u93 u94 u95 u96 u97 u98 u99 u100 u101 u102 u103 u104 u105 u106 u107 u108 u109 u110 u111 u112 u113 u114 u115 u116 u117 u118 u119 u120 u121 u122 u123 u124 u125 u126 u127 u128 u129 u130 u131 u132 u133 u134 u135 u136 u137 u138 u139 u140 u141 u142 u143 u144 u145 u146 u147 u148 u149 u150 u151 u152 u153 u154 u155 u156 u157 u158 u159 u160 u161 u162 u163 u164 u165 u166 u167 u168 u169 u170 u171 u172 u173 u174 u175 u176 u177 u178 u179 u180 u181 u182 u183 u184 u185 u186 u187 u188 u189 u190 u191 u192 u193 u194 u195 u196 u197 u198 u199 u200 u201 : Value) :
    ∀ K : Act → World → Prop, (∀ a w, Code.wp Try.prog (keepsTail 10) (bodyPost Try.prog Try.f8 fun e w' => e = .returned (.bool true) ∧ Below w0.heap.size w0 w') a w → K a w) → Code.wp Try.prog (fstOf (keepsTail 9)) (Exit.then K (bodyPost Try.prog Try.f8 fun e w' => e = .returned (.bool true) ∧ Below w0.heap.size w0 w')) { tmps := #[.string (bs l), .int .u8 (w : Int), .int .u8 (n : Int), u3, u4, u5, u6, u7, u8, u9, u10, .int .i64 f, .slice A ls.length c, .int .i64 kept, u14, u15, u16, u17, u18, u19, u20, u21, u22, u23, u24, u25, u26, u27, u28, u29, u30, u31, u32, u33, u34, u35, u36, u37, u38, u39, u40, u41, u42, u43, u44, u45, u46, u47, u48, u49, u50, u51, u52, u53, u54, u55, u56, u57, u58, u59, u60, u61, u62, u63, u64, u65, u66, u67, u68, u69, u70, u71, u72, u73, u74, u75, u76, u77, u78, u79, u80, u81, u82, u83, u84, u85, u86, u87, u88, u89, u90, u91, u92, u93, u94, u95, u96, u97, u98, u99, u100, u101, u102, u103, u104, u105, u106, u107, u108, u109, u110, u111, u112, u113, u114, u115, u116, u117, u118, u119, u120, u121, u122, u123, u124, u125, u126, u127, u128, u129, u130, u131, u132, u133, u134, u135, u136, u137, u138, u139, u140, u141, u142, u143, u144, u145, u146, u147, u148, u149, u150, u151, u152, u153, u154, u155, u156, u157, u158, u159, u160, u161, u162, u163, u164, u165, u166, u167, u168, u169, u170, u171, u172, u173, u174, u175, u176, u177, u178, u179, u180, u181, u182, u183, u184, u185, u186, u187, u188, u189, u190, u191, u192, u193, u194, u195, u196, u197, u198, u199, u200, u201], defers := [] } W := by
  have hsm := bs_size l
  intro K hK
  conv at hK => intro a w; arg 1; arg 2; whnf
  conv => arg 2; whnf
  rcases hf with rfl | rfl
  · obtain ⟨p, hp⟩ : ∃ p : Nat, w * n = p := ⟨_, rfl⟩
    rw [hp] at hJ
    have hpi : (w : Int) * (n : Int) = (p : Int) := by rw [← hp]; simp
    have hple : p ≤ 100 * 100 := by rw [← hp]; exact Nat.mul_le_mul hw hn
    have hwr : wrap64 ((w : Int) * (n : Int)) = (p : Int) := by rw [hpi]; exact wrap_ok (by omega) (by omega)
    have hw1 : wrap64 (w : Int) = (w : Int) := wrap_ok (by omega) (by omega)
    have hn1 : wrap64 (n : Int) = (n : Int) := wrap_ok (by omega) (by omega)
    have HC := Lib.hid hC
    have HN := Lib.hid hc
    have HB := Lib.hid hB
    have HJ := Lib.hid hJ
    clear hC hc hB hJ
    by_cases hlp : l.length ≤ p
    · have hd : decide (((bs l).size : Int) ≤ (p : Int)) = true := decide_eq_true (by omega)
      have hd2 : decide (((bs l).size : Int) ≤ (w : Int) * (n : Int)) = true := by rw [hpi]; exact hd
      go_upto_region 17 with (fail)
      exact keeps_tail10 w0 l hl ls A c kept true W HC.out HN.out HB.out (fun _ => HJ.out rfl hlp) _ _ _ _ _ _ _ _ _ _ _ _ _ _ _ _ _ _ _ _ _ _ _ _ _ _ _ _ _ _ _ _ _ _ _ _ _ _ _ _ _ _ _ _ _ _ _ _ _ _ _ _ _ _ _ _ _ _ _ _ _ _ _ _ _ _ _ _ _ _ _ _ _ _ _ _ _ _ _ _ _ _ _ _ _ _ _ _ _ _ _ _ _ _ _ _ _ _ _ _ _ _ _ _ _ _ _ _ _ _ _ _ _ _ _ _ _ _ _ _ _ _ _ _ _ _ _ _ _ _ _ _ _ _ _ _ _ _ _ _ _ _ _ _ _ _ _ _ _ _ _ _ _ _ _ _ _ _ _ _ _ _ _ _ _ _ _ _ _ _ _ _ _ _ _ _ _ _ _ _ _ _ _ _ _ _ _ _ _ _ _ _ _ _ _ _ _ _ _ (by assumption) _ (by assumption)
    · have hd : decide (((bs l).size : Int) ≤ (p : Int)) = false := decide_eq_false (by omega)
      have hd2 : decide (((bs l).size : Int) ≤ (w : Int) * (n : Int)) = false := by rw [hpi]; exact hd
      go_upto_region 17 with (fail)
      exact keeps_tail10 w0 l hl ls A c kept false W HC.out HN.out HB.out (fun e => by cases e) _ _ _ _ _ _ _ _ _ _ _ _ _ _ _ _ _ _ _ _ _ _ _ _ _ _ _ _ _ _ _ _ _ _ _ _ _ _ _ _ _ _ _ _ _ _ _ _ _ _ _ _ _ _ _ _ _ _ _ _ _ _ _ _ _ _ _ _ _ _ _ _ _ _ _ _ _ _ _ _ _ _ _ _ _ _ _ _ _ _ _ _ _ _ _ _ _ _ _ _ _ _ _ _ _ _ _ _ _ _ _ _ _ _ _ _ _ _ _ _ _ _ _ _ _ _ _ _ _ _ _ _ _ _ _ _ _ _ _ _ _ _ _ _ _ _ _ _ _ _ _ _ _ _ _ _ _ _ _ _ _ _ _ _ _ _ _ _ _ _ _ _ _ _ _ _ _ _ _ _ _ _ _ _ _ _ _ _ _ _ _ _ _ _ _ _ _ _ _ (by assumption) _ (by assumption)
  · have HC := Lib.hid hC
    have HN := Lib.hid hc
    have HB := Lib.hid hB
    clear hC hc hB hJ
    go_upto_region 17 with (fail)
    exact keeps_tail10 w0 l hl ls A c kept false W HC.out HN.out HB.out (fun e => by cases e) _ _ _ _ _ _ _ _ _ _ _ _ _ _ _ _ _ _ _ _ _ _ _ _ _ _ _ _ _ _ _ _ _ _ _ _ _ _ _ _ _ _ _ _ _ _ _ _ _ _ _ _ _ _ _ _ _ _ _ _ _ _ _ _ _ _ _ _ _ _ _ _ _ _ _ _ _ _ _ _ _ _ _ _ _ _ _ _ _ _ _ _ _ _ _ _ _ _ _ _ _ _ _ _ _ _ _ _ _ _ _ _ _ _ _ _ _ _ _ _ _ _ _ _ _ _ _ _ _ _ _ _ _ _ _ _ _ _ _ _ _ _ _ _ _ _ _ _ _ _ _ _ _ _ _ _ _ _ _ _ _ _ _ _ _ _ _ _ _ _ _ _ _ _ _ _ _ _ _ _ _ _ _ _ _ _ _ _ _ _ _ _ _ _ _ _ _ _ _ (by assumption) _ (by assumption)
end Go.Proofs.Ytjemnphmjbodfaa.PAll


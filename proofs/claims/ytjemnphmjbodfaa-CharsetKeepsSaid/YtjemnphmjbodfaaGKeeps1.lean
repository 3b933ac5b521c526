/- CharsetKeeps: the walk by hand, in parts. -/
import Derived.Test.YtjemnphmjbodfaaPAllx5
import Derived.Test.YtjemnphmjbodfaaGFold
import Derived.Test.YtjemnphmjbodfaaPureCs2
import Derived.WalkKit
namespace Go.Proofs.Ytjemnphmjbodfaa.PAll
open Go.RowKit Go.Proofs.YtjemnphmjbodfaaW.PrintWords GPlain
set_option linter.unusedSimpArgs false

def tailOf : Nat → Code → Code
  | 0, c => c
  | k + 1, .seq _ b => tailOf k b
  | _ + 1, c => c
def fstOf : Code → Code
  | .seq a _ => a
  | c => c
def sndOf : Code → Code
  | .seq _ b => b
  | c => c
noncomputable def keepsTail (k : Nat) : Code := tailOf k (Try.f8.body.getD .skip)

/-- No colon, no dash, among these. -/
def Plain (l : List UInt8) : Prop := ∀ c ∈ l, ¬ (c = 58 ∨ c = 45)

set_option maxRecDepth 100000 in
set_option maxHeartbeats 4000000 in
theorem keeps_tail11 (w0 : World) (l : List UInt8) (ls : List ByteArray) (A : Option Addr) (c : Nat) (kept : Int) (b : Bool) (W : World) (hC : Kd.C Kd.string W A ls.length ls) (hc : ls.length ≤ c) (hB : Below w0.heap.size w0 W)
    (hJ : b = true → charset_Join.f ls = some (bs l) ∧ kept = (l.length : Int)) (u1 u2 u3 u4 u5 u6 u7 u8 u9 u10 u11 u14 u15 u17 u18 u19 u20 u21 u22 u23 u24 u25 u26 u27 u28 u29 u30 u31 u32 u33 u34 u35 u36 u37 u38 u39 u40 u41 u42 u43 u44 u45 u46 u47 u48 u49 u50 u51 u52 u53 u54 u55 u56 u57 u58 u59 u60 u61 u62 u63 u64 u65 u66 u67 u68 u69 u70 u71 u72 u73 u74 u75 u76 u77 u78 u79 u80 u81 u82 u83 u84 u85 u86 u87 u88 u89 u90 u91 u92 u93 u94 u95 u96 u97 u98 u99 u100 u101 u102 u103 u104 u105 u106 u107 u108 u109 u110 u111 u112 u113 u114 u115 u116 u117 u118 u119 u120 u121 u122 u123 u124 u125 u126 u127 u128 u129 u130 u131 u132 u133 u134 u135 u136 u137 u138 u139 u140 u141 u142 u143 u144 u145 u146 u147 u148 u149 u150 u151 u152 u153 u154 u155 u156 u157 u158 u159 u160 u161 u162 u163 u164 u165 u166 u167 u168 u169 u170 u171 u172 u173 u174 u175 u176 u177 u178 u179 u180 u181 u182 u183 u184 u185 u186 u187 u188 u189 u190 u191 u192 u193 u194 u195 u196 u197 u198 u199 u200 u201 : Value) :
    ∀ K : Act → World → Prop, (∀ a w, Code.wp Try.prog .ret (bodyPost Try.prog Try.f8 fun e w' => e = .returned (.bool true) ∧ Below w0.heap.size w0 w') a w → K a w) → Code.wp Try.prog (fstOf (keepsTail 11)) (Exit.then K (bodyPost Try.prog Try.f8 fun e w' => e = .returned (.bool true) ∧ Below w0.heap.size w0 w')) { tmps := #[.string (bs l), u1, u2, u3, u4, u5, u6, u7, u8, u9, u10, u11, .slice A ls.length c, .int .i64 kept, u14, u15, .bool b, u17, u18, u19, u20, u21, u22, u23, u24, u25, u26, u27, u28, u29, u30, u31, u32, u33, u34, u35, u36, u37, u38, u39, u40, u41, u42, u43, u44, u45, u46, u47, u48, u49, u50, u51, u52, u53, u54, u55, u56, u57, u58, u59, u60, u61, u62, u63, u64, u65, u66, u67, u68, u69, u70, u71, u72, u73, u74, u75, u76, u77, u78, u79, u80, u81, u82, u83, u84, u85, u86, u87, u88, u89, u90, u91, u92, u93, u94, u95, u96, u97, u98, u99, u100, u101, u102, u103, u104, u105, u106, u107, u108, u109, u110, u111, u112, u113, u114, u115, u116, u117, u118, u119, u120, u121, u122, u123, u124, u125, u126, u127, u128, u129, u130, u131, u132, u133, u134, u135, u136, u137, u138, u139, u140, u141, u142, u143, u144, u145, u146, u147, u148, u149, u150, u151, u152, u153, u154, u155, u156, u157, u158, u159, u160, u161, u162, u163, u164, u165, u166, u167, u168, u169, u170, u171, u172, u173, u174, u175, u176, u177, u178, u179, u180, u181, u182, u183, u184, u185, u186, u187, u188, u189, u190, u191, u192, u193, u194, u195, u196, u197, u198, u199, u200, u201], defers := [] } W := by
  have hsz := bs_size l
  intro K hK
  conv => arg 2; whnf
  cases b
  · clear hJ
    go_wp2_with (go_at_call 20; refine (remitterlaw05_wakes.calls true _ wakes5_ok).mono ?_; rintro e w' ⟨rfl, hb⟩)
    go_ret
    exact ⟨rfl, below_then hB hB.size hb⟩
  · obtain ⟨h1, h2⟩ := hJ rfl
    subst h2
    have HJ := Lib.hid h1
    have HC := Lib.hid hC
    have HN := Lib.hid hc
    clear h1 hC hc hJ
    go_wp2_with (first | (go_at_call 24; refine (charset_Join.calls A c ls _ W HC.out HN.out HJ.out).mono ?_; rintro e w1 ⟨rfl, hb1⟩) | (go_at_call 20; refine (remitterlaw05_wakes.calls true _ wakes5_ok).mono ?_; rintro e w' ⟨rfl, hb⟩))
    go_ret
    exact ⟨rfl, below_then (below_then hB hB.size hb1) (below_then hB hB.size hb1).size hb⟩
end Go.Proofs.Ytjemnphmjbodfaa.PAll


/- CharsetKeeps: the walk by hand: from its start. -/
import Derived.Test.YtjemnphmjbodfaaGKeeps4
namespace Go.Proofs.Ytjemnphmjbodfaa.PAll
open Go.RowKit Go.Proofs.YtjemnphmjbodfaaW.PrintWords GPlain
set_option linter.unusedSimpArgs false

set_option maxRecDepth 100000 in
set_option maxHeartbeats 4000000 in
theorem keeps_main (l t : List UInt8) (hl : l.length ≤ 1000) (w n : Nat) (hw0 : 1 ≤ w) (hw : w ≤ 100) (hn0 : 1 ≤ n) (hn : n ≤ 100) (f r1 r2 : Int) (hf : f = 0 ∨ f = 15) (hft : f = 0 → t = l) (ch : List ByteArray) (k : Nat) (ls : List ByteArray) (kept : Int)
    (hS : charset_Substitute.f (bs l) = some (bs t)) (hS2 : charset_Substitute.f (bs t) = some (bs t)) (hC1 : charset_Check.f 88 (bs t) = some (r1, 0)) (hC2 : charset_Check.f 88 (bs l) = some (r2, f)) (hCh : remitterref05_Chars.f k (bs l) = some ch) (hlen : ch.length = t.length)
    (hF : charset_Fold.f (bs l) w n = some (ls, kept, 0)) (hk : kept ≤ l.length) (hls : ls.length ≤ n) (hL : LineOk ls w) (hJ : f = 0 → l.length ≤ w * n → Plain l → charset_Join.f ls = some (bs l) ∧ kept = (l.length : Int)) (W : World) :
    Calls Try.prog 8 #[.string (bs l), .int .u8 (w : Int), .int .u8 (n : Int)] W fun e w' => e = .returned (.bool true) ∧ Below W.heap.size W w' := by
  have HS := Lib.hid hS
  have HS2 := Lib.hid hS2
  have HC1 := Lib.hid hC1
  have HC2 := Lib.hid hC2
  have HCh := Lib.hid hCh
  have HF := Lib.hid hF
  have HL := Lib.hid hL
  have HJ := Lib.hid hJ
  have hw1 : wrap64 (w : Int) = (w : Int) := wrap_ok (by omega) (by omega)
  have HW := Lib.hid hw1
  clear hw1
  have hn1 : wrap64 (n : Int) = (n : Int) := wrap_ok (by omega) (by omega)
  have hw1 := HW.out
  clear hS hS2 hC1 hC2 hCh hF hL hJ HW
  have g1 : decide ((1000 : Int) < ((bs l).size : Int)) = false := decide_eq_false (by rw [bs_size]; omega)
  have g2 : decide ((ls.length : Int) > (n : Int)) = false := decide_eq_false (by omega)
  have g3 : decide (kept > ((bs l).size : Int)) = false := decide_eq_false (by rw [bs_size]; omega)
  have g4 : (((bs t).size : Int) != (ch.length : Int)) = false := bne_eq_false_iff_eq.2 (by rw [bs_size, hlen])
  have g5 : (((bs t).size : Int) == (ch.length : Int)) = true := beq_iff_eq.2 (by rw [bs_size, hlen])
  have hsz := bs_size l
  have hsz2 := bs_size t
  have HB := Lib.hid (Below.refl W.heap.size W)
  rcases hf with rfl | rfl
  · obtain rfl := hft rfl
    go_enter Try.func8, Try.ntmps8
    go_upto_region 11 with (first | (go_at_call 22; (first | (refine (charset_Substitute.calls (bs t) _ _ HS.out).mono ?_; clear HS) | refine (charset_Substitute.calls (bs t) _ _ HS2.out).mono ?_); rintro e w1 ⟨rfl, hb1⟩; have n0 := Lib.hid (below_then HB.out HB.out.size hb1); clear HB hb1; have HB := n0; clear n0) | (go_at_call 21; (first | (refine (charset_Check.calls 88 (bs t) _ _ _ HC1.out).mono ?_; clear HC1) | refine (charset_Check.calls 88 (bs t) _ _ _ HC2.out).mono ?_); rintro e w2 ⟨rfl, hb2⟩; have n0 := Lib.hid (below_then HB.out HB.out.size hb2); clear HB hb2; have HB := n0; clear n0) | (go_at_call 28; refine (remitterref05_Chars.calls k (bs t) ch _ HCh.out).mono ?_; rintro e w3 ⟨v3, rfl, hR3, hb3⟩; obtain ⟨A3, c3, rfl⟩ := Kd.R_slice hR3; clear hR3; have n0 := Lib.hid (below_then HB.out HB.out.size hb3); clear HB hb3; have HB := n0; clear n0) | (go_at_call 26; refine (charset_Fold.calls (bs t) w n ls kept 0 _ HF.out).mono ?_; rintro e w6 ⟨v6, rfl, hR6, hb6⟩; obtain ⟨A6, c6, rfl⟩ := Kd.R_slice hR6; obtain ⟨_, hN6, hC6⟩ := Kd.R_reads' hR6; have HN6 := Lib.hid hN6; have HC6 := Lib.hid hC6; clear hN6 hC6 hR6; have n0 := Lib.hid (below_then HB.out HB.out.size hb6); clear HB hb6; have HB := n0; clear n0))
    exact keeps_tail8 W t hl ls A6 c6 kept 0 w n hw hn (.inl rfl) _ HC6.out HN6.out HB.out (by omega) HL.out (fun _ => HJ.out trivial) _ _ _ _ _ _ _ _ _ _ _ _ _ _ _ _ _ _ _ _ _ _ _ _ _ _ _ _ _ _ _ _ _ _ _ _ _ _ _ _ _ _ _ _ _ _ _ _ _ _ _ _ _ _ _ _ _ _ _ _ _ _ _ _ _ _ _ _ _ _ _ _ _ _ _ _ _ _ _ _ _ _ _ _ _ _ _ _ _ _ _ _ _ _ _ _ _ _ _ _ _ _ _ _ _ _ _ _ _ _ _ _ _ _ _ _ _ _ _ _ _ _ _ _ _ _ _ _ _ _ _ _ _ _ _ _ _ _ _ _ _ _ _ _ _ _ _ _ _ _ _ _ _ _ _ _ _ _ _ _ _ _ _ _ _ _ _ _ _ _ _ _ _ _ _ _ _ _ _ _ _ _ _ _ _ _ _ _ _ _ _ _ _ _ _ _ _ (by assumption) _ (by assumption)
  · go_enter Try.func8, Try.ntmps8
    go_upto_region 11 with (first | (go_at_call 22; (first | (refine (charset_Substitute.calls (bs l) _ _ HS.out).mono ?_; clear HS) | refine (charset_Substitute.calls (bs t) _ _ HS2.out).mono ?_); rintro e w1 ⟨rfl, hb1⟩; have n0 := Lib.hid (below_then HB.out HB.out.size hb1); clear HB hb1; have HB := n0; clear n0) | (go_at_call 21; (first | (refine (charset_Check.calls 88 (bs t) _ _ _ HC1.out).mono ?_; clear HC1) | refine (charset_Check.calls 88 (bs l) _ _ _ HC2.out).mono ?_); rintro e w2 ⟨rfl, hb2⟩; have n0 := Lib.hid (below_then HB.out HB.out.size hb2); clear HB hb2; have HB := n0; clear n0) | (go_at_call 28; refine (remitterref05_Chars.calls k (bs l) ch _ HCh.out).mono ?_; rintro e w3 ⟨v3, rfl, hR3, hb3⟩; obtain ⟨A3, c3, rfl⟩ := Kd.R_slice hR3; clear hR3; have n0 := Lib.hid (below_then HB.out HB.out.size hb3); clear HB hb3; have HB := n0; clear n0) | (go_at_call 26; refine (charset_Fold.calls (bs l) w n ls kept 0 _ HF.out).mono ?_; rintro e w6 ⟨v6, rfl, hR6, hb6⟩; obtain ⟨A6, c6, rfl⟩ := Kd.R_slice hR6; obtain ⟨_, hN6, hC6⟩ := Kd.R_reads' hR6; have HN6 := Lib.hid hN6; have HC6 := Lib.hid hC6; clear hN6 hC6 hR6; have n0 := Lib.hid (below_then HB.out HB.out.size hb6); clear HB hb6; have HB := n0; clear n0))
    exact keeps_tail8 W l hl ls A6 c6 kept 15 w n hw hn (.inr rfl) _ HC6.out HN6.out HB.out (by omega) HL.out (fun e => absurd e (by decide)) _ _ _ _ _ _ _ _ _ _ _ _ _ _ _ _ _ _ _ _ _ _ _ _ _ _ _ _ _ _ _ _ _ _ _ _ _ _ _ _ _ _ _ _ _ _ _ _ _ _ _ _ _ _ _ _ _ _ _ _ _ _ _ _ _ _ _ _ _ _ _ _ _ _ _ _ _ _ _ _ _ _ _ _ _ _ _ _ _ _ _ _ _ _ _ _ _ _ _ _ _ _ _ _ _ _ _ _ _ _ _ _ _ _ _ _ _ _ _ _ _ _ _ _ _ _ _ _ _ _ _ _ _ _ _ _ _ _ _ _ _ _ _ _ _ _ _ _ _ _ _ _ _ _ _ _ _ _ _ _ _ _ _ _ _ _ _ _ _ _ _ _ _ _ _ _ _ _ _ _ _ _ _ _ _ _ _ _ _ _ _ _ _ _ _ _ _ (by assumption) _ (by assumption)

set_option maxRecDepth 100000 in
set_option maxHeartbeats 4000000 in
theorem keeps_wakes (s : ByteArray) (w n : Int) (h : s.size > 1000 ∨ w < 1 ∨ w > 100 ∨ n < 1 ∨ n > 100) (W : World) :
    Calls Try.prog 8 #[.string s, .int .u8 w, .int .u8 n] W fun e w' => e = .returned (.bool true) ∧ Below W.heap.size W w' := by
  by_cases h1 : s.size > 1000
  · clear h
    have g : decide ((1000 : Int) < (s.size : Int)) = true := decide_eq_true (by omega)
    go_enter Try.func8, Try.ntmps8
    go_wp2_with (go_at_call 20; refine (remitterlaw05_wakes.calls true _ wakes5_ok).mono ?_; rintro e w' ⟨rfl, hb⟩)
    go_ret
    exact ⟨rfl, hb⟩
  · have g : decide ((1000 : Int) < (s.size : Int)) = false := decide_eq_false (by omega)
    by_cases h2 : w < 1
    · clear h
      go_enter Try.func8, Try.ntmps8
      go_wp2_with (go_at_call 20; refine (remitterlaw05_wakes.calls true _ wakes5_ok).mono ?_; rintro e w' ⟨rfl, hb⟩)
      go_ret
      exact ⟨rfl, hb⟩
    · by_cases h3 : w > 100
      · clear h
        go_enter Try.func8, Try.ntmps8
        go_wp2_with (go_at_call 20; refine (remitterlaw05_wakes.calls true _ wakes5_ok).mono ?_; rintro e w' ⟨rfl, hb⟩)
        go_ret
        exact ⟨rfl, hb⟩
      · by_cases h4 : n < 1
        · clear h
          go_enter Try.func8, Try.ntmps8
          go_wp2_with (go_at_call 20; refine (remitterlaw05_wakes.calls true _ wakes5_ok).mono ?_; rintro e w' ⟨rfl, hb⟩)
          go_ret
          exact ⟨rfl, hb⟩
        · have h5 : n > 100 := by omega
          clear h
          go_enter Try.func8, Try.ntmps8
          go_wp2_with (go_at_call 20; refine (remitterlaw05_wakes.calls true _ wakes5_ok).mono ?_; rintro e w' ⟨rfl, hb⟩)
          go_ret
          exact ⟨rfl, hb⟩
end Go.Proofs.Ytjemnphmjbodfaa.PAll

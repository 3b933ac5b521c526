/- Plain law: what the program tells of a number is what the document says. -/
import Derived.Test.YtggakekljbgeoaaDoorPTelx5
import Derived.Test.YtggakekljbgeoaaDoorPureDec1
import Derived.Test.YtggakekljbgeoaaDoorPureDec3
namespace Go.Proofs.YtggakekljbgeoaaDoor.Pure
open Go.RowKit Go.Proofs.YtggakekljbgeoaaDoor.PAll Go.Proofs.YtggakekljbgeoaaDoorW.PrintWords Go.Proofs.YtggakekljbgeoaaDoorW.PrintLast GPlain
set_option linter.unusedSimpArgs false

/-- How large a value of so many digits is. -/
theorem valI_bd : ∀ (ds : List Int) (n : Int), (∀ d ∈ ds, 0 ≤ d ∧ d ≤ 9) → 0 ≤ n → n * (10 : Int) ^ ds.length ≤ valI ds n ∧ valI ds n < (n + 1) * (10 : Int) ^ ds.length
  | [], n, _, _ => by simp [valI]; omega
  | d :: r, n, hd, h => by
    have h1 := hd d List.mem_cons_self
    obtain ⟨h2, h3⟩ := valI_bd r (10 * n + d) (fun x hx => hd x (List.mem_cons_of_mem _ hx)) (by omega)
    have hp : (0 : Int) < (10 : Int) ^ r.length := Int.pow_pos (by decide)
    refine ⟨?_, ?_⟩
    · show n * 10 ^ (r.length + 1) ≤ valI r (10 * n + d)
      refine Int.le_trans ?_ h2
      rw [Int.pow_succ, Int.mul_comm ((10 : Int) ^ r.length) 10, ← Int.mul_assoc]
      exact Int.mul_le_mul_of_nonneg_right (by omega) (Int.le_of_lt hp)
    · show valI r (10 * n + d) < (n + 1) * 10 ^ (r.length + 1)
      refine Int.lt_of_lt_of_le h3 ?_
      rw [Int.pow_succ, Int.mul_comm ((10 : Int) ^ r.length) 10, ← Int.mul_assoc]
      exact Int.mul_le_mul_of_nonneg_right (by omega) (Int.le_of_lt hp)
theorem good_f (n : Bool) (c s : Int) : decimal_Good.f n c s = some (goodB n c s) := by
  unfold decimal_Good.f goodB
  by_cases h1 : c ≥ 0
  · rw [if_pos h1, decide_eq_true (show 0 ≤ c from h1)]
    by_cases h2 : c < 1000000000000000000
    · rw [if_pos h2, decide_eq_true h2]
      by_cases h3 : s ≥ 0
      · rw [if_pos h3, decide_eq_true (show 0 ≤ s from h3)]
        by_cases h4 : s ≤ 5
        · rw [if_pos h4, decide_eq_true h4]
          cases n <;> simp
        · rw [if_neg h4, decide_eq_false h4]
          rfl
      · rw [if_neg h3, decide_eq_false (show ¬ 0 ≤ s from h3)]
        rfl
    · rw [if_neg h2, decide_eq_false h2]
      rfl
  · rw [if_neg h1, decide_eq_false (show ¬ 0 ≤ c from h1)]
    rfl
/-- A number's value in hundred-thousandths. -/
def valN (n : Bool) (c s : Nat) : Int := sgn n (c * 10 ^ (5 - s))
theorem least_l0 (n : Bool) : ∀ (s c k : Nat), GoodN n c s → s < k → ∃ c2 s2 : Nat, decimal_Least.l0 k n c s = some (n, (c2 : Int), (s2 : Int)) ∧ GoodN n c2 s2 ∧ valN n c2 s2 = valN n c s ∧ (s2 = 0 ∨ ¬ Int.tmod (c2 : Int) 10 = 0) := by
  intro s
  induction s with
  | zero =>
    intro c k h hk
    obtain ⟨k, rfl⟩ : ∃ m, k = m + 1 := ⟨k - 1, by omega⟩
    refine ⟨c, 0, ?_, h, rfl, .inl rfl⟩
    rw [decimal_Least.l0, good_f, goodB_of h, Option.bind_some, if_pos rfl, if_neg (by omega)]
  | succ s ih =>
    intro c k h hk
    obtain ⟨k, rfl⟩ : ∃ m, k = m + 1 := ⟨k - 1, by omega⟩
    have hg := goodB_of h
    obtain ⟨h1, h2, h3⟩ := h
    rw [decimal_Least.l0, good_f, hg, Option.bind_some, if_pos rfl, if_pos (by omega)]
    by_cases h0 : c % 10 = 0
    · have e1 : Int.tmod (c : Int) 10 = 0 := by rw [Int.tmod_eq_emod_of_nonneg (by omega)]; omega
      have e2 : Int.tdiv (c : Int) 10 = ((c / 10 : Nat) : Int) := by rw [Int.tdiv_eq_ediv_of_nonneg (by omega)]; omega
      rw [if_pos e1, e2, wrap_ok (by omega) (by omega), wrap_ok (by omega) (by omega), show (((s + 1 : Nat) : Int) - 1) = (s : Int) by omega]
      obtain ⟨c2, s2, e, g, v, z⟩ := ih (c / 10) k ⟨by omega, by omega, fun hn => by have := h3 hn; omega⟩ (by omega)
      refine ⟨c2, s2, e, g, v.trans ?_, z⟩
      unfold valN
      refine congrArg (sgn n) ?_
      rw [show 5 - s = (5 - (s + 1)) + 1 by omega, Nat.pow_succ, Nat.mul_comm (10 ^ (5 - (s + 1))) 10, ← Nat.mul_assoc, show c / 10 * 10 = c by omega]
    · have e1 : ¬ Int.tmod (c : Int) 10 = 0 := by rw [Int.tmod_eq_emod_of_nonneg (by omega)]; omega
      rw [if_neg e1]
      exact ⟨c, s + 1, rfl, ⟨h1, h2, h3⟩, rfl, .inr e1⟩
theorem valI_lin : ∀ (ds : List Int) (n : Int), valI ds n = n * 10 ^ ds.length + valI ds 0
  | [], n => by simp [valI]
  | d :: r, n => by
    have h1 := valI_lin r (10 * n + d)
    have h2 := valI_lin r (10 * 0 + d)
    have e1 : valI (d :: r) n = valI r (10 * n + d) := rfl
    have e2 : valI (d :: r) 0 = valI r (10 * 0 + d) := rfl
    rw [e1, e2, h1, h2, List.length_cons, Int.pow_succ, Int.add_mul, Int.add_mul, Int.mul_comm 10 n, Int.mul_assoc n 10, Int.mul_comm 10 (10 ^ r.length)]
    simp only [Int.mul_zero, Int.zero_mul, Int.zero_add]
    rw [Int.add_assoc]
theorem digs_all {l : List UInt8} (h : l.all digB = true) : ∀ d ∈ digs l, 0 ≤ d ∧ d ≤ 9 := by
  intro d hd
  obtain ⟨c, hc, rfl⟩ := List.mem_map.1 hd
  have := List.all_eq_true.1 h c hc
  unfold digB at this
  simp only [Bool.and_eq_true, decide_eq_true_eq] at this
  exact ⟨by omega, by omega⟩
/-- As many digits of one value: the same digits. -/
theorem digs_inj : ∀ (a b : List UInt8), a.length = b.length → a.all digB = true → b.all digB = true → valI (digs a) 0 = valI (digs b) 0 → a = b
  | [], [], _, _, _, _ => rfl
  | [], _ :: _, h, _, _, _ => by cases h
  | _ :: _, [], h, _, _, _ => by cases h
  | x :: a, y :: b, hl, ha, hb, hv => by
    rw [List.all_cons, Bool.and_eq_true] at ha hb
    have hl : a.length = b.length := Nat.succ.inj hl
    have e1 : valI (digs (x :: a)) 0 = valI (digs a) (10 * 0 + ((x.toNat : Int) - 48)) := rfl
    have e2 : valI (digs (y :: b)) 0 = valI (digs b) (10 * 0 + ((y.toNat : Int) - 48)) := rfl
    have la : (digs a).length = a.length := List.length_map ..
    have lb : (digs b).length = b.length := List.length_map ..
    rw [e1, e2, valI_lin (digs a), valI_lin (digs b), la, lb, ← hl] at hv
    obtain ⟨a1, a2⟩ := valI_bd (digs a) 0 (digs_all ha.2) (Int.le_refl _)
    obtain ⟨b1, b2⟩ := valI_bd (digs b) 0 (digs_all hb.2) (Int.le_refl _)
    rw [la] at a1 a2
    rw [lb, ← hl] at b1 b2
    have hp : (0 : Int) < (10 : Int) ^ a.length := Int.pow_pos (by decide)
    have ih := digs_inj a b hl ha.2 hb.2
    generalize (10 : Int) ^ a.length = P at hv a1 a2 b1 b2 hp
    generalize valI (digs a) 0 = va at hv a1 a2 ih
    generalize valI (digs b) 0 = vb at hv b1 b2 ih
    have hxy : ((x.toNat : Int) - 48) = ((y.toNat : Int) - 48) := by
      rcases Int.lt_trichotomy ((x.toNat : Int) - 48) ((y.toNat : Int) - 48) with h | h | h
      · have := Int.mul_le_mul_of_nonneg_right (show ((x.toNat : Int) - 48) + 1 ≤ ((y.toNat : Int) - 48) by omega) (Int.le_of_lt hp)
        rw [Int.add_mul] at this
        simp only [Int.mul_zero, Int.zero_add, Int.zero_mul, Int.one_mul] at hv a1 a2 b1 b2 this
        omega
      · exact h
      · have := Int.mul_le_mul_of_nonneg_right (show ((y.toNat : Int) - 48) + 1 ≤ ((x.toNat : Int) - 48) by omega) (Int.le_of_lt hp)
        rw [Int.add_mul] at this
        simp only [Int.mul_zero, Int.zero_add, Int.zero_mul, Int.one_mul] at hv a1 a2 b1 b2 this
        omega
    rw [hxy] at hv
    have hxy2 : x = y := UInt8.toNat_inj.1 (by omega)
    rw [hxy2, ih (by omega)]
def ch (x : Nat) : UInt8 := UInt8.ofNat (48 + x % 10)
theorem str_ch (x : Nat) : strOfNums [(wrap64 (48 + Int.tmod (x : Int) 10)) % 256] = bs [ch x] := by
  have e : (wrap64 (48 + Int.tmod (x : Int) 10)) % 256 = ((48 + x % 10 : Nat) : Int) := by
    rw [Int.tmod_eq_emod_of_nonneg (by omega), wrap_ok (by omega) (by omega)]
    omega
  rw [e]
  rfl
theorem behind_succ (c i : Nat) : behindL c (i + 1) = ch (c / 10 ^ i) :: behindL c i := by
  refine digs_inj _ _ (by rw [behind_len, List.length_cons, behind_len]) (behind_all _ _) ?_ ?_
  · rw [List.all_cons, behind_all]
    have := digB_of (show c / 10 ^ i % 10 < 10 by omega)
    unfold ch
    rw [this]
    rfl
  · have e : valI (digs (ch (c / 10 ^ i) :: behindL c i)) 0 = valI (digs (behindL c i)) (10 * 0 + (((ch (c / 10 ^ i)).toNat : Int) - 48)) := rfl
    have e2 : ((ch (c / 10 ^ i)).toNat : Int) - 48 = ((c / 10 ^ i % 10 : Nat) : Int) := by
      unfold ch
      rw [dig_of (by omega)]
      omega
    rw [e, e2, behind_val, behind_val, Int.zero_mul, Int.zero_add, Int.mul_zero, Int.zero_add, Nat.pow_succ, Nat.mod_mul]
    have e3 : ((10 : Int) ^ i) = ((10 ^ i : Nat) : Int) := by simp
    rw [e3, ← Int.natCast_mul, ← Int.natCast_add, Nat.mul_comm, Nat.add_comm]
theorem dec_snoc {x : Nat} (h : ¬ x / 10 = 0) : Lib.decDigits x = Lib.decDigits (x / 10) ++ [ch x] := by rw [Lib.decDigits, dif_neg (by omega)]; rfl
theorem tdiv_nat (x : Nat) (h : x < 1000000000000000000) : wrap64 (Int.tdiv (x : Int) 10) = ((x / 10 : Nat) : Int) := by
  rw [Int.tdiv_eq_ediv_of_nonneg (by omega), wrap_ok (by omega) (by omega)]
  omega
theorem text_l1 : ∀ (d x : Nat) (l : List UInt8) (k : Nat), x < 10 ^ d → x < 1000000000000000000 → d < k → l.length + d ≤ 1000 → remitterref01_Text.l1 k (bs l) (x : Int) = some (bs (if x = 0 then l else Lib.decDigits x ++ l), 0)
  | 0, x, l, k, hx, _, hk, _ => by
    obtain ⟨k, rfl⟩ : ∃ m, k = m + 1 := ⟨k - 1, by omega⟩
    have h0 : x = 0 := by rw [Nat.pow_zero] at hx; omega
    rw [remitterref01_Text.l1, if_neg (by omega), if_pos h0]
  | d + 1, x, l, k, hx, hx2, hk, hl => by
    obtain ⟨k, rfl⟩ : ∃ m, k = m + 1 := ⟨k - 1, by omega⟩
    rw [Nat.pow_succ] at hx
    by_cases h0 : x = 0
    · rw [remitterref01_Text.l1, if_neg (by omega), if_pos h0]
    · rw [remitterref01_Text.l1, if_pos (by omega), Option.bind_some, str_ch, bs_size, bs_size, if_pos (by simp only [List.length_singleton]; omega), bs_append, tdiv_nat x hx2,
        text_l1 d (x / 10) ([ch x] ++ l) k (by omega) (by omega) (by omega) (by rw [List.length_append, List.length_singleton]; omega), if_neg h0]
      by_cases h1 : x / 10 = 0
      · rw [if_pos h1]
        have : Lib.decDigits x = [ch x] := by
          rw [Lib.decDigits, dif_pos (by omega)]
          unfold ch
          rw [Nat.mod_eq_of_lt (by omega)]
        rw [this]
      · rw [if_neg h1, dec_snoc h1, List.append_assoc]
theorem text_j2 (x : Nat) (hx : x < 1000000000000000000) (l : List UInt8) (hl : l.length ≤ 900) (k : Nat) (hk : 22 ≤ k) : remitterref01_Text.j2 k (bs l) (x : Int) = some (bs (Lib.decDigits x ++ l), 0) := by
  obtain ⟨k, rfl⟩ : ∃ m, k = m + 1 := ⟨k - 1, by omega⟩
  have hx3 : x / 10 < 10 ^ 18 := by
    have : (10 : Nat) ^ 18 = 1000000000000000000 := by decide
    omega
  rw [remitterref01_Text.j2, Option.bind_some, str_ch, bs_size, bs_size, if_pos (by simp only [List.length_singleton]; omega), bs_append, tdiv_nat x hx,
    text_l1 18 (x / 10) ([ch x] ++ l) k hx3 (by omega) (by omega) (by rw [List.length_append, List.length_singleton]; omega)]
  by_cases h1 : x / 10 = 0
  · rw [if_pos h1]
    have : Lib.decDigits x = [ch x] := by
      rw [Lib.decDigits, dif_pos (by omega)]
      unfold ch
      rw [Nat.mod_eq_of_lt (by omega)]
    rw [this]
  · rw [if_neg h1, dec_snoc h1, List.append_assoc]
def signL (mt : Bool) : List UInt8 := if mt = true then [44] else [46]
theorem text_l0 (n mt : Bool) (c s : Nat) (hc : c < 1000000000000000000) (hs : s ≤ 5) : ∀ (e i k : Nat), s - i = e → i ≤ s → e + 23 < k →
    remitterref01_Text.l0 k mt (bs (behindL c i)) ((c / 10 ^ i : Nat) : Int) (i : Int) n (c : Int) (s : Int) = some (bs (textL c s (signL mt) mt), 0) := by
  intro e
  induction e with
  | zero =>
    intro i k he hi hk
    obtain ⟨k, rfl⟩ : ∃ m, k = m + 1 := ⟨k - 1, by omega⟩
    obtain rfl : i = s := by omega
    have hb := behind_len c i
    have hx : c / 10 ^ i < 1000000000000000000 := Nat.lt_of_le_of_lt (Nat.div_le_self ..) hc
    rw [remitterref01_Text.l0, if_neg (by omega), bs_size, hb]
    unfold textL signL
    by_cases h1 : mt = true
    · subst h1
      rw [if_pos rfl, if_pos (by omega), if_neg (fun h => by cases h.2), if_pos rfl]
      have e1 : (⟨#[44]⟩ : ByteArray) ++ bs (behindL c i) = bs ([44] ++ behindL c i) := bs_append [44] _
      rw [e1, text_j2 _ hx _ (by rw [List.length_append, List.length_singleton]; omega) k (by omega), List.append_assoc]
    · rw [if_neg h1]
      by_cases h2 : (i : Int) > 0
      · rw [if_pos h2, if_pos (by omega), if_neg (fun h => by omega), if_neg h1]
        have e1 : (⟨#[46]⟩ : ByteArray) ++ bs (behindL c i) = bs ([46] ++ behindL c i) := bs_append [46] _
        rw [e1, text_j2 _ hx _ (by rw [List.length_append, List.length_singleton]; omega) k (by omega), List.append_assoc]
      · obtain rfl : i = 0 := by omega
        rw [if_neg h2, if_pos ⟨rfl, by simpa using h1⟩, text_j2 _ hx _ (by omega) k (by omega)]
        unfold behindL
        rw [if_pos rfl, List.append_nil]
  | succ e ih =>
    intro i k he hi hk
    obtain ⟨k, rfl⟩ : ∃ m, k = m + 1 := ⟨k - 1, by omega⟩
    have hb := behind_len c i
    have hx : c / 10 ^ i < 1000000000000000000 := Nat.lt_of_le_of_lt (Nat.div_le_self ..) hc
    have hd : c / 10 ^ i / 10 = c / 10 ^ (i + 1) := by rw [Nat.div_div_eq_div_mul, Nat.pow_succ]
    rw [remitterref01_Text.l0, if_pos (by omega), Option.bind_some, str_ch, bs_size, bs_size, hb, if_pos (by simp only [List.length_singleton]; omega), bs_append, tdiv_nat _ hx, hd, wrap_ok (by omega) (by omega),
      show [ch (c / 10 ^ i)] ++ behindL c i = behindL c (i + 1) from (behind_succ c i).symm, show ((i : Int) + 1) = ((i + 1 : Nat) : Int) by omega]
    exact ih (i + 1) k (by omega) (by omega) (by omega)
theorem least_same : ∀ (k : Nat) (n : Bool) (c s : Int), remitterref01_Least.l0 k n c s = decimal_Least.l0 k n c s
  | 0, _, _, _ => rfl
  | k + 1, n, c, s => by
    rw [remitterref01_Least.l0, decimal_Least.l0, good_f]
    unfold remitterref01_Good.f
    simp only [Option.bind_some, least_same k]
theorem least_any (n : Bool) (c s : Int) : ∃ v, decimal_Least.f 50 n c s = some v := by
  cases h : goodB n c s
  · refine ⟨(n, c, s), ?_⟩
    unfold decimal_Least.f
    rw [decimal_Least.l0, good_f, h]
    rfl
  · obtain ⟨e1, e2, g⟩ := goodN_of h
    obtain ⟨c2, s2, e, -, -⟩ := least_l0 n s.toNat c.toNat 50 g (by have := g.2.1; omega)
    rw [← e1, ← e2] at e
    exact ⟨_, e⟩
/-- The document's text is the program's. -/
theorem text_ref (n : Bool) (c s : Int) (mt : Bool) : remitterref01_Text.f 50 n c s mt = some (if goodB n c s = true ∧ n = false then (bs (textL c.toNat s.toNat (signL mt) mt), 0) else (bs [], 1)) := by
  unfold remitterref01_Text.f remitterref01_Good.f
  rw [Option.bind_some]
  cases h : goodB n c s
  · rw [if_neg (by decide), if_neg (fun h2 => by cases h2.1), remitterref01_Text.j0, if_pos rfl]
    rfl
  · rw [if_pos rfl]
    cases n
    · obtain ⟨e1, e2, g⟩ := goodN_of h
      rw [if_pos ⟨rfl, rfl⟩, remitterref01_Text.j0, if_neg (by decide)]
      have := text_l0 false mt c.toNat s.toNat g.1 g.2.1 s.toNat 0 49 (by omega) (by omega) (by have := g.2.1; omega)
      rw [Nat.pow_zero, Nat.div_one, ← e1, ← e2] at this
      exact this
    · rw [if_neg (fun h2 => by cases h2.2), remitterref01_Text.j0, if_pos rfl]
      rfl
theorem text_prog (n : Bool) (c s : Int) (mt : Bool) : decimal_text.f n c s (bs (signL mt)) mt = some (if goodB n c s = true ∧ n = false then (bs (textL c.toNat s.toNat (signL mt) mt), 0) else (bs [], 1)) := by
  unfold decimal_text.f
  rw [if_pos (by rw [bs_size]; unfold signL; split <;> decide), bs_data]
  rfl
theorem neg_any (n : Bool) (c s : Int) : decimal_Neg.f n c s = some (if n = true then false else c != 0, c, s) := by
  unfold decimal_Neg.f
  cases n <;> rfl
theorem DecimalTells (n : Bool) (c s : Int) : ∃ k, remitterlaw01_DecimalTells.f k n c s = some true := by
  refine ⟨50, ?_⟩
  obtain ⟨⟨v1, v2, v3⟩, hv⟩ := least_any n c s
  have hv2 : remitterref01_Least.f 50 n c s = some (v1, v2, v3) := (least_same 50 n c s).trans hv
  have h1 : decimal_MT.f n c s = some (if goodB n c s = true ∧ n = false then (bs (textL c.toNat s.toNat (signL true) true), 0) else (bs [], 1)) := by
    unfold decimal_MT.f
    rw [show (⟨#[44]⟩ : ByteArray) = bs (signL true) from rfl, text_prog, Option.bind_some]
  have h2 : decimal_XML.f n c s = some (if goodB n c s = true ∧ n = false then (bs (textL c.toNat s.toNat (signL false) false), 0) else (bs [], 1)) := by
    unfold decimal_XML.f
    rw [show (⟨#[46]⟩ : ByteArray) = bs (signL false) from rfl, text_prog, Option.bind_some]
  have h3 : remitterref01_Good.f n c s = some (goodB n c s) := rfl
  unfold remitterlaw01_DecimalTells.f
  rw [text_ref, text_ref, h1, h2, h3, hv2, hv, good_f, neg_any, wakes_ok]
  simp only [Option.bind_some]
  cases n <;> simp
end Go.Proofs.YtggakekljbgeoaaDoor.Pure

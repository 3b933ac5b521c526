/- What iban.Make makes: its two digits, and the rest of what is made. -/
import Derived.Test.YtjblihfgpbnhbaaDoorPureIbanTells
import Derived.Test.YtjblihfgpbnhbaaDoorGItoa
import Derived.Lib.ItoaNum
namespace Go.Proofs.YtjblihfgpbnhbaaDoor.Pure
open Go.RowKit Go.Proofs.YtjblihfgpbnhbaaDoor.PAll Go.Proofs.YtjblihfgpbnhbaaDoorW.PrintWords Go.Proofs.YtjblihfgpbnhbaaDoorW.PrintLast GPlain GLenP
set_option linter.unusedSimpArgs false

/-- A number's two digits. -/
def ab (v : Nat) : List UInt8 := [UInt8.ofNat (48 + v / 10), UInt8.ofNat (48 + v % 10)]
theorem itoa_ab (v : Nat) (h : v < 100) : Lib.itoa ((100 + v : Nat) : Int) = 49 :: ab v := by
  unfold Lib.itoa ab
  rw [if_neg (by omega), show ((100 + v : Nat) : Int).toNat = 100 + v from rfl, Lib.decDigits, dif_neg (by omega), show (100 + v) / 10 = 10 + v / 10 by omega, Lib.decDigits_two (by omega) (by omega), show (10 + v / 10) / 10 = 1 by omega, show (10 + v / 10) % 10 = v / 10 by omega, show (100 + v) % 10 = v % 10 by omega]
  rfl
def abOk (v : Nat) : Bool := digit (UInt8.ofNat (48 + v / 10)) && digit (UInt8.ofNat (48 + v % 10)) && decide ((UInt8.ofNat (48 + v / 10)).toNat = 48 + v / 10) && decide ((UInt8.ofNat (48 + v % 10)).toNat = 48 + v % 10) && (decide (v < 2) || decide (98 < v) || (!(Op.bytesLess (ab v) [48, 50]) && !(Op.bytesLess [57, 56] (ab v))))
theorem abOk_all : ∀ v : Nat, v < 100 → abOk v = true := by decide +kernel
theorem num_len {c : List UInt8} {n : Int} (h : numOf c = some n) : c.length = 2 := by
  unfold numOf at h
  obtain ⟨p, hp, _⟩ := Option.map_eq_some_iff.1 h
  have he : p.1 = c := by simpa using List.find?_some hp
  have hm := List.mem_of_find?_eq_some hp
  have : (pairs.all fun p => decide (p.1.length = 2)) = true := by decide +kernel
  have := List.all_eq_true.1 this p hm
  rw [he] at this
  simpa using this
theorem digit_bd {c : UInt8} (h : digit c = true) : 48 ≤ c.toNat ∧ c.toNat ≤ 57 := by unfold digit at h; simpa using h
theorem restL_two (P : List UInt8) (a b : UInt8) (ha : digit a = true) (hb : digit b = true) : restL (P ++ [a, b]) = if badL P = true then (0, false) else (((foldV (P.map valB) * 10 + ((a.toNat : Int) - 48)) % 97 * 10 + ((b.toNat : Int) - 48)) % 97, true) := by
  obtain ⟨a1, a2⟩ := digit_bd ha
  obtain ⟨b1, b2⟩ := digit_bd hb
  have va := valB_d a a1 a2
  have vb := valB_d b b1 b2
  have hbad : badL (P ++ [a, b]) = badL P := by
    unfold badL
    rw [List.any_append]
    have : ([a, b].any fun c => decide ((valB c).1 < 0)) = false := by
      simp only [List.any_cons, List.any_nil, va, vb, Bool.or_false, Bool.or_eq_false_iff, decide_eq_false_iff_not]
      omega
    rw [this, Bool.or_false]
  unfold restL
  rw [badL_any, hbad, List.map_append]
  show (if badL P = true then (0, false) else (foldV (P.map valB ++ [valB a, valB b]), true)) = _
  rw [show P.map valB ++ [valB a, valB b] = (P.map valB ++ [valB a]) ++ [valB b] by simp, foldV_snoc, foldV_snoc]
  have hs : ∀ X v : Int, v < 10 → stepV X v = (X * 10 + v) % 97 := fun X v h => by unfold stepV; rw [if_pos h]
  rw [va, vb, hs _ _ (by omega), hs _ _ (by omega)]
theorem foldV_bd2 (P : List UInt8) (h : badL P = false) : 0 ≤ foldV (P.map valB) ∧ foldV (P.map valB) < 97 := by
  refine foldV_bd _ fun x hx => ?_
  obtain ⟨c, hc, rfl⟩ := List.mem_map.1 hx
  have := List.any_eq_false.1 h c hc
  simp at this
  exact this
theorem restF_mid (c m s : List UInt8) (hc : c.length = 2) (hm : m.length = 2) : restF (c ++ m ++ s) = restL ((s ++ c) ++ m) := by
  unfold restF
  rw [if_neg (by simp; omega)]
  have h4 : (c ++ m).length = 4 := by simp [hc, hm]
  have e1 : (c ++ m ++ s).drop 4 = s := by rw [← h4, List.drop_left]
  have e2 : (c ++ m ++ s).take 4 = c ++ m := by rw [← h4, List.take_left]
  rw [e1, e2, List.append_assoc]
/-- The two digits that Make puts in. -/
def mid (c s : List UInt8) : Nat := (98 - (restF (c ++ [48, 48] ++ s)).1).toNat
theorem rest0 (c s : List UInt8) (hc : c.length = 2) (hok : (restF (c ++ [48, 48] ++ s)).2 = true) :
    badL (s ++ c) = false ∧ (restF (c ++ [48, 48] ++ s)).1 = (foldV ((s ++ c).map valB) * 10 % 97 * 10) % 97 := by
  rw [restF_mid c _ s hc rfl, restL_two _ 48 48 rfl rfl] at hok ⊢
  cases hb : badL (s ++ c)
  · rw [if_neg (by simp)]
    refine ⟨rfl, ?_⟩
    show ((foldV _ * 10 + (48 - 48)) % 97 * 10 + (48 - 48)) % 97 = _
    simp
  · rw [hb, if_pos rfl] at hok
    cases hok
theorem made (c s : List UInt8) (n : Int) (hn : numOf c = some n) (hs : (s.length : Int) = n - 4) (hok : (restF (c ++ [48, 48] ++ s)).2 = true) :
    2 ≤ mid c s ∧ mid c s ≤ 98 ∧ (restF (c ++ [48, 48] ++ s)).1 = 98 - (mid c s : Int) ∧ chkF (c ++ ab (mid c s) ++ s) = 0 := by
  have hc := num_len hn
  obtain ⟨hb, hr⟩ := rest0 c s hc hok
  have hbd := foldV_bd2 _ hb
  obtain ⟨X, hX⟩ : ∃ X, foldV ((s ++ c).map valB) = X := ⟨_, rfl⟩
  rw [hX] at hr hbd
  have hm : mid c s = (98 - (X * 10 % 97 * 10) % 97).toNat := by unfold mid; rw [hr]
  have h2 : 2 ≤ mid c s := by rw [hm]; omega
  have h98 : mid c s ≤ 98 := by rw [hm]; omega
  have hrm : (restF (c ++ [48, 48] ++ s)).1 = 98 - (mid c s : Int) := by rw [hr, hm]; omega
  refine ⟨h2, h98, hrm, ?_⟩
  obtain ⟨v, hv⟩ : ∃ v, mid c s = v := ⟨_, rfl⟩
  rw [hv] at h2 h98 hrm ⊢
  rw [hr] at hrm
  have ho := abOk_all v (by omega)
  unfold abOk at ho
  simp only [Bool.and_eq_true, decide_eq_true_eq] at ho
  obtain ⟨⟨⟨⟨d1, d2⟩, t1⟩, t2⟩, _⟩ := ho
  have hl : (c ++ ab v ++ s).length = 4 + s.length := by simp [hc, ab]; omega
  have htake : (c ++ ab v ++ s).take 2 = c := by rw [List.append_assoc, ← hc, List.take_left]
  have g2 : (c ++ ab v ++ s).getD 2 0 = UInt8.ofNat (48 + v / 10) := by
    match c, hc with
    | [x, y], _ => rfl
  have g3 : (c ++ ab v ++ s).getD 3 0 = UInt8.ofNat (48 + v % 10) := by
    match c, hc with
    | [x, y], _ => rfl
  have hR : restF (c ++ ab v ++ s) = (1, true) := by
    rw [restF_mid c _ s hc rfl]
    unfold ab
    rw [restL_two _ _ _ d1 d2, hb, if_neg (by simp), hX, t1, t2]
    congr 1
    omega
  have hL : lenF c = (n, true) := by unfold lenF; rw [hn]
  unfold chkF
  rw [if_neg (by rw [hl]; omega), g2, g3, d1, d2, htake, hL, hR, hl]
  show (if (true && true) = true then (if true = true then (if n = ((4 + s.length : Nat) : Int) then (if true = true then (if (1 : Int) = 1 then 0 else 13) else 13) else 13) else 13) else 13) = (0 : Int)
  have en : n = ((4 + s.length : Nat) : Int) := by omega
  rw [if_pos rfl, if_pos rfl, if_pos en]
  rfl
end Go.Proofs.YtjblihfgpbnhbaaDoor.Pure

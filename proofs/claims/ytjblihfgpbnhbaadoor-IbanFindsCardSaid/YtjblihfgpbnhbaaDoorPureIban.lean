/- The reference of layer 3: what its loops reckon. -/
import Derived.Test.YtjblihfgpbnhbaaDoorPAllx2
import Derived.Test.YtjblihfgpbnhbaaDoorGRest
import Derived.Test.YtjblihfgpbnhbaaDoorGLen
import Derived.Test.YtjblihfgpbnhbaaDoorGDigits
namespace Go.Proofs.YtjblihfgpbnhbaaDoor.Pure
open Go.RowKit Go.Proofs.YtjblihfgpbnhbaaDoor.PAll Go.Proofs.YtjblihfgpbnhbaaDoorW.PrintWords Go.Proofs.YtjblihfgpbnhbaaDoorW.PrintLast GPlain GLenP
set_option linter.unusedSimpArgs false

theorem l2_step (D : List Int) (i : Nat) (hi : i < 1000) : ∀ (c k m : Nat), m / 97 = c → m < 10000 → remitterref03_Rest.l2 (k + c + 1) D (m : Int) (i : Int) = remitterref03_Rest.l1 k D ((m % 97 : Nat) : Int) ((i + 1 : Nat) : Int) := by
  intro c
  induction c with
  | zero =>
    intro k m hm hb
    have h : ¬ (m : Int) ≥ 97 := by omega
    rw [remitterref03_Rest.l2, if_neg h, wrap_ok (by omega) (by omega), show m % 97 = m by omega]
    rfl
  | succ c ih =>
    intro k m hm hb
    have h : (m : Int) ≥ 97 := by omega
    rw [show k + (c + 1) + 1 = (k + c + 1) + 1 by omega, remitterref03_Rest.l2, if_pos h, wrap_ok (by omega) (by omega), show (m : Int) - 97 = ((m - 97 : Nat) : Int) by omega, ih k (m - 97) (by omega) (by omega), show (m - 97) % 97 = m % 97 by omega]
/-- A number's rest, digit by digit. -/
def foldD (D : List Int) (n : Int) : Int := D.foldl (fun n d => (10 * n + d) % 97) n
theorem l1_ok (D : List Int) (hD : ∀ d ∈ D, 0 ≤ d ∧ d ≤ 9) (hl : D.length ≤ 500) (d : Nat) : ∀ (k i n : Nat), D.length - i = d → i ≤ D.length → n < 97 → 12 * d < k → remitterref03_Rest.l1 k D (n : Int) (i : Int) = some (foldD (D.drop i) (n : Int), true) := by
  induction d with
  | zero =>
    intro k i n hd hi hn hk
    obtain ⟨k, rfl⟩ : ∃ k', k = k' + 1 := ⟨k - 1, by omega⟩
    obtain rfl : i = D.length := by omega
    rw [remitterref03_Rest.l1, if_neg (by omega), List.drop_length]
    rfl
  | succ d ih =>
    intro k i n hd hi hn hk
    obtain ⟨k, rfl⟩ : ∃ k', k = k' + 12 := ⟨k - 12, by omega⟩
    have hlt : i < D.length := by omega
    have hx := hD _ (List.getElem_mem hlt)
    have hrd : rd D (i : Int) = D[i] := by
      unfold rd
      rw [List.getD_eq_getElem?_getD, show (i : Int).toNat = i from rfl, List.getElem?_eq_getElem hlt]
      rfl
    obtain ⟨x, hxe⟩ : ∃ x : Nat, D[i] = (x : Int) := ⟨D[i].toNat, by omega⟩
    rw [List.drop_eq_getElem_cons hlt]
    rw [hxe] at hrd hx ⊢
    obtain ⟨c, hc⟩ : ∃ c, (10 * n + x) / 97 = c := ⟨_, rfl⟩
    have hcb : c ≤ 9 := by omega
    rw [remitterref03_Rest.l1, if_pos (by omega), if_pos (by omega), hrd, wrap_ok (x := 10 * (n : Int)) (by omega) (by omega), wrap_ok (by omega) (by omega), show (10 * (n : Int) + (x : Int)) = ((10 * n + x : Nat) : Int) by omega, show k + 11 = (k + 10 - c) + c + 1 by omega,
      l2_step D i (by omega) c (k + 10 - c) _ hc (by omega), ih (k + 10 - c) (i + 1) _ (by omega) (by omega) (by omega) (by omega)]
    show some (foldD _ _, true) = some (foldD _ _, true)
    rw [show (((10 * n + x) % 97 : Nat) : Int) = (10 * (n : Int) + (x : Int)) % 97 by omega]
    rfl
/-- A byte's digits. -/
def digs (c : UInt8) : List Int := if (valB c).1 < 10 then [(valB c).1] else [(valB c).1 / 10, (valB c).1 % 10]
theorem digs_len (c : UInt8) : (digs c).length ≤ 2 := by unfold digs; split <;> simp
theorem digs_ok (c : UInt8) (h : ¬ (valB c).1 < 0) : ∀ d ∈ digs c, 0 ≤ d ∧ d ≤ 9 := by
  have hb := (valB c).2
  unfold digs
  intro d hd
  split at hd
  · simp at hd; omega
  · simp at hd; omega
def badL (l : List UInt8) : Bool := l.any fun c => decide ((valB c).1 < 0)
theorem valB_d (c : UInt8) (h : 48 ≤ c.toNat) (h2 : c.toNat ≤ 57) : (valB c).1 = (c.toNat : Int) - 48 := by unfold valB; rw [dif_pos ⟨h, h2⟩]
theorem valB_l (c : UInt8) (h : 65 ≤ c.toNat) (h2 : c.toNat ≤ 90) : (valB c).1 = (c.toNat : Int) - 65 + 10 := by unfold valB; rw [dif_neg (by omega), dif_pos ⟨h, h2⟩]
theorem valB_n (c : UInt8) (h : ¬ (48 ≤ c.toNat ∧ c.toNat ≤ 57)) (h2 : ¬ (65 ≤ c.toNat ∧ c.toNat ≤ 90)) : (valB c).1 = -1 := by unfold valB; rw [dif_neg h, dif_neg h2]
theorem rest_l0 (l : List UInt8) (hl : l.length ≤ 200) (d : Nat) : ∀ (k q : Nat) (A : List Int), l.length - q = d → q ≤ l.length → A.length ≤ 2 * q → (∀ x ∈ A, 0 ≤ x ∧ x ≤ 9) → 2 * d + 5000 < k →
    remitterref03_Rest.l0 k (bs l) A (q : Int) = some (if badL (l.drop q) = true then (0, false) else (foldD (A ++ (l.drop q).flatMap digs) 0, true)) := by
  induction d with
  | zero =>
    intro k q A hd hq hA hD hk
    obtain ⟨k, rfl⟩ : ∃ k', k = k' + 1 := ⟨k - 1, by omega⟩
    obtain rfl : q = l.length := by omega
    rw [remitterref03_Rest.l0, bs_size, if_neg (by omega), List.drop_length]
    have := l1_ok A hD (by omega) A.length k 0 0 (by omega) (by omega) (by omega) (by omega)
    rw [show remitterref03_Rest.l1 k A 0 0 = _ from this]
    simp [badL]
  | succ d ih =>
    intro k q A hd hq hA hD hk
    obtain ⟨k, rfl⟩ : ∃ k', k = k' + 2 := ⟨k - 2, by omega⟩
    have hlt : q < l.length := by omega
    obtain ⟨c, hc⟩ : ∃ c, l.getD q 0 = c := ⟨_, rfl⟩
    have hdrop : l.drop q = c :: l.drop (q + 1) := by
      rw [List.drop_eq_getElem_cons hlt, ← hc, List.getD_eq_getElem?_getD, List.getElem?_eq_getElem hlt]
      rfl
    have hbt : bt (bs l) (q : Int) = (c.toNat : Int) := by rw [bt_nat, hc]
    have hn := c.toNat_lt
    rw [hdrop]
    rw [remitterref03_Rest.l0, bs_size, if_pos (by omega), if_pos (by omega), hbt]
    have hw : wrap64 ((q : Int) + 1) = ((q + 1 : Nat) : Int) := by rw [wrap_ok (by omega) (by omega)]; rfl
    by_cases hd1 : 48 ≤ c.toNat ∧ c.toNat ≤ 57
    · have hv := valB_d c hd1.1 hd1.2
      have hdg : digs c = [(c.toNat : Int) - 48] := by unfold digs; rw [hv, if_pos (by omega)]
      rw [if_pos (by omega), remitterref03_Rest.j1, if_pos (by simp; omega), if_pos (by omega), bs_size, if_pos (by omega), if_pos (by omega), hbt, hw, show ((c.toNat : Int) - 48) % 256 = (c.toNat : Int) - 48 by omega,
        ih k (q + 1) _ (by omega) (by omega) (by simp; omega) (by intro x hx; rcases List.mem_append.1 hx with hx | hx; exact hD x hx; rw [List.mem_singleton.1 hx]; omega) (by omega)]
      have hb : badL (c :: l.drop (q + 1)) = badL (l.drop (q + 1)) := by unfold badL; rw [List.any_cons, hv, decide_eq_false (by omega)]; rfl
      rw [hb, List.flatMap_cons, hdg, List.append_assoc]
    · have hj : remitterref03_Rest.l0 (k + 2) (bs l) A (q : Int) = remitterref03_Rest.j1 (k + 1) (bs l) A (q : Int) false := by
        rw [remitterref03_Rest.l0, bs_size, if_pos (by omega), if_pos (by omega), hbt]
        by_cases h48 : (c.toNat : Int) ≥ 48
        · rw [if_pos h48, decide_eq_false (by omega)]
        · rw [if_neg h48]
      rw [remitterref03_Rest.l0, bs_size, if_pos (by omega), if_pos (by omega), hbt] at hj
      rw [hj, remitterref03_Rest.j1, if_neg (by simp), if_pos (by omega), bs_size, if_pos (by omega), hbt]
      by_cases h2 : 65 ≤ c.toNat ∧ c.toNat ≤ 90
      · have hv := valB_l c h2.1 h2.2
        have hdg : digs c = [((c.toNat : Int) - 65 + 10) / 10, ((c.toNat : Int) - 65 + 10) % 10] := by unfold digs; rw [hv, if_neg (by omega)]
        rw [if_pos (by omega), if_pos (by omega), Option.bind_some, show ((c.toNat : Int) - 65) % 256 = (c.toNat : Int) - 65 by omega, if_pos (by simp; omega), hw,
          ih k (q + 1) _ (by omega) (by omega) (by simp; omega) (by intro x hx; rcases List.mem_append.1 hx with hx | hx; exact hD x hx; simp at hx; omega) (by omega)]
        have hb : badL (c :: l.drop (q + 1)) = badL (l.drop (q + 1)) := by unfold badL; rw [List.any_cons, hv, decide_eq_false (by omega)]; rfl
        rw [hb, List.flatMap_cons, hdg, List.append_assoc]
      · have hv := valB_n c hd1 h2
        have hb : badL (c :: l.drop (q + 1)) = true := by unfold badL; rw [List.any_cons, hv]; rfl
        rw [hb, if_pos rfl]
        by_cases h65 : (c.toNat : Int) ≥ 65
        · rw [if_pos h65, if_neg (by omega)]
        · rw [if_neg h65]
theorem foldD_V : ∀ (l : List UInt8) (n : Int), 0 ≤ n → n < 97 → badL l = false → foldD (l.flatMap digs) n = (l.map valB).foldl (fun n x => stepV n x.1) n
  | [], _, _, _, _ => rfl
  | c :: l, n, h0, h1, hb => by
    unfold badL at hb
    rw [List.any_cons, Bool.or_eq_false_iff] at hb
    have hv := (valB c).2
    have hnn : ¬ (valB c).1 < 0 := of_decide_eq_false hb.1
    have hs : foldD (digs c) n = stepV n (valB c).1 := by
      unfold digs stepV
      split
      · show (10 * n + (valB c).1) % 97 = _
        rw [Int.mul_comm]
      · show (10 * ((10 * n + (valB c).1 / 10) % 97) + (valB c).1 % 10) % 97 = _
        omega
    have hbd := stepV_bd (n := n) (v := (valB c).1) ⟨h0, h1⟩ (by omega)
    rw [List.flatMap_cons]
    unfold foldD at hs ⊢
    rw [List.foldl_append, hs, List.map_cons, List.foldl_cons]
    exact foldD_V l _ hbd.1 hbd.2 hb.2
/-- What Rest tells. -/
def restF (l : List UInt8) : Int × Bool := if l.length < 4 then (0, false) else restL (l.drop 4 ++ l.take 4)
theorem badL_any (l : List UInt8) : (l.map valB).any (fun x => decide (x.1 < 0)) = badL l := by unfold badL; rw [List.any_map]; rfl
theorem rest_f (l : List UInt8) (hl : l.length ≤ 200) (k : Nat) (hk : 6000 ≤ k) : remitterref03_Rest.f k (bs l) = some (restF l) := by
  unfold remitterref03_Rest.f restF
  rw [bs_size]
  by_cases h4 : l.length < 4
  · rw [if_pos (by omega), if_pos h4]
  · have hex : (bs l).extract 4 l.length ++ (bs l).extract 0 4 = bs (l.drop 4 ++ l.take 4) := by rw [bs_extract, bs_extract, bs_append, List.take_length]; rfl
    have hsz : ((bs l).extract 4 l.length).size + ((bs l).extract 0 4).size ≤ 9223372036854775807 := by rw [ByteArray.size_extract, ByteArray.size_extract, bs_size]; omega
    rw [if_neg (by omega), if_neg h4, if_pos (by omega), if_pos (by omega), if_pos hsz, hex]
    obtain ⟨t, ht⟩ : ∃ t, l.drop 4 ++ l.take 4 = t := ⟨_, rfl⟩
    have htl : t.length = l.length := by rw [← ht, List.length_append, List.length_drop, List.length_take]; omega
    rw [ht]
    have := rest_l0 t (by omega) t.length k 0 [] (by omega) (by omega) (by simp) (by simp) (by omega)
    rw [show remitterref03_Rest.l0 k (bs t) [] 0 = _ from this, List.drop_zero, List.nil_append]
    congr 1
    unfold restL
    rw [badL_any]
    cases hb : badL t
    · rw [if_neg (by simp), if_neg (by simp), foldD_V t 0 (by omega) (by omega) hb]
      rfl
    · rfl
theorem rest_i (l : List UInt8) (hl : l.length ≤ 1048576) : iban_Rest.f (bs l) = some (restF l) := by
  unfold iban_Rest.f restF
  rw [bs_size, bs_data, if_pos hl]
end Go.Proofs.YtjblihfgpbnhbaaDoor.Pure

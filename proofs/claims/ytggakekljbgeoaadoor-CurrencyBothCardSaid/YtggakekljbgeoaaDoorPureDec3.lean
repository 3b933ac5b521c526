/- Plain law: a number's texts are read as it. -/
import Derived.Test.YtggakekljbgeoaaDoorGText
import Derived.Test.YtggakekljbgeoaaDoorPureDec1
namespace Go.Proofs.YtggakekljbgeoaaDoor.Pure
open Go.RowKit Go.Proofs.YtggakekljbgeoaaDoor.PAll GPlain
set_option linter.unusedSimpArgs false

theorem valI_app (xs ys : List Int) (n : Int) : valI (xs ++ ys) n = valI ys (valI xs n) := List.foldl_append ..
theorem digs_app (a b : List UInt8) : digs (a ++ b) = digs a ++ digs b := List.map_append ..
theorem dig_of {d : Nat} (h : d < 10) : (UInt8.ofNat (48 + d)).toNat = 48 + d := by
  rw [UInt8.toNat_ofNat']; omega
theorem digs_one {d : Nat} (h : d < 10) : digs [UInt8.ofNat (48 + d)] = [(d : Int)] := by
  unfold digs
  rw [List.map_singleton, dig_of h]
  congr 1
  omega
theorem digB_of {d : Nat} (h : d < 10) : digB (UInt8.ofNat (48 + d)) = true := by
  unfold digB
  rw [dig_of h, decide_eq_true (by omega), decide_eq_true (by omega)]
  rfl
theorem dec_val (u : Nat) : ∀ n : Int, valI (digs (Lib.decDigits u)) n = n * 10 ^ (Lib.decDigits u).length + u := by
  induction u using Nat.strongRecOn with
  | _ u ih =>
    intro n
    by_cases h : u < 10
    · rw [Lib.decDigits, dif_pos h, digs_one h]
      simp [valI]
      omega
    · have e : Lib.decDigits u = Lib.decDigits (u / 10) ++ [UInt8.ofNat (48 + u % 10)] := by rw [Lib.decDigits, dif_neg h]
      rw [e, digs_app, valI_app, ih (u / 10) (by omega), digs_one (by omega), List.length_append, List.length_singleton, Int.pow_succ]
      have e2 : valI [((u % 10 : Nat) : Int)] (n * 10 ^ (Lib.decDigits (u / 10)).length + ((u / 10 : Nat) : Int)) = 10 * (n * 10 ^ (Lib.decDigits (u / 10)).length + ((u / 10 : Nat) : Int)) + ((u % 10 : Nat) : Int) := rfl
      rw [e2, ← Int.mul_assoc]
      generalize n * 10 ^ (Lib.decDigits (u / 10)).length = x
      omega
theorem dec_all (u : Nat) : (Lib.decDigits u).all digB = true := by
  induction u using Nat.strongRecOn with
  | _ u ih =>
    rw [Lib.decDigits]
    by_cases h : u < 10
    · rw [dif_pos h, List.all_cons, digB_of h]
      rfl
    · rw [dif_neg h, List.all_append, ih (u / 10) (by omega), List.all_cons, digB_of (show u % 10 < 10 by omega)]
      rfl
theorem dec_ne (u : Nat) : Lib.decDigits u ≠ [] := by
  rw [Lib.decDigits]
  split
  · simp
  · simp
theorem zeros_val : ∀ (k : Nat) (n : Int), valI (digs (List.replicate k 48)) n = n * 10 ^ k
  | 0, n => by simp [digs, valI]
  | k + 1, n => by
    have h := zeros_val k (10 * n + 0)
    have e : valI (digs (List.replicate (k + 1) 48)) n = valI (digs (List.replicate k 48)) (10 * n + 0) := rfl
    rw [e, h, Int.pow_succ, Int.add_zero, Int.mul_comm 10 n, Int.mul_assoc, Int.mul_comm 10 (10 ^ k)]
theorem zeros_all (k : Nat) : (List.replicate k (48 : UInt8)).all digB = true := by
  rw [List.all_eq_true]
  intro x hx
  rw [List.eq_of_mem_replicate hx]
  rfl
theorem behind_len (c s : Nat) : (behindL c s).length = s := by
  unfold behindL
  split
  · rename_i h; rw [h]; rfl
  · rename_i h
    obtain ⟨k, rfl⟩ : ∃ k, s = k + 1 := ⟨s - 1, by omega⟩
    have := digits_len10 k (c % 10 ^ (k + 1)) (Nat.mod_lt _ (Nat.pow_pos (by decide)))
    rw [List.length_append, List.length_replicate]
    omega
theorem behind_all (c s : Nat) : (behindL c s).all digB = true := by
  unfold behindL
  split
  · rfl
  · rw [List.all_append, zeros_all, dec_all]
    rfl
theorem behind_val (c s : Nat) (n : Int) : valI (digs (behindL c s)) n = n * 10 ^ s + ((c % 10 ^ s : Nat) : Int) := by
  have hl := behind_len c s
  by_cases h : s = 0
  · subst h
    unfold behindL
    rw [if_pos rfl]
    simp [digs, valI, Nat.mod_one]
  · unfold behindL at hl ⊢
    rw [if_neg h] at hl ⊢
    rw [List.length_append, List.length_replicate] at hl
    rw [digs_app, valI_app, zeros_val, dec_val, Int.mul_assoc, ← Int.pow_add, hl]
theorem whole_val (c s : Nat) : valI (digs (Lib.decDigits (c / 10 ^ s) ++ behindL c s)) 0 = (c : Int) := by
  rw [digs_app, valI_app, dec_val, behind_val, Int.zero_mul, Int.zero_add]
  have h := Nat.div_add_mod c (10 ^ s)
  have e : ((10 : Int) ^ s) = ((10 ^ s : Nat) : Int) := by simp
  rw [e, ← Int.natCast_mul, ← Int.natCast_add, Nat.mul_comm, h]
theorem not_dig {c : UInt8} {l : List UInt8} (hl : l.all digB = true) (hc : digB c = false) : c ∉ l := fun h => by
  rw [List.all_eq_true.1 hl c h] at hc
  cases hc
theorem readN_text {c s : Nat} (hc : c < 1000000000000000000) (hs : s ≤ 5) : readN (Lib.decDigits (c / 10 ^ s)) (behindL c s) = (false, (c : Int), (s : Int), 0) := by
  unfold readN
  rw [List.all_append, dec_all, behind_all, if_neg (by decide), if_neg (dec_ne _), whole_val, behind_len, if_neg (by omega)]
theorem text_mt {c s : Nat} (hc : c < 1000000000000000000) (hs : s ≤ 5) : readMT (textL c s [44] true) = (false, (c : Int), (s : Int), 0) := by
  have e : textL c s [44] true = Lib.decDigits (c / 10 ^ s) ++ 44 :: behindL c s := by
    unfold textL
    rw [if_neg (fun h => by cases h.2), List.append_assoc]
    rfl
  unfold readMT
  rw [e, cutC_mid (not_dig (dec_all _) rfl), if_pos rfl]
  exact readN_text hc hs
theorem text_xml {c s : Nat} (hc : c < 1000000000000000000) (hs : s ≤ 5) : readXML (textL c s [46] false) = (false, (c : Int), (s : Int), 0) := by
  unfold readXML
  by_cases h0 : s = 0
  · subst h0
    have e : textL c 0 [46] false = Lib.decDigits (c / 10 ^ 0) := by
      unfold textL
      rw [if_pos ⟨rfl, rfl⟩]
    rw [e, cutC_none (not_dig (dec_all _) rfl), if_neg (fun h => by cases h.1)]
    exact readN_text hc hs
  · have e : textL c s [46] false = Lib.decDigits (c / 10 ^ s) ++ 46 :: behindL c s := by
      unfold textL
      rw [if_neg (fun h => h0 h.1), List.append_assoc]
      rfl
    have hb : behindL c s ≠ [] := fun h => by
      have := behind_len c s
      rw [h] at this
      exact h0 this.symm
    rw [e, cutC_mid (not_dig (dec_all _) rfl), if_neg (fun h => hb h.2)]
    exact readN_text hc hs
theorem text_mt_len (c s : Nat) : (textL c s [44] true).length = (Lib.decDigits (c / 10 ^ s)).length + 1 + s := by
  unfold textL
  rw [if_neg (fun h => by cases h.2), List.length_append, List.length_append, behind_len]
  rfl
end Go.Proofs.YtggakekljbgeoaaDoor.Pure

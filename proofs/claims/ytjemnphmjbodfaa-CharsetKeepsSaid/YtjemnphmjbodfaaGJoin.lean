/- The contract of charset.Join, by hand: strings.Join without a separator. -/
import Derived.Test.YtjemnphmjbodfaaShelf
import Derived.Test.YtjemnphmjbodfaaWMore
import Derived.Test.YtjemnphmjbodfaaGPlain
import Derived.WalkKit
import Derived.Lib.Hide
namespace Go.Proofs.Ytjemnphmjbodfaa.PAll
open Go.RowKit Go.Proofs.YtjemnphmjbodfaaW.PrintWords GPlain
set_option linter.unusedSimpArgs false

def joinL (l : List ByteArray) : List UInt8 := (l.map (·.data.toList)).flatten
theorem join_nil : ∀ (l : List (List UInt8)), Lib.join l [] = l.flatten
  | [] => rfl
  | [a] => by simp [Lib.join]
  | a :: b :: r => by
    have := join_nil (b :: r)
    simp [Lib.join] at this ⊢
    exact this
/-- A read row of texts: its address is a plain one. -/
theorem reads_strs {w : World} {A : Option Addr} {n : Nat} {xs : List ByteArray} (h : Kd.string.C w A n xs) (hn : 0 < n) : ∃ b o, A = some ⟨b, o, none⟩ ∧ b < w.heap.size ∧ ∀ (j : Nat) x, xs[j]? = some x → w.cell? ⟨b, o + j, none⟩ = some (.string x) := by
  have hr := Kd.reads_of_C (d := ByteArray.empty) h
  obtain ⟨ad, rfl, hc⟩ := hr.2.2 hn
  have h0 := hc 0 hn
  have hspot : ad.spot = none := by
    cases hs : ad.spot with
    | none => rfl
    | some s =>
      rw [show ad.add 0 = ad by simp [Addr.add]] at h0
      unfold World.cell? at h0
      split at h0
      · rw [hs] at h0
        simp at h0
      · cases h0
  obtain ⟨b, o, sp⟩ := ad
  simp only at hspot
  subst hspot
  have hlt : b < w.heap.size := by
    have := World.block_lt_of_cell? w _ h0
    simpa [Addr.add] using this
  refine ⟨b, o, rfl, hlt, fun j x hj => ?_⟩
  have hjn : j < n := by
    rw [← hr.1]
    exact (List.getElem?_eq_some_iff.1 hj).1
  have := hc j hjn
  have ha : (⟨b, o, none⟩ : Addr).add j = ⟨b, o + j, none⟩ := by unfold Addr.add; split <;> simp_all
  rw [ha] at this
  rw [this, List.getD_eq_getElem?_getD, hj]
  rfl

/-- charset.Join: all of them, one behind the other. -/
def charset_Join.f (l0 : List ByteArray) : Option (ByteArray) := if l0.length ≤ 140737488355328 then if (joinL l0).length ≤ 140737488355328 then some (bs (joinL l0)) else none else none
theorem charset_Join.calls (A0 : Option Addr) (c0 : Nat) (l0 : List ByteArray) (r : ByteArray) (w : World) (hr0 : Kd.C Kd.string w A0 l0.length l0) (hc0 : l0.length ≤ c0) (h : charset_Join.f l0 = some r) :
    Calls Try.prog 24 #[.slice A0 l0.length c0] w fun e w' => e = .returned (.string r) ∧ Below w.heap.size w w' := by
  unfold charset_Join.f at h
  by_cases h1 : l0.length ≤ 140737488355328
  · rw [if_pos h1] at h
    by_cases h2 : (joinL l0).length ≤ 140737488355328
    · rw [if_pos h2] at h
      obtain rfl := Option.some.inj h
      clear h
      by_cases hn : 0 < l0.length
      · obtain ⟨b, o, rfl, hlt, hcells⟩ := reads_strs hr0 hn
        have e : Lib.join (l0.map (·.data.toList)) ([] : List UInt8) = joinL l0 := join_nil _
        have hJ := Try.strings_Join b o c0 l0 ⟨#[]⟩ w hcells hlt h1 hc0 (by show (Lib.join (l0.map (·.data.toList)) ([] : List UInt8)).length ≤ _; rw [e]; exact h2)
        have HJ : Hid (Calls Try.prog 36 #[.slice (some ⟨b, o, none⟩) l0.length c0, .string ⟨#[]⟩] w fun e w' => e = .returned (.string (bs (joinL l0))) ∧ Below w.heap.size w w') := Lib.hid (hJ.mono fun e' w' hh => ⟨by rw [hh.1]; unfold bs; rw [← e], hh.2⟩)
        clear hJ hcells hr0 e
        go_enter Try.func24, Try.ntmps24
        go_wp2_with (go_at_call 36; refine (HJ.out).mono ?_; rintro e w' ⟨rfl, hb⟩)
        go_ret
        exact ⟨rfl, hb⟩
      · have e0 : l0 = [] := List.eq_nil_of_length_eq_zero (by omega)
        subst e0
        clear hr0
        go_enter Try.func24, Try.ntmps24
        go_wp2_with (go_at_call 36; refine (Try.strings_Join_none A0 c0 ⟨#[]⟩ w).mono ?_; rintro e w' ⟨rfl, rfl⟩)
        go_ret
        exact ⟨rfl, Below.refl _ _⟩
    · rw [if_neg h2] at h
      cases h
  · rw [if_neg h1] at h
    cases h
end Go.Proofs.Ytjemnphmjbodfaa.PAll

/- The lengths of the countries' numbers: the table and what it says. -/
import Derived.Test.YtjblihfgpbnhbaaDoorGPlain
import Derived.Lib.Fields
namespace Go.Proofs.YtjblihfgpbnhbaaDoor.GLenP
open GPlain
/-- The words at a number. -/
def wordsI : List (Int × List UInt8) := [(15, [78, 79]), (16, [66, 69]), (18, [68, 75, 32, 70, 73, 32, 78, 76]), (19, [77, 75, 32, 83, 73]), (20, [65, 84, 32, 66, 65, 32, 69, 69, 32, 76, 84, 32, 76, 85]), (21, [67, 72, 32, 72, 82, 32, 76, 73, 32, 76, 86]), (22, [66, 71, 32, 68, 69, 32, 71, 66, 32, 71, 69, 32, 73, 69, 32, 77, 69, 32, 82, 83]), (23, [65, 69, 32, 71, 73, 32, 73, 76]), (24, [65, 68, 32, 67, 90, 32, 69, 83, 32, 77, 68, 32, 80, 75, 32, 82, 79, 32, 83, 65, 32, 83, 69, 32, 83, 75, 32, 84, 78]), (25, [80, 84]), (26, [73, 83, 32, 84, 82]), (27, [70, 82, 32, 71, 82, 32, 73, 84, 32, 77, 67, 32, 83, 77]), (28, [65, 76, 32, 65, 90, 32, 67, 89, 32, 68, 79, 32, 72, 85, 32, 76, 66, 32, 80, 76]), (29, [66, 82])]
/-- The words as the map holds them: the one put last stands first. -/
def wordsR : List (Int × List UInt8) := wordsI.reverse
/-- Each country with its length. -/
def pairs : List (List UInt8 × Int) := wordsI.flatMap fun e => (Lib.fields e.2).map fun c => (c, e.1)
/-- A country's length. -/
def numOf (c : List UInt8) : Option Int := (pairs.find? fun p => p.1 == c).map (·.2)
def wordAt : List (Int × List UInt8) → Int → Option (List UInt8)
  | [], _ => none
  | (k, l) :: r, n => if n = k then some l else wordAt r n
theorem wordAt_mem {n : Int} {l : List UInt8} : ∀ {L : List (Int × List UInt8)}, wordAt L n = some l → (n, l) ∈ L
  | (k, m) :: r, h => by
    unfold wordAt at h
    by_cases e : n = k
    · subst e
      rw [if_pos rfl] at h
      obtain rfl := Option.some.inj h
      exact List.mem_cons_self
    · rw [if_neg e] at h
      exact List.mem_cons_of_mem _ (wordAt_mem h)
theorem fwd_all : (wordsR.all fun e => (Lib.fields e.2).all fun c => numOf c == some e.1) = true := by decide +kernel
theorem bwd_all : (pairs.all fun p => wordsR.all fun e => e.1 != p.2 || (Lib.fields e.2).contains p.1) = true := by decide +kernel
theorem len_all : (wordsR.all fun e => decide ((Lib.fields e.2).length ≤ 10) && decide (e.2.length ≤ 100) && decide (-100 ≤ e.1) && decide (e.1 ≤ 100) && (e.2.all fun b => decide (b.toNat < 128)) && ((Lib.fields e.2).all fun c => decide (c.length ≤ 100))) = true := by decide +kernel
theorem numOf_of_mem {n : Int} {l c : List UInt8} (h : wordAt wordsR n = some l) (hc : c ∈ Lib.fields l) : numOf c = some n := by
  have := List.all_eq_true.1 (List.all_eq_true.1 fwd_all _ (wordAt_mem h)) c hc
  simpa using this
theorem mem_of_numOf {n : Int} {l c : List UInt8} (h : wordAt wordsR n = some l) (hn : numOf c = some n) : c ∈ Lib.fields l := by
  unfold numOf at hn
  obtain ⟨p, hp, rfl⟩ := Option.map_eq_some_iff.1 hn
  have hm := List.mem_of_find?_eq_some hp
  have he := List.find?_some hp
  have e : p.1 = c := by simpa using he
  have := List.all_eq_true.1 (List.all_eq_true.1 bwd_all p hm) _ (wordAt_mem h)
  rw [e] at this
  simpa using this
theorem words_small {n : Int} {l : List UInt8} (h : wordAt wordsR n = some l) : (Lib.fields l).length ≤ 10 ∧ l.length ≤ 100 ∧ -100 ≤ n ∧ n ≤ 100 ∧ (∀ (j : Nat) b, l[j]? = some b → b.toNat < 128) ∧ ∀ c ∈ Lib.fields l, c.length ≤ 100 := by
  have := List.all_eq_true.1 len_all _ (wordAt_mem h)
  simp only [Bool.and_eq_true, decide_eq_true_eq, List.all_eq_true] at this
  obtain ⟨⟨⟨⟨⟨h1, h2⟩, h3⟩, h4⟩, h5⟩, h6⟩ := this
  exact ⟨h1, h2, h3, h4, fun j b hj => h5 b (List.mem_of_getElem? hj), h6⟩
theorem numOf_bd {n : Int} {c : List UInt8} (hn : numOf c = some n) : 15 ≤ n ∧ n ≤ 29 := by
  unfold numOf at hn
  obtain ⟨p, hp, rfl⟩ := Option.map_eq_some_iff.1 hn
  have hm := List.mem_of_find?_eq_some hp
  have : (pairs.all fun p => decide (15 ≤ p.2) && decide (p.2 ≤ 29)) = true := by decide +kernel
  have := List.all_eq_true.1 this p hm
  simpa using this
end Go.Proofs.YtjblihfgpbnhbaaDoor.GLenP

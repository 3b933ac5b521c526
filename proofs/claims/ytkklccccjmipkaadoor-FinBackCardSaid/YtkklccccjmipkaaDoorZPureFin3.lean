/- The document's answer for messages: the first fault, the rest, the whole. -/
import Derived.Test.YtkklccccjmipkaaDoorZPureFin2
import Derived.Test.YtkklccccjmipkaaDoorZPFReadsx4
import Derived.Test.YtkklccccjmipkaaDoorZFChain
namespace Go.Proofs.YtkklccccjmipkaaDoor.Pure
open Go.RowKit Go.Proofs.YtkklccccjmipkaaDoor.PAll Go.Proofs.YtkklccccjmipkaaDoorW.PrintWords GPlain
open Go.Proofs.YtkklccccjmipkaaDoor.Fin
set_option linter.unusedSimpArgs false
/-- What is handed back. -/
def F7 (n : Nat) (r : Bool × FS) : ByteArray × ByteArray × ByteArray × ByteArray × ByteArray × Int × Int :=
  if r.1 = true then (r.2.se, r.2.ki, r.2.re, r.2.ue, r.2.bo, (n : Int), 0) else ((⟨#[]⟩ : ByteArray), (⟨#[]⟩ : ByteArray), (⟨#[]⟩ : ByteArray), (⟨#[]⟩ : ByteArray), (⟨#[]⟩ : ByteArray), (r.2.at_ : Int), 30)
theorem runS_c (f : Go.Proofs.YtkklccccjmipkaaDoor.Fin.Sem) (r : List Go.Proofs.YtkklccccjmipkaaDoor.Fin.Sem) (st : FS) : runS (f :: r) st = if (f st).1 = true then runS r (f st).2 else (false, (f st).2) := rfl
theorem runS_one (f : Go.Proofs.YtkklccccjmipkaaDoor.Fin.Sem) (st : FS) : runS [f] st = f st := by
  rw [runS_c]
  obtain ⟨p, hp⟩ : ∃ p, f st = p := ⟨_, rfl⟩
  rw [hp]
  obtain ⟨b, q⟩ := p
  cases b <;> rfl
section
variable (L : List UInt8) (hL : L.length ≤ 4000)
include hL
theorem text_s (t : ByteArray) (st : FS) (k : Nat) (ht : t.size ≤ 100) (ha : st.at_ ≤ L.length) (hk : 200 ≤ k) :
    remitterref14_text.f k (bs L) (st.at_ : Int) t = some (((textS (bs L) t st).2.at_ : Int), (textS (bs L) t st).1) := by
  obtain ⟨t, rfl⟩ := bs_ex t
  rw [bs_size] at ht
  rw [text_f L t st.at_ k hL ht ha hk]
  unfold textS
  simp only [bs_data, bs_size]
omit hL in
theorem text_at (t : ByteArray) (st : FS) (ha : st.at_ ≤ L.length) : (textS (bs L) t st).2.at_ ≤ L.length := by
  unfold textS
  simp only [bs_data]
  have := (com_le (L.drop st.at_) t.data.toList).1
  rw [List.length_drop] at this
  omega
theorem some_s (N : Nat) (b : Bool) (put : FS → ByteArray → FS) (hput : ∀ st v, (put st v).at_ = st.at_) (st : FS) (k : Nat) (hN : N ≤ 100) (ha : st.at_ ≤ L.length) (hk : 200 ≤ k) :
    remitterref14_some.f k (bs L) (st.at_ : Int) (N : Int) b = some (((someS (bs L) N (bs (setL b)) put st).2.at_ : Int), (someS (bs L) N (bs (setL b)) put st).1) := by
  rw [some_f L st.at_ N k b hL hN ha hk]
  unfold someS
  simp only [bs_data]
  by_cases h : cnt (setL b) N (L.drop st.at_) = N
  · rw [if_pos h, decide_eq_true h, h, hput]
  · rw [if_neg h, decide_eq_false h]
omit hL in
theorem some_at (N : Nat) (set : ByteArray) (put : FS → ByteArray → FS) (hput : ∀ st v, (put st v).at_ = st.at_) (st : FS) (ha : st.at_ ≤ L.length) : (someS (bs L) N set put st).2.at_ ≤ L.length := by
  unfold someS
  simp only [bs_data]
  have := (cnt_le set.data.toList N (L.drop st.at_)).2
  rw [List.length_drop] at this
  split
  · rename_i h
    rw [hput]
    show st.at_ + N ≤ _
    omega
  · show st.at_ + _ ≤ _
    omega
omit hL in
theorem j5_f (b : Bool) (st : FS) (k : Nat) : remitterref14_rest.j5 (k + 1) (bs L) (st.at_ : Int) b st.se st.ki st.re st.ue st.bo = some (F7 L.length (if b = true then runS [endS (bs L)] st else (false, st))) := by
  rw [remitterref14_rest.j5]
  rw [bs_size]
  cases b
  · rfl
  · rw [if_pos rfl, if_pos rfl]
    have e : runS [endS (bs L)] st = (decide (st.at_ = L.length), st) := by
      rw [runS_c]
      unfold endS
      rw [bs_size]
      by_cases h : st.at_ = L.length
      · rw [decide_eq_true h, if_pos rfl]; rfl
      · rw [decide_eq_false h]; rfl
    rw [e]
    by_cases h : st.at_ = L.length
    · rw [if_pos (by omega), decide_eq_true h, h]; rfl
    · rw [if_neg (by omega), decide_eq_false h]; rfl
theorem j4_f (b : Bool) (st : FS) (k : Nat) (ha : st.at_ ≤ L.length) (hk : 300 ≤ k) : remitterref14_rest.j4 (k + 1) (bs L) (st.at_ : Int) b st.se st.ki st.re st.ue st.bo = some (F7 L.length (if b = true then runS [textS (bs L) ⟨#[125, 125]⟩, endS (bs L)] st else (false, st))) := by
  obtain ⟨k, rfl⟩ : ∃ k', k = k' + 1 := ⟨k - 1, by omega⟩
  rw [remitterref14_rest.j4]
  cases b
  · rw [if_neg (by decide)]
    exact j5_f L false st k
  · rw [if_pos rfl, if_pos rfl, text_s L hL _ st (k + 1) (by decide) ha (by omega), Option.bind_some, runS_c]
    exact j5_f L _ (textS (bs L) ⟨#[125, 125]⟩ st).2 k
omit hL in
theorem brace_s (st : FS) (ha : st.at_ ≤ L.length) : com (L.drop st.at_) [123] = 1 ↔ st.at_ < L.length ∧ (L.getD st.at_ 0).toNat = 123 := by
  by_cases h : st.at_ < L.length
  · rw [drop_at h, getD_at h]
    have e : com (L[st.at_] :: L.drop (st.at_ + 1)) [123] = if L[st.at_] = 123 then com (L.drop (st.at_ + 1)) [] + 1 else 0 := rfl
    rw [e, com_end]
    by_cases hc : L[st.at_] = 123
    · rw [if_pos hc, hc]; simp [h]
    · rw [if_neg hc]
      constructor
      · intro h; omega
      · intro h2; exact absurd (UInt8.toNat_inj.1 (by rw [h2.2]; rfl)) hc
  · rw [List.drop_of_length_le (by omega)]
    constructor
    · intro h; cases h
    · intro h2; exact absurd h2.1 h
def lastL : List Go.Proofs.YtkklccccjmipkaaDoor.Fin.Sem := [textS (bs L) ⟨#[123, 53, 58, 123, 67, 72, 75, 58]⟩, someS (bs L) 12 ⟨#[48, 49, 50, 51, 52, 53, 54, 55, 56, 57, 65, 66, 67, 68, 69, 70]⟩ (fun st v => { st with ck := v }), textS (bs L) ⟨#[125, 125]⟩]
theorem j3_f (st : FS) (k : Nat) (ha : st.at_ ≤ L.length) (hk : 400 ≤ k) (x : Bool) (hx : x = decide (com (L.drop st.at_) [123] = 1)) :
    remitterref14_rest.j3 (k + 1) (bs L) (st.at_ : Int) x st.se st.ki st.re st.ue st.bo = some (F7 L.length (runS [maybeS (bs L) ⟨#[123]⟩ (lastL L), endS (bs L)] st)) := by
  obtain ⟨k, rfl⟩ : ∃ k', k = k' + 1 := ⟨k - 1, by omega⟩
  have em : maybeS (bs L) ⟨#[123]⟩ (lastL L) st = if x = true then runS (lastL L) st else (true, st) := by
    unfold maybeS
    simp only [bs_data]
    rw [hx]
    by_cases h : com (L.drop st.at_) [123] = 1
    · rw [if_pos (show com (L.drop st.at_) (⟨#[123]⟩ : ByteArray).data.toList = (⟨#[123]⟩ : ByteArray).size from h), decide_eq_true h, if_pos rfl]
    · rw [if_neg (show ¬ com (L.drop st.at_) (⟨#[123]⟩ : ByteArray).data.toList = (⟨#[123]⟩ : ByteArray).size from h), decide_eq_false h, if_neg (by decide)]
  rw [runS_c, em]
  rw [remitterref14_rest.j3]
  cases x
  · simp only [Bool.false_eq_true, ↓reduceIte]
    have h := j5_f L true st k
    rw [if_pos rfl] at h
    rw [← h]
    rw [remitterref14_rest.j5]
    rw [if_pos rfl]
  · rw [if_pos rfl, if_pos rfl, text_s L hL _ st (k + 1) (by decide) ha (by omega), Option.bind_some]
    unfold lastL
    rw [runS_c]
    obtain ⟨p, hp⟩ : ∃ p, textS (bs L) ⟨#[123, 53, 58, 123, 67, 72, 75, 58]⟩ st = p := ⟨_, rfl⟩
    have hpa : p.2.at_ ≤ L.length := by rw [← hp]; exact text_at L _ st ha
    have f1 : p.2.se = st.se ∧ p.2.ki = st.ki ∧ p.2.re = st.re ∧ p.2.ue = st.ue ∧ p.2.bo = st.bo := by rw [← hp]; exact ⟨rfl, rfl, rfl, rfl, rfl⟩
    rw [hp]
    obtain ⟨b, st1⟩ := p
    dsimp only at hpa f1 ⊢
    rw [← f1.1, ← f1.2.1, ← f1.2.2.1, ← f1.2.2.2.1, ← f1.2.2.2.2]
    cases b
    · simp only [Bool.false_eq_true, ↓reduceIte]
      have h := j4_f L hL false st1 k hpa (by omega)
      rw [if_neg (by decide)] at h
      exact h
    · rw [if_pos rfl, if_pos rfl]
      have hs := some_s L hL 12 true (fun st v => { st with ck := v }) (fun _ _ => rfl) st1 (k + 1) (by omega) hpa (by omega)
      have e12 : ((12 : Nat) : Int) = 12 := rfl
      rw [e12] at hs
      rw [hs, Option.bind_some, runS_c]
      have e : bs (setL true) = (⟨#[48, 49, 50, 51, 52, 53, 54, 55, 56, 57, 65, 66, 67, 68, 69, 70]⟩ : ByteArray) := rfl
      rw [e]
      have hqa := some_at L 12 ⟨#[48, 49, 50, 51, 52, 53, 54, 55, 56, 57, 65, 66, 67, 68, 69, 70]⟩ (fun st v => { st with ck := v }) (fun _ _ => rfl) st1 hpa
      obtain ⟨q, hq⟩ : ∃ q, someS (bs L) 12 ⟨#[48, 49, 50, 51, 52, 53, 54, 55, 56, 57, 65, 66, 67, 68, 69, 70]⟩ (fun st v => { st with ck := v }) st1 = q := ⟨_, rfl⟩
      have f2 : q.2.se = st1.se ∧ q.2.ki = st1.ki ∧ q.2.re = st1.re ∧ q.2.ue = st1.ue ∧ q.2.bo = st1.bo := by
        rw [← hq]; unfold someS; simp only []; split <;> exact ⟨rfl, rfl, rfl, rfl, rfl⟩
      rw [hq] at hqa ⊢
      obtain ⟨b, st2⟩ := q
      dsimp only at hqa f2 ⊢
      rw [← f2.1, ← f2.2.1, ← f2.2.2.1, ← f2.2.2.2.1, ← f2.2.2.2.2]
      have h := j4_f L hL b st2 k hqa (by omega)
      rw [h]
      cases b
      · rfl
      · simp only [↓reduceIte]
        rw [runS_one (textS (bs L) ⟨#[125, 125]⟩) st2, runS_c (textS (bs L) ⟨#[125, 125]⟩)]
end
end Go.Proofs.YtkklccccjmipkaaDoor.Pure

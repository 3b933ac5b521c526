/- The document's answer for messages: the whole. -/
import Derived.Test.YtkklccccjmipkaaDoorZPureFin4
import Derived.Test.YtkklccccjmipkaaDoorZPFReadsx5
namespace Go.Proofs.YtkklccccjmipkaaDoor.Pure
open Go.RowKit Go.Proofs.YtkklccccjmipkaaDoor.PAll Go.Proofs.YtkklccccjmipkaaDoorW.PrintWords GPlain
open Go.Proofs.YtkklccccjmipkaaDoor.Fin
set_option linter.unusedSimpArgs false
theorem piece_bs (L : List UInt8) (a n : Nat) : pieceB (bs L) a n = bs ((L.drop a).take n) := ext_take L a n
theorem maybe_eq (s t : ByteArray) (l : List Go.Proofs.YtkklccccjmipkaaDoor.Fin.Sem) (st : FS) : maybeS s t l st = if (textS s t st).1 = true then runS l st else (true, st) := by
  unfold maybeS textS
  simp only [decide_eq_true_eq]
section
variable (L : List UInt8) (hL : L.length ≤ 4000)
include hL
omit hL in
theorem piece_size (a n : Nat) (h : a + n ≤ L.length) : ((L.drop a).take n).length = n := by rw [List.length_take, List.length_drop]; omega
theorem whole_f {γ : Type} (a k : Nat) (X : Bool → Option γ) (ha : a ≤ L.length) (hk : 20 ≤ k) :
    (if wrap64 ((a : Int) + 12) > ((bs L).size : Int) then X true else (if 0 ≤ (a : Int) then (if (a : Int) ≤ (wrap64 ((a : Int) + 12)) then (if (wrap64 ((a : Int) + 12)) ≤ ((bs L).size : Int) then ((remitterref04_CheckAddress.f k ((bs L).extract ((a : Int) : Int).toNat ((wrap64 ((a : Int) + 12)) : Int).toNat)).bind fun t => (X (t != 0))) else (none)) else (none)) else (none))) =
    X (!decide (a + 12 ≤ L.length ∧ cA (pieceB (bs L) a 12) = 0)) := by
  have hw : wrap64 ((a : Int) + 12) = ((a + 12 : Nat) : Int) := by rw [wrap_ok (by omega) (by omega)]; omega
  rw [hw, bs_size]
  by_cases h : a + 12 ≤ L.length
  · rw [if_neg (by omega), if_pos (by omega), if_pos (by omega), if_pos (by omega), show ((a : Int)).toNat = a by omega, show (((a + 12 : Nat) : Int)).toNat = a + 12 by omega, ext_take, piece_bs, addr_f _ k (piece_size L a 12 h) hk, Option.bind_some]
    congr 1
    by_cases h2 : cA (bs ((L.drop a).take 12)) = 0
    · rw [h2, decide_eq_true ⟨h, rfl⟩]; rfl
    · rw [decide_eq_false (fun h3 => h2 h3.2)]
      exact bne_iff_ne.2 h2
  · rw [if_pos (by omega), decide_eq_false (fun h3 => h h3.1)]; rfl
omit hL in
theorem wholeA_s (put : FS → ByteArray → FS) (st : FS) : wholeS (bs L) 12 (fun x => cA x == 0) put st = if (!decide (st.at_ + 12 ≤ L.length ∧ cA (pieceB (bs L) st.at_ 12) = 0)) = true then (false, st) else (true, { put st (pieceB (bs L) st.at_ 12) with at_ := st.at_ + 12 }) := by
  unfold wholeS
  rw [bs_size]
  by_cases h : st.at_ + 12 ≤ L.length ∧ cA (pieceB (bs L) st.at_ 12) = 0
  · rw [decide_eq_true h, if_pos ⟨h.1, beq_iff_eq.2 h.2⟩]; rfl
  · rw [decide_eq_false h, if_neg (fun h2 => h ⟨h2.1, beq_iff_eq.1 h2.2⟩)]; rfl
/-- From the fourth block on. -/
def fromL : List Go.Proofs.YtkklccccjmipkaaDoor.Fin.Sem := textS (bs L) ⟨#[123, 52, 58, 13, 10]⟩ :: bodyL L
/-- The third block. -/
def thirdL : List Go.Proofs.YtkklccccjmipkaaDoor.Fin.Sem := [textS (bs L) ⟨#[123, 51, 58, 123, 49, 50, 49, 58]⟩, wholeS (bs L) 36 (fun x => cU x == 0) (fun st v => { st with ue := v }), textS (bs L) ⟨#[125, 125]⟩]
def afterL : List Go.Proofs.YtkklccccjmipkaaDoor.Fin.Sem := textS (bs L) ⟨#[78, 125]⟩ :: maybeS (bs L) ⟨#[123, 51]⟩ (thirdL L) :: fromL L
theorem j1_f5 (a : Nat) (st : FS) (k : Nat) (ki : ByteArray) (hat : st.at_ = a + 3) (ha : st.at_ ≤ L.length) (hki : st.ki = pieceB (bs L) a 3) (hk : 9010 ≤ k) (b : Bool)
    (hb : b = !decide (st.at_ + 12 ≤ L.length ∧ cA (pieceB (bs L) st.at_ 12) = 0)) :
    remitterref14_Parse.j1 (k + 1) (bs L) (st.at_ : Int) (a : Int) b st.se ki st.re st.ue st.bo = some (F7 L.length (runS (wholeS (bs L) 12 (fun x => cA x == 0) (fun st v => { st with re := v }) :: afterL L) st)) := by
  rw [remitterref14_Parse.j1, runS_c, wholeA_s, ← hb]
  cases b
  · have hc : st.at_ + 12 ≤ L.length := by
      by_cases h : st.at_ + 12 ≤ L.length
      · exact h
      · rw [decide_eq_false (fun h2 => h h2.1)] at hb; cases hb
    simp only [Bool.false_eq_true, ↓reduceIte]
    have hw : wrap64 ((st.at_ : Int) + 12) = ((st.at_ + 12 : Nat) : Int) := by rw [wrap_ok (by omega) (by omega)]; omega
    rw [hw, bs_size, if_pos (by omega), if_pos (by omega), if_pos (by omega), if_pos (by omega), if_pos (by omega), if_pos (by omega)]
    rw [show ((st.at_ : Int)).toNat = st.at_ by omega, show (((st.at_ + 12 : Nat) : Int)).toNat = st.at_ + 12 by omega, show ((a : Int)).toNat = a by omega]
    have eki : (bs L).extract a st.at_ = st.ki := by rw [hki, hat]; rfl
    have ere : (bs L).extract st.at_ (st.at_ + 12) = pieceB (bs L) st.at_ 12 := rfl
    rw [eki, ere]
    generalize hs : ({ st with at_ := st.at_ + 12, re := pieceB (bs L) st.at_ 12 } : FS) = s1
    have g0 : s1.at_ = st.at_ + 12 := by rw [← hs]
    have g1 : st.se = s1.se := by rw [← hs]
    have g2 : st.ki = s1.ki := by rw [← hs]
    have g3 : pieceB (bs L) st.at_ 12 = s1.re := by rw [← hs]
    have g4 : st.ue = s1.ue := by rw [← hs]
    have g5 : st.bo = s1.bo := by rw [← hs]
    rw [g1, g2, g3, g4, g5, ← g0]
    have h1a : s1.at_ ≤ L.length := by omega
    clear hs g0 g1 g2 g3 g4 g5 hb eki ere hw hat hki
    rw [text_s L hL _ s1 k (by decide) h1a (by omega), Option.bind_some]
    unfold afterL
    rw [runS_c]
    have hpa := text_at L ⟨#[78, 125]⟩ s1 h1a
    obtain ⟨p, hp⟩ : ∃ p, textS (bs L) ⟨#[78, 125]⟩ s1 = p := ⟨_, rfl⟩
    have f1 : p.2.se = s1.se ∧ p.2.ki = s1.ki ∧ p.2.re = s1.re ∧ p.2.ue = s1.ue ∧ p.2.bo = s1.bo := by rw [← hp]; exact ⟨rfl, rfl, rfl, rfl, rfl⟩
    rw [hp] at hpa ⊢
    obtain ⟨b, s2⟩ := p
    dsimp only at hpa f1 ⊢
    rw [← f1.1, ← f1.2.1, ← f1.2.2.1, ← f1.2.2.2.1, ← f1.2.2.2.2]
    clear hp f1
    cases b
    · simp only [Bool.false_eq_true, ↓reduceIte]
      rfl
    · simp only [↓reduceIte]
      rw [text_s L hL _ s2 k (by decide) hpa (by omega), Option.bind_some, runS_c, maybe_eq]
      dsimp only
      cases (textS (bs L) ⟨#[123, 51]⟩ s2).1
      · simp only [Bool.false_eq_true, ↓reduceIte]
        rw [rest_f L hL s2 k hpa (by omega), Option.bind_some]
        rfl
      · simp only [↓reduceIte]
        rw [text_s L hL _ s2 k (by decide) hpa (by omega), Option.bind_some]
        unfold thirdL
        rw [runS_c]
        have hqa := text_at L ⟨#[123, 51, 58, 123, 49, 50, 49, 58]⟩ s2 hpa
        obtain ⟨p, hp⟩ : ∃ p, textS (bs L) ⟨#[123, 51, 58, 123, 49, 50, 49, 58]⟩ s2 = p := ⟨_, rfl⟩
        have f1 : p.2.se = s2.se ∧ p.2.ki = s2.ki ∧ p.2.re = s2.re ∧ p.2.ue = s2.ue ∧ p.2.bo = s2.bo := by rw [← hp]; exact ⟨rfl, rfl, rfl, rfl, rfl⟩
        rw [hp] at hqa ⊢
        obtain ⟨b, s3⟩ := p
        dsimp only at hqa f1 ⊢
        rw [← f1.1, ← f1.2.1, ← f1.2.2.1, ← f1.2.2.2.2]
        clear hp f1
        cases b
        · simp only [Bool.false_eq_true, ↓reduceIte]
          rfl
        · simp only [↓reduceIte]
          have hw : wrap64 ((s3.at_ : Int) + 36) = ((s3.at_ + 36 : Nat) : Int) := by rw [wrap_ok (by omega) (by omega)]; omega
          rw [hw, runS_c]
          have ew : wholeS (bs L) 36 (fun x => cU x == 0) (fun st v => { st with ue := v }) s3 = if s3.at_ + 36 ≤ L.length ∧ (cU (pieceB (bs L) s3.at_ 36) == 0) = true then (true, { s3 with at_ := s3.at_ + 36, ue := pieceB (bs L) s3.at_ 36 }) else (false, s3) := by
            unfold wholeS
            rw [bs_size]
          rw [ew]
          by_cases h : s3.at_ + 36 ≤ L.length
          · rw [if_neg (by omega), if_pos (by omega), if_pos (by omega), if_pos (by omega)]
            rw [show ((s3.at_ : Int)).toNat = s3.at_ by omega, show (((s3.at_ + 36 : Nat) : Int)).toNat = s3.at_ + 36 by omega]
            have eue : (bs L).extract s3.at_ (s3.at_ + 36) = pieceB (bs L) s3.at_ 36 := rfl
            have hsz : (pieceB (bs L) s3.at_ 36).size ≤ 1048576 := by rw [piece_bs, bs_size, piece_size L s3.at_ 36 h]; omega
            have hck : remitterref12_Check.f (⟨#[117, 101, 116, 114]⟩ : ByteArray) (pieceB (bs L) s3.at_ 36) = some (true, decide (cU (pieceB (bs L) s3.at_ 36) = 0)) := by
              unfold remitterref12_Check.f
              rw [if_pos ⟨rfl, hsz⟩]
            rw [eue, hck, Option.bind_some]
            dsimp only
            by_cases h2 : cU (pieceB (bs L) s3.at_ 36) = 0
            · rw [if_pos (show s3.at_ + 36 ≤ L.length ∧ (cU (pieceB (bs L) s3.at_ 36) == 0) = true from ⟨h, beq_iff_eq.2 h2⟩), if_pos (decide_eq_true h2)]
              generalize hs : ({ s3 with at_ := s3.at_ + 36, ue := pieceB (bs L) s3.at_ 36 } : FS) = s4
              have g0 : s4.at_ = s3.at_ + 36 := by rw [← hs]
              have g1 : s3.se = s4.se := by rw [← hs]
              have g2 : s3.ki = s4.ki := by rw [← hs]
              have g3 : s3.re = s4.re := by rw [← hs]
              have g4 : pieceB (bs L) s3.at_ 36 = s4.ue := by rw [← hs]
              have g5 : s3.bo = s4.bo := by rw [← hs]
              rw [g1, g2, g3, g4, g5, ← g0]
              have h4a : s4.at_ ≤ L.length := by omega
              clear hs g0 g1 g2 g3 g4 g5 hw eue hck hsz ew
              rw [text_s L hL _ s4 k (by decide) h4a (by omega), Option.bind_some]
              simp only [↓reduceIte]
              rw [runS_one]
              have hra := text_at L ⟨#[125, 125]⟩ s4 h4a
              obtain ⟨p, hp⟩ : ∃ p, textS (bs L) ⟨#[125, 125]⟩ s4 = p := ⟨_, rfl⟩
              have f1 : p.2.se = s4.se ∧ p.2.ki = s4.ki ∧ p.2.re = s4.re ∧ p.2.ue = s4.ue ∧ p.2.bo = s4.bo := by rw [← hp]; exact ⟨rfl, rfl, rfl, rfl, rfl⟩
              rw [hp] at hra ⊢
              obtain ⟨b, s5⟩ := p
              dsimp only at hra f1 ⊢
              rw [← f1.1, ← f1.2.1, ← f1.2.2.1, ← f1.2.2.2.1, ← f1.2.2.2.2]
              cases b
              · simp only [Bool.false_eq_true, ↓reduceIte]
                rfl
              · simp only [↓reduceIte]
                rw [rest_f L hL s5 k hra (by omega), Option.bind_some]
                rfl
            · rw [if_neg (show ¬ (s3.at_ + 36 ≤ L.length ∧ (cU (pieceB (bs L) s3.at_ 36) == 0) = true) from fun h3 => h2 (beq_iff_eq.1 h3.2)), if_neg (fun h3 => h2 (of_decide_eq_true h3))]
              rfl
          · rw [if_pos (by omega), if_neg (show ¬ (s3.at_ + 36 ≤ L.length ∧ (cU (pieceB (bs L) s3.at_ 36) == 0) = true) from fun h3 => h h3.1)]
            rfl
  · simp only [Bool.false_eq_true, ↓reduceIte]
    rfl
/-- Behind the first address. -/
def nextL : List Go.Proofs.YtkklccccjmipkaaDoor.Fin.Sem := textS (bs L) ⟨#[48, 48, 48, 48, 48, 48, 48, 48, 48, 48, 125, 123, 50, 58, 73]⟩ :: someS (bs L) 3 ⟨#[48, 49, 50, 51, 52, 53, 54, 55, 56, 57]⟩ (fun st v => { st with ki := v }) :: wholeS (bs L) 12 (fun x => cA x == 0) (fun st v => { st with re := v }) :: afterL L
theorem j0_f5 (st : FS) (k : Nat) (ha : st.at_ ≤ L.length) (hk : 9020 ≤ k) (b : Bool)
    (hb : b = !decide (st.at_ + 12 ≤ L.length ∧ cA (pieceB (bs L) st.at_ 12) = 0)) :
    remitterref14_Parse.j0 (k + 1) (bs L) (st.at_ : Int) b st.se st.ki st.re st.ue st.bo = some (F7 L.length (runS (wholeS (bs L) 12 (fun x => cA x == 0) (fun st v => { st with se := v }) :: nextL L) st)) := by
  obtain ⟨k, rfl⟩ : ∃ k', k = k' + 1 := ⟨k - 1, by omega⟩
  rw [remitterref14_Parse.j0, runS_c, wholeA_s, ← hb]
  cases b
  · have hc : st.at_ + 12 ≤ L.length := by
      by_cases h : st.at_ + 12 ≤ L.length
      · exact h
      · rw [decide_eq_false (fun h2 => h h2.1)] at hb; cases hb
    simp only [Bool.false_eq_true, ↓reduceIte]
    have hw : wrap64 ((st.at_ : Int) + 12) = ((st.at_ + 12 : Nat) : Int) := by rw [wrap_ok (by omega) (by omega)]; omega
    rw [hw, if_pos (by omega), if_pos (by omega), if_pos (by rw [bs_size]; omega)]
    rw [show ((st.at_ : Int)).toNat = st.at_ by omega, show (((st.at_ + 12 : Nat) : Int)).toNat = st.at_ + 12 by omega]
    have ere : (bs L).extract st.at_ (st.at_ + 12) = pieceB (bs L) st.at_ 12 := rfl
    rw [ere]
    generalize hs : ({ st with at_ := st.at_ + 12, se := pieceB (bs L) st.at_ 12 } : FS) = s1
    have g0 : s1.at_ = st.at_ + 12 := by rw [← hs]
    have g1 : pieceB (bs L) st.at_ 12 = s1.se := by rw [← hs]
    have g2 : st.ki = s1.ki := by rw [← hs]
    have g3 : st.re = s1.re := by rw [← hs]
    have g4 : st.ue = s1.ue := by rw [← hs]
    have g5 : st.bo = s1.bo := by rw [← hs]
    rw [g1, g2, g3, g4, g5, ← g0]
    have h1a : s1.at_ ≤ L.length := by omega
    clear hs g0 g1 g2 g3 g4 g5 hb ere hw
    rw [text_s L hL _ s1 (k + 1) (by decide) h1a (by omega), Option.bind_some]
    unfold nextL
    rw [runS_c]
    have hpa := text_at L ⟨#[48, 48, 48, 48, 48, 48, 48, 48, 48, 48, 125, 123, 50, 58, 73]⟩ s1 h1a
    obtain ⟨p, hp⟩ : ∃ p, textS (bs L) ⟨#[48, 48, 48, 48, 48, 48, 48, 48, 48, 48, 125, 123, 50, 58, 73]⟩ s1 = p := ⟨_, rfl⟩
    have f1 : p.2.se = s1.se ∧ p.2.ki = s1.ki ∧ p.2.re = s1.re ∧ p.2.ue = s1.ue ∧ p.2.bo = s1.bo := by rw [← hp]; exact ⟨rfl, rfl, rfl, rfl, rfl⟩
    rw [hp] at hpa ⊢
    obtain ⟨b, s2⟩ := p
    dsimp only at hpa f1 ⊢
    rw [← f1.1, ← f1.2.1, ← f1.2.2.1, ← f1.2.2.2.1, ← f1.2.2.2.2]
    clear hp f1
    cases b
    · simp only [Bool.false_eq_true, ↓reduceIte]
      rfl
    · simp only [↓reduceIte]
      have hsm := some_s L hL 3 false (fun st v => { st with ki := v }) (fun _ _ => rfl) s2 (k + 1) (by omega) hpa (by omega)
      have e3 : ((3 : Nat) : Int) = 3 := rfl
      have e : bs (setL false) = (⟨#[48, 49, 50, 51, 52, 53, 54, 55, 56, 57]⟩ : ByteArray) := rfl
      rw [e3, e] at hsm
      rw [hsm, Option.bind_some, runS_c]
      have hqa := some_at L 3 ⟨#[48, 49, 50, 51, 52, 53, 54, 55, 56, 57]⟩ (fun st v => { st with ki := v }) (fun _ _ => rfl) s2 hpa
      obtain ⟨q, hq⟩ : ∃ q, someS (bs L) 3 ⟨#[48, 49, 50, 51, 52, 53, 54, 55, 56, 57]⟩ (fun st v => { st with ki := v }) s2 = q := ⟨_, rfl⟩
      have f2 : q.2.se = s2.se ∧ q.2.re = s2.re ∧ q.2.ue = s2.ue ∧ q.2.bo = s2.bo ∧ (q.1 = true → q.2.at_ = s2.at_ + 3 ∧ q.2.ki = pieceB (bs L) s2.at_ 3) := by
        rw [← hq]; unfold someS; simp only []; split
        · exact ⟨rfl, rfl, rfl, rfl, fun _ => ⟨rfl, rfl⟩⟩
        · exact ⟨rfl, rfl, rfl, rfl, fun h => by cases h⟩
      rw [hq] at hqa ⊢
      obtain ⟨b, s3⟩ := q
      dsimp only at hqa f2 ⊢
      rw [← f2.1, ← f2.2.1, ← f2.2.2.1, ← f2.2.2.2.1]
      cases b
      · simp only [Bool.false_eq_true, ↓reduceIte]
        rw [remitterref14_Parse.j1]
        simp only [↓reduceIte]
        rfl
      · simp only [↓reduceIte]
        have f3 := f2.2.2.2.2 rfl
        refine (whole_f L hL s3.at_ (k + 1) (fun b => remitterref14_Parse.j1 (k + 1) (bs L) (s3.at_ : Int) (s2.at_ : Int) b s3.se s2.ki s3.re s3.ue s3.bo) hqa (by omega)).trans ?_
        exact j1_f5 L hL s2.at_ s3 k s2.ki f3.1 hqa f3.2 (by omega) _ rfl
  · simp only [Bool.false_eq_true, ↓reduceIte]
    rfl
omit hL in
theorem parseL_eq : parseL (bs L) cA cU = textS (bs L) ⟨#[123, 49, 58, 70, 48, 49]⟩ :: wholeS (bs L) 12 (fun x => cA x == 0) (fun st v => { st with se := v }) :: nextL L := rfl
theorem parse_f (k : Nat) (hk : 9030 ≤ k) : remitterref14_Parse.f k (bs L) = some (F7 L.length (runS (parseL (bs L) cA cU) st0)) := by
  obtain ⟨k, rfl⟩ : ∃ k', k = k' + 1 := ⟨k - 1, by omega⟩
  unfold remitterref14_Parse.f
  have ht := text_s L hL ⟨#[123, 49, 58, 70, 48, 49]⟩ st0 (k + 1) (by decide) (Nat.zero_le _) (by omega)
  have e0 : ((st0.at_ : Nat) : Int) = 0 := rfl
  rw [e0] at ht
  rw [if_neg (by rw [bs_size]; omega), ht, Option.bind_some, parseL_eq L, runS_c]
  have hpa := text_at L ⟨#[123, 49, 58, 70, 48, 49]⟩ st0 (Nat.zero_le _)
  obtain ⟨p, hp⟩ : ∃ p, textS (bs L) ⟨#[123, 49, 58, 70, 48, 49]⟩ st0 = p := ⟨_, rfl⟩
  have f1 : p.2.se = ⟨#[]⟩ ∧ p.2.ki = ⟨#[]⟩ ∧ p.2.re = ⟨#[]⟩ ∧ p.2.ue = ⟨#[]⟩ ∧ p.2.bo = ⟨#[]⟩ := by rw [← hp]; exact ⟨rfl, rfl, rfl, rfl, rfl⟩
  rw [hp] at hpa ⊢
  obtain ⟨b, s1⟩ := p
  dsimp only at hpa f1 ⊢
  cases b
  · simp only [Bool.false_eq_true, ↓reduceIte]
    rw [remitterref14_Parse.j0]
    simp only [↓reduceIte]
    rfl
  · simp only [↓reduceIte]
    obtain ⟨a, se, ki, re, ue, bo, ck⟩ := s1
    dsimp only at hpa f1 ⊢
    obtain ⟨rfl, rfl, rfl, rfl, rfl⟩ := f1
    refine (whole_f L hL a (k + 1) (fun b => remitterref14_Parse.j0 (k + 1) (bs L) (a : Int) b ⟨#[]⟩ ⟨#[]⟩ ⟨#[]⟩ ⟨#[]⟩ ⟨#[]⟩) hpa (by omega)).trans ?_
    exact j0_f5 L hL ⟨a, ⟨#[]⟩, ⟨#[]⟩, ⟨#[]⟩, ⟨#[]⟩, ⟨#[]⟩, ck⟩ k hpa (by omega) _ rfl
theorem fin_f : fin_Parse.f (bs L) = some (F7 L.length (runS (parseL (bs L) cA cU) st0)) := by
  unfold fin_Parse.f Fin.fparse
  rw [bs_size, if_pos (by omega)]
  unfold F7
  by_cases h : (runS (parseL (bs L) cA cU) st0).1 = true
  · rw [if_pos h, if_pos h]
  · rw [if_neg h, if_neg h]
    rfl
end
end Go.Proofs.YtkklccccjmipkaaDoor.Pure

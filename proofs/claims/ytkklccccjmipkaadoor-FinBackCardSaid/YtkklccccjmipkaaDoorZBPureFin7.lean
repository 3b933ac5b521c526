/- What is written is read: the steps of the program's reading, ahead. -/
import Derived.Test.YtkklccccjmipkaaDoorZBPureFin6
import Derived.Test.YtkklccccjmipkaaDoorZPureFin5
namespace Go.Proofs.YtkklccccjmipkaaDoor.Pure
open Go.RowKit Go.Proofs.YtkklccccjmipkaaDoor.PAll Go.Proofs.YtkklccccjmipkaaDoorW.PrintWords GPlain
open Go.Proofs.YtkklccccjmipkaaDoor.Fin
set_option linter.unusedSimpArgs false
/-- What lies ahead. -/
def At (L : List UInt8) (st : FS) (R : List UInt8) : Prop := L.drop st.at_ = R ∧ st.at_ + R.length = L.length
def mv (st : FS) (n : Nat) : FS := { st with at_ := st.at_ + n }
theorem At.mv {L X R : List UInt8} {st : FS} (h : At L st (X ++ R)) (st2 : FS) (h2 : st2.at_ = st.at_ + X.length) : At L st2 R := by
  refine ⟨?_, ?_⟩
  · rw [h2, ← List.drop_drop, h.1, List.drop_left]
  · have := h.2; rw [List.length_append] at this; omega
theorem com_app : ∀ t R : List UInt8, com (t ++ R) t = t.length
  | [], R => com_end _
  | a :: t, R => by
    have ih := com_app t R
    show (if a = a then com (t ++ R) t + 1 else 0) = _
    rw [if_pos rfl, ih, List.length_cons]
theorem cnt_app (set : List UInt8) : ∀ x R : List UInt8, (x.all fun c => decide (0 ≤ Lib.indexByte set c)) = true → cnt set x.length (x ++ R) = x.length
  | [], R, _ => rfl
  | c :: x, R, h => by
    rw [List.all_cons, Bool.and_eq_true, decide_eq_true_iff] at h
    have ih := cnt_app set x R h.2
    show (if 0 ≤ Lib.indexByte set c then cnt set x.length (x ++ R) + 1 else 0) = _
    rw [if_pos h.1, ih, List.length_cons]
theorem sz_of (t : ByteArray) : t.size = t.data.toList.length := by rw [Array.length_toList]; rfl
variable {L X R : List UInt8} {st : FS}
theorem run_text {t : ByteArray} (r : List Go.Proofs.YtkklccccjmipkaaDoor.Fin.Sem) (h : At L st (t.data.toList ++ R)) : runS (textS (bs L) t :: r) st = runS r (mv st t.size) ∧ At L (mv st t.size) R := by
  refine ⟨?_, h.mv _ (by rw [sz_of]; rfl)⟩
  have e : textS (bs L) t st = (true, mv st t.size) := by
    unfold textS mv
    simp only [bs_data]
    rw [h.1, com_app, ← sz_of, decide_eq_true rfl]
  rw [runS_c, e, if_pos rfl]
theorem piece_at (h : At L st (X ++ R)) : pieceB (bs L) st.at_ X.length = bs X := by rw [piece_bs, h.1, List.take_left]
theorem run_some {n : Nat} {set : ByteArray} {put : FS → ByteArray → FS} (r : List Go.Proofs.YtkklccccjmipkaaDoor.Fin.Sem) (h : At L st (X ++ R)) (hn : X.length = n) (hs : (X.all fun c => decide (0 ≤ Lib.indexByte set.data.toList c)) = true) (hp : ∀ s v, (put s v).at_ = s.at_) :
    runS (someS (bs L) n set put :: r) st = runS r (put (mv st n) (bs X)) ∧ At L (put (mv st n) (bs X)) R := by
  subst hn
  refine ⟨?_, h.mv _ (by rw [hp]; rfl)⟩
  have e : someS (bs L) X.length set put st = (true, put (mv st X.length) (bs X)) := by
    unfold someS mv
    simp only [bs_data]
    rw [h.1, cnt_app _ _ _ hs, if_pos rfl, piece_at h]
  rw [runS_c, e, if_pos rfl]
theorem run_whole {n : Nat} {chk : ByteArray → Bool} {put : FS → ByteArray → FS} (r : List Go.Proofs.YtkklccccjmipkaaDoor.Fin.Sem) (h : At L st (X ++ R)) (hn : X.length = n) (hc : chk (bs X) = true) :
    runS (wholeS (bs L) n chk put :: r) st = runS r { put st (bs X) with at_ := st.at_ + n } ∧ At L { put st (bs X) with at_ := st.at_ + n } R := by
  subst hn
  refine ⟨?_, h.mv _ rfl⟩
  have e : wholeS (bs L) X.length chk put st = (true, { put st (bs X) with at_ := st.at_ + X.length }) := by
    unfold wholeS
    rw [piece_at h, bs_size, if_pos ⟨by have := h.2; rw [List.length_append] at this; omega, hc⟩]
  rw [runS_c, e, if_pos rfl]
theorem run_skip {t : ByteArray} {l : List Go.Proofs.YtkklccccjmipkaaDoor.Fin.Sem} (r : List Go.Proofs.YtkklccccjmipkaaDoor.Fin.Sem) (h : At L st X) (hx : ¬ com X t.data.toList = t.size) : runS (maybeS (bs L) t l :: r) st = runS r st := by
  have e : maybeS (bs L) t l st = (true, st) := by
    unfold maybeS
    simp only [bs_data]
    rw [h.1, if_neg hx]
  rw [runS_c, e, if_pos rfl]
theorem run_opt {t : ByteArray} {l : List Go.Proofs.YtkklccccjmipkaaDoor.Fin.Sem} (r : List Go.Proofs.YtkklccccjmipkaaDoor.Fin.Sem) (h : At L st (t.data.toList ++ R)) {st2 : FS} (hl : runS l st = (true, st2)) : runS (maybeS (bs L) t l :: r) st = runS r st2 := by
  have e : maybeS (bs L) t l st = (true, st2) := by
    unfold maybeS
    simp only [bs_data]
    rw [h.1, com_app, ← sz_of, if_pos rfl, hl]
  rw [runS_c, e, if_pos rfl]
theorem cut_at (b R : List UInt8) (hf : faultL b = b.length) : cutS (b ++ [13, 10, 45] ++ R) = (b, R, true) := by
  have hbad := faultFrom_all b b.length 0 (by omega) hf
  have hocc : Lib.occAt (b ++ [13, 10, 45] ++ R) [13, 10, 45] b.length = true := by
    unfold Lib.occAt
    rw [List.append_assoc, List.drop_left, List.isPrefixOf_iff_prefix]
    exact List.prefix_append _ _
  have hno : ∀ j, j < b.length → Lib.occAt (b ++ [13, 10, 45] ++ R) [13, 10, 45] j = false := by
    intro j hj
    cases ho : Lib.occAt (b ++ [13, 10, 45] ++ R) [13, 10, 45] j with
    | false => rfl
    | true =>
      exfalso
      unfold Lib.occAt at ho
      rw [List.isPrefixOf_iff_prefix] at ho
      obtain ⟨q, hq⟩ := ho
      have g : ∀ m, m < 3 → (b ++ [13, 10, 45] ++ R)[j + m]? = ([13, 10, 45] : List UInt8)[m]? := by
        intro m hm
        rw [← List.getElem?_drop, ← hq]
        exact List.getElem?_append_left hm
      have g1 := g 1 (by omega)
      have g2 := g 2 (by omega)
      rw [List.append_assoc] at g1 g2
      by_cases h2 : j + 2 < b.length
      · rw [List.getElem?_append_left h2] at g2
        rw [List.getElem?_append_left (by omega)] at g1
        have hb := hbad (j + 2) (by omega) h2
        have : badB b (j + 2) = true := by
          rw [badB_iff]
          refine .inr (.inr (.inr (.inr ⟨?_, .inr ?_⟩)))
          · rw [List.getD_eq_getElem?_getD, g2]; rfl
          · rw [show j + 2 - 1 = j + 1 by omega, List.getD_eq_getElem?_getD, g1]; rfl
        rw [this] at hb
        cases hb
      · by_cases h1 : j + 1 < b.length
        · rw [List.getElem?_append_right (by omega), show j + 2 - b.length = 0 by omega] at g2
          cases g2
        · rw [List.getElem?_append_right (by omega), show j + 1 - b.length = 0 by omega] at g1
          cases g1
  have hidx := Lib.index_first (show b.length ≤ (b ++ [13, 10, 45] ++ R).length by rw [List.length_append, List.length_append]; omega) hocc hno
  unfold cutS Lib.cut
  rw [hidx, if_pos (by omega)]
  have e1 : ((b.length : Int)).toNat = b.length := by omega
  rw [e1, List.append_assoc, List.take_left]
  have e2 : (b ++ ([13, 10, 45] ++ R)).drop (b.length + ([13, 10, 45] : List UInt8).length) = R := by
    rw [← List.drop_drop, List.drop_left]
    rfl
  rw [e2]
theorem run_body {b : List UInt8} (r : List Go.Proofs.YtkklccccjmipkaaDoor.Fin.Sem) (h : At L st (b ++ [13, 10, 45] ++ R)) (hf : faultL b = b.length) (h0 : b ≠ []) :
    runS (bodyS (bs L) :: r) st = runS r { st with at_ := st.at_ + b.length + 3, bo := bs b } ∧ At L { st with at_ := st.at_ + b.length + 3, bo := bs b } R := by
  refine ⟨?_, h.mv _ (by show _ = _ + (b ++ [13, 10, 45]).length; rw [List.length_append]; show st.at_ + b.length + 3 = st.at_ + (b.length + 3); omega)⟩
  have e : bodyS (bs L) st = (true, { st with at_ := st.at_ + b.length + 3, bo := bs b }) := by
    unfold bodyS
    simp only [bs_data]
    rw [h.1, cut_at b R hf]
    rw [if_pos ⟨rfl, hf, h0⟩]
    rfl
  rw [runS_c, e, if_pos rfl]
end Go.Proofs.YtkklccccjmipkaaDoor.Pure

/- What is read is what was written. -/
import Derived.Test.YtkklccccjmipkaaDoorZBPureFin8
namespace Go.Proofs.YtkklccccjmipkaaDoor.Pure
open Go.RowKit Go.Proofs.YtkklccccjmipkaaDoor.PAll Go.Proofs.YtkklccccjmipkaaDoorW.PrintWords GPlain
open Go.Proofs.YtkklccccjmipkaaDoor.Fin
set_option linter.unusedSimpArgs false
variable {L X R : List UInt8} {st st2 : FS}
theorem end_skip (h : At L st X) (hx : ¬ com X [123] = 1) : runS (endL L) st = (decide (st.at_ = L.length), st) := by
  have e := run_skip (t := ⟨#[123]⟩) (l := lastL L) (r := [endS (bs L)]) h hx
  refine e.trans ?_
  rw [runS_one]
  unfold endS
  rw [bs_size]
theorem at_nil (h : At L st []) : st.at_ = L.length := h.2
theorem end_nil (h : At L st []) : runS (endL L) st = (true, st) := by
  rw [end_skip h (fun hc => by cases hc), decide_eq_true (at_nil h)]
theorem end_x (h : At L st [120]) : runS (endL L) st = (false, st) ∧ st.at_ + 1 = L.length := by
  have := h.2
  refine ⟨?_, this⟩
  rw [end_skip h (fun hc => by cases hc), decide_eq_false (by show ¬ st.at_ = L.length; rw [← this]; show ¬ st.at_ = st.at_ + 1; omega)]
def five : List UInt8 := [123, 53, 58, 123, 67, 72, 75, 58] ++ ([48, 49, 50, 51, 52, 53, 54, 55, 56, 57, 65, 66] ++ ([125, 125] ++ []))
theorem end_five (h : At L st five) : ∃ st2 : FS, runS (endL L) st = (true, st2) ∧ st2.se = st.se ∧ st2.ki = st.ki ∧ st2.re = st.re ∧ st2.ue = st.ue ∧ st2.bo = st.bo := by
  obtain ⟨f1, b1⟩ := run_text (t := ⟨#[123, 53, 58, 123, 67, 72, 75, 58]⟩) (r := [someS (bs L) 12 ⟨#[48, 49, 50, 51, 52, 53, 54, 55, 56, 57, 65, 66, 67, 68, 69, 70]⟩ (fun st v => { st with ck := v }), textS (bs L) ⟨#[125, 125]⟩]) h
  obtain ⟨f2, b2⟩ := run_some (set := ⟨#[48, 49, 50, 51, 52, 53, 54, 55, 56, 57, 65, 66, 67, 68, 69, 70]⟩) (put := fun st v => { st with ck := v }) (r := [textS (bs L) ⟨#[125, 125]⟩]) (n := 12) b1 rfl (by decide +kernel) (fun _ _ => rfl)
  obtain ⟨f3, b3⟩ := run_text (t := ⟨#[125, 125]⟩) (r := []) b2
  have e := run_opt (t := ⟨#[123]⟩) (l := lastL L) (R := [53, 58, 123, 67, 72, 75, 58] ++ ([48, 49, 50, 51, 52, 53, 54, 55, 56, 57, 65, 66] ++ ([125, 125] ++ []))) [endS (bs L)] h (f1.trans (f2.trans f3))
  have e2 : ∀ s : FS, At L s [] → runS [endS (bs L)] s = (true, s) := fun s hs => by
    rw [runS_one]
    unfold endS
    rw [bs_size, decide_eq_true (at_nil hs)]
  exact ⟨_, e.trans (e2 _ b3), rfl, rfl, rfl, rfl, rfl⟩
theorem inv_text {t : ByteArray} {r : List Go.Proofs.YtkklccccjmipkaaDoor.Fin.Sem} (h : At L st X) (hr : runS (textS (bs L) t :: r) st = (true, st2)) : ∃ R, X = t.data.toList ++ R ∧ At L (mv st t.size) R ∧ runS r (mv st t.size) = (true, st2) := by
  rw [runS_c] at hr
  have e : textS (bs L) t st = (decide (com X t.data.toList = t.size), mv st (com X t.data.toList)) := by
    unfold textS mv
    simp only [bs_data]
    rw [h.1]
  rw [e] at hr
  by_cases hc : com X t.data.toList = t.size
  · rw [decide_eq_true hc, if_pos rfl, hc] at hr
    have hp := (com_pre X t.data.toList).1 (by rw [hc, sz_of])
    rw [List.isPrefixOf_iff_prefix] at hp
    obtain ⟨R, hR⟩ := hp
    refine ⟨R, hR.symm, ?_, hr⟩
    rw [← hR] at h
    exact h.mv _ (by rw [sz_of]; rfl)
  · rw [decide_eq_false hc] at hr
    simp only [Bool.false_eq_true, ↓reduceIte] at hr
    cases hr
theorem cnt_inv (set : List UInt8) : ∀ (n : Nat) (x : List UInt8), cnt set n x = n → n ≤ x.length ∧ ((x.take n).all fun c => decide (0 ≤ Lib.indexByte set c)) = true
  | 0, x, _ => ⟨Nat.zero_le _, rfl⟩
  | n + 1, [], h => by cases h
  | n + 1, c :: x, h => by
    have e : cnt set (n + 1) (c :: x) = if 0 ≤ Lib.indexByte set c then cnt set n x + 1 else 0 := rfl
    rw [e] at h
    by_cases hc : 0 ≤ Lib.indexByte set c
    · rw [if_pos hc] at h
      have ih := cnt_inv set n x (by omega)
      refine ⟨by rw [List.length_cons]; omega, ?_⟩
      rw [List.take_succ_cons, List.all_cons, Bool.and_eq_true]
      exact ⟨decide_eq_true hc, ih.2⟩
    · rw [if_neg hc] at h
      cases h
theorem inv_some {n : Nat} {set : ByteArray} {put : FS → ByteArray → FS} {r : List Go.Proofs.YtkklccccjmipkaaDoor.Fin.Sem} (h : At L st X) (hp : ∀ s v, (put s v).at_ = s.at_) (hr : runS (someS (bs L) n set put :: r) st = (true, st2)) :
    ∃ x R, X = x ++ R ∧ x.length = n ∧ (x.all fun c => decide (0 ≤ Lib.indexByte set.data.toList c)) = true ∧ At L (put (mv st n) (bs x)) R ∧ runS r (put (mv st n) (bs x)) = (true, st2) := by
  rw [runS_c] at hr
  have e : someS (bs L) n set put st = if cnt set.data.toList n X = n then (true, put (mv st n) (pieceB (bs L) st.at_ n)) else (false, mv st (cnt set.data.toList n X)) := by
    unfold someS mv
    simp only [bs_data]
    rw [h.1]
  rw [e] at hr
  by_cases hc : cnt set.data.toList n X = n
  · rw [if_pos hc] at hr
    simp only [↓reduceIte] at hr
    have hi := cnt_inv _ _ _ hc
    have hX : X = X.take n ++ X.drop n := (List.take_append_drop n X).symm
    have hl : (X.take n).length = n := by rw [List.length_take]; omega
    have hpi : pieceB (bs L) st.at_ n = bs (X.take n) := by rw [piece_bs, h.1]
    rw [hpi] at hr
    refine ⟨X.take n, X.drop n, hX, hl, hi.2, ?_, hr⟩
    refine At.mv (X := X.take n) (st := st) ?_ _ (by rw [hp, hl]; rfl)
    rw [← hX]
    exact h
  · rw [if_neg hc] at hr
    simp only [Bool.false_eq_true, ↓reduceIte] at hr
    cases hr
theorem inv_whole {n : Nat} {chk : ByteArray → Bool} {put : FS → ByteArray → FS} {r : List Go.Proofs.YtkklccccjmipkaaDoor.Fin.Sem} (h : At L st X) (hr : runS (wholeS (bs L) n chk put :: r) st = (true, st2)) :
    ∃ x R, X = x ++ R ∧ x.length = n ∧ chk (bs x) = true ∧ At L { put st (bs x) with at_ := st.at_ + n } R ∧ runS r { put st (bs x) with at_ := st.at_ + n } = (true, st2) := by
  rw [runS_c] at hr
  have e : wholeS (bs L) n chk put st = if st.at_ + n ≤ L.length ∧ chk (bs (X.take n)) = true then (true, { put st (bs (X.take n)) with at_ := st.at_ + n }) else (false, st) := by
    unfold wholeS
    rw [piece_bs, h.1, bs_size]
  rw [e] at hr
  by_cases hc : st.at_ + n ≤ L.length ∧ chk (bs (X.take n)) = true
  · rw [if_pos hc] at hr
    simp only [↓reduceIte] at hr
    have hX : X = X.take n ++ X.drop n := (List.take_append_drop n X).symm
    have hl : (X.take n).length = n := by rw [List.length_take]; have := h.2; omega
    refine ⟨X.take n, X.drop n, hX, hl, hc.2, ?_, hr⟩
    refine At.mv (X := X.take n) (st := st) ?_ _ (by rw [hl])
    rw [← hX]
    exact h
  · rw [if_neg hc] at hr
    simp only [Bool.false_eq_true, ↓reduceIte] at hr
    cases hr
theorem inv_maybe {t : ByteArray} {l r : List Go.Proofs.YtkklccccjmipkaaDoor.Fin.Sem} (h : At L st X) (hr : runS (maybeS (bs L) t l :: r) st = (true, st2)) :
    runS r st = (true, st2) ∨ ∃ s, runS l st = (true, s) ∧ runS r s = (true, st2) := by
  rw [runS_c] at hr
  have e : maybeS (bs L) t l st = if com X t.data.toList = t.size then runS l st else (true, st) := by
    unfold maybeS
    simp only [bs_data]
    rw [h.1]
  rw [e] at hr
  by_cases hc : com X t.data.toList = t.size
  · rw [if_pos hc] at hr
    cases hb : (runS l st).1
    · rw [hb, if_neg (by decide)] at hr; cases hr
    · rw [hb, if_pos rfl] at hr
      exact .inr ⟨(runS l st).2, by rw [← hb], hr⟩
  · rw [if_neg hc] at hr
    simp only [↓reduceIte] at hr
    exact .inl hr
theorem cut_inv (X : List UInt8) (h : (cutS X).2.2 = true) : X = (cutS X).1 ++ [13, 10, 45] ++ X.drop ((cutS X).1.length + 3) := by
  unfold cutS Lib.cut at h ⊢
  rcases Lib.index_spec X [13, 10, 45] with ⟨h1, _⟩ | ⟨i, h1, h2, h3, _⟩
  · rw [h1, if_neg (by omega)] at h; cases h
  · rw [h1, if_pos (by omega)]
    have e1 : ((i : Int)).toNat = i := by omega
    rw [e1]
    dsimp only
    unfold Lib.occAt at h3
    rw [List.isPrefixOf_iff_prefix] at h3
    obtain ⟨q, hq⟩ := h3
    have hl : (X.take i).length = i := by rw [List.length_take]; omega
    rw [hl, ← List.drop_drop, ← hq, List.append_assoc]
    have e2 : (([13, 10, 45] : List UInt8) ++ q).drop 3 = q := rfl
    rw [e2, hq, List.take_append_drop]
theorem inv_body {r : List Go.Proofs.YtkklccccjmipkaaDoor.Fin.Sem} (h : At L st X) (hr : runS (bodyS (bs L) :: r) st = (true, st2)) :
    ∃ b R, X = b ++ [13, 10, 45] ++ R ∧ faultL b = b.length ∧ b ≠ [] ∧ At L { st with at_ := st.at_ + b.length + 3, bo := bs b } R ∧ runS r { st with at_ := st.at_ + b.length + 3, bo := bs b } = (true, st2) := by
  rw [runS_c] at hr
  have e : bodyS (bs L) st = if (cutS X).2.2 = true ∧ faultL (cutS X).1 = (cutS X).1.length ∧ (cutS X).1 ≠ [] then (true, { st with at_ := st.at_ + (cutS X).1.length + 3, bo := bs (cutS X).1 }) else (false, { st with at_ := st.at_ + faultL (cutS X).1 }) := by
    unfold bodyS
    simp only [bs_data]
    rw [h.1]
    rfl
  rw [e] at hr
  by_cases hc : (cutS X).2.2 = true ∧ faultL (cutS X).1 = (cutS X).1.length ∧ (cutS X).1 ≠ []
  · rw [if_pos hc] at hr
    simp only [↓reduceIte] at hr
    have hX := cut_inv X hc.1
    refine ⟨(cutS X).1, X.drop ((cutS X).1.length + 3), hX, hc.2.1, hc.2.2, ?_, hr⟩
    refine At.mv (X := (cutS X).1 ++ [13, 10, 45]) (st := st) ?_ _ (by show st.at_ + (cutS X).1.length + 3 = _; rw [List.length_append]; show _ = st.at_ + ((cutS X).1.length + 3); omega)
    rw [← hX]
    exact h
  · rw [if_neg hc] at hr
    simp only [Bool.false_eq_true, ↓reduceIte] at hr
    cases hr
theorem dg_of {x : List UInt8} (h : (x.all fun c => decide (0 ≤ Lib.indexByte (⟨#[48, 49, 50, 51, 52, 53, 54, 55, 56, 57]⟩ : ByteArray).data.toList c)) = true) : dg x = true := h
theorem inv_end (h : At L st X) (hr : runS [endS (bs L)] st = (true, st2)) : X = [] ∧ st2 = st := by
  rw [runS_one] at hr
  unfold endS at hr
  rw [bs_size] at hr
  have h1 : decide (st.at_ = L.length) = true := (Prod.mk.inj hr).1
  have h1 := of_decide_eq_true h1
  refine ⟨List.length_eq_zero_iff.1 (by have := h.2; omega), (Prod.mk.inj hr).2.symm⟩
theorem read_back (hr : runS (parseL (bs L) cA cU) st0 = (true, st2)) : ∃ l0 l1 l2 l3 l4 E : List UInt8, L = wl l0 l1 l2 l3 l4 E ∧ okW l0 l1 l2 l3 l4 = true ∧ partsOf st2 l0 l1 l2 l3 l4 ∧ (E = [] ∨ E.length = 22) := by
  have a0 : At L st0 L := ⟨rfl, by show 0 + _ = _; omega⟩
  unfold parseL at hr
  obtain ⟨X1, x1, a1, r1⟩ := inv_text a0 hr
  obtain ⟨l0, X2, x2, n0, k0, a2, r2⟩ := inv_whole (put := fun st v => { st with se := v }) a1 r1
  obtain ⟨X3, x3, a3, r3⟩ := inv_text a2 r2
  obtain ⟨l1, X4, x4, n1, k1, a4, r4⟩ := inv_some (put := fun st v => { st with ki := v }) a3 (fun _ _ => rfl) r3
  obtain ⟨l2, X5, x5, n2, k2, a5, r5⟩ := inv_whole (put := fun st v => { st with re := v }) a4 r4
  obtain ⟨X6, x6, a6, r6⟩ := inv_text a5 r5
  have k0' : cA (bs l0) = 0 := beq_iff_eq.1 k0
  have k2' : cA (bs l2) = 0 := beq_iff_eq.1 k2
  -- from the fourth block on
  have fin : ∀ (s : FS) (Y : List UInt8), At L s Y → runS (textS (bs L) ⟨#[123, 52, 58, 13, 10]⟩ :: bodyS (bs L) :: textS (bs L) ⟨#[125]⟩ :: maybeS (bs L) ⟨#[123]⟩ [textS (bs L) ⟨#[123, 53, 58, 123, 67, 72, 75, 58]⟩, someS (bs L) 12 ⟨#[48, 49, 50, 51, 52, 53, 54, 55, 56, 57, 65, 66, 67, 68, 69, 70]⟩ (fun st v => { st with ck := v }), textS (bs L) ⟨#[125, 125]⟩] :: [endS (bs L)]) s = (true, st2) →
      ∃ l4 E, Y = [123, 52, 58, 13, 10] ++ (l4 ++ [13, 10, 45] ++ ([125] ++ E)) ∧ faultL l4 = l4.length ∧ l4 ≠ [] ∧ (E = [] ∨ E.length = 22) ∧ st2.se = s.se ∧ st2.ki = s.ki ∧ st2.re = s.re ∧ st2.ue = s.ue ∧ st2.bo = bs l4 := by
    intro s Y h hy
    obtain ⟨Y1, y1, c1, q1⟩ := inv_text h hy
    obtain ⟨l4, Y2, y2, hf, h4, c2, q2⟩ := inv_body c1 q1
    obtain ⟨Y3, y3, c3, q3⟩ := inv_text c2 q2
    rcases inv_maybe c3 q3 with q4 | ⟨s4, q4, q5⟩
    · obtain ⟨e, z⟩ := inv_end c3 q4
      refine ⟨l4, Y3, ?_, hf, h4, .inl e, by rw [z]; rfl, by rw [z]; rfl, by rw [z]; rfl, by rw [z]; rfl, by rw [z]; rfl⟩
      rw [y1, y2, y3]
    · obtain ⟨Y4, y4, c4, p1⟩ := inv_text c3 q4
      obtain ⟨ck, Y5, y5, n5, _, c5, p2⟩ := inv_some (put := fun st v => { st with ck := v }) c4 (fun _ _ => rfl) p1
      obtain ⟨Y6, y6, c6, p3⟩ := inv_text c5 p2
      have e4 := (Prod.mk.inj p3).2
      rw [← e4] at q5
      obtain ⟨e, z⟩ := inv_end c6 q5
      refine ⟨l4, Y3, ?_, hf, h4, .inr ?_, by rw [z]; rfl, by rw [z]; rfl, by rw [z]; rfl, by rw [z]; rfl, by rw [z]; rfl⟩
      · rw [y1, y2, y3]
      · rw [y4, y5, y6, e]
        simp only [List.length_append, n5]
        rfl
  have build : ∀ (s : FS) (l3 Y : List UInt8), At L s Y → X6 = thirdW l3 ++ Y → (l3 = [] ∨ cU (bs l3) = 0) → s.se = bs l0 → s.ki = bs l1 → s.re = bs l2 → s.ue = bs l3 → runS (textS (bs L) ⟨#[123, 52, 58, 13, 10]⟩ :: bodyS (bs L) :: textS (bs L) ⟨#[125]⟩ :: maybeS (bs L) ⟨#[123]⟩ [textS (bs L) ⟨#[123, 53, 58, 123, 67, 72, 75, 58]⟩, someS (bs L) 12 ⟨#[48, 49, 50, 51, 52, 53, 54, 55, 56, 57, 65, 66, 67, 68, 69, 70]⟩ (fun st v => { st with ck := v }), textS (bs L) ⟨#[125, 125]⟩] :: [endS (bs L)]) s = (true, st2) →
      ∃ l0 l1 l2 l3 l4 E : List UInt8, L = wl l0 l1 l2 l3 l4 E ∧ okW l0 l1 l2 l3 l4 = true ∧ partsOf st2 l0 l1 l2 l3 l4 ∧ (E = [] ∨ E.length = 22) := by
    intro s l3 Y h hx hu g0 g1 g2 g3 hy
    obtain ⟨l4, E, y, hf, h4, hE, z0, z1, z2, z3, z4⟩ := fin s Y h hy
    refine ⟨l0, l1, l2, l3, l4, E, ?_, ?_, ⟨z0.trans g0, z1.trans g1, z2.trans g2, z3.trans g3, z4⟩, hE⟩
    · rw [x1, x2, x3, x4, x5, x6, hx, y]
      rfl
    · rw [okW_iff]
      exact ⟨k0', k2', n1, dg_of k1, hu, h4, hf⟩
  rcases inv_maybe a6 r6 with r7 | ⟨s7, p7, r7⟩
  · exact build _ [] X6 a6 rfl (.inl rfl) rfl rfl rfl rfl r7
  · obtain ⟨Y4, y4, c4, p1⟩ := inv_text a6 p7
    obtain ⟨l3, Y5, y5, n5, k5, c5, p2⟩ := inv_whole (put := fun st v => { st with ue := v }) c4 p1
    obtain ⟨Y6, y6, c6, p3⟩ := inv_text c5 p2
    have e4 := (Prod.mk.inj p3).2
    rw [← e4] at r7
    have h3 : l3 ≠ [] := by intro h; rw [h] at n5; cases n5
    refine build _ l3 Y6 c6 ?_ (.inr (beq_iff_eq.1 k5)) rfl rfl rfl rfl r7
    rw [y4, y5, y6]
    unfold thirdW
    rw [if_neg h3]
    simp only [List.append_assoc]
end Go.Proofs.YtkklccccjmipkaaDoor.Pure

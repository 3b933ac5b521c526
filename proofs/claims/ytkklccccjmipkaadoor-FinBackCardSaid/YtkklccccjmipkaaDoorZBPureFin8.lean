/- What is written is read. -/
import Derived.Test.YtkklccccjmipkaaDoorZBPureFin7
namespace Go.Proofs.YtkklccccjmipkaaDoor.Pure
open Go.RowKit Go.Proofs.YtkklccccjmipkaaDoor.PAll Go.Proofs.YtkklccccjmipkaaDoorW.PrintWords GPlain
open Go.Proofs.YtkklccccjmipkaaDoor.Fin
set_option linter.unusedSimpArgs false
/-- The third block. -/
def thirdW (l3 : List UInt8) : List UInt8 := if l3 = [] then [] else [123, 51, 58, 123, 49, 50, 49, 58] ++ (l3 ++ [125, 125])
/-- A written message, and what lies behind it. -/
def wl (l0 l1 l2 l3 l4 E : List UInt8) : List UInt8 := [123, 49, 58, 70, 48, 49] ++ (l0 ++ ([48, 48, 48, 48, 48, 48, 48, 48, 48, 48, 125, 123, 50, 58, 73] ++ (l1 ++ (l2 ++ ([78, 125] ++ (thirdW l3 ++ ([123, 52, 58, 13, 10] ++ (l4 ++ [13, 10, 45] ++ ([125] ++ E)))))))))
theorem wl_tail (l0 l1 l2 l3 l4 E : List UInt8) : wl l0 l1 l2 l3 l4 E = wl l0 l1 l2 l3 l4 [] ++ E := by
  unfold wl
  simp only [List.append_assoc, List.nil_append, List.append_nil]
theorem wtext_wl (l0 l1 l2 l3 l4 : List UInt8) : wtext (bs l0) (bs l1) (bs l2) (bs l3) (bs l4) = bs (wl l0 l1 l2 l3 l4 []) := by
  unfold wtext wl thirdW
  rw [bs_size]
  simp only [bs_mk, bs_append]
  by_cases h : l3 = []
  · rw [if_pos h, if_pos (by rw [h]; rfl)]
    rw [bs_append]
    congr 1
    simp only [List.append_assoc, List.nil_append, List.append_nil]
    rfl
  · rw [if_neg h, if_neg (fun h2 => h (List.length_eq_zero_iff.1 h2))]
    rw [bs_append]
    congr 1
    simp only [List.append_assoc, List.nil_append, List.append_nil]
    rfl
theorem cA_len {l : List UInt8} (h : cA (bs l) = 0) : l.length = 12 := by
  unfold cA at h
  by_cases h2 : (bs l).size = 12 ∧ goodB (bs l).data.toList = true
  · rw [← bs_size]; exact h2.1
  · rw [if_neg h2] at h; cases h
theorem cU_len {l : List UInt8} (h : cU (bs l) = 0) : l.length = 36 := by
  unfold cU at h
  by_cases h2 : (bs l).size = 36 ∧ allU (bs l).data.toList = true
  · rw [← bs_size]; exact h2.1
  · rw [if_neg h2] at h; cases h
theorem okW_iff (l0 l1 l2 l3 l4 : List UInt8) : okW l0 l1 l2 l3 l4 = true ↔ cA (bs l0) = 0 ∧ cA (bs l2) = 0 ∧ l1.length = 3 ∧ dg l1 = true ∧ (l3 = [] ∨ cU (bs l3) = 0) ∧ l4 ≠ [] ∧ faultL l4 = l4.length := by
  unfold okW
  simp only [Bool.and_eq_true, Bool.or_eq_true, decide_eq_true_eq, Bool.not_eq_true', decide_eq_false_iff_not]
  have := faultL_le l4
  constructor
  · rintro ⟨⟨⟨⟨⟨⟨a, b⟩, c⟩, d⟩, e⟩, f⟩, g⟩; exact ⟨a, b, c, d, e, f, by omega⟩
  · rintro ⟨a, b, c, d, e, f, g⟩; exact ⟨⟨⟨⟨⟨⟨a, b⟩, c⟩, d⟩, e⟩, f⟩, by omega⟩
/-- The last two steps. -/
def endL (L : List UInt8) : List Go.Proofs.YtkklccccjmipkaaDoor.Fin.Sem := [maybeS (bs L) ⟨#[123]⟩ (lastL L), endS (bs L)]
def partsOf (st : FS) (l0 l1 l2 l3 l4 : List UInt8) : Prop := st.se = bs l0 ∧ st.ki = bs l1 ∧ st.re = bs l2 ∧ st.ue = bs l3 ∧ st.bo = bs l4
theorem read_w (L l0 l1 l2 l3 l4 E : List UInt8) (hL : L = wl l0 l1 l2 l3 l4 E) (ok : okW l0 l1 l2 l3 l4 = true) :
    ∃ st : FS, runS (parseL (bs L) cA cU) st0 = runS (endL L) st ∧ At L st E ∧ partsOf st l0 l1 l2 l3 l4 := by
  rw [okW_iff] at ok
  obtain ⟨k0, k2, k1, kd, k3, k4, kf⟩ := ok
  have a0 : At L st0 ((⟨#[123, 49, 58, 70, 48, 49]⟩ : ByteArray).data.toList ++ (l0 ++ ([48, 48, 48, 48, 48, 48, 48, 48, 48, 48, 125, 123, 50, 58, 73] ++ (l1 ++ (l2 ++ ([78, 125] ++ (thirdW l3 ++ ([123, 52, 58, 13, 10] ++ (l4 ++ [13, 10, 45] ++ ([125] ++ E)))))))))) := by
    refine ⟨hL, ?_⟩
    show 0 + _ = _
    rw [hL, Nat.zero_add]
    rfl
  unfold parseL
  obtain ⟨e1, a1⟩ := run_text (r := _) a0
  rw [e1]
  obtain ⟨e2, a2⟩ := run_whole (chk := fun x => cA x == 0) (put := fun st v => { st with se := v }) (r := _) a1 (cA_len k0) (beq_iff_eq.2 k0)
  rw [e2]
  obtain ⟨e3, a3⟩ := run_text (t := ⟨#[48, 48, 48, 48, 48, 48, 48, 48, 48, 48, 125, 123, 50, 58, 73]⟩) (r := _) a2
  rw [e3]
  obtain ⟨e4, a4⟩ := run_some (set := ⟨#[48, 49, 50, 51, 52, 53, 54, 55, 56, 57]⟩) (put := fun st v => { st with ki := v }) (r := _) a3 k1 kd (fun _ _ => rfl)
  rw [e4]
  obtain ⟨e5, a5⟩ := run_whole (chk := fun x => cA x == 0) (put := fun st v => { st with re := v }) (r := _) a4 (cA_len k2) (beq_iff_eq.2 k2)
  rw [e5]
  obtain ⟨e6, a6⟩ := run_text (t := ⟨#[78, 125]⟩) (r := _) a5
  rw [e6]
  clear e1 e2 e3 e4 e5 e6
  have fin : ∀ s : FS, At L s ([123, 52, 58, 13, 10] ++ (l4 ++ [13, 10, 45] ++ ([125] ++ E))) → ∃ st : FS, runS (fromL L) s = runS (endL L) st ∧ At L st E ∧ st.se = s.se ∧ st.ki = s.ki ∧ st.re = s.re ∧ st.ue = s.ue ∧ st.bo = bs l4 := by
    intro s h
    unfold fromL bodyL tailL
    obtain ⟨f1, b1⟩ := run_text (t := ⟨#[123, 52, 58, 13, 10]⟩) (r := bodyS (bs L) :: [textS (bs L) ⟨#[125]⟩, maybeS (bs L) ⟨#[123]⟩ (lastL L), endS (bs L)]) h
    obtain ⟨f2, b2⟩ := run_body (r := [textS (bs L) ⟨#[125]⟩, maybeS (bs L) ⟨#[123]⟩ (lastL L), endS (bs L)]) b1 kf k4
    obtain ⟨f3, b3⟩ := run_text (t := ⟨#[125]⟩) (r := [maybeS (bs L) ⟨#[123]⟩ (lastL L), endS (bs L)]) b2
    exact ⟨_, f1.trans (f2.trans f3), b3, rfl, rfl, rfl, rfl, rfl⟩
  have third : ∀ s : FS, At L s (thirdW l3 ++ ([123, 52, 58, 13, 10] ++ (l4 ++ [13, 10, 45] ++ ([125] ++ E)))) → s.se = bs l0 → s.ki = bs l1 → s.re = bs l2 → s.ue = ⟨#[]⟩ →
      ∃ st : FS, runS (maybeS (bs L) ⟨#[123, 51]⟩ (thirdL L) :: fromL L) s = runS (endL L) st ∧ At L st E ∧ partsOf st l0 l1 l2 l3 l4 := by
    intro s h h0 h1 h2 h3
    by_cases hu : l3 = []
    · unfold thirdW at h
      rw [if_pos hu, List.nil_append] at h
      obtain ⟨st, g1, g2, g3, g4, g5, g6, g7⟩ := fin s h
      refine ⟨st, (run_skip (fromL L) h ?_).trans g1, g2, g3.trans h0, g4.trans h1, g5.trans h2, ?_, g7⟩
      · intro hc; cases hc
      · rw [g6, h3, hu]; rfl
    · have ku : cU (bs l3) = 0 := k3.resolve_left hu
      unfold thirdW at h
      rw [if_neg hu] at h
      have h' : At L s ((⟨#[123, 51, 58, 123, 49, 50, 49, 58]⟩ : ByteArray).data.toList ++ (l3 ++ ([125, 125] ++ ([123, 52, 58, 13, 10] ++ (l4 ++ [13, 10, 45] ++ ([125] ++ E)))))) := by
        have e : ([123, 51, 58, 123, 49, 50, 49, 58] ++ (l3 ++ [125, 125])) ++ ([123, 52, 58, 13, 10] ++ (l4 ++ [13, 10, 45] ++ ([125] ++ E))) = (⟨#[123, 51, 58, 123, 49, 50, 49, 58]⟩ : ByteArray).data.toList ++ (l3 ++ ([125, 125] ++ ([123, 52, 58, 13, 10] ++ (l4 ++ [13, 10, 45] ++ ([125] ++ E))))) := by
          simp only [List.append_assoc]
        rw [← e]; exact h
      obtain ⟨f1, b1⟩ := run_text (r := [wholeS (bs L) 36 (fun x => cU x == 0) (fun st v => { st with ue := v }), textS (bs L) ⟨#[125, 125]⟩]) h'
      obtain ⟨f2, b2⟩ := run_whole (chk := fun x => cU x == 0) (put := fun st v => { st with ue := v }) (r := [textS (bs L) ⟨#[125, 125]⟩]) b1 (cU_len ku) (beq_iff_eq.2 ku)
      obtain ⟨f3, b3⟩ := run_text (t := ⟨#[125, 125]⟩) (r := []) b2
      obtain ⟨st, g1, g2, g3, g4, g5, g6, g7⟩ := fin _ b3
      refine ⟨st, (run_opt (t := ⟨#[123, 51]⟩) (R := [58, 123, 49, 50, 49, 58] ++ (l3 ++ ([125, 125] ++ ([123, 52, 58, 13, 10] ++ (l4 ++ [13, 10, 45] ++ ([125] ++ E)))))) (fromL L) h' (f1.trans (f2.trans f3))).trans g1, g2, g3.trans h0, g4.trans h1, g5.trans h2, g6, g7⟩
  exact third _ a6 rfl rfl rfl rfl
end Go.Proofs.YtkklccccjmipkaaDoor.Pure

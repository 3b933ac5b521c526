/- FinBack, in plain Lean. -/
import Derived.Test.YtkklccccjmipkaaDoorZBPureFin9
import Derived.Test.YtkklccccjmipkaaDoorZBPFBackx3
namespace Go.Proofs.YtkklccccjmipkaaDoor.Pure
open Go.RowKit Go.Proofs.YtkklccccjmipkaaDoor.PAll Go.Proofs.YtkklccccjmipkaaDoorW.PrintWords GPlain
open Go.Proofs.YtkklccccjmipkaaDoor.Fin
set_option linter.unusedSimpArgs false
section
variable (L : List UInt8)
def LeS (f : Go.Proofs.YtkklccccjmipkaaDoor.Fin.Sem) : Prop := ∀ st : FS, st.at_ ≤ L.length → (f st).2.at_ ≤ L.length
theorem le_run : ∀ (l : List Go.Proofs.YtkklccccjmipkaaDoor.Fin.Sem), (∀ f ∈ l, LeS L f) → LeS L (runS l)
  | [], _, st, h => h
  | f :: r, hl, st, h => by
    rw [runS_c]
    have h1 := hl f (List.mem_cons_self ..) st h
    by_cases hb : (f st).1 = true
    · rw [if_pos hb]; exact le_run r (fun g hg => hl g (List.mem_cons_of_mem _ hg)) _ h1
    · rw [if_neg hb]; exact h1
theorem le_text (t : ByteArray) : LeS L (textS (bs L) t) := fun st h => text_at L t st h
theorem le_some (N : Nat) (set : ByteArray) (put : FS → ByteArray → FS) (hput : ∀ st v, (put st v).at_ = st.at_) : LeS L (someS (bs L) N set put) := fun st h => some_at L N set put hput st h
theorem le_whole (n : Nat) (chk : ByteArray → Bool) (put : FS → ByteArray → FS) : LeS L (wholeS (bs L) n chk put) := fun st h => by
  unfold wholeS
  rw [bs_size]
  split
  · rename_i h2; exact h2.1
  · exact h
theorem le_maybe (t : ByteArray) (l : List Go.Proofs.YtkklccccjmipkaaDoor.Fin.Sem) (hl : ∀ f ∈ l, LeS L f) : LeS L (maybeS (bs L) t l) := fun st h => by
  unfold maybeS
  split
  · exact le_run L l hl st h
  · exact h
theorem le_body : LeS L (bodyS (bs L)) := fun st h => by
  have hl : (L.drop st.at_).length = L.length - st.at_ := List.length_drop ..
  unfold bodyS
  simp only [bs_data]
  have hf := faultL_le (cutS (L.drop st.at_)).1
  by_cases hc : (cutS (L.drop st.at_)).2.2 = true
  · have hX := congrArg List.length (cut_inv _ hc)
    rw [List.length_append, List.length_append, hl] at hX
    have e3 : ([13, 10, 45] : List UInt8).length = 3 := rfl
    split
    · show st.at_ + (cutS (L.drop st.at_)).1.length + 3 ≤ _; omega
    · show st.at_ + faultL (cutS (L.drop st.at_)).1 ≤ _; omega
  · have hlen : (cutS (L.drop st.at_)).1.length ≤ L.length - st.at_ := by
      rw [← hl]
      unfold cutS Lib.cut
      split
      · rw [List.length_take]; omega
      · exact Nat.le_refl _
    split
    · rename_i h2; exact absurd h2.1 hc
    · show st.at_ + faultL (cutS (L.drop st.at_)).1 ≤ _; omega
theorem le_parse : (runS (parseL (bs L) cA cU) st0).2.at_ ≤ L.length := by
  refine le_run L _ ?_ st0 (Nat.zero_le _)
  unfold parseL
  intro f hf
  simp only [List.mem_cons, List.not_mem_nil, or_false] at hf
  rcases hf with rfl | rfl | rfl | rfl | rfl | rfl | rfl | rfl | rfl | rfl | rfl | rfl
  · exact le_text L _
  · exact le_whole L _ _ _
  · exact le_text L _
  · exact le_some L _ _ _ (fun _ _ => rfl)
  · exact le_whole L _ _ _
  · exact le_text L _
  · refine le_maybe L _ _ (fun f hf => ?_)
    simp only [List.mem_cons, List.not_mem_nil, or_false] at hf
    rcases hf with rfl | rfl | rfl
    · exact le_text L _
    · exact le_whole L _ _ _
    · exact le_text L _
  · exact le_text L _
  · exact le_body L
  · exact le_text L _
  · refine le_maybe L _ _ (fun f hf => ?_)
    simp only [List.mem_cons, List.not_mem_nil, or_false] at hf
    rcases hf with rfl | rfl | rfl
    · exact le_text L _
    · exact le_some L _ _ _ (fun _ _ => rfl)
    · exact le_text L _
  · intro st h; exact h
end
theorem wl_len (l0 l1 l2 l3 l4 E : List UInt8) : l0.length + l1.length + l2.length + l3.length + l4.length + E.length ≤ (wl l0 l1 l2 l3 l4 E).length ∧ (wl l0 l1 l2 l3 l4 E).length ≤ l0.length + l1.length + l2.length + l3.length + l4.length + E.length + 60 := by
  unfold wl thirdW
  by_cases h : l3 = []
  · rw [if_pos h, h]
    simp only [List.length_append, List.length_cons, List.length_nil]
    omega
  · rw [if_neg h]
    simp only [List.length_append, List.length_cons, List.length_nil]
    omega
theorem wv_ok {l0 l1 l2 l3 l4 : List UInt8} (ok : okW l0 l1 l2 l3 l4 = true) : wv l0 l1 l2 l3 l4 = (bs (wl l0 l1 l2 l3 l4 []), 0) := by
  unfold wv
  rw [if_pos ok, wtext_wl]
theorem j2_b (L : List UInt8) (hL : L.length ≤ 4000) (k : Nat) : remitterlaw14_FinBack.j2 (k + 1) (bs L) = some true := by
  rw [remitterlaw14_FinBack.j2, fin_f L hL, Option.bind_some]
  have hle := le_parse L
  obtain ⟨r, hr⟩ : ∃ r, runS (parseL (bs L) cA cU) st0 = r := ⟨_, rfl⟩
  rw [hr] at hle ⊢
  obtain ⟨b, st2⟩ := r
  cases b
  · have e : F7 L.length (false, st2) = ((⟨#[]⟩ : ByteArray), (⟨#[]⟩ : ByteArray), (⟨#[]⟩ : ByteArray), (⟨#[]⟩ : ByteArray), (⟨#[]⟩ : ByteArray), (st2.at_ : Int), 30) := rfl
    rw [e]
    dsimp only at hle ⊢
    rw [if_neg (by omega), if_pos rfl, if_pos (by decide +kernel), if_pos (by omega), bs_size, if_pos (by omega)]
    rfl
  · have e : F7 L.length (true, st2) = (st2.se, st2.ki, st2.re, st2.ue, st2.bo, (L.length : Int), 0) := rfl
    obtain ⟨l0, l1, l2, l3, l4, E, hE, ok, ⟨p0, p1, p2, p3, p4⟩, hx⟩ := read_back hr
    have hlen := wl_len l0 l1 l2 l3 l4 E
    rw [← hE] at hlen
    have ht := wl_tail l0 l1 l2 l3 l4 E
    rw [← hE] at ht
    have hlen2 : L.length = (wl l0 l1 l2 l3 l4 []).length + E.length := by rw [ht, List.length_append]
    rw [e]
    dsimp only
    rw [p0, p1, p2, p3, p4, if_pos rfl, fin_w l0 l1 l2 l3 l4 (by omega) (by omega) (by omega) (by omega) (by omega), Option.bind_some, wv_ok ok]
    dsimp only
    rw [if_pos rfl, bs_size, bs_size, if_pos (by omega), if_pos (by omega)]
    have ex : ((bs L).extract 0 (((wl l0 l1 l2 l3 l4 []).length : Int)).toNat).toList = (bs (wl l0 l1 l2 l3 l4 [])).toList := by
      rw [bs_extract, bs_toList, bs_toList, List.drop_zero, show (((wl l0 l1 l2 l3 l4 []).length : Int)).toNat = (wl l0 l1 l2 l3 l4 []).length by omega, ht, List.take_left]
    rw [ex, if_pos rfl]
    have hw : wrap64 (((wl l0 l1 l2 l3 l4 []).length : Int) + 22) = ((wl l0 l1 l2 l3 l4 []).length : Int) + 22 := wrap_ok (by omega) (by omega)
    rw [hw]
    rcases hx with hx | hx
    · rw [hx] at hlen2
      rw [if_pos (by have : ([] : List UInt8).length = 0 := rfl; omega)]
      rfl
    · rw [if_neg (by omega), if_pos (by omega)]
      rfl
theorem app_bs (l m : List UInt8) (a : ByteArray) (h : a = bs m) : bs l ++ a = bs (l ++ m) := by rw [h, bs_append]
theorem FinBack (a0 a1 a2 a3 a4 a5 : ByteArray) (hw0 : a0.size ≤ 140737488351232) (hw : a1.size ≤ 140737488351232 ∧ a2.size ≤ 140737488351232 ∧ a3.size ≤ 140737488351232 ∧ a4.size ≤ 140737488351232 ∧ a5.size ≤ 140737488351232) :
    ∃ k, remitterlaw14_FinBack.f k a0 a1 a2 a3 a4 a5 = some true := by
  refine ⟨4, ?_⟩
  obtain ⟨L, rfl⟩ := bs_ex a0
  obtain ⟨l0, rfl⟩ := bs_ex a1
  obtain ⟨l1, rfl⟩ := bs_ex a2
  obtain ⟨l2, rfl⟩ := bs_ex a3
  obtain ⟨l3, rfl⟩ := bs_ex a4
  obtain ⟨l4, rfl⟩ := bs_ex a5
  have hwk : ∀ x : ByteArray × ByteArray × ByteArray × ByteArray × ByteArray, remitterlaw14_FinBack.j0 4 (bs L) true x.1 x.2.1 x.2.2.1 x.2.2.2.1 x.2.2.2.2 = some true := fun x => by
    rw [remitterlaw14_FinBack.j0, if_pos rfl]
    rfl
  unfold remitterlaw14_FinBack.f
  rw [bs_size] at *
  by_cases h : (L.length : Int) > 3000
  · rw [if_pos h]
    exact hwk (bs l0, bs l1, bs l2, bs l3, bs l4)
  · rw [if_neg h]
    simp only [bs_size] at *
    rw [wrap_ok (x := (l0.length : Int) + (l1.length : Int)) (by omega) (by omega), wrap_ok (x := (l0.length : Int) + (l1.length : Int) + (l2.length : Int)) (by omega) (by omega), wrap_ok (x := (l0.length : Int) + (l1.length : Int) + (l2.length : Int) + (l3.length : Int)) (by omega) (by omega), wrap_ok (x := (l0.length : Int) + (l1.length : Int) + (l2.length : Int) + (l3.length : Int) + (l4.length : Int)) (by omega) (by omega)]
    by_cases h2 : (l0.length : Int) + (l1.length : Int) + (l2.length : Int) + (l3.length : Int) + (l4.length : Int) > 3000
    · rw [decide_eq_true h2]
      exact hwk (bs l0, bs l1, bs l2, bs l3, bs l4)
    · rw [decide_eq_false h2, remitterlaw14_FinBack.j0]
      simp only [Bool.false_eq_true, ↓reduceIte]
      rw [fin_w l0 l1 l2 l3 l4 (by omega) (by omega) (by omega) (by omega) (by omega), Option.bind_some]
      cases hok : okW l0 l1 l2 l3 l4
      · have e : wv l0 l1 l2 l3 l4 = ((⟨#[]⟩ : ByteArray), 30) := by unfold wv; rw [hok]; rfl
        rw [e]
        dsimp only
        rw [if_neg (by omega)]
        exact j2_b L (by omega) 2
      · have hl := wl_len l0 l1 l2 l3 l4 []
        have e0 : ([] : List UInt8).length = 0 := rfl
        rw [e0] at hl
        rw [wv_ok hok]
        dsimp only
        rw [if_pos rfl, fin_f _ (by omega), Option.bind_some, bs_size, if_pos (by omega)]
        rw [app_bs (wl l0 l1 l2 l3 l4 []) [120] ⟨#[120]⟩ rfl]
        obtain ⟨s1, r1, t1, q1⟩ := read_w (wl l0 l1 l2 l3 l4 []) l0 l1 l2 l3 l4 [] rfl hok
        rw [end_nil t1] at r1
        obtain ⟨s2, r2, t2, q2⟩ := read_w (wl l0 l1 l2 l3 l4 [] ++ [120]) l0 l1 l2 l3 l4 [120] (wl_tail l0 l1 l2 l3 l4 [120]).symm hok
        obtain ⟨x1, x2⟩ := end_x t2
        rw [x1] at r2
        rw [r1, fin_f (wl l0 l1 l2 l3 l4 [] ++ [120]) (by rw [List.length_append]; have : ([120] : List UInt8).length = 1 := rfl; omega), Option.bind_some, r2]
        have f1 : F7 (wl l0 l1 l2 l3 l4 []).length (true, s1) = (bs l0, bs l1, bs l2, bs l3, bs l4, ((wl l0 l1 l2 l3 l4 []).length : Int), 0) := by
          unfold F7
          rw [if_pos rfl, q1.1, q1.2.1, q1.2.2.1, q1.2.2.2.1, q1.2.2.2.2]
        have f2 : F7 (wl l0 l1 l2 l3 l4 [] ++ [120]).length (false, s2) = ((⟨#[]⟩ : ByteArray), (⟨#[]⟩ : ByteArray), (⟨#[]⟩ : ByteArray), (⟨#[]⟩ : ByteArray), (⟨#[]⟩ : ByteArray), (s2.at_ : Int), 30) := rfl
        have hs2 : (s2.at_ : Int) = ((wl l0 l1 l2 l3 l4 []).length : Int) := by
          rw [List.length_append] at x2
          have : ([120] : List UInt8).length = 1 := rfl
          omega
        rw [f1, f2, hs2]
        simp only [beq_self_eq_true, Bool.not_true, Bool.or_self, Bool.false_eq_true, ↓reduceIte, bne_self_eq_false]
        rw [remitterlaw14_FinBack.j1]
        simp only [Bool.false_eq_true, ↓reduceIte]
        rw [app_bs (wl l0 l1 l2 l3 l4 []) five ⟨#[123, 53, 58, 123, 67, 72, 75, 58, 48, 49, 50, 51, 52, 53, 54, 55, 56, 57, 65, 66, 125, 125]⟩ rfl, bs_size, if_pos (by omega)]
        obtain ⟨s3, r3, t3, q3⟩ := read_w (wl l0 l1 l2 l3 l4 [] ++ five) l0 l1 l2 l3 l4 five (wl_tail l0 l1 l2 l3 l4 five).symm hok
        obtain ⟨s4, r4, g0, g1, g2, g3, g4⟩ := end_five t3
        rw [r4] at r3
        have e5 : five.length = 22 := rfl
        rw [fin_f (wl l0 l1 l2 l3 l4 [] ++ five) (by rw [List.length_append, e5]; omega), Option.bind_some, r3]
        have f3 : F7 (wl l0 l1 l2 l3 l4 [] ++ five).length (true, s4) = (bs l0, bs l1, bs l2, bs l3, bs l4, ((wl l0 l1 l2 l3 l4 [] ++ five).length : Int), 0) := by
          unfold F7
          rw [if_pos rfl, g0, g1, g2, g3, g4, q3.1, q3.2.1, q3.2.2.1, q3.2.2.2.1, q3.2.2.2.2]
        rw [f3, bs_size]
        simp only [beq_self_eq_true, Bool.not_true, Bool.or_self, Bool.false_eq_true, ↓reduceIte]
        exact j2_b L (by omega) 1
end Go.Proofs.YtkklccccjmipkaaDoor.Pure

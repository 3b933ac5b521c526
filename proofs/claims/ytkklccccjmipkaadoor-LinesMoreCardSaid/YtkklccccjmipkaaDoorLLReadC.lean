/- The contract of lines.Read, in the print's form. -/
import Derived.Test.YtkklccccjmipkaaDoorLLRead
import Derived.Test.YtkklccccjmipkaaDoorLPLin0
import Derived.Test.YtkklccccjmipkaaDoorLPLTgx1
import Derived.Test.YtkklccccjmipkaaDoorLGCheck
namespace Go.Proofs.YtkklccccjmipkaaDoor.PAll
open Go.RowKit Go.Proofs.YtkklccccjmipkaaDoorW.PrintWords GPlain
open Go.Proofs.YtkklccccjmipkaaDoor.Lin
set_option linter.unusedSimpArgs false
/-- Are all bytes of a line of the set X? -/
def xokL (x : ByteArray) : Bool := badE setX x.data.toList == 0
theorem chk_f (x : ByteArray) (hx : x.size ≤ 1048576) : charset_Check.f 88 x = some (((firstBad setX x.data.toList : Nat) : Int), badE setX x.data.toList) := by
  unfold charset_Check.f setOf
  rw [if_pos (by decide), if_pos (by omega)]
  rfl
theorem bad_or (l s : List UInt8) : badE l s = 0 ∨ badE l s = 15 := by
  unfold badE
  split
  · exact .inr rfl
  · exact .inl rfl
/-- A line's tag, what is behind it, and whether it begins a field. -/
def tgL (x : ByteArray) : ByteArray × ByteArray × Bool :=
  if Lib.hasPrefix x.data.toList [58] = true then
    let c := cutV (x.extract 1 x.size) ⟨#[58]⟩
    (c.1, c.2.1, c.2.2 && decide (2 ≤ c.1.size) && (bs (Lib.trimS (c.1.extract 0 2).data.toList digs10)).toList.isEmpty && (decide (c.1.size = 2) || (decide (c.1.size = 3) && decide (65 ≤ bt c.1 2) && decide (bt c.1 2 ≤ 90))))
  else (⟨#[]⟩, ⟨#[]⟩, false)
theorem cut_len (l p : List UInt8) : (Lib.cut l p).1.length ≤ l.length ∧ (Lib.cut l p).2.1.length ≤ l.length := by
  unfold Lib.cut
  split
  · exact ⟨by rw [List.length_take]; omega, by rw [List.length_drop]; omega⟩
  · exact ⟨Nat.le_refl _, Nat.zero_le _⟩
theorem tag_f (x : ByteArray) (hx : x.size ≤ 1000000) : lines_tag.f x = some (tgL x) := by
  unfold lines_tag.f tgL strings_HasPrefix.f
  rw [Option.bind_some]
  have e58 : (⟨#[58]⟩ : ByteArray).data.toList = [58] := rfl
  rw [e58]
  by_cases h : Lib.hasPrefix x.data.toList [58] = true
  · rw [if_pos h, if_pos h]
    have h1 : 1 ≤ x.size := by
      obtain ⟨l, rfl⟩ := bs_ex x
      rw [bs_data] at h
      rw [bs_size]
      cases l with
      | nil => cases h
      | cons a r => rw [List.length_cons]; omega
    rw [if_pos (by omega)]
    obtain ⟨y, hy⟩ : ∃ y, x.extract 1 x.size = y := ⟨_, rfl⟩
    have hys : y.size ≤ 1000000 := by rw [← hy, ByteArray.size_extract]; omega
    rw [hy]
    have hc : strings_Cut.f y ⟨#[58]⟩ = some (cutV y ⟨#[58]⟩) := by unfold strings_Cut.f; rw [if_pos (by omega)]
    rw [hc, Option.bind_some]
    have hcl := cut_len y.data.toList (⟨#[58]⟩ : ByteArray).data.toList
    have hy2 : y.data.toList.length = y.size := by rw [Array.length_toList]; rfl
    have hz : (cutV y ⟨#[58]⟩).1.size ≤ 1000000 := by unfold cutV; rw [bs_size]; omega
    generalize cutV y ⟨#[58]⟩ = c at hz ⊢
    obtain ⟨t, r, is⟩ := c
    dsimp only at hz ⊢
    have ht : ∀ z : ByteArray, z.size ≤ 1000000 → strings_Trim.f z (⟨#[48, 49, 50, 51, 52, 53, 54, 55, 56, 57]⟩ : ByteArray) = some (bs (Lib.trimS z.data.toList digs10)) := fun z hz => by
      unfold strings_Trim.f
      rw [if_pos ⟨by omega, rfl⟩]
    have htz : (t.extract 0 2).size ≤ 1000000 := by rw [ByteArray.size_extract]; omega
    rw [ht _ htz]
    simp only [Option.bind_some]
    obtain ⟨tz, htz2⟩ : ∃ z, t.extract 0 2 = z := ⟨_, rfl⟩
    rw [htz2]
    generalize (bs (Lib.trimS tz.data.toList digs10)).toList = tr
    generalize hb : bt t 2 = b
    by_cases h2 : t.size = 2
    · cases is <;> cases tr <;> simp [h2]
    · by_cases h3 : t.size = 3
      · by_cases hb1 : 65 ≤ b <;> by_cases hb2 : b ≤ 90 <;> cases is <;> cases tr <;> simp [h3, hb1, hb2]
      · by_cases h4 : 2 ≤ t.size
        · have n2 : ¬ ((t.size : Int) = 2) := by omega
          have n3 : ¬ ((t.size : Int) = 3) := by omega
          have n4 : (t.size : Int) ≥ 2 := by omega
          have n5 : (2 : Int) ≤ t.size := by omega
          cases is <;> cases tr <;> simp [h2, h3, h4, n2, n3, n4, n5]
        · have n2 : ¬ ((t.size : Int) = 2) := by omega
          have n3 : ¬ ((t.size : Int) = 3) := by omega
          have n4 : ¬ (2 : Int) ≤ t.size := by omega
          cases is <;> simp [h2, h3, h4, n2, n3, n4]
  · rw [if_neg h, if_neg h]
theorem tgL_size (x : ByteArray) : (tgL x).2.1.size ≤ x.size := by
  unfold tgL
  split
  · have hcl := cut_len (x.extract 1 x.size).data.toList (⟨#[58]⟩ : ByteArray).data.toList
    have hy2 : (x.extract 1 x.size).data.toList.length = (x.extract 1 x.size).size := by rw [Array.length_toList]; rfl
    have hy3 : (x.extract 1 x.size).size ≤ x.size := by rw [ByteArray.size_extract]; omega
    show (cutV (x.extract 1 x.size) ⟨#[58]⟩).2.1.size ≤ _
    unfold cutV
    rw [bs_size]
    omega
  · exact Nat.zero_le _
/-- The fields, as the print has them. -/
def lfS (f : LF) : S68 := ⟨f.tag, f.text, f.at_⟩
def lines_Read.f (a0 : ByteArray) : Option (List (S68) × Int × Int) :=
  if a0.size ≤ 1000000 then some ((lread xokL tgL a0).1.map lfS, (lread xokL tgL a0).2.1, (lread xokL tgL a0).2.2) else none
theorem reps_lf (w : World) (base : Nat) (ok : Nat → Prop) : ∀ l : List LF, Reps (k68.M w base ok) 3 (l.map lfS) (rowOf l)
  | [] => Reps.none _ _
  | f :: l => Reps.c3 (k68_mkM w base ok (lfS f)) (reps_lf w base ok l)
theorem lines_Read.calls (a0 : ByteArray) (r1 : List (S68)) (r2 : Int) (r3 : Int) (w : World) (h : lines_Read.f a0 = some (r1, r2, r3)) (hG : GW w) :
    Calls Tryd.prog 31 #[.string a0] w fun e w' => ∃ v0_ : Value, e = .returned (.tuple #[v0_, .int .i64 r2, .int .i64 r3]) ∧ Kd.R k68 68 w' w.heap.size (fun _ => True) v0_ r1 ∧ Below w.heap.size w w' := by
  unfold lines_Read.f at h
  by_cases hs : a0.size ≤ 1000000
  · rw [if_pos hs] at h
    have h := Option.some.inj h
    simp only [Prod.mk.injEq] at h
    obtain ⟨rfl, rfl, rfl⟩ := h
    have hr := callsIn_wide.1 (read_in xokL tgL a0 (by omega) w hG tgL_size
      (fun x W hx => (charset_Check.calls 88 x _ _ W (chk_f x (by omega))).mono fun e w' ⟨he, hb⟩ => ⟨⟨_, he.trans (by
        rcases bad_or setX x.data.toList with h | h
        · rw [h, if_pos (show xokL x = true by unfold xokL; rw [h]; rfl)]
        · rw [h, if_neg (show ¬ xokL x = true by unfold xokL; rw [h]; decide)])⟩, hb⟩)
      (fun x W hx hg => lines_tag.calls x _ _ _ W (tag_f x (by omega)) hg))
    refine hr.mono ?_
    rintro e w' ⟨v, he, hown, hb⟩
    refine ⟨v, he, ⟨fun _ _ => trivial, rowOf (lread xokL tgL a0).1, ?_, reps_lf _ _ _ _⟩, hb⟩
    rw [List.length_map]
    exact hown
  · rw [if_neg hs] at h
    cases h
end Go.Proofs.YtkklccccjmipkaaDoor.PAll

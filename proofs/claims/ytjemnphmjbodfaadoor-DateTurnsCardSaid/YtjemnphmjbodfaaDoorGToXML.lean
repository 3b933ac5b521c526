/- date.ToXML, by hand: its closure reads the boxed text. -/
import Derived.Test.YtjemnphmjbodfaaDoorPAllx2
import Derived.Laws.EntriesVeiled
import Derived.WalkKit
import Derived.Lib.Hide
namespace Go.Proofs.YtjemnphmjbodfaaDoor.PAll
open Go.RowKit Go.Proofs.YtjemnphmjbodfaaDoorW.PrintWords GPlain
set_option linter.unusedSimpArgs false

theorem part_calls (s : ByteArray) (hs : s.size = 6) (n : Int) (hn : date_number.f (s.extract 0 2) = some n) (B : Nat) (w : World) (hB : w.cell? ⟨B, 0, none⟩ = some (.string s)) :
    Calls Tryd.prog 18 #[.int .i64 0, .pointer (some ⟨B, 0, none⟩)] w fun e w' => e = .returned (.int .i64 n) ∧ Below w.heap.size w w' := by
  have HN := Lib.hid hn
  clear hn
  go_enter Tryd.func18, Tryd.ntmps18
  go_wp2_with (go_at_call 19; refine (date_number.calls _ _ _ HN.out).mono ?_; rintro e w' ⟨rfl, hb⟩)
  go_ret
  exact ⟨rfl, hb⟩
set_option maxRecDepth 100000 in
set_option maxHeartbeats 2000000 in
theorem toXML_19_0 (s : ByteArray) (hs : s.size = 6) (n : Int) (hn : date_number.f (s.extract 0 2) = some n) (h80 : 80 ≤ n) (e0 : Int) (he : date_CheckXML.f ((⟨#[49, 57]⟩ : ByteArray) ++ s.extract 0 2 ++ (⟨#[45]⟩ : ByteArray) ++ s.extract 2 4 ++ (⟨#[45]⟩ : ByteArray) ++ s.extract 4 6) = some e0) (hz : e0 = 0) (w : World) :
    Calls Tryd.prog 7 #[.string s] w fun e w' => e = .returned (.tuple #[.string ((⟨#[49, 57]⟩ : ByteArray) ++ s.extract 0 2 ++ (⟨#[45]⟩ : ByteArray) ++ s.extract 2 4 ++ (⟨#[45]⟩ : ByteArray) ++ s.extract 4 6), .int .i64 e0]) ∧ Below w.heap.size w w' := by
  have HN := Lib.hid hn
  have HE := Lib.hid he
  clear hn he
  have hmf : ∀ (fn : Fn) (first cap : Array Value) (w : World), (Instr.makeFunc fn first cap).run Tryd.prog w = .ok (.func fn first cap) w := fun _ _ _ _ => rfl
  go_enter Tryd.func7, Tryd.ntmps7
  go_wp2_with (go_at_call 18; refine (part_calls s hs n HN.out _ _ (by simp)).mono ?_; rintro e w1 ⟨rfl, hb⟩)
  have hcB : w1.cell? ⟨w.heap.size, 0, none⟩ = some (.string s) := (hb.cell (p := ⟨w.heap.size, 0, none⟩) (by simp)).trans (by simp)
  go_quiet (fail)
  go_wp2_with (go_at_call 14; refine (date_CheckXML.calls _ e0 _ HE.out).mono ?_; rintro e w2 ⟨rfl, hb2⟩)
  go_ret2
  refine ⟨by first | rfl | simp [*], ?_⟩
  have c1 : Below w.heap.size w w1 := below_then (((Below.refl _ w).alloc (Nat.le_refl _) _)) (by simp) hb
  have c2 : Below w.heap.size w (w1.drewN nq) := c1.trans ⟨rfl, rfl, rfl, Nat.le_refl _, fun _ _ => rfl⟩
  exact below_then c2 c2.size hb2
set_option maxRecDepth 100000 in
set_option maxHeartbeats 2000000 in
theorem toXML_19_1 (s : ByteArray) (hs : s.size = 6) (n : Int) (hn : date_number.f (s.extract 0 2) = some n) (h80 : 80 ≤ n) (e0 : Int) (he : date_CheckXML.f ((⟨#[49, 57]⟩ : ByteArray) ++ s.extract 0 2 ++ (⟨#[45]⟩ : ByteArray) ++ s.extract 2 4 ++ (⟨#[45]⟩ : ByteArray) ++ s.extract 4 6) = some e0) (hz : ¬ e0 = 0) (w : World) :
    Calls Tryd.prog 7 #[.string s] w fun e w' => e = .returned (.tuple #[.string (⟨#[]⟩ : ByteArray), .int .i64 e0]) ∧ Below w.heap.size w w' := by
  have HN := Lib.hid hn
  have HE := Lib.hid he
  clear hn he
  have hmf : ∀ (fn : Fn) (first cap : Array Value) (w : World), (Instr.makeFunc fn first cap).run Tryd.prog w = .ok (.func fn first cap) w := fun _ _ _ _ => rfl
  go_enter Tryd.func7, Tryd.ntmps7
  go_wp2_with (go_at_call 18; refine (part_calls s hs n HN.out _ _ (by simp)).mono ?_; rintro e w1 ⟨rfl, hb⟩)
  have hcB : w1.cell? ⟨w.heap.size, 0, none⟩ = some (.string s) := (hb.cell (p := ⟨w.heap.size, 0, none⟩) (by simp)).trans (by simp)
  go_quiet (fail)
  go_wp2_with (go_at_call 14; refine (date_CheckXML.calls _ e0 _ HE.out).mono ?_; rintro e w2 ⟨rfl, hb2⟩)
  go_ret2
  refine ⟨by first | rfl | simp [*], ?_⟩
  have c1 : Below w.heap.size w w1 := below_then (((Below.refl _ w).alloc (Nat.le_refl _) _)) (by simp) hb
  have c2 : Below w.heap.size w (w1.drewN nq) := c1.trans ⟨rfl, rfl, rfl, Nat.le_refl _, fun _ _ => rfl⟩
  exact below_then c2 c2.size hb2
set_option maxRecDepth 100000 in
set_option maxHeartbeats 2000000 in
theorem toXML_20_0 (s : ByteArray) (hs : s.size = 6) (n : Int) (hn : date_number.f (s.extract 0 2) = some n) (h80 : ¬ 80 ≤ n) (e0 : Int) (he : date_CheckXML.f ((⟨#[50, 48]⟩ : ByteArray) ++ s.extract 0 2 ++ (⟨#[45]⟩ : ByteArray) ++ s.extract 2 4 ++ (⟨#[45]⟩ : ByteArray) ++ s.extract 4 6) = some e0) (hz : e0 = 0) (w : World) :
    Calls Tryd.prog 7 #[.string s] w fun e w' => e = .returned (.tuple #[.string ((⟨#[50, 48]⟩ : ByteArray) ++ s.extract 0 2 ++ (⟨#[45]⟩ : ByteArray) ++ s.extract 2 4 ++ (⟨#[45]⟩ : ByteArray) ++ s.extract 4 6), .int .i64 e0]) ∧ Below w.heap.size w w' := by
  have HN := Lib.hid hn
  have HE := Lib.hid he
  clear hn he
  have hmf : ∀ (fn : Fn) (first cap : Array Value) (w : World), (Instr.makeFunc fn first cap).run Tryd.prog w = .ok (.func fn first cap) w := fun _ _ _ _ => rfl
  go_enter Tryd.func7, Tryd.ntmps7
  go_wp2_with (go_at_call 18; refine (part_calls s hs n HN.out _ _ (by simp)).mono ?_; rintro e w1 ⟨rfl, hb⟩)
  have hcB : w1.cell? ⟨w.heap.size, 0, none⟩ = some (.string s) := (hb.cell (p := ⟨w.heap.size, 0, none⟩) (by simp)).trans (by simp)
  go_quiet (fail)
  go_wp2_with (go_at_call 14; refine (date_CheckXML.calls _ e0 _ HE.out).mono ?_; rintro e w2 ⟨rfl, hb2⟩)
  go_ret2
  refine ⟨by first | rfl | simp [*], ?_⟩
  have c1 : Below w.heap.size w w1 := below_then (((Below.refl _ w).alloc (Nat.le_refl _) _)) (by simp) hb
  have c2 : Below w.heap.size w (w1.drewN nq) := c1.trans ⟨rfl, rfl, rfl, Nat.le_refl _, fun _ _ => rfl⟩
  exact below_then c2 c2.size hb2
set_option maxRecDepth 100000 in
set_option maxHeartbeats 2000000 in
theorem toXML_20_1 (s : ByteArray) (hs : s.size = 6) (n : Int) (hn : date_number.f (s.extract 0 2) = some n) (h80 : ¬ 80 ≤ n) (e0 : Int) (he : date_CheckXML.f ((⟨#[50, 48]⟩ : ByteArray) ++ s.extract 0 2 ++ (⟨#[45]⟩ : ByteArray) ++ s.extract 2 4 ++ (⟨#[45]⟩ : ByteArray) ++ s.extract 4 6) = some e0) (hz : ¬ e0 = 0) (w : World) :
    Calls Tryd.prog 7 #[.string s] w fun e w' => e = .returned (.tuple #[.string (⟨#[]⟩ : ByteArray), .int .i64 e0]) ∧ Below w.heap.size w w' := by
  have HN := Lib.hid hn
  have HE := Lib.hid he
  clear hn he
  have hmf : ∀ (fn : Fn) (first cap : Array Value) (w : World), (Instr.makeFunc fn first cap).run Tryd.prog w = .ok (.func fn first cap) w := fun _ _ _ _ => rfl
  go_enter Tryd.func7, Tryd.ntmps7
  go_wp2_with (go_at_call 18; refine (part_calls s hs n HN.out _ _ (by simp)).mono ?_; rintro e w1 ⟨rfl, hb⟩)
  have hcB : w1.cell? ⟨w.heap.size, 0, none⟩ = some (.string s) := (hb.cell (p := ⟨w.heap.size, 0, none⟩) (by simp)).trans (by simp)
  go_quiet (fail)
  go_wp2_with (go_at_call 14; refine (date_CheckXML.calls _ e0 _ HE.out).mono ?_; rintro e w2 ⟨rfl, hb2⟩)
  go_ret2
  refine ⟨by first | rfl | simp [*], ?_⟩
  have c1 : Below w.heap.size w w1 := below_then (((Below.refl _ w).alloc (Nat.le_refl _) _)) (by simp) hb
  have c2 : Below w.heap.size w (w1.drewN nq) := c1.trans ⟨rfl, rfl, rfl, Nat.le_refl _, fun _ _ => rfl⟩
  exact below_then c2 c2.size hb2
theorem toXML_short (s : ByteArray) (hs : ¬ s.size = 6) (w : World) :
    Calls Tryd.prog 7 #[.string s] w fun e w' => e = .returned (.tuple #[.string (⟨#[]⟩ : ByteArray), .int .i64 16]) ∧ Below w.heap.size w w' := by
  have h1 : ((s.size : Int) == 6) = false := beq_eq_false_iff_ne.2 (by omega)
  have h2 : ((s.size : Int) != 6) = true := bne_iff_ne.2 (by omega)
  clear hs
  go_enter Tryd.func7, Tryd.ntmps7
  go_wp2
  go_ret2
  exact ⟨rfl, (Below.refl _ w).alloc (Nat.le_refl _) _⟩
/-- The text of XML that is tried. -/
def xmlB (s c : ByteArray) : ByteArray := c ++ s.extract 0 2 ++ (⟨#[45]⟩ : ByteArray) ++ s.extract 2 4 ++ (⟨#[45]⟩ : ByteArray) ++ s.extract 4 6
def date_ToXML.f (a0 : ByteArray) : Option (ByteArray × Int) :=
  if a0.size = 6 then (date_number.f (a0.extract 0 2)).bind fun n => (date_CheckXML.f (xmlB a0 (if 80 ≤ n then (⟨#[49, 57]⟩ : ByteArray) else (⟨#[50, 48]⟩ : ByteArray)))).bind fun e => some (if e = 0 then xmlB a0 (if 80 ≤ n then (⟨#[49, 57]⟩ : ByteArray) else (⟨#[50, 48]⟩ : ByteArray)) else (⟨#[]⟩ : ByteArray), e)
  else some ((⟨#[]⟩ : ByteArray), 16)
theorem date_ToXML.calls (a0 : ByteArray) (r1 : ByteArray) (r2 : Int) (w : World) (h : date_ToXML.f a0 = some (r1, r2)) :
    Calls Tryd.prog 7 #[.string a0] w fun e w' => e = .returned (.tuple #[.string r1, .int .i64 r2]) ∧ Below w.heap.size w w' := by
  unfold date_ToXML.f at h
  by_cases hs : a0.size = 6
  · rw [if_pos hs] at h
    obtain ⟨n, hn, h⟩ := Option.bind_eq_some_iff.1 h
    obtain ⟨e, he, h⟩ := Option.bind_eq_some_iff.1 h
    have h' := Option.some.inj h
    have e1 := congrArg (·.1) h'
    have e2 := congrArg (·.2) h'
    dsimp only at e1 e2
    subst e1 e2
    by_cases h80 : 80 ≤ n
    · rw [if_pos h80] at he ⊢
      by_cases hz : e = 0
      · rw [if_pos hz]
        exact toXML_19_0 a0 hs n hn h80 e he hz w
      · rw [if_neg hz]
        exact toXML_19_1 a0 hs n hn h80 e he hz w
    · rw [if_neg h80] at he ⊢
      by_cases hz : e = 0
      · rw [if_pos hz]
        exact toXML_20_0 a0 hs n hn h80 e he hz w
      · rw [if_neg hz]
        exact toXML_20_1 a0 hs n hn h80 e he hz w
  · rw [if_neg hs] at h
    have h' := Option.some.inj h
    have e1 := congrArg (·.1) h'
    have e2 := congrArg (·.2) h'
    dsimp only at e1 e2
    subst e1 e2
    exact toXML_short a0 hs w
end Go.Proofs.YtjemnphmjbodfaaDoor.PAll

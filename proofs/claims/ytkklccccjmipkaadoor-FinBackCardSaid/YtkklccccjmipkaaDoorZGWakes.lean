/- remitterlaw14.wakes answers true: by hand. -/
import Derived.Test.YtkklccccjmipkaaDoorZGWriteC
import Derived.KernelRfl
namespace Go.Proofs.YtkklccccjmipkaaDoor.PAll
open Go.RowKit Go.Proofs.YtkklccccjmipkaaDoorW.PrintWords GPlain
set_option linter.unusedSimpArgs false
def kMsg : ByteArray := ⟨#[123, 49, 58, 70, 48, 49, 66, 65, 78, 75, 66, 69, 66, 66, 65, 88, 88, 88, 48, 48, 48, 48, 48, 48, 48, 48, 48, 48, 125, 123, 50, 58, 73, 49, 48, 51, 68, 69, 85, 84, 68, 69, 70, 70, 88, 88, 88, 88, 78, 125, 123, 52, 58, 13, 10, 58, 50, 48, 58, 82, 13, 10, 45, 125]⟩
abbrev kS : ByteArray := ⟨#[66, 65, 78, 75, 66, 69, 66, 66, 65, 88, 88, 88]⟩
abbrev kR : ByteArray := ⟨#[68, 69, 85, 84, 68, 69, 70, 70, 88, 88, 88, 88]⟩
abbrev kB : ByteArray := ⟨#[58, 50, 48, 58, 82]⟩
set_option maxRecDepth 100000 in
theorem parse_k : fin_Parse.f kMsg = some (kS, ⟨#[49, 48, 51]⟩, kR, ⟨#[]⟩, kB, 64, 0) := by kernel_rfl
set_option maxRecDepth 100000 in
theorem parse_s : fin_Parse.f ⟨#[123, 49, 58, 70, 48, 50]⟩ = some (⟨#[]⟩, ⟨#[]⟩, ⟨#[]⟩, ⟨#[]⟩, ⟨#[]⟩, 5, 30) := by kernel_rfl
set_option maxRecDepth 100000 in
theorem write_k : fin_Write.f kS ⟨#[49, 48, 51]⟩ kR ⟨#[]⟩ kB = some (kMsg, 0) := by decide +kernel
theorem known_calls (w : World) : Calls Tryd.prog 38 #[] w fun e w' => e = .returned (.string kMsg) ∧ w = w' := by
  go_enter Tryd.func38, Tryd.ntmps38
  go_wp2
  go_ret
  exact ⟨rfl, rfl⟩
theorem stepB {w W1 W2 : World} (h : Below w.heap.size w W1) (o : Obj) (hb : Below (W1.alloc o).heap.size (W1.alloc o) W2) : Below w.heap.size w W2 :=
  (h.alloc h.size o).trans (hb.mono (by rw [World.size_alloc]; have := h.size; omega))
set_option maxRecDepth 100000 in
set_option maxHeartbeats 4000000 in
theorem wakes_walk (w : World) (hG : GW w) : Calls Tryd.prog 14 #[] w fun e w' => e = .returned (.bool true) ∧ Below w.heap.size w w' := by
  have HP := Lib.hid parse_k
  have HQ := Lib.hid parse_s
  have HW := Lib.hid write_k
  have B0 := Lib.hid (Below.refl w.heap.size w)
  have HG := Lib.hid hG
  clear hG
  go_enter Tryd.func14, Tryd.ntmps14
  go_wp2_with (first
    | (go_at_call 38; refine (known_calls _).mono ?_; rintro e w0 ⟨rfl, rfl⟩)
    | (go_at_call 15; (with_reducible refine (fin_Parse.calls kMsg _ _ _ _ _ _ _ _ HP.out HG.out).mono ?_); rintro e w1 ⟨rfl, hb⟩; have HB1 := Lib.hid hb; have HG1 := Lib.hid (GW_below (GW_below HG.out hb) ((Below.refl _ w1).alloc (Nat.le_refl _) (.cells #[.string kS, .string ⟨#[49, 48, 51]⟩, .string kR, .string ⟨#[]⟩, .string kB] 24))); clear hb)
    | (go_at_call 15; (with_reducible refine (fin_Parse.calls ⟨#[123, 49, 58, 70, 48, 50]⟩ _ _ _ _ _ _ _ _ HQ.out HG1.out).mono ?_); rintro e w2 ⟨rfl, hb⟩; have HKa := Lib.hid ((hb.block w1.heap.size (by simp)).trans (World.alloc_heap_new w1 _)); have HB2 := Lib.hid hb; clear hb; have HKc := Lib.hid ((Below.heap_alloc w2 (.cells #[.string ⟨#[]⟩, .string ⟨#[]⟩, .string ⟨#[]⟩, .string ⟨#[]⟩, .string ⟨#[]⟩] 24) w1.heap.size (Array.getElem?_eq_some_iff.1 HKa.out).1).trans HKa.out); have a0 : (w2.alloc (.cells #[.string ⟨#[]⟩, .string ⟨#[]⟩, .string ⟨#[]⟩, .string ⟨#[]⟩, .string ⟨#[]⟩] 24)).cell? ⟨w1.heap.size, 0, none⟩ = some (.string kS) := Fin.blk_cell HKc.out rfl; have a1 : (w2.alloc (.cells #[.string ⟨#[]⟩, .string ⟨#[]⟩, .string ⟨#[]⟩, .string ⟨#[]⟩, .string ⟨#[]⟩] 24)).cell? ⟨w1.heap.size, 1, none⟩ = some (.string ⟨#[49, 48, 51]⟩) := Fin.blk_cell HKc.out rfl; have a2 : (w2.alloc (.cells #[.string ⟨#[]⟩, .string ⟨#[]⟩, .string ⟨#[]⟩, .string ⟨#[]⟩, .string ⟨#[]⟩] 24)).cell? ⟨w1.heap.size, 2, none⟩ = some (.string kR) := Fin.blk_cell HKc.out rfl; have a3 : (w2.alloc (.cells #[.string ⟨#[]⟩, .string ⟨#[]⟩, .string ⟨#[]⟩, .string ⟨#[]⟩, .string ⟨#[]⟩] 24)).cell? ⟨w1.heap.size, 3, none⟩ = some (.string ⟨#[]⟩) := Fin.blk_cell HKc.out rfl; have a4 : (w2.alloc (.cells #[.string ⟨#[]⟩, .string ⟨#[]⟩, .string ⟨#[]⟩, .string ⟨#[]⟩, .string ⟨#[]⟩] 24)).cell? ⟨w1.heap.size, 4, none⟩ = some (.string kB) := Fin.blk_cell HKc.out rfl)
    | (go_at_call 18; (with_reducible refine (fin_Write.calls kS ⟨#[49, 48, 51]⟩ kR ⟨#[]⟩ kB _ _ _ HW.out).mono ?_); rintro e w3 ⟨rfl, hb⟩; have HKb := Lib.hid ((hb.block w1.heap.size (Array.getElem?_eq_some_iff.1 HKc.out).1).trans HKc.out); have HB3 := Lib.hid hb; clear hb; have b0 : w3.cell? ⟨w1.heap.size, 0, none⟩ = some (.string kS) := Fin.blk_cell HKb.out rfl; have b1 : w3.cell? ⟨w1.heap.size, 1, none⟩ = some (.string ⟨#[49, 48, 51]⟩) := Fin.blk_cell HKb.out rfl; have b2 : w3.cell? ⟨w1.heap.size, 2, none⟩ = some (.string kR) := Fin.blk_cell HKb.out rfl; have b3 : w3.cell? ⟨w1.heap.size, 3, none⟩ = some (.string ⟨#[]⟩) := Fin.blk_cell HKb.out rfl; have b4 : w3.cell? ⟨w1.heap.size, 4, none⟩ = some (.string kB) := Fin.blk_cell HKb.out rfl)
    | fail)
  go_ret
  refine ⟨rfl, ?_⟩
  exact stepB (stepB HB1.out _ HB2.out) _ HB3.out
/-- remitterlaw14.wakes. -/
def remitterlaw14_wakes.f : Option Bool := some true
theorem remitterlaw14_wakes.calls (r : Bool) (w : World) (h : remitterlaw14_wakes.f = some r) (hG : GW w) :
    Calls Tryd.prog 14 #[] w fun e w' => e = .returned (.bool r) ∧ Below w.heap.size w w' := by
  obtain rfl := Option.some.inj h
  exact wakes_walk w hG
end Go.Proofs.YtkklccccjmipkaaDoor.PAll

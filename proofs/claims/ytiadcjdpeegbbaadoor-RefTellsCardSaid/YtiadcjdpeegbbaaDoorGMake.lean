/- The contract of ref.Make, by hand. -/
import Derived.Test.YtiadcjdpeegbbaaDoorGFmt
import Derived.Deep.RegionHeld3
namespace Go.Proofs.YtiadcjdpeegbbaaDoor.PAll
open Go.RowKit Go.Proofs.YtiadcjdpeegbbaaDoorW.PrintWords GPlain GHex
set_option linter.unusedSimpArgs false

theorem rep0 (c : Nat) (hc : c ≤ 100) (x : Int) (hx : x = (c : Int)) (w : World) :
    Calls Tryd.prog 18 #[.string ⟨#[48]⟩, .int .i64 x] w fun e w' => e = .returned (.string (bs (List.replicate c 48))) ∧ Below w.heap.size w w' := by
  subst hx
  refine (Tryd.strings_Repeat ⟨#[48]⟩ c w (by omega) (by show 1 * c ≤ _; omega)).mono ?_
  rintro e w' ⟨rfl, hb⟩
  refine ⟨?_, hb⟩
  have key : ∀ c, Lib.repeatL [48] c = List.replicate c 48 := fun c => by
    induction c with
    | zero => rfl
    | succ c ih => rw [Lib.repeatL, ih, List.replicate_succ]; rfl
  rw [show (⟨#[48]⟩ : ByteArray).data.toList = [48] from rfl, key]
  rfl
theorem rep12 (w : World) : Calls Tryd.prog 18 #[.string ⟨#[48]⟩, .int .i64 12] w fun e w' => e = .returned (.string (bs ([48, 48, 48, 48, 48, 48, 48, 48, 48, 48, 48, 48]))) ∧ Below w.heap.size w w' := rep0 12 (by omega) 12 rfl w
theorem groups_calls (W : World) (T : TypeId) (a b c d e5 : ByteArray) (hl : (Lib.join ([a, b, c, d, e5].map (·.data.toList)) [45]).length ≤ 100000) (v : ByteArray) (hv : bs (Lib.join ([a, b, c, d, e5].map (·.data.toList)) [45]) = v) :
    Calls Tryd.prog 19 #[.slice (some ⟨W.heap.size, 0, none⟩) 5 5] (W.alloc (.cells #[.string a, .string b, .string c, .string d, .string e5] T)) fun e w' => e = .returned (.string v) ∧ Below (W.heap.size + 1) (W.alloc (.cells #[.string a, .string b, .string c, .string d, .string e5] T)) w' := by
  have HJ := Tryd.strings_Join W.heap.size 0 5 [a, b, c, d, e5] ⟨#[45]⟩ (W.alloc (.cells #[.string a, .string b, .string c, .string d, .string e5] T)) (by
    intro j x hx
    have hj : j < 5 := (List.getElem?_eq_some_iff.1 hx).1
    rcases (show j = 0 ∨ j = 1 ∨ j = 2 ∨ j = 3 ∨ j = 4 by omega) with rfl | rfl | rfl | rfl | rfl <;> (obtain rfl := Option.some.inj hx; simp)) (by simp) (by simp) (by simp) (Nat.le_trans hl (by omega))
  have HH := Lib.hid HJ
  have HV := Lib.hid hv
  clear HJ hv
  go_enter Tryd.func19, Tryd.ntmps19
  go_wp2_with (go_at_call 32; refine HH.out.mono ?_; rintro e w' ⟨rfl, hb⟩)
  go_ret
  refine ⟨by rw [← HV.out]; rfl, ?_⟩
  have := hb
  simp at this
  exact this
/-- The text of sixteen digits. -/
def uetrL (h : List UInt8) : List UInt8 := Lib.join [h.take 8, (h.take 12).drop 8, 52 :: (h.take 15).drop 12, 56 :: (h.drop 15 ++ [48, 48]), [48, 48, 48, 48, 48, 48, 48, 48, 48, 48, 48, 48]] [45]
theorem uetr_join (h : List UInt8) (hl : h.length = 16) : (Lib.join ([(bs h).extract 0 8, (bs h).extract 8 12, (⟨#[52]⟩ : ByteArray) ++ (bs h).extract 12 15, (⟨#[56]⟩ : ByteArray) ++ (bs h).extract 15 16 ++ (⟨#[48, 48]⟩ : ByteArray), bs ([48, 48, 48, 48, 48, 48, 48, 48, 48, 48, 48, 48])].map (·.data.toList)) [45]) = uetrL h := by
  unfold uetrL
  rw [show (⟨#[52]⟩ : ByteArray) = bs [52] from rfl, show (⟨#[56]⟩ : ByteArray) = bs [56] from rfl, show (⟨#[48, 48]⟩ : ByteArray) = bs [48, 48] from rfl]
  simp only [bs_extract, bs_append, List.map_cons, List.map_nil, bs_data, List.drop_zero]
  rw [List.take_of_length_le (i := 16) (by omega)]
  rfl
set_option maxRecDepth 100000 in
set_option maxHeartbeats 2000000 in
theorem make_walk (n : Nat) (hn : n < 18446744073709551616) (w : World) (hG : GWP w) :
    Calls Tryd.prog 12 #[.int .u64 (n : Int)] w fun e w' => e = .returned (.string (bs (uetrL (hexW 16 n)))) ∧ Below w.heap.size w w' := by
  have hb := lenH_bd n
  have hk16 := hex16 n hn
  have hlh := hexL_length n
  have hl16 := hexW_length 16 n
  obtain ⟨k, hk⟩ : ∃ k, lenH n = k := ⟨_, rfl⟩
  rw [hk] at hb hk16 hlh
  have hs1 : (bs (List.replicate (16 - k) 48)).size = 16 - k := by rw [bs_size, List.length_replicate]
  have hs2 : (bs (hexL n)).size = k := by rw [bs_size, hlh]
  have HK := Lib.hid hk16
  have HL := Lib.hid hl16
  have HG := Lib.hid hG
  clear hk hk16 hlh hl16 hG
  go_enter Tryd.func12, Tryd.ntmps12
  go_wp2_with (first | (go_at_call 17; refine (fmt_16 n hn _ HG.out).mono ?_; rintro e w1 ⟨rfl, hb1⟩) | (go_at_call 18; refine (rep0 (16 - k) (by omega) _ (by omega) _).mono ?_; rintro e w2 ⟨rfl, hb2⟩))
  rw [bs_append, HK.out]
  have hj := uetr_join (hexW 16 n) HL.out
  have hsz : (bs (hexW 16 n)).size = 16 := by rw [bs_size, HL.out]
  generalize hH : hexW 16 n = h at hj hsz ⊢
  have HH := Lib.hid hH
  have HJ := Lib.hid hj
  clear hH hj
  have hlen : (Lib.join ([(bs h).extract 0 8, (bs h).extract 8 12, (⟨#[52]⟩ : ByteArray) ++ (bs h).extract 12 15, (⟨#[56]⟩ : ByteArray) ++ (bs h).extract 15 16 ++ (⟨#[48, 48]⟩ : ByteArray), bs ([48, 48, 48, 48, 48, 48, 48, 48, 48, 48, 48, 48])].map (·.data.toList)) [45]).length ≤ 100000 := by
    rw [HJ.out]
    unfold uetrL
    simp [Lib.join, List.intercalate]
    have : h.length = 16 := by rw [← bs_size]; exact hsz
    omega
  have HLE := Lib.hid hlen
  have HV := Lib.hid (congrArg bs HJ.out)
  clear hlen
  go_region_held3 (fun _ => True) (trivial) (first | (go_at_call 18; (with_reducible refine (rep12 _).mono ?_); rintro e w3 ⟨rfl, hb3⟩) | (go_at_call 19; (with_reducible refine (groups_calls _ _ _ _ _ _ _ HLE.out (bs (uetrL h)) HV.out).mono ?_); rintro e w4 ⟨rfl, hb4⟩))
  go_wp2
  go_ret
  refine ⟨by rw [HH.out]; rfl, ?_⟩
  have d2 : Below w.heap.size w w2 := below_then hb1 hb1.size hb2
  have d3 : Below w.heap.size w w3 := below_then (d2.trans (⟨rfl, rfl, rfl, Nat.le_refl _, fun _ _ => rfl⟩ : Below w.heap.size w2 w2.drew)) (Nat.le_trans hb1.size hb2.size) hb3
  have d4 := d3.alloc d3.size (.cells #[.string ((bs h).extract 0 8), .string ((bs h).extract 8 12), .string ((⟨#[52]⟩ : ByteArray) ++ (bs h).extract 12 15), .string ((⟨#[56]⟩ : ByteArray) ++ (bs h).extract 15 16 ++ (⟨#[48, 48]⟩ : ByteArray)), .string (bs [48, 48, 48, 48, 48, 48, 48, 48, 48, 48, 48, 48])] 9)
  exact d4.trans (hb4.mono (Nat.le_trans d3.size (Nat.le_succ _)))
/-- ref.Make. -/
def ref_Make.f (a0 : Int) : Option ByteArray := if 0 ≤ a0 ∧ a0 < 18446744073709551616 then some (bs (uetrL (hexW 16 a0.toNat))) else none
theorem ref_Make.calls (a0 : Int) (r : ByteArray) (w : World) (h : ref_Make.f a0 = some r) (hGP : GWP w) :
    Calls Tryd.prog 12 #[.int .u64 a0] w fun e w' => e = .returned (.string r) ∧ Below w.heap.size w w' := by
  unfold ref_Make.f at h
  by_cases hc : 0 ≤ a0 ∧ a0 < 18446744073709551616
  · rw [if_pos hc] at h
    obtain rfl := Option.some.inj h
    obtain ⟨n, rfl⟩ : ∃ n : Nat, a0 = (n : Int) := ⟨a0.toNat, by omega⟩
    exact make_walk n (by omega) w hGP
  · rw [if_neg hc] at h
    cases h
end Go.Proofs.YtiadcjdpeegbbaaDoor.PAll

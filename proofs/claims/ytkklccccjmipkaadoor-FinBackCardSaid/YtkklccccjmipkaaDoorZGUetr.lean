/- The contract of ref.CheckUETR, by hand: a map of a literal, and a closure that looks into it. -/
import Derived.Test.YtkklccccjmipkaaDoorZGMap
import Derived.Test.YtkklccccjmipkaaDoorZGCheck
namespace Go.Proofs.YtkklccccjmipkaaDoor.PAll
open Go.RowKit Go.Maps Go.Proofs.YtkklccccjmipkaaDoorW.PrintWords GPlain GMap
set_option linter.unusedSimpArgs false

/-- What may stand at some places. -/
def mayL : List (Int × List UInt8) := [(19, [56, 57, 97, 98]), (14, [52]), (23, [45]), (18, [45]), (13, [45]), (8, [45])]
/-- What may stand at a place. -/
def setU (i : Nat) : List UInt8 := match lookR mayL i with | some l => l | none => [48, 49, 50, 51, 52, 53, 54, 55, 56, 57, 97, 98, 99, 100, 101, 102]
/-- Is a byte right at a place? -/
def okU (i : Nat) (c : UInt8) : Bool := decide (0 ≤ Lib.indexByte (setU i) c)
theorem indexByte_ge (l : List UInt8) (s : ByteArray) (k : Nat) (hk : k < s.size) (b : Bool) (hb : decide (0 ≤ Lib.indexByte l (s.data.toList.getD k 0)) = b) (w : World) :
    Calls Tryd.prog 79 #[.string (bs l), .int .u8 (s[k].toNat : Int)] w fun e w' => (∃ n : Int, e = .returned (.int .i64 n) ∧ decide (0 ≤ n) = b) ∧ w = w' := by
  refine (Tryd.strings_IndexByte _ _ w).mono ?_
  rintro e w' ⟨rfl, rfl⟩
  refine ⟨⟨_, rfl, ?_⟩, rfl⟩
  rw [bs_data, ← hb]
  have e1 : s.data.toList.getD k 0 = s[k] := by
    rw [List.getD_eq_getElem?_getD]
    simp [hk]
    rfl
  have e2 : ((s[k].toNat : Int)).toNat.toUInt8 = s[k] := by simp
  rw [e1, e2]
set_option maxRecDepth 100000 in
set_option maxHeartbeats 1000000 in
theorem is_calls (s : ByteArray) (hs : s.size = 36) (i : Nat) (hi : i < 36) (b : Bool) (hb : okU i (s.data.toList.getD i 0) = b) (M S r n : Nat) (w : World) (hM : w.cell? ⟨M, 0, none⟩ = some (.map (some r))) (hS : w.cell? ⟨S, 0, none⟩ = some (.string s)) (hown : w.ownsMap Tryd.prog 3 (plainElem Tryd.prog 9) r n (putR mayL)) :
    Calls Tryd.prog 82 #[.int .i64 (i : Int), .pointer (some ⟨M, 0, none⟩), .pointer (some ⟨S, 0, none⟩)] w fun e w' => e = .returned (.bool b) ∧ w = w' := by
  have hi0 : (0 : Int) ≤ (i : Int) := by omega
  have hi1 : (i : Int) < (s.size : Int) := by omega
  have hi2 : i < s.size := by omega
  have hu : setU i = (match lookR mayL i with | some l => l | none => [48, 49, 50, 51, 52, 53, 54, 55, 56, 57, 97, 98, 99, 100, 101, 102]) := rfl
  unfold okU at hb
  clear hs
  cases hl : lookR mayL (i : Int) with
  | some l =>
    rw [hl] at hu
    dsimp only at hu
    rw [hu] at hb
    have HB := Lib.hid hb
    have HL := Lib.hid hl
    clear hb hl hu
    go_enter Tryd.func82, Tryd.ntmps82
    go_wp2_with (first | ((with_reducible show wpList _ _ _ (⟨_, Op.lookup _ _ _ _, _, _, _, _⟩ :: _) _ _); refine look_putR _ rfl _ _ _ rfl Tryd.underlying133 _ _ mayL rfl hown (i : Int) (by omega) rfl (bs l) true (by rw [HL.out]) (by rw [HL.out]; rfl) ?_) | (go_at_call 79; refine (indexByte_ge l s i hi2 b HB.out _).mono ?_; rintro e w2 ⟨⟨n2, rfl, hn2⟩, rfl⟩))
    go_ret
    exact ⟨by rw [← hn2]; rfl, rfl⟩
  | none =>
    rw [hl] at hu
    dsimp only at hu
    rw [hu] at hb
    have HB := Lib.hid hb
    have HL := Lib.hid hl
    clear hb hl hu
    go_enter Tryd.func82, Tryd.ntmps82
    go_wp2_with (first | ((with_reducible show wpList _ _ _ (⟨_, Op.lookup _ _ _ _, _, _, _, _⟩ :: _) _ _); refine look_putR _ rfl _ _ _ rfl Tryd.underlying133 _ _ mayL rfl hown (i : Int) (by omega) rfl (bs []) false (by rw [HL.out]) (by rw [HL.out]; rfl) ?_) | (go_at_call 79; refine (indexByte_ge [48, 49, 50, 51, 52, 53, 54, 55, 56, 57, 97, 98, 99, 100, 101, 102] s i hi2 b HB.out _).mono ?_; rintro e w2 ⟨⟨n2, rfl, hn2⟩, rfl⟩))
    go_ret
    exact ⟨by rw [← hn2]; rfl, rfl⟩

theorem boxed_kept {s : ByteArray} {w w1 w2 w3 w4 w5 w6 : World} (h1 : ((w.alloc (.cells #[.string s] 9)).alloc (.map #[] 0)).grownBy w1 (some (w.heap.size + 1))) (h2 : w1.grownBy w2 (some (w.heap.size + 1))) (h3 : w2.grownBy w3 (some (w.heap.size + 1)))
    (h4 : w3.grownBy w4 (some (w.heap.size + 1))) (h5 : w4.grownBy w5 (some (w.heap.size + 1))) (h6 : w5.grownBy w6 (some (w.heap.size + 1))) : (∀ o, (w6.alloc o).cell? ⟨w.heap.size, 0, none⟩ = some (.string s)) ∧ (w.heap.size < w6.heap.size ∧ Below w.heap.size w w6) := by
  have e : ∀ j, some (w.heap.size + 1) = some j → w.heap.size + 1 ≤ j := fun j hj => by cases hj; exact Nat.le_refl _
  have z0 : w.heap.size + 1 ≤ ((w.alloc (.cells #[.string s] 9)).alloc (.map #[] 0)).heap.size := by simp
  have c0 : Below (w.heap.size + 1) (w.alloc (.cells #[.string s] 9)) ((w.alloc (.cells #[.string s] 9)).alloc (.map #[] 0)) := (Below.refl _ _).alloc (by simp) _
  have z1 := Nat.le_trans z0 h1.size
  have z2 := Nat.le_trans z1 h2.size
  have z3 := Nat.le_trans z2 h3.size
  have z4 := Nat.le_trans z3 h4.size
  have z5 := Nat.le_trans z4 h5.size
  have z6 := Nat.le_trans z5 h6.size
  have c6 := (((((c0.grown h1 z0 e).grown h2 z1 e).grown h3 z2 e).grown h4 z3 e).grown h5 z4 e).grown h6 z5 e
  refine ⟨fun o => ?_, by omega, (((Below.refl w.heap.size w).alloc (Nat.le_refl _) _).trans (c6.mono (by omega)))⟩
  have hl : w.heap.size < w6.heap.size := by omega
  rw [((Below.refl w6.heap.size w6).alloc (Nat.le_refl _) o).cell (p := ⟨w.heap.size, 0, none⟩) hl, c6.cell (p := ⟨w.heap.size, 0, none⟩) (by simp)]
  simp
/-- Is a text of 36 bytes right at every place? -/
def allU (l : List UInt8) : Bool := (List.range 36).all fun i => okU i (l.getD i 0)
set_option maxRecDepth 100000 in
set_option maxHeartbeats 2000000 in
theorem uetr_walk (s : ByteArray) (w : World) :
    Calls Tryd.prog 45 #[.string s] w fun e w' => e = .returned (.int .i64 (if s.size = 36 ∧ allU s.data.toList = true then 0 else 17)) ∧ Below w.heap.size w w' := by
  have hmm := @run_makeMap Tryd.prog
  have hmf : ∀ (fn : Fn) (first cap : Array Value) (w : World), (Instr.makeFunc fn first cap).run Tryd.prog w = .ok (.func fn first cap) w := fun _ _ _ _ => rfl
  have hown0 : ((w.alloc (.cells #[.string s] 9)).alloc (.map #[] 0)).ownsMap Tryd.prog 3 (plainElem (H := Unit) Tryd.prog 9) (w.heap.size + 1) 0 (putR []) := by
    have h := World.ownsMap_made (w.alloc (.cells #[.string s] 9)) Tryd.prog 3 (plainElem (H := Unit) Tryd.prog 9)
    rw [show (w.alloc (.cells #[.string s] 9)).heap.size = w.heap.size + 1 by simp] at h
    exact h
  by_cases h36 : s.size = 36
  · have hlen : s.data.toList.length = 36 := by rw [Array.length_toList]; exact h36
    have HL := Lib.hid hlen
    have HS := Lib.hid h36
    clear hlen
    obtain ⟨v, hv⟩ : ∃ v : Int, (if s.size = 36 ∧ allU s.data.toList = true then 0 else 17) = v := ⟨_, rfl⟩
    rw [hv]
    have HV := Lib.hid hv
    clear hv
    go_enter Tryd.func45, Tryd.ntmps45
    go_wp2_with (first | ((with_reducible show wpList _ _ _ (⟨_, Op.insert _ _ (Operand.const (Value.int IntKind.i64 8)) _, _, _, _, _⟩ :: _) _ _); refine wpList_insert_own _ rfl _ _ _ 133 rfl 3 9 GMap.keyedI Tryd.underlying133 _ (w.heap.size + 1) 0 _ rfl hown0 (by unfold maxLen; omega) (.int .i64 8) (.string ⟨([45] : List UInt8).toArray⟩) _ rfl rfl (GMap.keyI_ok 8 (by omega)) _ [] (GMap.elemS_ok [45] (by decide)) ?_; intro w1 hown1 hgrow1) | ((with_reducible show wpList _ _ _ (⟨_, Op.insert _ _ (Operand.const (Value.int IntKind.i64 13)) _, _, _, _, _⟩ :: _) _ _); refine wpList_insert_own _ rfl _ _ _ 133 rfl 3 9 GMap.keyedI Tryd.underlying133 _ (w.heap.size + 1) 1 _ rfl hown1 (by unfold maxLen; omega) (.int .i64 13) (.string ⟨([45] : List UInt8).toArray⟩) _ rfl rfl (GMap.keyI_ok 13 (by omega)) _ [] (GMap.elemS_ok [45] (by decide)) ?_; intro w2 hown2 hgrow2) | ((with_reducible show wpList _ _ _ (⟨_, Op.insert _ _ (Operand.const (Value.int IntKind.i64 18)) _, _, _, _, _⟩ :: _) _ _); refine wpList_insert_own _ rfl _ _ _ 133 rfl 3 9 GMap.keyedI Tryd.underlying133 _ (w.heap.size + 1) 2 _ rfl hown2 (by unfold maxLen; omega) (.int .i64 18) (.string ⟨([45] : List UInt8).toArray⟩) _ rfl rfl (GMap.keyI_ok 18 (by omega)) _ [] (GMap.elemS_ok [45] (by decide)) ?_; intro w3 hown3 hgrow3) | ((with_reducible show wpList _ _ _ (⟨_, Op.insert _ _ (Operand.const (Value.int IntKind.i64 23)) _, _, _, _, _⟩ :: _) _ _); refine wpList_insert_own _ rfl _ _ _ 133 rfl 3 9 GMap.keyedI Tryd.underlying133 _ (w.heap.size + 1) 3 _ rfl hown3 (by unfold maxLen; omega) (.int .i64 23) (.string ⟨([45] : List UInt8).toArray⟩) _ rfl rfl (GMap.keyI_ok 23 (by omega)) _ [] (GMap.elemS_ok [45] (by decide)) ?_; intro w4 hown4 hgrow4) | ((with_reducible show wpList _ _ _ (⟨_, Op.insert _ _ (Operand.const (Value.int IntKind.i64 14)) _, _, _, _, _⟩ :: _) _ _); refine wpList_insert_own _ rfl _ _ _ 133 rfl 3 9 GMap.keyedI Tryd.underlying133 _ (w.heap.size + 1) 4 _ rfl hown4 (by unfold maxLen; omega) (.int .i64 14) (.string ⟨([52] : List UInt8).toArray⟩) _ rfl rfl (GMap.keyI_ok 14 (by omega)) _ [] (GMap.elemS_ok [52] (by decide)) ?_; intro w5 hown5 hgrow5) | ((with_reducible show wpList _ _ _ (⟨_, Op.insert _ _ (Operand.const (Value.int IntKind.i64 19)) _, _, _, _, _⟩ :: _) _ _); refine wpList_insert_own _ rfl _ _ _ 133 rfl 3 9 GMap.keyedI Tryd.underlying133 _ (w.heap.size + 1) 5 _ rfl hown5 (by unfold maxLen; omega) (.int .i64 19) (.string ⟨([56, 57, 97, 98] : List UInt8).toArray⟩) _ rfl rfl (GMap.keyI_ok 19 (by omega)) _ [] (GMap.elemS_ok [56, 57, 97, 98] (by decide)) ?_; intro w6 hown6 hgrow6; obtain ⟨hcB, hbe⟩ := boxed_kept hgrow1 hgrow2 hgrow3 hgrow4 hgrow5 hgrow6; clear hgrow1 hgrow2 hgrow3 hgrow4 hgrow5 hgrow6 hown0 hown1 hown2 hown3 hown4 hown5))
    have hownA : (w6.alloc (.cells #[.map (some (w.heap.size + 1))] 133)).ownsMap Tryd.prog 3 (plainElem Tryd.prog 9) (w.heap.size + 1) 6 (putR mayL) := hown6.alloc _
    have hcM : (w6.alloc (.cells #[.map (some (w.heap.size + 1))] 133)).cell? ⟨w6.heap.size, 0, none⟩ = some (.map (some (w.heap.size + 1))) := by simp
    have hcS := hcB (.cells #[.map (some (w.heap.size + 1))] 133)
    have HBE := Lib.hid (hbe.2.alloc hbe.2.size (.cells #[.map (some (w.heap.size + 1))] 133))
    clear hown6 hbe
    go_loop [14] (fun i => ∃ k : Nat, k ≤ 36 ∧ i = .int .i64 k ∧ Hid (∀ j, j < k → okU j (s.data.toList.getD j 0) = true)) (fun i => 36 - (intOf i).toNat)
    case atStart => exact ⟨0, Nat.zero_le _, rfl, Lib.hid (fun j hj => by omega)⟩
    case round =>
      obtain ⟨k, hk, rfl, HA⟩ := hrel
      by_cases hlt : k < 36
      · have hlt1 : k < s.size := by omega
        cases hb : okU k (s.data.toList.getD k 0)
        · have HB := Lib.hid hb
          clear hb
          go_wp2_with (go_at_call 82; refine (is_calls s HS.out k hlt false HB.out _ _ _ _ _ hcM hcS hownA).mono ?_; rintro e w2 ⟨rfl, rfl⟩)
          go_ret
          refine ⟨?_, HBE.out⟩
          have hn : allU s.data.toList = false := by
            cases ha : allU s.data.toList
            · rfl
            · have := List.all_eq_true.1 ha k (List.mem_range.2 hlt)
              rw [HB.out] at this
              cases this
          have hv := HV.out
          rw [if_neg (fun e => by rw [hn] at e; cases e.2)] at hv
          rw [← hv]
          rfl
        · have HB := Lib.hid hb
          clear hb
          go_wp2_with (go_at_call 82; refine (is_calls s HS.out k hlt true HB.out _ _ _ _ _ hcM hcS hownA).mono ?_; rintro e w2 ⟨rfl, rfl⟩)
          go_round
          case rel => exact ⟨k + 1, by omega, by go_num, Lib.hid (fun j hj => by rcases Nat.lt_succ_iff_lt_or_eq.1 hj with h | h; exact HA.out j h; subst h; exact HB.out)⟩
          case measure => simp [intOf]; omega
      · obtain rfl : k = 36 := by omega
        go_wp2
        go_ret
        refine ⟨?_, HBE.out⟩
        have ha : allU s.data.toList = true := List.all_eq_true.2 (fun j hj => HA.out j (List.mem_range.1 hj))
        have hv := HV.out
        rw [if_pos ⟨HS.out, ha⟩] at hv
        rw [← hv]
        rfl
  · have h1 : ((s.size : Int) == 36) = false := beq_eq_false_iff_ne.2 (by omega)
    have h2 : ((s.size : Int) != 36) = true := bne_iff_ne.2 (by omega)
    rw [if_neg (fun e => h36 e.1)]
    clear h36
    go_enter Tryd.func45, Tryd.ntmps45
    go_wp2_with (first | ((with_reducible show wpList _ _ _ (⟨_, Op.insert _ _ (Operand.const (Value.int IntKind.i64 8)) _, _, _, _, _⟩ :: _) _ _); refine wpList_insert_own _ rfl _ _ _ 133 rfl 3 9 GMap.keyedI Tryd.underlying133 _ (w.heap.size + 1) 0 _ rfl hown0 (by unfold maxLen; omega) (.int .i64 8) (.string ⟨([45] : List UInt8).toArray⟩) _ rfl rfl (GMap.keyI_ok 8 (by omega)) _ [] (GMap.elemS_ok [45] (by decide)) ?_; intro w1 hown1 hgrow1) | ((with_reducible show wpList _ _ _ (⟨_, Op.insert _ _ (Operand.const (Value.int IntKind.i64 13)) _, _, _, _, _⟩ :: _) _ _); refine wpList_insert_own _ rfl _ _ _ 133 rfl 3 9 GMap.keyedI Tryd.underlying133 _ (w.heap.size + 1) 1 _ rfl hown1 (by unfold maxLen; omega) (.int .i64 13) (.string ⟨([45] : List UInt8).toArray⟩) _ rfl rfl (GMap.keyI_ok 13 (by omega)) _ [] (GMap.elemS_ok [45] (by decide)) ?_; intro w2 hown2 hgrow2) | ((with_reducible show wpList _ _ _ (⟨_, Op.insert _ _ (Operand.const (Value.int IntKind.i64 18)) _, _, _, _, _⟩ :: _) _ _); refine wpList_insert_own _ rfl _ _ _ 133 rfl 3 9 GMap.keyedI Tryd.underlying133 _ (w.heap.size + 1) 2 _ rfl hown2 (by unfold maxLen; omega) (.int .i64 18) (.string ⟨([45] : List UInt8).toArray⟩) _ rfl rfl (GMap.keyI_ok 18 (by omega)) _ [] (GMap.elemS_ok [45] (by decide)) ?_; intro w3 hown3 hgrow3) | ((with_reducible show wpList _ _ _ (⟨_, Op.insert _ _ (Operand.const (Value.int IntKind.i64 23)) _, _, _, _, _⟩ :: _) _ _); refine wpList_insert_own _ rfl _ _ _ 133 rfl 3 9 GMap.keyedI Tryd.underlying133 _ (w.heap.size + 1) 3 _ rfl hown3 (by unfold maxLen; omega) (.int .i64 23) (.string ⟨([45] : List UInt8).toArray⟩) _ rfl rfl (GMap.keyI_ok 23 (by omega)) _ [] (GMap.elemS_ok [45] (by decide)) ?_; intro w4 hown4 hgrow4) | ((with_reducible show wpList _ _ _ (⟨_, Op.insert _ _ (Operand.const (Value.int IntKind.i64 14)) _, _, _, _, _⟩ :: _) _ _); refine wpList_insert_own _ rfl _ _ _ 133 rfl 3 9 GMap.keyedI Tryd.underlying133 _ (w.heap.size + 1) 4 _ rfl hown4 (by unfold maxLen; omega) (.int .i64 14) (.string ⟨([52] : List UInt8).toArray⟩) _ rfl rfl (GMap.keyI_ok 14 (by omega)) _ [] (GMap.elemS_ok [52] (by decide)) ?_; intro w5 hown5 hgrow5) | ((with_reducible show wpList _ _ _ (⟨_, Op.insert _ _ (Operand.const (Value.int IntKind.i64 19)) _, _, _, _, _⟩ :: _) _ _); refine wpList_insert_own _ rfl _ _ _ 133 rfl 3 9 GMap.keyedI Tryd.underlying133 _ (w.heap.size + 1) 5 _ rfl hown5 (by unfold maxLen; omega) (.int .i64 19) (.string ⟨([56, 57, 97, 98] : List UInt8).toArray⟩) _ rfl rfl (GMap.keyI_ok 19 (by omega)) _ [] (GMap.elemS_ok [56, 57, 97, 98] (by decide)) ?_; intro w6 hown6 hgrow6; obtain ⟨hcB, hbe⟩ := boxed_kept hgrow1 hgrow2 hgrow3 hgrow4 hgrow5 hgrow6; clear hgrow1 hgrow2 hgrow3 hgrow4 hgrow5 hgrow6 hown0 hown1 hown2 hown3 hown4 hown5))
    go_ret
    exact ⟨rfl, hbe.2.alloc hbe.2.size _⟩
/-- ref.CheckUETR. -/
def ref_CheckUETR.f (a0 : ByteArray) : Option Int := some (if a0.size = 36 ∧ allU a0.data.toList = true then 0 else 17)
theorem ref_CheckUETR.calls (a0 : ByteArray) (r : Int) (w : World) (h : ref_CheckUETR.f a0 = some r) :
    Calls Tryd.prog 45 #[.string a0] w fun e w' => e = .returned (.int .i64 r) ∧ Below w.heap.size w w' := by
  obtain rfl := Option.some.inj h
  exact uetr_walk a0 w
end Go.Proofs.YtkklccccjmipkaaDoor.PAll

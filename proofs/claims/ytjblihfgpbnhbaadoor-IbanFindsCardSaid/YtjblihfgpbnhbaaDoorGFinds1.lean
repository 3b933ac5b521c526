/- IbanFinds: for all texts and bytes the law's call returns true: the walk, by hand, over the contracts. -/
import Derived.Test.YtjblihfgpbnhbaaDoorPAllx4
import Derived.Test.YtjblihfgpbnhbaaDoorPureIbanMakes
import Derived.Test.YtjblihfgpbnhbaaDoorPureIbanF
import Derived.Test.YtjblihfgpbnhbaaDoorGBytes
import Derived.Lib.ConvBytes
import Derived.Laws.BytesArg
import Derived.Deep.Cut
import Derived.IntWalk
import Derived.Deep.DeepCutAuto
import Derived.Deep.QuietTactic
import Derived.BigQuiet
import Derived.BigRegion
namespace Go.Proofs.YtjblihfgpbnhbaaDoor.PAll
open Go.RowKit Go.Proofs.YtjblihfgpbnhbaaDoorW.PrintWords Go.Proofs.YtjblihfgpbnhbaaDoorW.PrintLast GPlain GLenP _root_.Go.Proofs.YtjblihfgpbnhbaaDoor.Pure
set_option linter.unusedSimpArgs false

/-- 'string(b)' of cells that are known one by one. -/
theorem back_any (W : World) (b n : Nat) (t : ByteArray) (hn : t.size = n) (c : Nat) (h : ∀ i, i < n → W.cell? ⟨b, i, none⟩ = some (.int .u8 (((t.data.toList.getD i 0).toNat : Nat) : Int))) :
    (convert 31 9 (.slice (some ⟨b, 0, none⟩) n c)).run Tryd.prog W = .ok (.string t) W := by
  subst hn
  have hsz : t.data.toList.length = t.size := by rw [Array.length_toList]; rfl
  rw [run_convert_bytes_arg (P := Tryd.prog) _ 31 5 Tryd.underlying31 Tryd.underlying5 b 0 t.size c (t.data.toList.map fun b => (b.toNat : Int)) (by simp [hsz]) ?_ 9 Tryd.underlying9]
  · congr 1
    unfold strOfNums
    rw [List.map_map]
    have : ((fun n : Int => UInt8.ofNat n.toNat) ∘ fun b : UInt8 => (b.toNat : Int)) = id := by
      funext b
      simp
    rw [this, List.map_id]
  · intro i hi
    have ha : (0 + i) = i := by omega
    rw [ha, h i hi, GBytes.getD_toNat]
theorem set_two (A B : List UInt8) (x y u v : UInt8) : ((A ++ [x, y] ++ B).set A.length u).set (A.length + 1) v = A ++ [u, v] ++ B := by
  simp [List.set_append]
theorem split_two (l : List UInt8) (p : Nat) (h : p + 1 < l.length) : l = l.take p ++ [l.getD p 0, l.getD (p + 1) 0] ++ l.drop (p + 2) := by
  have h1 := split_at l p (by omega)
  have h2 : l.drop (p + 1) = l.getD (p + 1) 0 :: l.drop (p + 2) := by
    rw [List.drop_eq_getElem_cons h, List.getD_eq_getElem?_getD, List.getElem?_eq_getElem h]
    rfl
  rw [h2] at h1
  simpa using h1
/-- Two unlike neighbouring digits swapped. -/
theorem swapped {l : List UInt8} (hk : chkF l = 0) (p : Nat) (hp4 : 4 ≤ p) (hp : p + 1 < l.length) (d1 : 48 ≤ (l.getD p 0).toNat ∧ (l.getD p 0).toNat ≤ 57) (d2 : 48 ≤ (l.getD (p + 1) 0).toNat ∧ (l.getD (p + 1) 0).toNat ≤ 57)
    (hne : (l.getD p 0).toNat ≠ (l.getD (p + 1) 0).toNat) : chkF ((l.set p (l.getD (p + 1) 0)).set (p + 1) (l.getD p 0)) = 13 := by
  have hs := split_two l p hp
  obtain ⟨x, hx⟩ : ∃ x, l.getD p 0 = x := ⟨_, rfl⟩
  obtain ⟨y, hy⟩ : ∃ y, l.getD (p + 1) 0 = y := ⟨_, rfl⟩
  rw [hx, hy] at hs hne ⊢
  rw [hx] at d1
  rw [hy] at d2
  have hl : (l.take p).length = p := by rw [List.length_take]; omega
  obtain ⟨A, hA⟩ : ∃ A, l.take p = A := ⟨_, rfl⟩
  obtain ⟨B, hB⟩ : ∃ B, l.drop (p + 2) = B := ⟨_, rfl⟩
  rw [hA] at hl hs
  rw [hB] at hs
  subst hl
  clear hA hB hx hy
  subst hs
  rw [set_two]
  exact chk_swapped A B x y hp4 hk (by unfold digit; simp [UInt8.le_iff_toNat_le]; omega) (by unfold digit; simp [UInt8.le_iff_toNat_le]; omega) (fun e => hne (by rw [e]))
/-- The cells behind a swap. -/
theorem swap_cells (W0 : World) (b p n : Nat) (l : List UInt8) (hn : l.length = n) (hp : p + 1 < n) (x y : UInt8) (h : ∀ j, j < n → W0.cell? ⟨b, j, none⟩ = some (.int .u8 (((l.getD j 0).toNat : Nat) : Int))) (v1 v2 : Int) (h1 : (x.toNat : Int) = v1) (h2 : (y.toNat : Int) = v2) :
    ∀ j, j < n → ((W0.setCell ⟨b, p, none⟩ (.int .u8 v2)).setCell ⟨b, p + 1, none⟩ (.int .u8 v1)).drew.cell? ⟨b, j, none⟩ = some (.int .u8 (((((l.set p y).set (p + 1) x).getD j 0).toNat : Nat) : Int)) := by
  intro j hj
  subst h1 h2
  have hd : ((W0.setCell ⟨b, p, none⟩ (.int .u8 (y.toNat : Int))).setCell ⟨b, p + 1, none⟩ (.int .u8 (x.toNat : Int))).drew.cell? ⟨b, j, none⟩ = ((W0.setCell ⟨b, p, none⟩ (.int .u8 (y.toNat : Int))).setCell ⟨b, p + 1, none⟩ (.int .u8 (x.toNat : Int))).cell? ⟨b, j, none⟩ := rfl
  rw [hd]
  by_cases e1 : p + 1 = j
  · subst e1
    rw [World.cell?_setCell_same' _ _ _ (by rw [World.cell?_setCell_other (h := show (⟨b, p, none⟩ : Addr) ≠ ⟨b, p + 1, none⟩ from fun e_ => by injection e_; omega), h _ hp]; rfl), List.getD_eq_getElem?_getD, List.getElem?_set_self (by rw [List.length_set]; omega)]
    rfl
  · rw [World.cell?_setCell_other (h := show (⟨b, p + 1, none⟩ : Addr) ≠ ⟨b, j, none⟩ from fun e_ => by injection e_; omega)]
    by_cases e2 : p = j
    · subst e2
      rw [World.cell?_setCell_same' _ _ _ (by rw [h _ hj]; rfl), List.getD_eq_getElem?_getD, List.getElem?_set_ne (by omega), List.getElem?_set_self (by omega)]
      rfl
    · rw [World.cell?_setCell_other (h := show (⟨b, p, none⟩ : Addr) ≠ ⟨b, j, none⟩ from fun e_ => by injection e_; omega), h _ hj, List.getD_eq_getElem?_getD, List.getD_eq_getElem?_getD, List.getElem?_set_ne (by omega), List.getElem?_set_ne (by omega)]
/-- Two neighbours, unlike digits both. -/
def SwapB (b : Bool) (c1 c2 : Nat) : Prop := b = true → (48 ≤ c1 ∧ c1 ≤ 57) ∧ (48 ≤ c2 ∧ c2 ≤ 57) ∧ c1 ≠ c2
/-- What stands behind the first change: one byte turned, and what it makes is no IBAN. -/
def AfterB (w2 : World) (z : ByteArray) (m : Nat) (wx : World) : Prop :=
  ∃ q : UInt8, chkF (z.data.toList.set m q) = 13 ∧ (∀ i, i < z.size → wx.cell? ⟨w2.heap.size, i, none⟩ = some (.int .u8 ((((z.data.toList.set m q).getD i 0).toNat : Nat) : Int))) ∧ Below w2.heap.size w2 wx
theorem afterB_of (w2 : World) (z : ByteArray) (m : Nat) (hm : m < z.size) (q : UInt8) (hc : chkF (z.data.toList.set m q) = 13) (v : Int) (hv : (q.toNat : Int) = v) :
    AfterB w2 z m ((Lib.bytesWorld w2 5 z).setCell ⟨w2.heap.size, m, none⟩ (.int .u8 v)) := by
  subst hv
  have hsz : z.data.toList.length = z.size := by rw [Array.length_toList]; rfl
  refine ⟨q, hc, fun i hi => ?_, (GBytes.bytes_below w2 5 z).setCell (p := ⟨w2.heap.size, m, none⟩) (Nat.le_refl _) _⟩
  have hdc : ∀ j, (Lib.bytesWorld w2 5 z).cell? ⟨w2.heap.size, j, none⟩ = (Lib.bytesWorld w2 5 z).cell? ⟨w2.heap.size, j, none⟩ := fun _ => rfl
  by_cases h : m = i
  · subst h
    rw [World.cell?_setCell_same' _ _ _ (by rw [hdc, Lib.bytesWorld_cell w2 5 z m hm]; rfl), List.getD_eq_getElem?_getD, List.getElem?_set_self (by omega)]
    rfl
  · rw [World.cell?_setCell_other (h := show (⟨w2.heap.size, m, none⟩ : Addr) ≠ ⟨w2.heap.size, i, none⟩ from fun e_ => h (by injection e_)), hdc, Lib.bytesWorld_cell w2 5 z i hi]
    rw [List.getD_eq_getElem?_getD, List.getD_eq_getElem?_getD, List.getElem?_set_ne h]
def kindN (c : Nat) : Int := if 48 ≤ c ∧ c ≤ 57 then 1 else if 65 ≤ c ∧ c ≤ 90 then 2 else 0
theorem kind_walk (c : Nat) (w : World) : Calls Tryd.prog 14 #[.int .u8 (c : Int)] w fun e w' => e = .returned (.int .i64 (kindN c)) ∧ w' = w := by
  unfold kindN
  by_cases h1 : 48 ≤ c
  · have g1 : decide ((48 : Int) ≤ (c : Int)) = true := decide_eq_true (by omega)
    by_cases h2 : c ≤ 57
    · have g2 : decide ((c : Int) ≤ 57) = true := decide_eq_true (by omega)
      rw [if_pos ⟨h1, h2⟩]
      go_enter Tryd.func14, Tryd.ntmps14
      go_wp2
      go_ret
      exact ⟨rfl, rfl⟩
    · have g2 : decide ((c : Int) ≤ 57) = false := decide_eq_false (by omega)
      rw [if_neg (fun h => h2 h.2)]
      by_cases h3 : 65 ≤ c
      · have g3 : decide ((65 : Int) ≤ (c : Int)) = true := decide_eq_true (by omega)
        by_cases h4 : c ≤ 90
        · have g4 : decide ((c : Int) ≤ 90) = true := decide_eq_true (by omega)
          rw [if_pos ⟨h3, h4⟩]
          go_enter Tryd.func14, Tryd.ntmps14
          go_wp2
          go_ret
          exact ⟨rfl, rfl⟩
        · have g4 : decide ((c : Int) ≤ 90) = false := decide_eq_false (by omega)
          rw [if_neg (fun h => h4 h.2)]
          go_enter Tryd.func14, Tryd.ntmps14
          go_wp2
          go_ret
          exact ⟨rfl, rfl⟩
      · have g3 : decide ((65 : Int) ≤ (c : Int)) = false := decide_eq_false (by omega)
        rw [if_neg (fun h => h3 h.1)]
        go_enter Tryd.func14, Tryd.ntmps14
        go_wp2
        go_ret
        exact ⟨rfl, rfl⟩
  · have g1 : decide ((48 : Int) ≤ (c : Int)) = false := decide_eq_false (by omega)
    have g3 : decide ((65 : Int) ≤ (c : Int)) = false := decide_eq_false (by omega)
    rw [if_neg (fun h => h1 h.1), if_neg (by omega)]
    go_enter Tryd.func14, Tryd.ntmps14
    go_wp2
    go_ret
    exact ⟨rfl, rfl⟩
theorem kind_quiet {c : Nat} {k1 : Int} (W : World) (n : Nat) (h : Hid (kindN c = k1)) :
    Calls Tryd.prog 14 #[.int .u8 (c : Int)] (W.drewN n) fun e w'' => e = .returned (.int .i64 k1) ∧ ∃ m, w'' = W.drewN m :=
  Calls.quiet_of_same ((kind_walk c _).mono fun _ _ ⟨he, hw⟩ => ⟨by rw [he, h.out], hw⟩)
/-- What an IBAN's bytes are. -/
theorem good_bytes {l : List UInt8} (h : chkF l = 0) (m : Nat) (hm : m < l.length) : (48 ≤ (l.getD m 0).toNat ∧ (l.getD m 0).toNat ≤ 57) ∨ (65 ≤ (l.getD m 0).toNat ∧ (l.getD m 0).toNat ≤ 90) := by
  obtain ⟨h1, h4⟩ := chk0 l h
  rw [restF_turn l h4] at h1
  unfold restL at h1
  rw [badL_any] at h1
  cases hb : badL (l.drop 4 ++ l.take 4)
  · rw [badL_append, Bool.or_eq_false_iff] at hb
    have hb2 : badL l = false := by
      rw [← List.take_append_drop 4 l, badL_append, hb.1, hb.2]
      rfl
    have hmem : l.getD m 0 ∈ l := by
      rw [List.getD_eq_getElem?_getD, List.getElem?_eq_getElem hm]
      exact List.getElem_mem hm
    have h0 := vals_nn hb2 (valB (l.getD m 0)) (List.mem_map_of_mem hmem)
    unfold valB at h0
    split at h0
    · exact .inl ‹_›
    · split at h0
      · exact .inr ‹_›
      · exact absurd h0 (by decide)
  · rw [hb, if_pos rfl] at h1
    cases (Prod.mk.inj h1).2
/-- One byte turned within its kind. -/
theorem turned {l : List UInt8} (hk : chkF l = 0) (m : Nat) (hm : m < l.length) (q : UInt8) (hv : ((valB (l.getD m 0)).1 < 10 ∧ (valB q).1 < 10) ∨ (10 ≤ (valB (l.getD m 0)).1 ∧ 10 ≤ (valB q).1)) (hne : (valB (l.getD m 0)).1 ≠ (valB q).1) : chkF (l.set m q) = 13 := by
  have hsp := split_at l m hm
  have hst : l.set m q = l.take m ++ [q] ++ l.drop (m + 1) := by rw [List.set_eq_take_append_cons_drop, if_pos hm]; simp
  rw [hst]
  exact chk_changed (l.take m) (l.drop (m + 1)) (l.getD m 0) q (by rw [← hsp]; exact hk) hv hne
theorem valB_l (c : UInt8) (h1 : 65 ≤ c.toNat) (h2 : c.toNat ≤ 90) : (valB c).1 = (c.toNat : Int) - 65 + 10 := by
  unfold valB
  rw [dif_neg (by omega), dif_pos ⟨h1, h2⟩]
theorem finds_long (c s : List UInt8) (hc : c.length ≤ 140737488351232) (hs : s.length ≤ 140737488351232) (hl : 30 < c.length + s.length) (x y : Int) (w : World) (hG : GWS w) :
    Calls Tryd.prog 5 #[.string (bs c), .string (bs s), .int .u8 x, .int .u8 y] w fun e w' => e = .returned (.bool true) ∧ Below w.heap.size w w' := by
  have h1 := bs_size c
  have h2 := bs_size s
  have HG := Lib.hid hG
  obtain ⟨a, ha⟩ : ∃ a, bs c = a := ⟨_, rfl⟩
  obtain ⟨b, hb⟩ : ∃ b, bs s = b := ⟨_, rfl⟩
  rw [ha] at h1 ⊢
  rw [hb] at h2 ⊢
  have hgt : (30 : Int) < (a.size : Int) + (b.size : Int) := by omega
  have hle : (a.size : Int) + (b.size : Int) ≤ 9223372036854775807 := by omega
  clear h1 h2 hG ha hb
  go_enter Tryd.func5, Tryd.ntmps5
  go_wp2_with (go_at_call 6; refine (remitterlaw03_wakes.calls 5 true _ wakes3 HG.out).mono ?_; rintro e w' ⟨rfl, hb⟩)
  go_ret
  exact ⟨rfl, hb⟩
theorem finds_bad (c s : List UInt8) (hl : c.length + s.length ≤ 30) (hm : iban_Make.f (bs c) (bs s) = some (bs [], 13)) (x y : Int) (w : World) (hP : GWP w) (hG : GWS w) :
    Calls Tryd.prog 5 #[.string (bs c), .string (bs s), .int .u8 x, .int .u8 y] w fun e w' => e = .returned (.bool true) ∧ Below w.heap.size w w' := by
  have h1 := bs_size c
  have h2 := bs_size s
  have HG := Lib.hid hG
  have HM := Lib.hid (iban_Make.calls _ _ _ _ w hm hP hG)
  obtain ⟨a, ha⟩ : ∃ a, bs c = a := ⟨_, rfl⟩
  obtain ⟨b, hb⟩ : ∃ b, bs s = b := ⟨_, rfl⟩
  obtain ⟨z, hz⟩ : ∃ z, bs [] = z := ⟨_, rfl⟩
  rw [ha] at h1
  rw [hb] at h2
  rw [ha, hb, hz] at HM
  rw [ha, hb]
  have hgt : (a.size : Int) + (b.size : Int) ≤ 30 := by omega
  clear h1 h2 hG ha hb hP hm hz
  go_enter Tryd.func5, Tryd.ntmps5
  go_wp2_with (first | (go_at_call 13; refine HM.out.mono ?_; rintro e w1 ⟨rfl, hb1⟩) | (go_at_call 6; refine (remitterlaw03_wakes.calls 5 true _ wakes3 (GWS_below HG.out hb1)).mono ?_; rintro e w2 ⟨rfl, hb2⟩))
  go_ret
  exact ⟨rfl, below_then hb1 hb1.size hb2⟩
set_option maxRecDepth 100000 in
set_option maxHeartbeats 4000000 in
theorem finds_good (c s l : List UInt8) (hl : c.length + s.length ≤ 30) (hm : iban_Make.f (bs c) (bs s) = some (bs l, 0)) (hk : chkF l = 0) (h6 : 6 ≤ l.length) (hl2 : l.length ≤ 40) (x y : Nat) (hx : x ≤ 255) (hy : y ≤ 255) (w : World) (hP : GWP w) (hG : GWS w) :
    Calls Tryd.prog 5 #[.string (bs c), .string (bs s), .int .u8 (x : Int), .int .u8 (y : Int)] w fun e w' => e = .returned (.bool true) ∧ Below w.heap.size w w' := by
  have h1 := bs_size c
  have h2 := bs_size s
  have h3 := bs_size l
  have HG := Lib.hid hG
  have HM := Lib.hid (iban_Make.calls _ _ _ _ w hm hP hG)
  have hck := chk_i l (by omega) 1 (by omega)
  rw [hk] at hck
  have HCK := Lib.hid hck
  obtain ⟨a, ha⟩ : ∃ a, bs c = a := ⟨_, rfl⟩
  obtain ⟨b, hb⟩ : ∃ b, bs s = b := ⟨_, rfl⟩
  obtain ⟨z, hz⟩ : ∃ z, bs l = z := ⟨_, rfl⟩
  rw [ha] at h1
  rw [hb] at h2
  rw [hz] at h3
  rw [ha, hb, hz] at HM
  rw [hz] at HCK
  rw [ha, hb]
  have hgt : (a.size : Int) + (b.size : Int) ≤ 30 := by omega
  have h6z : 6 ≤ (z.size : Int) := by omega
  have h40z : (z.size : Int) ≤ 40 := by omega
  have hcv := fun (W : World) => Lib.run_convert_string_bytes (P := Tryd.prog) W 9 31 5 z Tryd.underlying9 Tryd.underlying31 Tryd.underlying5
  have HZ := Lib.hid hz
  have H3 := Lib.hid h3
  clear h1 h2 h3 hG ha hb hP hm hz hck
  obtain ⟨m, hmi, hm2, hmlt⟩ : ∃ m : Nat, 2 + (x : Int) % ((z.size : Int) - 2) = (m : Int) ∧ 2 ≤ m ∧ m < z.size := by
    have h0 := Int.emod_nonneg (x : Int) (show (z.size : Int) - 2 ≠ 0 by omega)
    have h1 := Int.emod_lt_of_pos (x : Int) (show 0 < (z.size : Int) - 2 by omega)
    exact ⟨(2 + (x : Int) % ((z.size : Int) - 2)).toNat, by omega, by omega, by omega⟩
  have hmw : wrap64 (2 + (x : Int) % ((z.size : Int) - 2)) = (m : Int) := by rw [hmi]; exact wrap_ok (by omega) (by omega)
  obtain ⟨k, hkv⟩ : ∃ k : Nat, (z.data.toList.getD m 0).toNat = k := ⟨_, rfl⟩
  have HKV := Lib.hid hkv
  have HMI := Lib.hid hmi
  clear hkv hmi
  have HZL : Hid (z.data.toList = l) := Lib.hid (by rw [← HZ.out, bs_data])
  have hal : (48 ≤ k ∧ k ≤ 57) ∨ (65 ≤ k ∧ k ≤ 90) := by
    rw [← HKV.out, HZL.out]
    exact good_bytes hk m (by rw [← H3.out]; exact hmlt)
  obtain ⟨kv, hkv⟩ : ∃ kv, kindN k = kv := ⟨_, rfl⟩
  have HKV2 := Lib.hid hkv
  have HAL := Lib.hid hal
  clear hkv hal
  go_enter Tryd.func5, Tryd.ntmps5
  go_upto_if 57 with (first | (go_at_call 13; refine HM.out.mono ?_; rintro e w1 ⟨rfl, hb1⟩) | (go_at_call 11; refine (iban_Check.calls 1 z 0 _ HCK.out (GWS_below HG.out hb1)).mono ?_; rintro e w2 ⟨rfl, hb2⟩; have hmc := Lib.bytesWorld_cell w2 5 z m hmlt; rw [HKV.out] at hmc; have hmf := GBytes.bytes_frozen w2 5 z m hmlt) | (go_at_call 14; refine (kind_walk k _).mono ?_; rw [HKV2.out]; rintro e w3 ⟨rfl, rfl⟩))
  go_cut [12] (fun s12 wx => s12 = .slice (some ⟨w2.heap.size, 0, none⟩) z.size (grownCap w2 z.size 0 5) ∧ AfterB w2 z m wx)
  case first =>
    have hml : m < l.length := by rw [← H3.out]; exact hmlt
    have hkl : (l.getD m 0).toNat = k := by rw [← HZL.out]; exact HKV.out
    rcases HAL.out with ⟨d1, d2⟩ | ⟨d1, d2⟩
    · have e1 : kv = 1 := by rw [← HKV2.out]; unfold kindN; rw [if_pos ⟨d1, d2⟩]
      subst e1
      obtain ⟨q, hq⟩ : ∃ q : UInt8, (q.toNat : Int) = 48 + ((k : Int) - 48 + 1 + (y : Int) % 9) % 10 := ⟨UInt8.ofNat (48 + (k - 48 + 1 + y % 9) % 10), by rw [UInt8.toNat_ofNat']; omega⟩
      have hv1 := valB_d (l.getD m 0) (by omega) (by omega)
      have hv2 := valB_d q (by omega) (by omega)
      have HC := Lib.hid (turned hk m hml q (.inl ⟨by omega, by omega⟩) (by omega))
      have HQ := Lib.hid hq
      clear hv1 hv2 hkl hq HKV2
      go_wp2_with fail
      go_meet
      exact ⟨rfl, afterB_of w2 z m hmlt q (by rw [HZL.out]; exact HC.out) _ HQ.out⟩
    · have e1 : kv = 2 := by rw [← HKV2.out]; unfold kindN; rw [if_neg (by omega), if_pos ⟨d1, d2⟩]
      subst e1
      obtain ⟨q, hq⟩ : ∃ q : UInt8, (q.toNat : Int) = 65 + ((k : Int) - 65 + 1 + (y : Int) % 25) % 26 := ⟨UInt8.ofNat (65 + (k - 65 + 1 + y % 25) % 26), by rw [UInt8.toNat_ofNat']; omega⟩
      have hv1 := valB_l (l.getD m 0) (by omega) (by omega)
      have hv2 := valB_l q (by omega) (by omega)
      have HC := Lib.hid (turned hk m hml q (.inr ⟨by omega, by omega⟩) (by omega))
      have HQ := Lib.hid hq
      clear hv1 hv2 hkl hq HKV2
      go_wp2_with fail
      go_meet
      exact ⟨rfl, afterB_of w2 z m hmlt q (by rw [HZL.out]; exact HC.out) _ HQ.out⟩
  case rest =>
    clear hmc hmf hmw HKV2 HAL HMI
    obtain ⟨rfl, hA⟩ := hcut
    obtain ⟨q, hq13, hcells, hbA⟩ := hA
    obtain ⟨T, hT⟩ : ∃ T, bs (l.set m q) = T := ⟨_, rfl⟩
    have hbk := back_any wc w2.heap.size z.size T (by rw [← hT, bs_size, List.length_set, H3.out]) (grownCap w2 z.size 0 5) (fun i hi => by
      rw [← hT, bs_data]
      have := hcells i hi
      rw [HZL.out] at this
      exact this)
    have HCT : Hid (iban_Check.f 1 T = some 13) := Lib.hid (by
      rw [← hT, chk_i _ (by rw [List.length_set]; omega) 1 (by omega)]
      have := hq13
      rw [HZL.out] at this
      rw [this])
    have HBA := Lib.hid hbA
    clear hcells hq13 hT hbA
    obtain ⟨p, hpi, hp4, hplt⟩ : ∃ p : Nat, 4 + (x : Int) % ((z.size : Int) - 5) = (p : Int) ∧ 4 ≤ p ∧ p + 1 < z.size := by
      have h0 := Int.emod_nonneg (x : Int) (show (z.size : Int) - 5 ≠ 0 by omega)
      have h1 := Int.emod_lt_of_pos (x : Int) (show 0 < (z.size : Int) - 5 by omega)
      exact ⟨(4 + (x : Int) % ((z.size : Int) - 5)).toNat, by omega, by omega, by omega⟩
    have hpw : wrap64 (4 + (x : Int) % ((z.size : Int) - 5)) = (p : Int) := by rw [hpi]; exact wrap_ok (by omega) (by omega)
    clear hpi
    go_upto_region 17 with (go_at_call 11; refine (iban_Check.calls 1 T 13 _ HCT.out (GWS_below (GWS_below (GWS_below HG.out hb1) hb2) HBA.out)).mono ?_; rintro e w4 ⟨rfl, hb4⟩)
    clear hbk
    rw [hpw]
    clear hpw
    obtain ⟨c1, hc1⟩ : ∃ c1 : Nat, (z.data.toList.getD p 0).toNat = c1 := ⟨_, rfl⟩
    obtain ⟨c2, hc2⟩ : ∃ c2 : Nat, (z.data.toList.getD (p + 1) 0).toNat = c2 := ⟨_, rfl⟩
    have g1 := Lib.bytesWorld_cell w4 5 z p (by omega)
    have g2 := Lib.bytesWorld_cell w4 5 z (p + 1) hplt
    rw [hc1] at g1
    rw [hc2] at g2
    have HC1 := Lib.hid hc1
    have HC2 := Lib.hid hc2
    clear hc1 hc2
    go_cut [125] (fun s wx => ∃ (n : Nat) (b : Bool), s = .bool b ∧ SwapB b c1 c2 ∧ wx = (Lib.bytesWorld w4 5 z).drewN n)
    case first =>
      obtain ⟨k1, hk1⟩ : ∃ k1, kindN c1 = k1 := ⟨_, rfl⟩
      obtain ⟨k2, hk2⟩ : ∃ k2, kindN c2 = k2 := ⟨_, rfl⟩
      have HN1 := Lib.hid hk1
      have HN2 := Lib.hid hk2
      clear hk1 hk2
      have hpl : IntKind.i64.wrap ((p : Int) + 1) = (p : Int) + 1 := IntWalk.i64_in _ (by omega)
      have hpn : ((p : Int) + 1).toNat = p + 1 := by omega
      have i1 : (p : Int) < (z.size : Int) := by omega
      have i2 : (p : Int) + 1 < (z.size : Int) := by omega
      by_cases d1 : k1 = 1
      · subst d1
        by_cases d2 : k2 = 1
        · subst d2
          by_cases d3 : c1 = c2
          · have e3 : ((c1 : Int) != (c2 : Int)) = false := by simp [d3]
            go_quiet ((go_at_call 14; exact kind_quiet _ _ (by assumption)))
            go_wp2_with fail
            go_meet
            exact ⟨_, _, rfl, (fun h => by cases h), rfl⟩
          · have e3 : ((c1 : Int) != (c2 : Int)) = true := by simp; omega
            go_quiet ((go_at_call 14; exact kind_quiet _ _ (by assumption)))
            go_wp2_with fail
            go_meet
            refine ⟨_, _, rfl, fun _ => ⟨?_, ?_, d3⟩, rfl⟩
            · have := HN1.out
              unfold kindN at this
              by_cases hh : 48 ≤ c1 ∧ c1 ≤ 57
              · exact hh
              · rw [if_neg hh] at this
                split at this <;> cases this
            · have := HN2.out
              unfold kindN at this
              by_cases hh : 48 ≤ c2 ∧ c2 ≤ 57
              · exact hh
              · rw [if_neg hh] at this
                split at this <;> cases this
        · have e2 : (k2 == 1) = false := beq_eq_false_iff_ne.2 d2
          have e2' : decide (k2 = 1) = false := decide_eq_false d2
          go_quiet ((go_at_call 14; exact kind_quiet _ _ (by assumption)))
          go_wp2_with fail
          go_meet
          exact ⟨_, _, rfl, (fun h => by cases h), rfl⟩
      · have e1 : (k1 == 1) = false := beq_eq_false_iff_ne.2 d1
        have e1' : decide (k1 = 1) = false := decide_eq_false d1
        go_quiet ((go_at_call 14; exact kind_quiet _ _ (by assumption)))
        go_wp2_with fail
        go_meet
        exact ⟨_, _, rfl, (fun h => by cases h), rfl⟩
    case rest =>
      clear g1 g2
      obtain ⟨n, b, rfl, hS, rfl⟩ := hcut
      have HF1 := GBytes.bytes_frozen w4 5 z p (by omega)
      have HF2 := GBytes.bytes_frozen w4 5 z (p + 1) hplt
      have HCA := Lib.hid (fun j (hj : j < z.size) => Lib.bytesWorld_cell w4 5 z j hj)
      have HBW := Lib.hid ((GBytes.bytes_below w4 5 z).trans (⟨rfl, rfl, rfl, Nat.le_refl _, fun _ _ => rfl⟩ : Below w4.heap.size (Lib.bytesWorld w4 5 z) ((Lib.bytesWorld w4 5 z).drewN n)))
      have hdc : ∀ j, ((Lib.bytesWorld w4 5 z).drewN n).cell? ⟨w4.heap.size, j, none⟩ = (Lib.bytesWorld w4 5 z).cell? ⟨w4.heap.size, j, none⟩ := fun _ => rfl
      have hdf : ∀ j, ((Lib.bytesWorld w4 5 z).drewN n).frozen? ⟨w4.heap.size, j, none⟩ = (Lib.bytesWorld w4 5 z).frozen? ⟨w4.heap.size, j, none⟩ := fun _ => rfl
      have HCB : Hid (∀ j, j < z.size → ((Lib.bytesWorld w4 5 z).drewN n).cell? ⟨w4.heap.size, j, none⟩ = some (.int .u8 (((z.data.toList.getD j 0).toNat : Nat) : Int))) := Lib.hid (fun j hj => by rw [hdc]; exact HCA.out j hj)
      have f1 : ((Lib.bytesWorld w4 5 z).drewN n).frozen? ⟨w4.heap.size, p, none⟩ = false := (hdf p).trans HF1
      have f2 : ((Lib.bytesWorld w4 5 z).drewN n).frozen? ⟨w4.heap.size, p + 1, none⟩ = false := (hdf (p + 1)).trans HF2
      clear hdc hdf HF1 HF2 HCA
      have HW := Lib.hid (GWS_below (GWS_below (GWS_below HG.out hb1) hb2) HBA.out)
      have HW4 := Lib.hid (GWS_below HW.out hb4)
      obtain ⟨W0, hW0⟩ : ∃ W0, (Lib.bytesWorld w4 5 z).drewN n = W0 := ⟨_, rfl⟩
      rw [hW0] at HBW HCB f1 f2 ⊢
      have HW0 := Lib.hid (GWS_below HW4.out HBW.out)
      clear hW0
      have b1 := Lib.hid (((((Below.refl w.heap.size w).trans (below_then hb1 hb1.size hb2)).trans (HBA.out.mono (Nat.le_trans hb1.size hb2.size))).trans (hb4.mono (Nat.le_trans (Nat.le_trans hb1.size hb2.size) HBA.out.size))).trans (HBW.out.mono (Nat.le_trans (Nat.le_trans (Nat.le_trans hb1.size hb2.size) HBA.out.size) hb4.size)))
      have hz4 : w.heap.size ≤ w4.heap.size := Nat.le_trans (Nat.le_trans (Nat.le_trans hb1.size hb2.size) HBA.out.size) hb4.size
      cases b
      · clear f1 f2 HCB hS
        go_wp2_with (go_at_call 6; refine (remitterlaw03_wakes.calls 5 true _ wakes3 HW0.out).mono ?_; rintro e w6 ⟨rfl, hb6⟩)
        go_ret
        exact ⟨rfl, below_then b1.out b1.out.size hb6⟩
      · obtain ⟨d1, d2, d3⟩ := hS rfl
        have g1 := HCB.out p (by omega)
        have g2 := HCB.out (p + 1) hplt
        rw [HC1.out] at g1
        rw [HC2.out] at g2
        clear hS
        have hpl : IntKind.i64.wrap ((p : Int) + 1) = (p : Int) + 1 := IntWalk.i64_in _ (by omega)
        have hpn : ((p : Int) + 1).toNat = p + 1 := by omega
        have i1 : (p : Int) < (z.size : Int) := by omega
        have i2 : (p : Int) + 1 < (z.size : Int) := by omega
        go_wp2_with fail
        have HS13 : Hid (chkF ((l.set p (l.getD (p + 1) 0)).set (p + 1) (l.getD p 0)) = 13) := Lib.hid (by
          have e1 := HC1.out
          have e2 := HC2.out
          rw [HZL.out] at e1 e2
          exact swapped hk p hp4 (by rw [← H3.out]; exact hplt) (by rw [e1]; exact d1) (by rw [e2]; exact d2) (by rw [e1, e2]; exact d3))
        have HSC := Lib.hid (swap_cells W0 w4.heap.size p z.size l H3.out.symm hplt (l.getD p 0) (l.getD (p + 1) 0) (fun j hj => by have := HCB.out j hj; rw [HZL.out] at this; exact this) (c1 : Int) (c2 : Int) (by rw [← HC1.out, HZL.out]) (by rw [← HC2.out, HZL.out]))
        have HBW2 := Lib.hid (((HBW.out.setCell (p := ⟨w4.heap.size, p, none⟩) (Nat.le_refl _) (.int .u8 (c2 : Int))).setCell (p := ⟨w4.heap.size, p + 1, none⟩) (Nat.le_refl _) (.int .u8 (c1 : Int))).drew)
        obtain ⟨T2, hT2⟩ : ∃ T2, bs ((l.set p (l.getD (p + 1) 0)).set (p + 1) (l.getD p 0)) = T2 := ⟨_, rfl⟩
        have HCT2 : Hid (iban_Check.f 1 T2 = some 13) := Lib.hid (by rw [← hT2, chk_i _ (by simp; omega) 1 (by omega), HS13.out])
        have HN2 : Hid (T2.size = z.size) := Lib.hid (by rw [← hT2, bs_size, List.length_set, List.length_set, H3.out])
        have HD2 : Hid (T2.data.toList = (l.set p (l.getD (p + 1) 0)).set (p + 1) (l.getD p 0)) := Lib.hid (by rw [← hT2, bs_data])
        clear hT2 d1 d2 d3
        go_region
        obtain ⟨W5, hW5⟩ : ∃ W5, ((W0.setCell ⟨w4.heap.size, p, none⟩ (.int .u8 (c2 : Int))).setCell ⟨w4.heap.size, p + 1, none⟩ (.int .u8 (c1 : Int))).drew = W5 := ⟨_, rfl⟩
        rw [hW5] at HSC HBW2 ⊢
        clear hW5
        have hbk2 := back_any W5 w4.heap.size z.size T2 HN2.out (grownCap w4 z.size 0 5) (fun j hj => by rw [HD2.out]; exact HSC.out j hj)
        have HW5 := Lib.hid (GWS_below HW4.out HBW2.out)
        have b2 := Lib.hid (((((Below.refl w.heap.size w).trans (below_then hb1 hb1.size hb2)).trans (HBA.out.mono (Nat.le_trans hb1.size hb2.size))).trans (hb4.mono (Nat.le_trans (Nat.le_trans hb1.size hb2.size) HBA.out.size))).trans (HBW2.out.mono hz4))
        clear g1 g2 f1 f2
        go_wp2_with (first | (go_at_call 11; refine (iban_Check.calls 1 T2 13 _ HCT2.out HW5.out).mono ?_; rintro e w6 ⟨rfl, hb6⟩) | (go_at_call 6; refine (remitterlaw03_wakes.calls 5 true _ wakes3 (GWS_below HW5.out hb6)).mono ?_; rintro e w7 ⟨rfl, hb7⟩))
        go_ret
        exact ⟨rfl, below_then (below_then b2.out b2.out.size hb6) (Nat.le_trans b2.out.size hb6.size) hb7⟩
theorem finds_any (c s : List UInt8) (hc0 : c.length ≤ 140737488351232) (hs0 : s.length ≤ 140737488351232) (x y : Int) (hx : 0 ≤ x ∧ x ≤ 255) (hy : 0 ≤ y ∧ y ≤ 255) (w : World) (hP : GWP w) (hG : GWS w) :
    Calls Tryd.prog 5 #[.string (bs c), .string (bs s), .int .u8 x, .int .u8 y] w fun e w' => e = .returned (.bool true) ∧ Below w.heap.size w w' := by
  by_cases hl : 30 < c.length + s.length
  · exact finds_long c s hc0 hs0 hl x y w hG
  · by_cases hg : (lenF c).2 = true ∧ (restF (c ++ [48, 48] ++ s)).2 = true ∧ (s.length : Int) = (lenF c).1 - 4
    · obtain ⟨g1, g2, g3⟩ := hg
      obtain ⟨n, hn⟩ : ∃ n, numOf c = some n := by
        unfold lenF at g1
        cases hn : numOf c with
        | none => rw [hn] at g1; cases g1
        | some n => exact ⟨n, rfl⟩
      have hL : lenF c = (n, true) := by unfold lenF; rw [hn]
      rw [hL] at g3
      have g3 : (s.length : Int) = n - 4 := g3
      have hnb := numOf_bd hn
      have hc := num_len hn
      obtain ⟨m2, m98, hrm, hck⟩ := made c s n hn g3 g2
      have hlen : (c ++ ab (mid c s) ++ s).length = 4 + s.length := by simp [hc, ab]; omega
      obtain ⟨x, rfl⟩ := Int.eq_ofNat_of_zero_le hx.1
      obtain ⟨y, rfl⟩ := Int.eq_ofNat_of_zero_le hy.1
      exact finds_good c s _ (by omega) (make_good c s n (by omega) hn g3 g2) hck (by omega) (by omega) x y (by omega) (by omega) w hP hG
    · have hlb : 0 ≤ (lenF c).1 ∧ (lenF c).1 ≤ 100 := by
        unfold lenF
        cases hn : numOf c with
        | none => exact ⟨Int.le_refl _, by decide⟩
        | some n => have := numOf_bd hn; exact ⟨by show 0 ≤ n; omega, by show n ≤ 100; omega⟩
      exact finds_bad c s (by omega) (make_bad c s (by omega) hg hlb) x y w hP hG
theorem u8_range {x : Int} (h : (Lit.int .u8 x).wf = true) : 0 ≤ x ∧ x ≤ 255 := by
  have hmin : IntKind.u8.min = 0 := rfl
  have hmax : IntKind.u8.max = 255 := rfl
  simp only [Lit.wf, Bool.and_eq_true, decide_eq_true_eq] at h
  omega
def remitterlaw03_IbanFinds.Pure : Prop := True
theorem remitterlaw03_IbanFinds.walk (_P : remitterlaw03_IbanFinds.Pure) (a0 a1 : ByteArray) (a2 a3 : Int) (w : World) (w0 : a0.size ≤ 140737488351232) (w1 : a1.size ≤ 140737488351232) (w2 : (Lit.int .u8 a2).wf = true) (w3 : (Lit.int .u8 a3).wf = true) (hGP : GWP w) (hGS : GWS w) :
    Calls Tryd.prog 5 #[.string a0, .string a1, .int .u8 a2, .int .u8 a3] w fun e w' => e = .returned (.bool true) ∧ Below w.heap.size w w' := by
  obtain ⟨c, rfl⟩ := bs_ex a0
  obtain ⟨s, rfl⟩ := bs_ex a1
  exact finds_any c s (by rw [bs_size] at w0; exact w0) (by rw [bs_size] at w1; exact w1) a2 a3 (u8_range w2) (u8_range w3) w hGP hGS
end Go.Proofs.YtjblihfgpbnhbaaDoor.PAll

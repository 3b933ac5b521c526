/- CharsetKeeps: for every text, width and number of lines the law's call returns true: the walk, by hand, over plain facts. -/
import Derived.Test.YtjemnphmjbodfaaGKeeps5
import Derived.Test.YtjemnphmjbodfaaPureCs2
namespace Go.Proofs.Ytjemnphmjbodfaa.PAll
open Go.RowKit Go.Proofs.YtjemnphmjbodfaaW.PrintWords GPlain
set_option linter.unusedSimpArgs false

def inX (c : UInt8) : Prop := decide (0 ≤ Lib.indexByte setX c) = true
theorem badE_iff (l : List UInt8) : badE setX l = 0 ↔ ∀ c ∈ l, inX c := by
  unfold badE firstBad
  constructor
  · intro h c hc
    have h1 : ¬ List.findIdx (fun c => decide (Lib.indexByte setX c < 0)) l < l.length := fun e => by rw [if_pos e] at h; cases h
    rw [List.findIdx_lt_length] at h1
    unfold inX
    rw [decide_eq_true_eq]
    by_cases hn : Lib.indexByte setX c < 0
    · exact absurd ⟨c, hc, decide_eq_true hn⟩ h1
    · omega
  · intro h
    rw [if_neg]
    rw [List.findIdx_lt_length]
    rintro ⟨c, hc, e⟩
    have := h c hc
    unfold inX at this
    rw [decide_eq_true_eq] at this e
    omega
theorem badE_01 (l : List UInt8) : badE setX l = 0 ∨ badE setX l = 15 := by
  unfold badE
  split
  · exact .inr rfl
  · exact .inl rfl
theorem subst_inX (l : List UInt8) : ∀ c ∈ subst (bs l), inX c := by
  rw [subst_l]
  intro c hc
  obtain ⟨x, hx, hcx⟩ := List.mem_flatten.1 hc
  obtain ⟨p, _, rfl⟩ := List.mem_map.1 hx
  unfold charSub at hcx
  split at hcx
  · rename_i h
    obtain ⟨a, rfl⟩ := List.length_eq_one_iff.1 h.1
    rw [List.mem_singleton] at hcx
    subst hcx
    exact h.2
  · rw [List.mem_singleton] at hcx
    subst hcx
    show decide (0 ≤ Lib.indexByte setX 46) = true
    decide +kernel
theorem flat_ones : ∀ (cs : List (List UInt8)), ((cs.map charSub).flatten).length = cs.length
  | [] => rfl
  | p :: r => by
    have := flat_ones r
    rw [List.map_cons, List.flatten_cons, List.length_append, charSub_len, List.length_cons, this]
    omega
theorem subst_size (l : List UInt8) : (subst (bs l)).length = (chars l).length := by rw [subst_l, flat_ones]
theorem inX_low {c : UInt8} (h : inX c) : c.toNat < 128 := by
  by_cases hc : c.toNat < 128
  · exact hc
  · have := high_no c.toNat (byte_lt c) (by omega)
    rw [ofNat_toNat8] at this
    unfold inX at h
    rw [this] at h
    cases h
theorem subst_id_f : ∀ (f : Nat) (d : List UInt8), d.length ≤ f → (∀ c ∈ d, inX c) → ((charsL f d).map charSub).flatten = d
  | 0, d, h, _ => by
    obtain rfl : d = [] := List.eq_nil_of_length_eq_zero (by omega)
    simp [charsL]
  | f + 1, d, h, hx => by
    unfold charsL
    cases d with
    | nil => simp
    | cons a r =>
      have hd := dec_small (a :: r) (inX_low (hx a (by simp)))
      rw [if_neg (by simp), hd]
      dsimp only
      have e1 : (a :: r).take 1 = [a] := by simp
      have e2 : (a :: r).drop 1 = r := by simp
      rw [e1, e2, List.map_cons, List.flatten_cons, subst_id_f f r (by simp only [List.length_cons] at h; omega) (fun c hc => hx c (by simp [hc]))]
      have : charSub [a] = [a] := by
        unfold charSub
        rw [if_pos ⟨rfl, hx a (by simp)⟩]
      rw [this]
      rfl
theorem subst_id (l : List UInt8) (h : ∀ c ∈ l, inX c) : subst (bs l) = l := by
  rw [subst_l]
  exact subst_id_f _ l (Nat.le_refl _) h
theorem dot_not (c : UInt8) : dot c ≠ 58 ∧ dot c ≠ 45 := by
  unfold dot
  split
  · decide
  · rename_i h
    exact ⟨fun e => h (.inl e), fun e => h (.inr e)⟩
theorem dotHead_id (x : List UInt8) (h : ∀ c ∈ x, ¬ (c = 58 ∨ c = 45)) : dotHead x = x := by
  cases x with
  | nil => rfl
  | cons a r => rw [dotHead, dot_miss (h a (by simp))]
theorem flat_id (u : List UInt8) (w : Nat) (h : ∀ c ∈ u, ¬ (c = 58 ∨ c = 45)) : ∀ m, ((List.range m).map (piece u w)).flatten = u.take (m * w)
  | 0 => by simp
  | m + 1 => by
    rw [List.range_succ, List.map_append, List.flatten_append, flat_id u w h m, Nat.succ_mul, List.take_add]
    congr 1
    show [piece u w m].flatten = _
    rw [List.flatten_singleton]
    unfold piece
    exact dotHead_id _ (fun c hc => h c (List.mem_of_mem_drop (List.mem_of_mem_take hc)))
theorem common_self : ∀ l : List UInt8, common l l = l.length
  | [] => rfl
  | a :: r => by
    have := common_self r
    simp [common, this]
theorem common_le_r : ∀ (a s : List UInt8), common a s ≤ s.length
  | [], s => by simp [common]
  | x :: a, s => by
    cases s with
    | nil => simp [common]
    | cons y t =>
      have := common_le_r a t
      unfold common
      split
      · simp only [List.length_cons]; omega
      · omega
theorem keepN_mul (w n L : Nat) (hw : 1 ≤ w) (hn : 1 ≤ n) : keepN w n L ≤ w * n := by
  unfold keepN
  split
  · rename_i h
    have h1 : w ≤ w * n := Nat.le_mul_of_pos_right w hn
    have h2 : n ≤ w * n := Nat.le_mul_of_pos_left n hw
    omega
  · exact Nat.le_refl _
theorem count_facts (u : List UInt8) (w : Nat) (hw : 1 ≤ w) (m : Nat) (hm : (u.length + w - 1) / w = m) : u.length ≤ m * w ∧ (m = 0 ∨ (m - 1) * w < u.length) := by
  have h1 := Nat.div_add_mod (u.length + w - 1) w
  have h2 := Nat.mod_lt (u.length + w - 1) hw
  rw [hm, Nat.mul_comm] at h1
  refine ⟨by omega, ?_⟩
  rcases Nat.eq_zero_or_pos m with h | h
  · exact .inl h
  · right
    have : (m - 1 + 1) * w = m * w := by rw [Nat.sub_add_cancel h]
    rw [Nat.succ_mul] at this
    omega


theorem joinL_map' (ls : List (List UInt8)) : joinL (ls.map bs) = ls.flatten := by
  unfold joinL
  rw [List.map_map]
  congr 1
  have : ((fun b : ByteArray => b.data.toList) ∘ bs) = id := by
    funext l
    exact bs_data l
  rw [this, List.map_id]
theorem line_ok (u : List UInt8) (w : Nat) (hw : 1 ≤ w) : LineOk ((foldL u w).map bs) w := by
  intro i x hx
  obtain ⟨c1, c2⟩ := count_facts u w hw _ rfl
  unfold foldL at hx ⊢
  rw [List.map_map] at hx ⊢
  rw [List.getElem?_map] at hx
  by_cases hi : i < (u.length + w - 1) / w
  · rw [List.getElem?_range hi] at hx
    obtain rfl := Option.some.inj hx
    have hle : ∀ j, j < (u.length + w - 1) / w → j * w < u.length := fun j hj => by
      rcases c2 with h | h
      · omega
      · have : j * w ≤ ((u.length + w - 1) / w - 1) * w := Nat.mul_le_mul_right w (by omega)
        omega
    have hiw := hle i hi
    have hlen : ((bs ∘ piece u w) i).size = min w (u.length - i * w) := by
      show (bs (piece u w i)).size = _
      rw [bs_size, piece_length]
    refine ⟨by rw [hlen]; omega, by rw [hlen]; omega, fun h => ?_, fun h => ?_⟩
    · rw [List.length_map, List.length_range] at h
      have := hle (i + 1) h
      rw [Nat.succ_mul] at this
      rw [hlen]
      omega
    · have e : ((bs ∘ piece u w) i)[0]'h = dot (u.getD (i * w) 0) := by
        have h2 : (bs (piece u w i))[0]'h = (piece u w i).getD 0 0 := by
          rw [List.getD_eq_getElem?_getD, List.getElem?_eq_getElem (by rw [piece_length]; omega)]
          rfl
        have h3 := piece_getD u w i 0 (by omega)
        rw [if_pos rfl] at h3
        exact h2.trans h3
      rw [e]
      obtain ⟨d1, d2⟩ := dot_not (u.getD (i * w) 0)
      exact ⟨fun e' => d1 (UInt8.toNat_inj.1 (by show _ = 58; omega)), fun e' => d2 (UInt8.toNat_inj.1 (by show _ = 45; omega))⟩
  · rw [List.getElem?_eq_none (by rw [List.length_range]; omega)] at hx
    cases hx
theorem keeps_all (l : List UInt8) (hl : l.length ≤ 1000) (w n : Nat) (hw0 : 1 ≤ w) (hw : w ≤ 100) (hn0 : 1 ≤ n) (hn : n ≤ 100) (W : World) :
    Calls Try.prog 8 #[.string (bs l), .int .u8 (w : Int), .int .u8 (n : Int)] W fun e w' => e = .returned (.bool true) ∧ Below W.heap.size W w' := by
  obtain ⟨t, ht⟩ : ∃ t, subst (bs l) = t := ⟨_, rfl⟩
  have htl : t.length ≤ l.length := by
    have := subst_len (bs l)
    rw [ht, bs_size] at this
    exact this
  have htX : ∀ c ∈ t, inX c := by
    rw [← ht]
    exact subst_inX l
  have hS : charset_Substitute.f (bs l) = some (bs t) := by
    unfold charset_Substitute.f
    rw [if_pos (by rw [bs_size]; omega), ht]
  have hS2 : charset_Substitute.f (bs t) = some (bs t) := by
    unfold charset_Substitute.f
    rw [if_pos (by rw [bs_size]; omega), subst_id t htX]
  have hck : ∀ s : List UInt8, s.length ≤ 1000 → charset_Check.f 88 (bs s) = some (((firstBad setX s : Nat) : Int), badE setX s) := fun s hs => by
    unfold charset_Check.f setOf
    rw [if_pos (by decide), if_pos (by rw [bs_size]; omega), if_pos rfl, bs_data]
  have hC1 := hck t (by omega)
  rw [(badE_iff t).2 htX] at hC1
  have hkm := keepN_mul w n t.length hw0 hn0
  obtain ⟨u, hu⟩ : ∃ u, keptL (bs l) w n = u := ⟨_, rfl⟩
  have hul : u.length = keepN w n t.length := by rw [← hu, keptL_len, ht]
  have hF : charset_Fold.f (bs l) w n = some ((foldL u w).map bs, ((common (foldL u w).flatten l : Nat) : Int), 0) := by
    unfold charset_Fold.f
    rw [if_neg (by omega), if_pos ⟨by rw [bs_size]; omega, by omega⟩, Int.toNat_natCast, Int.toNat_natCast, bs_data, hu]
  have hcnt : ((foldL u w).map bs).length ≤ n := by
    unfold foldL
    rw [List.length_map, List.length_map, List.length_range]
    obtain ⟨c1, c2⟩ := count_facts u w hw0 _ rfl
    rcases c2 with h | h
    · omega
    · have h3 : ((u.length + w - 1) / w - 1) * w < n * w := by rw [Nat.mul_comm n w]; omega
      have := Nat.lt_of_mul_lt_mul_right h3
      omega
  have hk : ((common (foldL u w).flatten l : Nat) : Int) ≤ (l.length : Int) := by
    have := common_le_r (foldL u w).flatten l
    omega
  refine keeps_main l t hl w n hw0 hw hn0 hn (badE setX l) _ _ (badE_01 l) (fun e => by rw [← ht]; exact subst_id l ((badE_iff l).1 e)) ((chars l).map bs) (0 + l.length + 9) _ _ hS hS2 hC1 (hck l hl) (chars_f l (by omega) 0) (by rw [List.length_map, ← subst_size, ht]) hF hk hcnt (line_ok u w hw0) ?_ W
  intro e hlw hpl
  have htl2 : t = l := by
    rw [← ht]
    exact subst_id l ((badE_iff l).1 e)
  have huu : u = l := by
    rw [← hu]
    unfold keptL
    rw [ht, htl2]
    have : keepN w n l.length = l.length := by
      unfold keepN
      rw [if_pos (.inr (.inr hlw))]
    rw [this, List.take_length]
  rw [huu]
  have hflat : (foldL l w).flatten = l := by
    unfold foldL
    rw [flat_id l w hpl]
    exact List.take_of_length_le (count_facts l w hw0 _ rfl).1
  refine ⟨?_, by rw [hflat, common_self]⟩
  unfold charset_Join.f
  rw [joinL_map', hflat]
  rw [huu] at hcnt
  rw [if_pos (by omega), if_pos (by omega)]
theorem u8_range5 {x : Int} (h : (Lit.int .u8 x).wf = true) : 0 ≤ x ∧ x ≤ 255 := by
  have hmin : IntKind.u8.min = 0 := rfl
  have hmax : IntKind.u8.max = 255 := rfl
  simp only [Lit.wf, Bool.and_eq_true, decide_eq_true_eq] at h
  omega
def remitterlaw05_CharsetKeeps.Pure : Prop := True
theorem remitterlaw05_CharsetKeeps.walk (_P : remitterlaw05_CharsetKeeps.Pure) (a0 : ByteArray) (a1 : Int) (a2 : Int) (w : World) (_w0 : a0.size ≤ 140737488351232) (w1 : (Lit.int .u8 a1).wf = true) (w2 : (Lit.int .u8 a2).wf = true) :
    Calls Try.prog 8 #[.string a0, .int .u8 a1, .int .u8 a2] w fun e w' => e = .returned (.bool true) ∧ Below w.heap.size w w' := by
  have h1 := u8_range5 w1
  have h2 := u8_range5 w2
  by_cases h : a0.size > 1000 ∨ a1 < 1 ∨ a1 > 100 ∨ a2 < 1 ∨ a2 > 100
  · exact keeps_wakes a0 a1 a2 h w
  · obtain ⟨l, rfl⟩ := bs_ex a0
    rw [bs_size] at h
    obtain ⟨x, rfl⟩ : ∃ x : Nat, a1 = (x : Int) := ⟨a1.toNat, by omega⟩
    obtain ⟨y, rfl⟩ : ∃ y : Nat, a2 = (y : Int) := ⟨a2.toNat, by omega⟩
    exact keeps_all l (by omega) x y (by omega) (by omega) (by omega) (by omega) w
end Go.Proofs.Ytjemnphmjbodfaa.PAll

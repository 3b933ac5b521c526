/- The contract of charset.Fold, by hand: a loop over slices.Chunk, whose body stores into the piece. -/
import Derived.Test.YtjemnphmjbodfaaGChunk
import Derived.Test.YtjemnphmjbodfaaGFoldP
import Derived.Test.YtjemnphmjbodfaaGBytes
import Derived.Maps.AppendAt
namespace Go.Proofs.Ytjemnphmjbodfaa.PAll
open Go.RowKit Go.Shelf Go.Proofs.YtjemnphmjbodfaaW.PrintWords GPlain
set_option linter.unusedSimpArgs false
attribute [local go_sem] Oper.semAt_some

/-- keep, at numbers from 1 on that do not run over. -/
theorem keep_calls (k l n : Nat) (h : n ≤ 1048576) (w : World) :
    Calls Try.prog 39 #[.int .i64 k, .int .i64 l, .int .i64 n] w fun e w' => e = .returned (.int .i64 (keepN k l n : Nat)) ∧ w' = w := by
  by_cases h1 : n ≤ k
  · have e : keepN k l n = n := if_pos (.inl h1)
    rw [e]
    go_enter Try.func39, Try.ntmps39
    go_wp2
    go_ret
    exact ⟨rfl, rfl⟩
  · by_cases h2 : n ≤ l
    · have e : keepN k l n = n := if_pos (.inr (.inl h2))
      rw [e]
      go_enter Try.func39, Try.ntmps39
      go_wp2
      go_ret
      exact ⟨rfl, rfl⟩
    · obtain ⟨p, hp⟩ : ∃ p : Nat, k * l = p := ⟨_, rfl⟩
      have hpi : (k : Int) * (l : Int) = (p : Int) := by rw [← hp]; simp
      have hple : p ≤ 1048576 * 1048576 := by rw [← hp]; exact Nat.mul_le_mul (by omega) (by omega)
      have hw : wrap64 ((k : Int) * (l : Int)) = (p : Int) := by rw [hpi]; exact wrap_ok (by omega) (by omega)
      by_cases h3 : n ≤ p
      · have e : keepN k l n = n := if_pos (.inr (.inr (by rw [hp]; exact h3)))
        rw [e]
        clear hpi
        go_enter Try.func39, Try.ntmps39
        go_wp2
        go_ret
        exact ⟨rfl, rfl⟩
      · have e : keepN k l n = p := by unfold keepN; rw [if_neg (by rw [hp]; omega), hp]
        rw [e]
        have HPI := Lib.hid hpi
        clear hpi
        go_enter Try.func39, Try.ntmps39
        go_wp2
        go_ret
        refine ⟨?_, rfl⟩
        show Ending.returned (.int .i64 ((k : Int) * (l : Int))) = _
        rw [HPI.out]

/-- Block b is the text u's bytes, of which a piece's first one may have been dotted. -/
def Pool (b L k : Nat) (u : List UInt8) (W : World) : Prop := (∃ A fr, W.heap[b]? = some (.cells A 5 fr)) ∧ (∀ j, j < L → W.frozen? ⟨b, j, none⟩ = false) ∧ ∀ j, j < L → ∃ v : UInt8, W.cell? ⟨b, j, none⟩ = some (.int .u8 (v.toNat : Int)) ∧ (v = u.getD j 0 ∨ (k ∣ j ∧ v = dot (u.getD j 0)))
theorem cell_same {W W' : World} {b : Nat} (h : W'.heap[b]? = W.heap[b]?) (j : Nat) : W'.cell? ⟨b, j, none⟩ = W.cell? ⟨b, j, none⟩ := by
  unfold World.cell?
  rw [h]
theorem frozen_same {W W' : World} {b : Nat} (h : W'.heap[b]? = W.heap[b]?) (j : Nat) : W'.frozen? ⟨b, j, none⟩ = W.frozen? ⟨b, j, none⟩ := by
  unfold World.frozen?
  rw [h]
theorem Pool.same {b L k : Nat} {u : List UInt8} {W W' : World} (h : Pool b L k u W) (hb : W'.heap[b]? = W.heap[b]?) : Pool b L k u W' := by
  refine ⟨?_, fun j hj => (frozen_same hb j).trans (h.2.1 j hj), fun j hj => ?_⟩
  · obtain ⟨A, fr, e⟩ := h.1
    exact ⟨A, fr, hb.trans e⟩
  · obtain ⟨v, e, hv⟩ := h.2.2 j hj
    exact ⟨v, (cell_same hb j).trans e, hv⟩
theorem Pool.lt {b L k : Nat} {u : List UInt8} {W : World} (h : Pool b L k u W) : b < W.heap.size := by
  obtain ⟨A, fr, e⟩ := h.1
  exact (Array.getElem?_eq_some_iff.1 e).1
theorem Pool.store {b L k q : Nat} {u : List UInt8} {W : World} (h : Pool b L k u W) (hq : q < L) (hd : k ∣ q) (hu : dot (u.getD q 0) = 46) : Pool b L k u (W.setCell ⟨b, q, none⟩ (.int .u8 46)) := by
  refine ⟨?_, fun j hj => by rw [World.frozen?_setCell]; exact h.2.1 j hj, fun j hj => ?_⟩
  · obtain ⟨A, fr, e⟩ := h.1
    obtain ⟨hlt, hk⟩ := Array.getElem?_eq_some_iff.1 e
    refine ⟨A.setIfInBounds q (.int .u8 46), fr, ?_⟩
    show (W.heap.modify b _)[b]? = _
    rw [Array.getElem?_eq_getElem (by rw [Array.size_modify]; exact hlt), Array.getElem_modify_self, hk]
    rfl
  · by_cases e : j = q
    · subst e
      obtain ⟨v, e, _⟩ := h.2.2 j hj
      exact ⟨46, World.cell?_setCell_same' _ _ _ (by rw [e]; rfl), .inr ⟨hd, hu.symm⟩⟩
    · obtain ⟨v, e', hv⟩ := h.2.2 j hj
      exact ⟨v, by rw [World.cell?_setCell_other (h := show (⟨b, q, none⟩ : Addr) ≠ ⟨b, j, none⟩ from fun e_ => e (by injection e_ with _ e_; exact e_.symm))]; exact e', hv⟩
theorem own_ge {W : World} {base : Nat} {e : TypeId} {size : Nat} {v : Value} {k : Nat} {xs : List Value} (h : W.ownsRow base e size v k xs) (g : Nat) (hg : v.ownBlock = some g) : base ≤ g := by
  rcases h.2 with ⟨rfl, _⟩ | ⟨g', cap, cur, rfl, hb, _⟩
  · simp [Value.ownBlock] at hg
  · obtain rfl : g' = g := by simpa [Value.ownBlock] using hg
    exact hb
/-- 'out = append(out, ..)', the variable's box lying below the row's bound. -/
theorem appended_low {W w1 : World} {n₀ B : Nat} {t e : TypeId} {size : Nat} {v v' : Value} {k m : Nat} {xs ys : List Value} {tmp : Obj}
    (hv : Boxed W B t v) (hrow : W.ownsRow n₀ e size v k xs) (hn₀ : n₀ ≤ W.heap.size) (hB : B < n₀)
    (hown' : w1.ownsRow n₀ e size v' m ys) (hgrow : (W.alloc tmp).grownBy w1 v.ownBlock) :
    Boxed w1 B t v ∧ Boxed (w1.setCell ⟨B, 0, none⟩ v') B t v' ∧ (w1.setCell ⟨B, 0, none⟩ v').ownsRow n₀ e size v' m ys ∧ KeepsOthers W (w1.setCell ⟨B, 0, none⟩ v') ∧ (∀ j, j < n₀ → j ≠ B → (w1.setCell ⟨B, 0, none⟩ v').heap[j]? = W.heap[j]?) ∧ (∀ n w, n ≤ B → Below n w W → Below n w (w1.setCell ⟨B, 0, none⟩ v')) := by
  have low : ∀ j, j < n₀ → w1.heap[j]? = W.heap[j]? := fun j hj => by
    rw [hgrow.block j (by simp; omega) (fun e' => by have := own_ge hrow j e'.symm; omega)]
    exact Below.heap_alloc W _ j (by omega)
  have hv1 : Boxed w1 B t v := (low B hB).trans hv
  refine ⟨hv1, hv1.set v', hown'.kept (grownBy_setCell' w1 B v') (.inr (fun e' => by have := own_ge hown' B e'; omega)), ?_, ?_, ?_⟩
  · refine ((KeepsOthers.alloc W tmp).trans (KeepsOthers.of_grownBy hgrow fun j o ej hj => ?_)).trans (KeepsOthers.setCell _ _ _)
    rcases (hrow.alloc tmp).2 with ⟨rfl, _⟩ | ⟨g, cap, cur, rfl, _, hgb, _⟩
    · simp [Value.ownBlock] at ej
    · obtain rfl : g = j := by simpa [Value.ownBlock] using ej
      rw [hgb] at hj; cases hj; rfl
  · intro j hj hne
    rw [Below.heap_setCell _ _ _ j (fun e' => hne e')]
    exact low j hj
  · intro n w hn h
    exact ((h.alloc (by omega) tmp).grown hgrow (by simp; omega) (fun j ej => by have := own_ge hrow j ej; omega)).setCell (p := ⟨B, 0, none⟩) hn v'
theorem strOfNums_bs (l : List UInt8) : strOfNums (l.map fun b => (b.toNat : Int)) = bs l := by
  unfold strOfNums bs
  rw [List.map_map]
  congr 3
  have : ((fun n : Int => UInt8.ofNat n.toNat) ∘ fun b : UInt8 => (b.toNat : Int)) = id := by
    funext b
    simp
  rw [this, List.map_id]
/-- A piece of the pool as a text: its first byte is dotted. -/
theorem piece_text {b L k : Nat} {u : List UInt8} {W : World} (hP : Pool b L k u W) (hu : u.length = L) (_hk : 1 ≤ k) (i : Nat) (hi : i * k < L) (v : UInt8) (hv : W.cell? ⟨b, i * k, none⟩ = some (.int .u8 (v.toNat : Int))) (hd : v = dot (u.getD (i * k) 0)) :
    (convert 30 9 (.slice (some ⟨b, i * k, none⟩) (min k (L - i * k)) (min k (L - i * k)))).run Try.prog W = .ok (.string (bs (piece u k i))) W := by
  rw [run_convert_bytes_arg (P := Try.prog) W 30 5 Try.underlying30 Try.underlying5 b (i * k) _ _ ((piece u k i).map fun b => (b.toNat : Int)) (by rw [List.length_map, piece_length, hu]) ?_ 9 Try.underlying9, strOfNums_bs]
  intro j hj
  rw [GBytes.getD_toNat, piece_getD _ _ _ _ (by rw [hu]; exact hj)]
  by_cases h0 : j = 0
  · subst h0
    rw [if_pos rfl, ← hd]
    exact hv
  · rw [if_neg h0]
    obtain ⟨v', e, hv'⟩ := hP.2.2 (i * k + j) (by omega)
    rcases hv' with rfl | ⟨⟨c, hc⟩, _⟩
    · exact e
    · exfalso
      have h1 : j < k := by omega
      have h2 : i * k < k * c := by rw [← hc]; omega
      have h3 : k * c < (i + 1) * k := by rw [← hc, Nat.succ_mul]; omega
      rw [Nat.mul_comm k c] at h2 h3
      have := Nat.lt_of_mul_lt_mul_right h2
      have := Nat.lt_of_mul_lt_mul_right h3
      omega
theorem A_info_string : (Try.prog.info? 9).map (fun i => (i.zero, i.size, i.bytes)) = some (some (.string ⟨#[]⟩), 1, 16) := by kernel_rfl

theorem grownBy_setCellQ (W : World) (b q : Nat) (v : Value) : W.grownBy (W.setCell ⟨b, q, none⟩ v) (some b) :=
  ⟨rfl, rfl, rfl, (KeepsWalks.setCell W _ v).size, fun k _ hk => Below.heap_setCell _ _ _ k (fun e => hk (by rw [e]))⟩
theorem BoxesStay.setCell {B1 B2 b q : Nat} (h1 : b ≠ B1) (h2 : b ≠ B2) (W : World) (v : Value) : BoxesStay B1 B2 W (W.setCell ⟨b, q, none⟩ v) :=
  ⟨fun _ e => (cell_same (Below.heap_setCell _ _ _ _ (fun e' => h1 e'.symm)) 0).trans e, fun _ e => (cell_same (Below.heap_setCell _ _ _ _ (fun e' => h2 e'.symm)) 0).trans e⟩
set_option maxRecDepth 100000 in
set_option maxHeartbeats 4000000 in
theorem fold_walk (a0 : ByteArray) (k l : Nat) (hk : 1 ≤ k) (hl : 1 ≤ l) (hk2 : (k : Int) ≤ 9223372036854775807) (hs : a0.size ≤ 1048576) (w : World) (ls : List ByteArray) (hls : (foldL (keptL a0 k l) k).map bs = ls) (N : Nat) (hN : common (foldL (keptL a0 k l) k).flatten a0.data.toList = N) :
    CallsIn Fence.wide 4 Try.prog 26 #[.string a0, .int .i64 k, .int .i64 l] w fun e w' => ∃ v0_, e = .returned (.tuple #[v0_, .int .i64 N, .int .i64 0]) ∧ Kd.R Kd.string 9 w' w.heap.size (fun _ => True) v0_ ls ∧ Below w.heap.size w w' := by
  obtain ⟨sl, rfl⟩ := bs_ex a0
  rw [bs_data] at hN
  have HLS := Lib.hid hls
  have HNN := Lib.hid hN
  clear hls hN
  have hsl := subst_len (bs sl)
  have HS : Hid (charset_Substitute.f (bs sl) = some (bs (subst (bs sl)))) := Lib.hid (by unfold charset_Substitute.f; rw [if_pos (by omega)])
  have hcv := fun (W : World) => Lib.run_convert_string_bytes (P := Try.prog) W 9 30 5 (bs (subst (bs sl))) Try.underlying9 Try.underlying30 Try.underlying5
  rw [bs_size] at hcv
  obtain ⟨L, hL⟩ : ∃ L, (subst (bs sl)).length = L := ⟨_, rfl⟩
  rw [hL] at hcv
  obtain ⟨i0, hi, hz0, hz1, hz2⟩ := info_parts A_info_string
  have hk1 : ¬ (k : Int) < 1 := by omega
  have hl1 : ¬ (l : Int) < 1 := by omega
  refine callsIn_of_wp_marks Try.func26 rfl trivial ?_ rfl
  simp only [Try.ntmps26, List.size_toArray, List.length_cons, List.length_nil, Nat.reduceAdd, Nat.reduceSub, Array.replicate_succ, Array.replicate_zero, List.push_toArray, List.append_toArray, List.nil_append, List.cons_append]
  obtain ⟨M, hM⟩ : ∃ M, keepN k l L = M := ⟨_, rfl⟩
  have hML : M ≤ L := by rw [← hM]; exact keepN_le _ _ _
  have hmin : min (L : Int) (M : Int) = (M : Int) := by omega
  have KC := fun W : World => Lib.hid (keep_calls k l L (by omega) W)
  rw [hM] at KC
  have HM := Lib.hid hM
  clear hM
  gi_wp2_with (first | (refine ⟨trivial, ?_⟩; gi_at_call 22; refine (callsIn_wide.2 (charset_Substitute.calls (bs sl) _ _ HS.out)).mono ?_; rintro e w1 ⟨rfl, hb1⟩; have hgc := grownCap_ge w1 L 0 5; have hcv1 := hcv w1; obtain ⟨cp, hcp⟩ : ∃ cp, grownCap w1 L 0 5 = cp := ⟨_, rfl⟩; obtain ⟨wb, hwb⟩ : ∃ wb, Lib.bytesWorld w1 5 (bs (subst (bs sl))) = wb := ⟨_, rfl⟩; rw [hcp, hwb] at hcv1; rw [hcp] at hgc; clear hcp hcv; have HWB := Lib.hid hwb; clear hwb) | (refine ⟨trivial, ?_⟩; gi_at_call 39; refine (callsIn_wide.2 (KC _).out).mono ?_; rintro e w2 ⟨rfl, rfl⟩; clear hcv1) | (refine ⟨trivial, ?_⟩; gi_at_call 40; refine (callsIn_wide.2 (chunk_calls _ _ _ k (by omega) _)).mono ?_; rintro e w3 ⟨rfl, rfl⟩))
  have hws : w2.heap.size = w1.heap.size + 1 := by rw [← HWB.out]; exact Lib.bytesWorld_size _ _ _
  have hb2 : Below w1.heap.size w1 w2 := by rw [← HWB.out]; exact GBytes.bytes_below _ _ _
  have hw1 := hb1.size
  have hb02 : Below w.heap.size w w2 := below_then hb1 hb1.size hb2
  have hul : (keptL (bs sl) k l).length = M := by rw [keptL_len, hL]; exact HM.out
  have hug : ∀ j, j < M → (keptL (bs sl) k l).getD j 0 = (subst (bs sl)).getD j 0 := fun j hj => by
    unfold keptL
    rw [hL, HM.out, List.getD_eq_getElem?_getD, List.getElem?_take_of_lt hj, ← List.getD_eq_getElem?_getD]
  have hP2 : Pool w1.heap.size M k (keptL (bs sl) k l) w2 := by
    rw [← HWB.out]
    refine ⟨⟨_, _, Lib.bytesWorld_at_new _ _ _⟩, fun j hj => GBytes.bytes_frozen _ _ _ j (by rw [bs_size]; omega), fun j hj => ⟨_, Lib.bytesWorld_cell _ _ _ j (by rw [bs_size]; omega), .inl ?_⟩⟩
    rw [hug j hj, bs_data]
  obtain ⟨u, hu⟩ : ∃ u, keptL (bs sl) k l = u := ⟨_, rfl⟩
  rw [hu] at hul hP2
  clear hug
  have bO := Boxed.new w2 35 (.slice none 0 0)
  have b1 := Boxed.new (w2.alloc (.cells #[.slice none 0 0] 35)) 30 (.slice (some ⟨w1.heap.size, 0, none⟩) M cp)
  have b2 := Boxed.new ((w2.alloc (.cells #[.slice none 0 0] 35)).alloc (.cells #[.slice (some ⟨w1.heap.size, 0, none⟩) M cp] 30)) 3 (.int .i64 k)
  rw [World.size_alloc] at b1
  rw [World.size_alloc, World.size_alloc] at b2
  have bO' := (bO.alloc (.cells #[.slice (some ⟨w1.heap.size, 0, none⟩) M cp] 30)).alloc (.cells #[.int .i64 k] 3)
  have b1' := b1.alloc (.cells #[.int .i64 k] 3)
  have hB0 : Below w.heap.size w (((w2.alloc (.cells #[.slice none 0 0] 35)).alloc (.cells #[.slice (some ⟨w1.heap.size, 0, none⟩) M cp] 30)).alloc (.cells #[.int .i64 k] 3)) := ((hb02.alloc (by omega) _).alloc (by simp; omega) _).alloc (by simp; omega) _
  have hP0 : Pool w1.heap.size M k u (((w2.alloc (.cells #[.slice none 0 0] 35)).alloc (.cells #[.slice (some ⟨w1.heap.size, 0, none⟩) M cp] 30)).alloc (.cells #[.int .i64 k] 3)) :=
    ((hP2.same (Below.heap_alloc _ _ _ (by omega))).same (Below.heap_alloc _ _ _ (by simp; omega))).same (Below.heap_alloc _ _ _ (by simp; omega))
  have hsz : (((w2.alloc (.cells #[.slice none 0 0] 35)).alloc (.cells #[.slice (some ⟨w1.heap.size, 0, none⟩) M cp] 30)).alloc (.cells #[.int .i64 k] 3)).heap.size = w2.heap.size + 3 := by simp
  clear bO b1
  have hws' : w1.heap.size < w2.heap.size := by omega
  clear hws
  obtain ⟨W0, hW0⟩ : ∃ W0, ((w2.alloc (.cells #[.slice none 0 0] 35)).alloc (.cells #[.slice (some ⟨w1.heap.size, 0, none⟩) M cp] 30)).alloc (.cells #[.int .i64 k] 3) = W0 := ⟨_, rfl⟩
  rw [hW0] at bO' b1' b2 hB0 hP0 hsz ⊢
  refine wpIn_rangeFunc_ownF rfl (by omega) (gf := 50) (lb := #[.pointer (some ⟨w2.heap.size + 1, 0, none⟩), .pointer (some ⟨w2.heap.size + 1 + 1, 0, none⟩)]) rfl trivial (enters_of Try.func50 (by kernel_rfl) rfl)
    (chunk_stops 3 (by omega) (w2.heap.size + 1) (w2.heap.size + 1 + 1) w1.heap.size M cp k hk hk2 (by omega) (by omega) W0 (by omega) (by omega) b1'.cell b2.cell) (fun h k => h.trans k) (fun W l o o' _ h hc _ => BoxesStay.putObj W l o o' h hc) (Below.refl _ _) (fun _ => rfl)
    (fun pre W => (∃ v, Boxed W w2.heap.size 35 v ∧ W.ownsRow (w2.heap.size + 3) 9 1 v pre.length ((pre.map fun x => piece u k x.1).map fun l => Value.string (bs l)) ∧ True) ∧ ((Pool w1.heap.size M k u W ∧ w2.heap.size + 3 ≤ W.heap.size) ∧ Below w.heap.size w W))
    (fun _ _ _ => False)
    (OwnFrom.and (Own.from (holdsRow_own (w2.heap.size + 3) w2.heap.size 35 9 1 (fun pre : List (Piece k M) => pre.length) (fun pre => (pre.map fun x => piece u k x.1).map fun l => Value.string (bs l)) (fun _ _ => True)) _) (OwnFrom.and (fun s A B row hs hg hr => ⟨hs.1.same (hg.block _ hs.1.lt (fun e => by have := (hr _ e.symm).1; omega)), Nat.le_trans hs.2 hg.size⟩) (ownFrom_below (Nat.le_refl _) (by omega))))
    (fun _ _ _ _ _ hs _ _ => hs)
    ⟨⟨_, bO', World.ownsRow_nil _ _ _ _, trivial⟩, ⟨hP0, by omega⟩, hB0⟩
    (fun x => { tmps := #[Value.string (bs sl), Value.int IntKind.i64 ↑k, Value.int IntKind.i64 ↑l, undef, undef, undef,
          Value.slice none 0 0, Value.int IntKind.i64 0, Value.int IntKind.i64 0,
          Value.slice (some { block := w1.heap.size, off := 0 }) M cp,
          Value.pointer (some { block := w2.heap.size, off := 0 }), .slice (some ⟨w1.heap.size, x.1 * k, none⟩) (min k (M - x.1 * k)) (min k (M - x.1 * k)), undef, undef, Value.int IntKind.i64 ↑k,
          Value.bool false, Value.bool false, Value.int IntKind.i64 ↑l, Value.bool false, Value.bool false,
          Value.string (bs sl), Value.string (bs (subst (bs sl))), Value.slice (some { block := w1.heap.size, off := 0 }) L cp,
          Value.slice (some { block := w1.heap.size, off := 0 }) L cp,
          Value.slice (some { block := w1.heap.size, off := 0 }) L cp, Value.int IntKind.i64 ↑L,
          Value.int IntKind.i64 ↑k, Value.int IntKind.i64 ↑l,
          Value.slice (some { block := w1.heap.size, off := 0 }) L cp, Value.int IntKind.i64 ↑L,
          Value.int IntKind.i64 ↑M, Value.int IntKind.i64 ↑M,
          Value.slice (some { block := w1.heap.size, off := 0 }) M cp,
          Value.slice (some { block := w1.heap.size, off := 0 }) M cp, Value.int IntKind.i64 ↑k,
          Value.func (Fn.func 50) #[]
            #[Value.pointer (some { block := w2.heap.size + 1, off := 0 }),
              Value.pointer (some { block := w2.heap.size + 1 + 1, off := 0 })],
          .slice (some ⟨w1.heap.size, x.1 * k, none⟩) (min k (M - x.1 * k)) (min k (M - x.1 * k)), undef, undef, undef, undef, undef, undef, undef, undef, undef, undef, undef, undef, undef, undef, undef, undef, undef, undef, undef, undef, undef, undef, undef, undef, undef, undef, undef, undef, undef, undef, undef, undef, undef, undef, undef, undef, undef, undef, undef, undef, undef, undef], defers := [] })
    ?assign ?body ?done ?stop
  case assign =>
    intro l x W K hK
    gi_wp2
    exact hK
  case body =>
    rintro ln pre x W ⟨⟨v, hv, hrow, _⟩, ⟨hP, hWs⟩, hB⟩ hlt
    obtain ⟨v0, hcell, hv0⟩ := hP.2.2 _ x.2
    have hfz := hP.2.1 _ x.2
    have hd0 : dot v0 = dot (u.getD (x.1 * k) 0) := by
      rcases hv0 with rfl | ⟨_, rfl⟩
      · rfl
      · exact dot_dot _
    have hlen : pre.length + 1 ≤ 1048576 := by omega
    have hdv : k ∣ x.1 * k := Nat.dvd_mul_left _ _
    have hpt := fun (W : World) (hP : Pool w1.heap.size M k u W) v hv hd => piece_text hP hul hk x.1 x.2 v hv hd
    have hxp := x.2
    obtain ⟨q, hq⟩ : ∃ q, x.1 * k = q := ⟨_, rfl⟩
    obtain ⟨c, hc⟩ : ∃ c, min k (M - q) = c := ⟨_, rfl⟩
    simp only [hq, hc] at hcell hfz hd0 hdv hpt hxp ⊢
    have hc0 : 0 < c := by omega
    have FIN : Hid (∀ WX W' v', KeepsOthers W WX → BoxesStay (w2.heap.size + 1) (w2.heap.size + 1 + 1) W WX → Pool w1.heap.size M k u WX → Below w.heap.size w WX → KeepsOthers WX W' → (∀ j, j < w2.heap.size + 3 → j ≠ w2.heap.size → W'.heap[j]? = WX.heap[j]?) → (∀ n w, n ≤ w2.heap.size → Below n w WX → Below n w W') → Boxed W' w2.heap.size 35 v' → W'.ownsRow (w2.heap.size + 3) 9 1 v' (pre.length + 1) (((pre.map fun x => piece u k x.1).map fun l => Value.string (bs l)) ++ [.string (bs (piece u k x.1))]) →
        (KeepsOthers W W' ∧ BoxesStay (w2.heap.size + 1) (w2.heap.size + 1 + 1) W W' ∧ ((∃ v, Boxed W' w2.heap.size 35 v ∧ W'.ownsRow (w2.heap.size + 3) 9 1 v (pre ++ [x]).length (((pre ++ [x]).map fun x => piece u k x.1).map fun l => Value.string (bs l)) ∧ True) ∧ ((Pool w1.heap.size M k u W' ∧ w2.heap.size + 3 ≤ W'.heap.size) ∧ Below w.heap.size w W')))) := Lib.hid (by
      intro WX W' v' k1 k2 hPX hBX k3 hl hbe hbx hro
      refine ⟨k1.trans k3, k2.trans ⟨fun v e => (cell_same (hl _ (by omega) (by omega)) 0).trans e, fun v e => (cell_same (hl _ (by omega) (by omega)) 0).trans e⟩, ⟨v', hbx, by simpa using hro, trivial⟩, ⟨hPX.same (hl _ (by omega) (by omega)), ?_⟩, hbe _ _ (by omega) hBX⟩
      have := (hbe (w2.heap.size) WX (Nat.le_refl _) (Below.refl _ _)).size
      have := k1.size
      omega)
    by_cases h58 : v0 = 58
    · subst h58
      have hpool := hP.store hxp hdv (by rw [← hd0]; exact dot_hit (by decide))
      have hcv2 := hpt _ hpool 46 (World.cell?_setCell_same' _ _ _ (by rw [hcell]; rfl)) (by rw [← hd0]; rfl)
      have hvs : Boxed (W.setCell ⟨w1.heap.size, q, none⟩ (.int .u8 46)) w2.heap.size 35 v := (Below.heap_setCell _ _ _ _ (fun e => by have : w2.heap.size = w1.heap.size := e; omega)).trans hv
      have hco := Lib.hid (cell_one_new (W.setCell ⟨w1.heap.size, q, none⟩ (.int .u8 46)) (.string (bs (piece u k x.1))) 9)
      rw [show (W.setCell ⟨w1.heap.size, q, none⟩ (.int .u8 46)).heap.size = W.heap.size by simp [World.setCell]] at hco
      have hvc := hvs.cell
      have hrow2 := hrow.kept (grownBy_setCellQ W w1.heap.size q (.int .u8 46)) (.inr (fun e => by have := own_ge hrow _ e; omega))
      gi_wp2_with (gi_at_builtin; refine wpListIn_append_own _ rfl _ _ 35 rfl (w2.heap.size + 3) 9 i0 (.string ⟨#[]⟩) 1 16 Try.underlying35 hi hz0 hz1 hz2 rfl (by decide) _ _ _ rfl (hrow2.alloc _) ⟨W.heap.size, 0, none⟩ 1 1 [.string (bs (piece u k x.1))] rfl rfl hco.out (by simp [Value.oneCell']) (by rw [show maxLen = 9223372036854775807 from rfl]; omega) (by omega) (by first | omega | (simp [World.setCell]; omega)) ?_; intro v' w1' hown' hgrow _; obtain ⟨g', cap', rfl⟩ := ownsRow_succ hown'; obtain ⟨hv1, hv2, hr2, hko, hlow, hbel⟩ := appended_low hvs hrow2 (by first | omega | (simp [World.setCell]; omega)) (by omega) hown' hgrow; have hc1 := hv1.cell; have hf1 := hv1.frozen; have HLOW := Lib.hid hlow; have HBEL := Lib.hid hbel; clear hlow hbel)
      exact FIN.out (W.setCell ⟨w1.heap.size, q, none⟩ (.int .u8 46)) _ _ (KeepsOthers.setCell _ _ _) (BoxesStay.setCell (by omega) (by omega) _ _) hpool (hB.setCell (p := ⟨w1.heap.size, q, none⟩) hb1.size _) hko HLOW.out HBEL.out hv2 (by simpa using hr2)
    · by_cases h45 : v0 = 45
      · subst h45
        have hpool := hP.store hxp hdv (by rw [← hd0]; exact dot_hit (by decide))
        have hcv2 := hpt _ hpool 46 (World.cell?_setCell_same' _ _ _ (by rw [hcell]; rfl)) (by rw [← hd0]; rfl)
        have hvs : Boxed (W.setCell ⟨w1.heap.size, q, none⟩ (.int .u8 46)) w2.heap.size 35 v := (Below.heap_setCell _ _ _ _ (fun e => by have : w2.heap.size = w1.heap.size := e; omega)).trans hv
        have hco := Lib.hid (cell_one_new (W.setCell ⟨w1.heap.size, q, none⟩ (.int .u8 46)) (.string (bs (piece u k x.1))) 9)
        rw [show (W.setCell ⟨w1.heap.size, q, none⟩ (.int .u8 46)).heap.size = W.heap.size by simp [World.setCell]] at hco
        have hvc := hvs.cell
        have hrow2 := hrow.kept (grownBy_setCellQ W w1.heap.size q (.int .u8 46)) (.inr (fun e => by have := own_ge hrow _ e; omega))
        gi_wp2_with (gi_at_builtin; refine wpListIn_append_own _ rfl _ _ 35 rfl (w2.heap.size + 3) 9 i0 (.string ⟨#[]⟩) 1 16 Try.underlying35 hi hz0 hz1 hz2 rfl (by decide) _ _ _ rfl (hrow2.alloc _) ⟨W.heap.size, 0, none⟩ 1 1 [.string (bs (piece u k x.1))] rfl rfl hco.out (by simp [Value.oneCell']) (by rw [show maxLen = 9223372036854775807 from rfl]; omega) (by omega) (by first | omega | (simp [World.setCell]; omega)) ?_; intro v' w1' hown' hgrow _; obtain ⟨g', cap', rfl⟩ := ownsRow_succ hown'; obtain ⟨hv1, hv2, hr2, hko, hlow, hbel⟩ := appended_low hvs hrow2 (by first | omega | (simp [World.setCell]; omega)) (by omega) hown' hgrow; have hc1 := hv1.cell; have hf1 := hv1.frozen; have HLOW := Lib.hid hlow; have HBEL := Lib.hid hbel; clear hlow hbel)
        exact FIN.out (W.setCell ⟨w1.heap.size, q, none⟩ (.int .u8 46)) _ _ (KeepsOthers.setCell _ _ _) (BoxesStay.setCell (by omega) (by omega) _ _) hpool (hB.setCell (p := ⟨w1.heap.size, q, none⟩) hb1.size _) hko HLOW.out HBEL.out hv2 (by simpa using hr2)
      · have n58 : ((v0.toNat : Int) == 58) = false := beq_eq_false_iff_ne.2 (fun e => h58 (UInt8.toNat_inj.1 (by show v0.toNat = 58; omega)))
        have n45 : ((v0.toNat : Int) == 45) = false := beq_eq_false_iff_ne.2 (fun e => h45 (UInt8.toNat_inj.1 (by show v0.toNat = 45; omega)))
        have hcv2 := hpt _ hP v0 hcell (by rw [← hd0, dot_miss (by simp [h58, h45])])
        have hvc := hv.cell
        have hco := Lib.hid (cell_one_new W (.string (bs (piece u k x.1))) 9)
        have hrow3 : W.ownsRow (w2.heap.size + 3) 9 1 v pre.length ((pre.map fun x => piece u k x.1).map fun l => Value.string (bs l)) := hrow
        gi_wp2_with (gi_at_builtin; refine wpListIn_append_own _ rfl _ _ 35 rfl (w2.heap.size + 3) 9 i0 (.string ⟨#[]⟩) 1 16 Try.underlying35 hi hz0 hz1 hz2 rfl (by decide) v pre.length ((pre.map fun x => piece u k x.1).map fun l => Value.string (bs l)) rfl (hrow3.alloc _) ⟨W.heap.size, 0, none⟩ 1 1 [.string (bs (piece u k x.1))] rfl rfl hco.out (by simp [Value.oneCell']) (by rw [show maxLen = 9223372036854775807 from rfl]; omega) (by omega) (by simp; omega) ?_; intro v' w1' hown' hgrow _; obtain ⟨g', cap', rfl⟩ := ownsRow_succ hown'; obtain ⟨hv1, hv2, hr2, hko, hlow, hbel⟩ := appended_low hv hrow3 (by omega) (by omega) hown' hgrow; have hc1 := hv1.cell; have hf1 := hv1.frozen; have HLOW := Lib.hid hlow; have HBEL := Lib.hid hbel; clear hlow hbel)
        exact FIN.out W _ _ (KeepsOthers.refl _) (⟨fun _ e => e, fun _ e => e⟩) hP hB hko HLOW.out HBEL.out hv2 (by simpa using hr2)
  case stop =>
    rintro D c pre W _ _ h _
    exact h.elim
  case done =>
    rintro D xs W hD ⟨m, hm1, hm2, hm3⟩ ⟨⟨v, hv, hrow, _⟩, ⟨hP, hWs⟩, hB⟩ hK
    have hpc : (xs.map fun x => piece u k x.1) = foldL u k := by
      unfold foldL
      rw [foldL_len u k m hk (by rw [hul]; exact hm2) (by rw [hul]; exact hm3), ← hm1, List.map_map]
      rfl
    have hxl : xs.length = ((foldL u k).map bs).length := by rw [← hpc]; simp
    have hmM : m ≤ M := by
      rcases hm3 with h | h
      · omega
      · have := Nat.le_mul_of_pos_right (m - 1) hk
        omega
    have hfl : (foldL u k).length ≤ 1048576 := by
      have := congrArg List.length hm1
      rw [List.length_map, List.length_range] at this
      rw [List.length_map] at hxl
      omega
    have hal : (foldL u k).flatten.length ≤ 1048576 * 1048576 := by
      refine Nat.le_trans (flat_le (foldL u k) 1048576 (fun y hy => ?_)) (Nat.mul_le_mul hfl (Nat.le_refl _))
      unfold foldL at hy
      obtain ⟨i, _, rfl⟩ := List.mem_map.1 hy
      rw [piece_length]
      omega
    have hjl : joinL ((foldL u k).map bs) = (foldL u k).flatten := by
      unfold joinL
      rw [List.map_map]
      congr 1
      have : ((fun b : ByteArray => b.data.toList) ∘ bs) = id := by
        funext l
        exact bs_data l
      rw [this, List.map_id]
    rw [hpc, hxl] at hrow
    have hR : Kd.string.R 9 W (w2.heap.size + 3) (fun _ => True) v ((foldL u k).map bs) := Kd.R_of_own (h1 := fun _ => rfl) (by unfold encs; rw [List.map_map]; exact hrow) (fun _ _ => trivial)
    obtain ⟨A, c, rfl⟩ := Kd.R_slice hR
    obtain ⟨_, hnc, hC⟩ := Kd.R_reads' hR
    have HJ : Hid (charset_Join.f ((foldL u k).map bs) = some (bs (foldL u k).flatten)) := Lib.hid (by
      unfold charset_Join.f
      rw [hjl, if_pos (by rw [List.length_map]; omega), if_pos (by omega)])
    have HC := Lib.hid hC
    have HN := Lib.hid hnc
    have hls := HLS.out
    have hN := HNN.out
    rw [hu] at hls hN
    rw [hls] at hv HJ HC HN hrow
    have hvc := hv.cell
    clear hC hnc hR hpc hm1 hm2 hm3 hjl
    obtain ⟨al, hale⟩ : ∃ al, (foldL u k).flatten = al := ⟨_, rfl⟩
    rw [hale] at HJ hal hN
    have HN2 := Lib.hid hN
    clear hN hls
    gi_wp2_with (refine ⟨trivial, ?_⟩; gi_at_call 24; refine (callsIn_wide.2 (charset_Join.calls A c ls _ W HC.out HN.out HJ.out)).mono ?_; rintro e w4 ⟨rfl, hb4⟩)
    have hv4 : Boxed w4 w2.heap.size 35 (.slice A ls.length c) := (hb4.block _ (by omega)).trans hv
    have hD4 : w4.heap[D]? = some (.deferred (some [])) := (hb4.block _ (Array.getElem?_eq_some_iff.1 hK).1).trans hK
    have hrow4 := own_move hrow (fun g hg => hb4.block g (by
      rcases hrow.2 with ⟨e, _⟩ | ⟨g', cap, cur, e, _, hgb, _⟩
      · rw [e] at hg
        simp [Value.ownBlock] at hg
      · rw [e] at hg
        obtain rfl : g' = g := by simpa [Value.ownBlock] using hg
        exact (Array.getElem?_eq_some_iff.1 hgb).1))
    have hB4 : Below w.heap.size w w4 := below_then hB hB.size hb4
    have HROW := Lib.hid hrow4
    clear hrow hrow4 hv hvc hK hb4 HC HN HJ hP hB
    have get : ∀ (l : List UInt8) (j : Nat) (h : j < (bs l).size), (bs l)[j] = l.getD j 0 := fun l j h => by
      rw [List.getD_eq_getElem?_getD, List.getElem?_eq_getElem (by rw [← bs_size]; exact h)]
      rfl
    have hcell4 : ∀ d, (w4.drewN d).cell? ⟨w2.heap.size, 0, none⟩ = some (.slice A ls.length c) := fun d => hv4.cell
    obtain ⟨sa, hsa, HA, HZA⟩ : ∃ sa : ByteArray, bs al = sa ∧ Hid (∀ (j : Nat) (h : j < sa.size), sa[j] = al.getD j 0) ∧ Hid (sa.size = al.length) := ⟨_, rfl, Lib.hid (get al), Lib.hid (bs_size al)⟩
    obtain ⟨ss, hss, HG, HZS⟩ : ∃ ss : ByteArray, bs sl = ss ∧ Hid (∀ (j : Nat) (h : j < ss.size), ss[j] = sl.getD j 0) ∧ Hid (ss.size = sl.length) := ⟨_, rfl, Lib.hid (get sl), Lib.hid (bs_size sl)⟩
    rw [hsa]
    rw [hss] at hs hsl ⊢
    clear get hsa hale hss
    have FIN : Hid (∀ (j d : Nat), j ≤ al.length → j ≤ sl.length → al.take j = sl.take j → ¬ (j < al.length ∧ j < sl.length ∧ al.getD j 0 = sl.getD j 0) → N = j ∧ Kd.string.R 9 ((w4.drewN d).putObj D (.deferred none)) w.heap.size (fun _ => True) (.slice A ls.length c) ls ∧ Below w.heap.size w ((w4.drewN d).putObj D (.deferred none))) := Lib.hid (by
      intro j d ha hb ht hn
      have hrowE : w4.ownsRow (w2.heap.size + 3) 9 1 (.slice A ls.length c) ls.length (encs Value.string ls) := by
        have := HROW.out
        unfold encs
        rw [← HLS.out, hu, List.map_map]
        rw [← HLS.out, hu] at this
        exact this
      refine ⟨HN2.out.symm.trans (common_eq j al sl ht ha hb hn), ?_, ?_⟩
      · refine Kd.R_lower (base := w2.heap.size + 3) (Kd.R_of_own (h1 := fun _ => rfl) (ownsRow_putObj (own_move (w1 := w4.drewN d) hrowE (fun _ _ => rfl)) _ (show (w4.drewN d).heap[D]? = some (.deferred (some [])) from hD4) rfl) (fun _ _ => trivial)) (by omega)
      · exact (hB4.trans ⟨rfl, rfl, rfl, Nat.le_refl _, fun _ _ => rfl⟩ : Below w.heap.size w (w4.drewN d)).trans (belowK_b (w := w) (Nat.le_refl _) (w4.drewN d) D _ _ (by have := hB0.size; omega) hD4 rfl rfl))
    refine wpIn_wide.2 ?_
    go_loopw [13] (fun i wr => ∃ j d : Nat, i = .int .i64 j ∧ j ≤ sa.size ∧ j ≤ ss.size ∧ Hid (al.take j = sl.take j) ∧ wr = w4.drewN d)
      (fun i _ => sa.size - (intOf i).toNat)
    case atStart => exact ⟨0, 0, rfl, Nat.zero_le _, Nat.zero_le _, Lib.hid (by simp), rfl⟩
    case round =>
      obtain ⟨j, d, rfl, hja, hjs, HT, rfl⟩ := hrel
      have hc4 := hcell4 d
      have hw4 := hv4.cell
      by_cases h1 : j < sa.size
      · by_cases h2 : j < ss.size
        · have hi : (0 ≤ (j : Int) ∧ (j : Int) < (sa.size : Int)) ∧ (j : Int) < (ss.size : Int) := by omega
          have HBB : Hid ((((sa[j]'h1).toNat : Int) == ((ss[j]'h2).toNat : Int)) = decide (al.getD j 0 = sl.getD j 0)) := Lib.hid (by
            rw [HA.out j h1, HG.out j h2, Bool.eq_iff_iff, decide_eq_true_eq, beq_iff_eq]
            exact ⟨fun e => UInt8.toNat_inj.1 (by omega), fun e => by rw [e]⟩)
          by_cases h3 : (((sa[j]'h1).toNat : Int) == ((ss[j]'h2).toNat : Int)) = true
          · have hT2 : Hid (al.take (j + 1) = sl.take (j + 1)) := Lib.hid (by
              have he := HBB.out
              rw [h3] at he
              have he := of_decide_eq_true he.symm
              have b1 := HZA.out
              have b2 := HZS.out
              rw [List.take_add_one, List.take_add_one, HT.out]
              rw [List.getD_eq_getElem?_getD, List.getD_eq_getElem?_getD, List.getElem?_eq_getElem (by omega), List.getElem?_eq_getElem (by omega)] at he
              rw [List.getElem?_eq_getElem (by omega), List.getElem?_eq_getElem (by omega)]
              simp only [Option.getD_some] at he
              rw [he])
            go_wp2
            go_quiet (fail)
            go_wp2
            exact ⟨⟨j + 1, d + nq, by simp, h1, h2, hT2, rfl⟩, by simp [intOf]; omega⟩
          · have hne : Hid (¬ al.getD j 0 = sl.getD j 0) := Lib.hid (fun e => h3 (by rw [HBB.out]; exact decide_eq_true e))
            go_wp2
            go_quiet (fail)
            go_wp2
            gi_wp2
            obtain ⟨e1, e2, e3⟩ := FIN.out j (d + nq) (by rw [← HZA.out]; exact hja) (by rw [← HZS.out]; exact hjs) HT.out (by intro hh; exact hne.out hh.2.2)
            subst e1
            refine ⟨by simp, .inl ⟨_, _, rfl, run_takeDeferred (show (w4.drewN (d + nq)).heap[D]? = some (.deferred (some [])) from hD4), ?_⟩⟩
            exact ⟨_, results_tmp3 rfl _ _ _, _, rfl, e2, e3⟩
        · have hq := HZS.out
          have HQ := Lib.hid hq
          clear hq
          go_wp2
          go_quiet (fail)
          go_wp2
          gi_wp2
          obtain ⟨e1, e2, e3⟩ := FIN.out j (d + nq) (by rw [← HZA.out]; exact hja) (by rw [← HZS.out]; exact hjs) HT.out (by intro hh; have := HQ.out; omega)
          subst e1
          refine ⟨by simp, .inl ⟨_, _, rfl, run_takeDeferred (show (w4.drewN (d + nq)).heap[D]? = some (.deferred (some [])) from hD4), ?_⟩⟩
          exact ⟨_, results_tmp3 rfl _ _ _, _, rfl, e2, e3⟩
      · have hq := HZA.out
        have HQ := Lib.hid hq
        clear hq
        go_wp2
        go_quiet (fail)
        go_wp2
        gi_wp2
        obtain ⟨e1, e2, e3⟩ := FIN.out j (d + nq) (by rw [← HZA.out]; exact hja) (by rw [← HZS.out]; exact hjs) HT.out (by intro hh; have := HQ.out; omega)
        subst e1
        refine ⟨by simp, .inl ⟨_, _, rfl, run_takeDeferred (show (w4.drewN (d + nq)).heap[D]? = some (.deferred (some [])) from hD4), ?_⟩⟩
        exact ⟨_, results_tmp3 rfl _ _ _, _, rfl, e2, e3⟩

theorem charset_Fold.calls (a0 : ByteArray) (a1 : Int) (a2 : Int) (r1 : List ByteArray) (r2 : Int) (r3 : Int) (w : World) (h : charset_Fold.f a0 a1 a2 = some (r1, r2, r3)) :
    Calls Try.prog 26 #[.string a0, .int .i64 a1, .int .i64 a2] w fun e w' => ∃ v0_ : Value, e = .returned (.tuple #[v0_, .int .i64 r2, .int .i64 r3]) ∧ Kd.R Kd.string 9 w' w.heap.size (fun _ => True) v0_ r1 ∧ Below w.heap.size w w' := by
  unfold charset_Fold.f at h
  by_cases h1 : a1 < 1 ∨ a2 < 1
  · rw [if_pos h1] at h
    obtain ⟨rfl, rfl, rfl⟩ : [] = r1 ∧ 0 = r2 ∧ 1 = r3 := by
      have := Option.some.inj h
      exact ⟨congrArg (·.1) this, congrArg (·.2.1) this, congrArg (·.2.2) this⟩
    clear h
    by_cases hk : a1 < 1
    · clear h1
      go_enter Try.func26, Try.ntmps26
      go_wp2
      go_ret3
      exact ⟨_, rfl, Kd.R_nil _ _ _ _ _, Below.refl _ _⟩
    · have h2 : a2 < 1 := by omega
      clear h1
      go_enter Try.func26, Try.ntmps26
      go_wp2
      go_ret3
      exact ⟨_, rfl, Kd.R_nil _ _ _ _ _, Below.refl _ _⟩
  · rw [if_neg h1] at h
    by_cases h2 : a0.size ≤ 1048576 ∧ a1 ≤ 9223372036854775807
    · rw [if_pos h2] at h
      obtain ⟨k, rfl⟩ : ∃ k : Nat, a1 = (k : Int) := ⟨a1.toNat, by omega⟩
      obtain ⟨l, rfl⟩ : ∃ l : Nat, a2 = (l : Int) := ⟨a2.toNat, by omega⟩
      rw [Int.toNat_natCast, Int.toNat_natCast] at h
      have e := Option.some.inj h
      have e1 := congrArg (·.1) e
      have e2 := congrArg (·.2.1) e
      have e3 := congrArg (·.2.2) e
      dsimp only at e1 e2 e3
      subst e2 e3
      exact callsIn_wide.1 (fold_walk a0 k l (by omega) (by omega) h2.2 h2.1 w r1 e1 _ rfl)
    · rw [if_neg h2] at h
      cases h
end Go.Proofs.Ytjemnphmjbodfaa.PAll

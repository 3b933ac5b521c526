/- fin.Parse, by hand. -/
import Derived.Test.YtkklccccjmipkaaDoorZFTail
import Derived.Outline
namespace Go.Proofs.YtkklccccjmipkaaDoor.Fin
open Go.RowKit Go.Proofs.YtkklccccjmipkaaDoorW.PrintWords Go.Proofs.YtkklccccjmipkaaDoorW.PrintLast GPlain Go.Proofs.YtkklccccjmipkaaDoor.PAll
set_option linter.unusedSimpArgs false
/-- What fin.Parse answers: a message, a place, a number. -/
def fparse (s : ByteArray) (cA cU : ByteArray → Int) : FS × Int × Int :=
  let r := runS (parseL s cA cU) st0
  if r.1 = true then (r.2, s.size, 0) else (st0, r.2.at_, 30)
def fpV (r : FS × Int × Int) : Value := .tuple #[.agg #[.string r.1.se, .string r.1.ki, .string r.1.re, .string r.1.ue, .string r.1.bo], .int .i64 r.2.1, .int .i64 r.2.2]
set_option maxRecDepth 100000 in
set_option maxHeartbeats 8000000 in
theorem parse_walk (s : ByteArray) (hs : s.size ≤ 1048576) (w : World) (hG : GW w) (cA cU : ByteArray → Int)
    (hA : ∀ (x : ByteArray) (W : World), x.size = 12 → Calls Tryd.prog 42 #[.string x] W fun e w' => e = .returned (.int .i64 (cA x)) ∧ Below W.heap.size W w')
    (hU : ∀ (x : ByteArray) (W : World), x.size = 36 → Calls Tryd.prog 45 #[.string x] W fun e w' => e = .returned (.int .i64 (cU x)) ∧ Below W.heap.size W w') :
    Calls Tryd.prog 15 #[.string s] w fun e w' => e = .returned (fpV (fparse s cA cU)) ∧ Below w.heap.size w w' := by
  have hmf : ∀ (fn : Fn) (first cap : Array Value) (w : World), (Instr.makeFunc fn first cap).run Tryd.prog w = .ok (.func fn first cap) w := fun _ _ _ _ => rfl
  have hlong : decide ((1048576 : Int) < (s.size : Int)) = false := decide_eq_false (by omega)
  obtain ⟨k0, k1, k2, k3, k4, k5, kz, kb⟩ := at6 w (.cells #[.string s] 9) (.cells #[.string ⟨#[]⟩, .string ⟨#[]⟩, .string ⟨#[]⟩, .string ⟨#[]⟩, .string ⟨#[]⟩] 24) (.cells #[.string s, .int .i64 0] 78) (.cells #[ptr (w.heap.size + 1 + 1) 0] 76) (.cells #[.string ⟨#[]⟩, .string ⟨#[]⟩, .string ⟨#[]⟩, .string ⟨#[]⟩, .string ⟨#[]⟩] 24) (.cells #[.string ⟨#[]⟩] 9)
  obtain ⟨E, hE⟩ : ∃ E, ((((((w.alloc (.cells #[.string s] 9)).alloc (.cells #[.string ⟨#[]⟩, .string ⟨#[]⟩, .string ⟨#[]⟩, .string ⟨#[]⟩, .string ⟨#[]⟩] 24)).alloc (.cells #[.string s, .int .i64 0] 78)).alloc (.cells #[ptr (w.heap.size + 1 + 1) 0] 76)).alloc (.cells #[.string ⟨#[]⟩, .string ⟨#[]⟩, .string ⟨#[]⟩, .string ⟨#[]⟩, .string ⟨#[]⟩] 24)).alloc (.cells #[.string ⟨#[]⟩] 9)) = E := ⟨_, rfl⟩
  have ez : E.heap.size = w.heap.size + 6 := by rw [← hE]; exact kz
  have e3 : E.heap[(w.heap.size + 1 + 1 + 1)]? = some (.cells #[ptr (w.heap.size + 1 + 1) 0] 76) := by rw [← hE]; exact k3
  have e2 : E.heap[(w.heap.size + 1 + 1)]? = some (.cells #[.string s, .int .i64 0] 78) := by rw [← hE]; exact k2
  have e4 : E.heap[(w.heap.size + 1 + 1 + 1 + 1)]? = some (.cells #[.string ⟨#[]⟩, .string ⟨#[]⟩, .string ⟨#[]⟩, .string ⟨#[]⟩, .string ⟨#[]⟩] 24) := by rw [← hE]; exact k4
  have e5 : E.heap[(w.heap.size + 1 + 1 + 1 + 1 + 1)]? = some (.cells #[.string ⟨#[]⟩] 9) := by rw [← hE]; exact k5
  have e0 : E.heap[w.heap.size]? = some (.cells #[.string s] 9) := by rw [← hE]; exact k0
  have e1 : E.heap[w.heap.size + 1]? = some (.cells #[.string ⟨#[]⟩, .string ⟨#[]⟩, .string ⟨#[]⟩, .string ⟨#[]⟩, .string ⟨#[]⟩] 24) := by rw [← hE]; exact k1
  have eb : Below w.heap.size w E := by rw [← hE]; exact kb
  have D0 : Hid (E.drew.cell? ⟨(w.heap.size + 1 + 1 + 1), 0, none⟩ = some (ptr (w.heap.size + 1 + 1) 0)) := Lib.hid (blk_cell (W := E) e3 rfl)
  have HZ := Lib.hid ez
  have H0 := Lib.hid e0
  have H1 := Lib.hid e1
  have H2 := Lib.hid e2
  have H3 := Lib.hid e3
  have H4 := Lib.hid e4
  have H5 := Lib.hid e5
  have HEB := Lib.hid eb
  clear ez e0 e1 e2 e3 e4 e5 eb kz k0 k1 k2 k3 k4 k5 kb
  go_enter Tryd.func15, Tryd.ntmps15
  go_wp2_with fail
  try rw [hE]
  clear hE
  refine wp_region_held_drew (S := fun w' => w'.cell? ⟨(w.heap.size + 1 + 1 + 1), 0, none⟩ = some (ptr (w.heap.size + 1 + 1) 0)) (by kernel_rfl) D0.out (fun hHeld => ?_)
  refine wpAnyH_take (i := 0) (v := ?_) rfl (by kernel_rfl) (by kernel_rfl) (by kernel_rfl) (fun _ _ _ h => h) (Or.inl ⟨by rfl, ?_⟩) hHeld ?_
  rotate_left
  · (intro w hSw; (try dsimp only at hSw); go_simp; try with_reducible rfl)
  simp only [Act.put, List.setIfInBounds_toArray, List.set_cons_zero, List.set_cons_succ]
  refine wpAnyH_take (i := 2) (v := ?_) rfl (by kernel_rfl) (by kernel_rfl) (by kernel_rfl) (fun _ _ _ h => h) (Or.inl ⟨by rfl, ?_⟩) hHeld ?_
  rotate_left
  · (intro w hSw; (try dsimp only at hSw); go_simp; try with_reducible rfl)
  simp only [Act.put, List.setIfInBounds_toArray, List.set_cons_zero, List.set_cons_succ]
  refine wpAnyH_take (i := 3) (v := ?_) rfl (by kernel_rfl) (by kernel_rfl) (by kernel_rfl) (fun _ _ _ h => h) (Or.inl ⟨by rfl, ?_⟩) hHeld ?_
  rotate_left
  · (intro w hSw; (try dsimp only at hSw); go_simp; try with_reducible rfl)
  simp only [Act.put, List.setIfInBounds_toArray, List.set_cons_zero, List.set_cons_succ]
  refine wpAnyH_take (i := 5) (v := ?_) rfl (by kernel_rfl) (by kernel_rfl) (by kernel_rfl) (fun _ _ _ h => h) (Or.inl ⟨by rfl, ?_⟩) hHeld ?_
  rotate_left
  · (intro w hSw; (try dsimp only at hSw); go_simp; try with_reducible rfl)
  simp only [Act.put, List.setIfInBounds_toArray, List.set_cons_zero, List.set_cons_succ]
  refine wpAnyH_take (i := 7) (v := ?_) rfl (by kernel_rfl) (by kernel_rfl) (by kernel_rfl) (fun _ _ _ h => h) (Or.inl ⟨by rfl, ?_⟩) hHeld ?_
  rotate_left
  · (intro w hSw; (try dsimp only at hSw); go_simp; try with_reducible rfl)
  simp only [Act.put, List.setIfInBounds_toArray, List.set_cons_zero, List.set_cons_succ]
  refine wpAnyH_take (i := 8) (v := ?_) rfl (by kernel_rfl) (by kernel_rfl) (by kernel_rfl) (fun _ _ _ h => h) (Or.inl ⟨by rfl, ?_⟩) hHeld ?_
  rotate_left
  · (intro w hSw; (try dsimp only at hSw); go_simp; try with_reducible rfl)
  simp only [Act.put, List.setIfInBounds_toArray, List.set_cons_zero, List.set_cons_succ]
  refine wpAnyH_take (i := 10) (v := ?_) rfl (by kernel_rfl) (by kernel_rfl) (by kernel_rfl) (fun _ _ _ h => h) (Or.inl ⟨by rfl, ?_⟩) hHeld ?_
  rotate_left
  · (intro w hSw; (try dsimp only at hSw); go_simp; try with_reducible rfl)
  simp only [Act.put, List.setIfInBounds_toArray, List.set_cons_zero, List.set_cons_succ]
  refine wpAnyH_take (i := 11) (v := ?_) rfl (by kernel_rfl) (by kernel_rfl) (by kernel_rfl) (fun _ _ _ h => h) (Or.inl ⟨by rfl, ?_⟩) hHeld ?_
  rotate_left
  · (intro w hSw; (try dsimp only at hSw); go_simp; try with_reducible rfl)
  simp only [Act.put, List.setIfInBounds_toArray, List.set_cons_zero, List.set_cons_succ]
  refine wpAnyH_take (i := 13) (v := ?_) rfl (by kernel_rfl) (by kernel_rfl) (by kernel_rfl) (fun _ _ _ h => h) (Or.inl ⟨by rfl, ?_⟩) hHeld ?_
  rotate_left
  · (intro w hSw; (try dsimp only at hSw); go_simp; try with_reducible rfl)
  simp only [Act.put, List.setIfInBounds_toArray, List.set_cons_zero, List.set_cons_succ]
  refine wpAnyH_take (i := 15) (v := ?_) rfl (by kernel_rfl) (by kernel_rfl) (by kernel_rfl) (fun _ _ _ h => h) (Or.inl ⟨by rfl, ?_⟩) hHeld ?_
  rotate_left
  · (intro w hSw; (try dsimp only at hSw); go_simp; try with_reducible rfl)
  simp only [Act.put, List.setIfInBounds_toArray, List.set_cons_zero, List.set_cons_succ]
  refine wpAnyH_take (i := 16) (v := ?_) rfl (by kernel_rfl) (by kernel_rfl) (by kernel_rfl) (fun _ _ _ h => h) (Or.inl ⟨by rfl, ?_⟩) hHeld ?_
  rotate_left
  · (intro w hSw; (try dsimp only at hSw); go_simp; try with_reducible rfl)
  simp only [Act.put, List.setIfInBounds_toArray, List.set_cons_zero, List.set_cons_succ]
  refine wpAnyH_take (i := 18) (v := ?_) rfl (by kernel_rfl) (by kernel_rfl) (by kernel_rfl) (fun _ _ _ h => h) (Or.inl ⟨by rfl, ?_⟩) hHeld ?_
  rotate_left
  · (intro w hSw; (try dsimp only at hSw); go_simp; try with_reducible rfl)
  simp only [Act.put, List.setIfInBounds_toArray, List.set_cons_zero, List.set_cons_succ]
  refine wpAnyH_take (i := 19) (v := ?_) rfl (by kernel_rfl) (by kernel_rfl) (by kernel_rfl) (fun _ _ _ h => h) (Or.inl ⟨by rfl, ?_⟩) hHeld ?_
  rotate_left
  · (intro w hSw; (try dsimp only at hSw); go_simp; try with_reducible rfl)
  simp only [Act.put, List.setIfInBounds_toArray, List.set_cons_zero, List.set_cons_succ]
  refine wpAnyH_take (i := 21) (v := ?_) rfl (by kernel_rfl) (by kernel_rfl) (by kernel_rfl) (fun _ _ _ h => h) (Or.inl ⟨by rfl, ?_⟩) hHeld ?_
  rotate_left
  · (intro w hSw; (try dsimp only at hSw); go_simp; try with_reducible rfl)
  simp only [Act.put, List.setIfInBounds_toArray, List.set_cons_zero, List.set_cons_succ]
  refine wpAnyH_take (i := 25) (v := ?_) rfl (by kernel_rfl) (by kernel_rfl) (by kernel_rfl) (fun _ _ _ h => h) (Or.inl ⟨by rfl, ?_⟩) hHeld ?_
  rotate_left
  · (intro w hSw; (try dsimp only at hSw); go_simp; try with_reducible rfl)
  simp only [Act.put, List.setIfInBounds_toArray, List.set_cons_zero, List.set_cons_succ]
  refine wpAnyH_take (i := 27) (v := ?_) rfl (by kernel_rfl) (by kernel_rfl) (by kernel_rfl) (fun _ _ _ h => h) (Or.inl ⟨by rfl, ?_⟩) hHeld ?_
  rotate_left
  · (intro w hSw; (try dsimp only at hSw); go_simp; try with_reducible rfl)
  simp only [Act.put, List.setIfInBounds_toArray, List.set_cons_zero, List.set_cons_succ]
  refine wpAnyH_take (i := 28) (v := ?_) rfl (by kernel_rfl) (by kernel_rfl) (by kernel_rfl) (fun _ _ _ h => h) (Or.inl ⟨by rfl, ?_⟩) hHeld ?_
  rotate_left
  · (intro w hSw; (try dsimp only at hSw); go_simp; try with_reducible rfl)
  simp only [Act.put, List.setIfInBounds_toArray, List.set_cons_zero, List.set_cons_succ]
  refine wpAnyH_take (i := 30) (v := ?_) rfl (by kernel_rfl) (by kernel_rfl) (by kernel_rfl) (fun _ _ _ h => h) (Or.inl ⟨by rfl, ?_⟩) hHeld ?_
  rotate_left
  · (intro w hSw; (try dsimp only at hSw); go_simp; try with_reducible rfl)
  simp only [Act.put, List.setIfInBounds_toArray, List.set_cons_zero, List.set_cons_succ]
  refine wpAnyH_take (i := 32) (v := ?_) rfl (by kernel_rfl) (by kernel_rfl) (by kernel_rfl) (fun _ _ _ h => h) (Or.inl ⟨by rfl, ?_⟩) hHeld ?_
  rotate_left
  · (intro w hSw; (try dsimp only at hSw); go_simp; try with_reducible rfl)
  simp only [Act.put, List.setIfInBounds_toArray, List.set_cons_zero, List.set_cons_succ]
  refine wpAnyH_take (i := 33) (v := ?_) rfl (by kernel_rfl) (by kernel_rfl) (by kernel_rfl) (fun _ _ _ h => h) (Or.inl ⟨by rfl, ?_⟩) hHeld ?_
  rotate_left
  · (intro w hSw; (try dsimp only at hSw); go_simp; try with_reducible rfl)
  simp only [Act.put, List.setIfInBounds_toArray, List.set_cons_zero, List.set_cons_succ]
  refine wpAnyH_take (i := 35) (v := ?_) rfl (by kernel_rfl) (by kernel_rfl) (by kernel_rfl) (fun _ _ _ h => h) (Or.inl ⟨by rfl, ?_⟩) hHeld ?_
  rotate_left
  · (intro w hSw; (try dsimp only at hSw); go_simp; try with_reducible rfl)
  simp only [Act.put, List.setIfInBounds_toArray, List.set_cons_zero, List.set_cons_succ]
  refine wpAnyH_take (i := 37) (v := ?_) rfl (by kernel_rfl) (by kernel_rfl) (by kernel_rfl) (fun _ _ _ h => h) (Or.inl ⟨by rfl, ?_⟩) hHeld ?_
  rotate_left
  · (intro w hSw; (try dsimp only at hSw); go_simp; try with_reducible rfl)
  simp only [Act.put, List.setIfInBounds_toArray, List.set_cons_zero, List.set_cons_succ]
  refine wpAnyH_take (i := 41) (v := ?_) rfl (by kernel_rfl) (by kernel_rfl) (by kernel_rfl) (fun _ _ _ h => h) (Or.inl ⟨by rfl, ?_⟩) hHeld ?_
  rotate_left
  · (intro w hSw; (try dsimp only at hSw); go_simp; try with_reducible rfl)
  simp only [Act.put, List.setIfInBounds_toArray, List.set_cons_zero, List.set_cons_succ]
  refine wpAnyH_ready (rs := [1]) (by kernel_rfl) (by simp) ?_
  refine AllReadyH.cons rfl (fun K hK => ?_) AllReadyH.nil
  go_simp
  go_at_call 40
  refine (mk_text _ _ _).mono ?_
  rintro e V1 ⟨n1, hn1, rfl, hx1, hb1⟩
  have D1 := keepD D0 hb1
  have K1 := Lib.hid hb1
  have X1 := Lib.hid hx1
  have N1 := Lib.hid hn1
  try (go_wp2_with fail)
  clear hHeld
  refine hK.out _ _ ?_ (fun hHeld => ?_)
  · (try dsimp only); exact D1.out
  clear hK K
  try simp only [Act.put, List.setIfInBounds_toArray, List.set_cons_zero, List.set_cons_succ]
  refine wpAnyH_ready (rs := [4]) (by kernel_rfl) (by simp) ?_
  refine AllReadyH.cons rfl (fun K hK => ?_) AllReadyH.nil
  go_simp
  go_at_call 41
  refine (mk_whole _ _ _ _ _ _).mono ?_
  rintro e V2 ⟨n2, hn2, rfl, hx2, hb2⟩
  have D2 := keepD D1 hb2
  have K2 := Lib.hid hb2
  have X2 := Lib.hid hx2
  have N2 := Lib.hid hn2
  try (go_wp2_with fail)
  clear hHeld
  refine hK.out _ _ ?_ (fun hHeld => ?_)
  · (try dsimp only); exact D2.out
  clear hK K
  try simp only [Act.put, List.setIfInBounds_toArray, List.set_cons_zero, List.set_cons_succ]
  refine wpAnyH_ready (rs := [6]) (by kernel_rfl) (by simp) ?_
  refine AllReadyH.cons rfl (fun K hK => ?_) AllReadyH.nil
  go_simp
  go_at_call 40
  refine (mk_text _ _ _).mono ?_
  rintro e V3 ⟨n3, hn3, rfl, hx3, hb3⟩
  have D3 := keepD D2 hb3
  have K3 := Lib.hid hb3
  have X3 := Lib.hid hx3
  have N3 := Lib.hid hn3
  try (go_wp2_with fail)
  clear hHeld
  refine hK.out _ _ ?_ (fun hHeld => ?_)
  · (try dsimp only); exact D3.out
  clear hK K
  try simp only [Act.put, List.setIfInBounds_toArray, List.set_cons_zero, List.set_cons_succ]
  refine wpAnyH_ready (rs := [9]) (by kernel_rfl) (by simp) ?_
  refine AllReadyH.cons rfl (fun K hK => ?_) AllReadyH.nil
  go_simp
  go_at_call 43
  refine (mk_some _ _ _ _ _ _).mono ?_
  rintro e V4 ⟨n4, hn4, rfl, hx4, hb4⟩
  have D4 := keepD D3 hb4
  have K4 := Lib.hid hb4
  have X4 := Lib.hid hx4
  have N4 := Lib.hid hn4
  try (go_wp2_with fail)
  clear hHeld
  refine hK.out _ _ ?_ (fun hHeld => ?_)
  · (try dsimp only); exact D4.out
  clear hK K
  try simp only [Act.put, List.setIfInBounds_toArray, List.set_cons_zero, List.set_cons_succ]
  refine wpAnyH_ready (rs := [12]) (by kernel_rfl) (by simp) ?_
  refine AllReadyH.cons rfl (fun K hK => ?_) AllReadyH.nil
  go_simp
  go_at_call 41
  refine (mk_whole _ _ _ _ _ _).mono ?_
  rintro e V5 ⟨n5, hn5, rfl, hx5, hb5⟩
  have D5 := keepD D4 hb5
  have K5 := Lib.hid hb5
  have X5 := Lib.hid hx5
  have N5 := Lib.hid hn5
  try (go_wp2_with fail)
  clear hHeld
  refine hK.out _ _ ?_ (fun hHeld => ?_)
  · (try dsimp only); exact D5.out
  clear hK K
  try simp only [Act.put, List.setIfInBounds_toArray, List.set_cons_zero, List.set_cons_succ]
  refine wpAnyH_ready (rs := [14]) (by kernel_rfl) (by simp) ?_
  refine AllReadyH.cons rfl (fun K hK => ?_) AllReadyH.nil
  go_simp
  go_at_call 40
  refine (mk_text _ _ _).mono ?_
  rintro e V6 ⟨n6, hn6, rfl, hx6, hb6⟩
  have D6 := keepD D5 hb6
  have K6 := Lib.hid hb6
  have X6 := Lib.hid hx6
  have N6 := Lib.hid hn6
  try (go_wp2_with fail)
  clear hHeld
  refine hK.out _ _ ?_ (fun hHeld => ?_)
  · (try dsimp only); exact D6.out
  clear hK K
  try simp only [Act.put, List.setIfInBounds_toArray, List.set_cons_zero, List.set_cons_succ]
  refine wpAnyH_ready (rs := [17]) (by kernel_rfl) (by simp) ?_
  refine AllReadyH.cons rfl (fun K hK => ?_) AllReadyH.nil
  go_simp
  go_at_call 40
  refine (mk_text _ _ _).mono ?_
  rintro e V7 ⟨n7, hn7, rfl, hx7, hb7⟩
  have D7 := keepD D6 hb7
  have K7 := Lib.hid hb7
  have X7 := Lib.hid hx7
  have N7 := Lib.hid hn7
  try (go_wp2_with fail)
  clear hHeld
  refine hK.out _ _ ?_ (fun hHeld => ?_)
  · (try dsimp only); exact D7.out
  clear hK K
  try simp only [Act.put, List.setIfInBounds_toArray, List.set_cons_zero, List.set_cons_succ]
  refine wpAnyH_ready (rs := [20]) (by kernel_rfl) (by simp) ?_
  refine AllReadyH.cons rfl (fun K hK => ?_) AllReadyH.nil
  go_simp
  go_at_call 41
  refine (mk_whole _ _ _ _ _ _).mono ?_
  rintro e V8 ⟨n8, hn8, rfl, hx8, hb8⟩
  have D8 := keepD D7 hb8
  have K8 := Lib.hid hb8
  have X8 := Lib.hid hx8
  have N8 := Lib.hid hn8
  try (go_wp2_with fail)
  clear hHeld
  refine hK.out _ _ ?_ (fun hHeld => ?_)
  · (try dsimp only); exact D8.out
  clear hK K
  try simp only [Act.put, List.setIfInBounds_toArray, List.set_cons_zero, List.set_cons_succ]
  refine wpAnyH_ready (rs := [22]) (by kernel_rfl) (by simp) ?_
  refine AllReadyH.cons rfl (fun K hK => ?_) AllReadyH.nil
  go_simp
  go_at_call 40
  refine (mk_text _ _ _).mono ?_
  rintro e V9 ⟨n9, hn9, rfl, hx9, hb9⟩
  have D9 := keepD D8 hb9
  have K9 := Lib.hid hb9
  have X9 := Lib.hid hx9
  have N9 := Lib.hid hn9
  try (go_wp2_with fail)
  clear hHeld
  refine hK.out _ _ ?_ (fun hHeld => ?_)
  · (try dsimp only); exact D9.out
  clear hK K
  try simp only [Act.put, List.setIfInBounds_toArray, List.set_cons_zero, List.set_cons_succ]
  refine wpAnyH_ready (rs := [23]) (by kernel_rfl) (by simp) ?_
  refine AllReadyH.cons rfl (fun K hK => ?_) AllReadyH.nil
  go_simp
  clear hHeld
  refine hK.out _ _ ?_ (fun hHeld => ?_)
  · (try dsimp only); exact keepA _ D9.out
  clear hK K
  try simp only [Act.put, List.setIfInBounds_toArray, List.set_cons_zero, List.set_cons_succ]
  refine wpAnyH_ready (rs := [24]) (by kernel_rfl) (by simp) ?_
  refine AllReadyH.cons rfl (fun K hK => ?_) AllReadyH.nil
  go_simp
  go_at_call 44
  refine (mk_maybe _ _ _ _ _ _).mono ?_
  rintro e V10 ⟨n10, hn10, rfl, hx10, hb10⟩
  have D10 := keepD (Lib.hid (keepA _ D9.out)) hb10
  have K10 := Lib.hid hb10
  have X10 := Lib.hid hx10
  have N10 := Lib.hid hn10
  try (go_wp2_with fail)
  clear hHeld
  refine hK.out _ _ ?_ (fun hHeld => ?_)
  · (try dsimp only); exact D10.out
  clear hK K
  try simp only [Act.put, List.setIfInBounds_toArray, List.set_cons_zero, List.set_cons_succ]
  refine wpAnyH_ready (rs := [26]) (by kernel_rfl) (by simp) ?_
  refine AllReadyH.cons rfl (fun K hK => ?_) AllReadyH.nil
  go_simp
  go_at_call 40
  refine (mk_text _ _ _).mono ?_
  rintro e V11 ⟨n11, hn11, rfl, hx11, hb11⟩
  have D11 := keepD D10 hb11
  have K11 := Lib.hid hb11
  have X11 := Lib.hid hx11
  have N11 := Lib.hid hn11
  try (go_wp2_with fail)
  clear hHeld
  refine hK.out _ _ ?_ (fun hHeld => ?_)
  · (try dsimp only); exact D11.out
  clear hK K
  try simp only [Act.put, List.setIfInBounds_toArray, List.set_cons_zero, List.set_cons_succ]
  refine wpAnyH_ready (rs := [29]) (by kernel_rfl) (by simp) ?_
  refine AllReadyH.cons rfl (fun K hK => ?_) AllReadyH.nil
  go_simp
  go_at_call 46
  refine (mk_body _ _ _ _).mono ?_
  rintro e V12 ⟨n12, hn12, rfl, hx12, hb12⟩
  have D12 := keepD D11 hb12
  have K12 := Lib.hid hb12
  have X12 := Lib.hid hx12
  have N12 := Lib.hid hn12
  try (go_wp2_with fail)
  clear hHeld
  refine hK.out _ _ ?_ (fun hHeld => ?_)
  · (try dsimp only); exact D12.out
  clear hK K
  try simp only [Act.put, List.setIfInBounds_toArray, List.set_cons_zero, List.set_cons_succ]
  refine wpAnyH_ready (rs := [31]) (by kernel_rfl) (by simp) ?_
  refine AllReadyH.cons rfl (fun K hK => ?_) AllReadyH.nil
  go_simp
  go_at_call 40
  refine (mk_text _ _ _).mono ?_
  rintro e V13 ⟨n13, hn13, rfl, hx13, hb13⟩
  have D13 := keepD D12 hb13
  have K13 := Lib.hid hb13
  have X13 := Lib.hid hx13
  have N13 := Lib.hid hn13
  try (go_wp2_with fail)
  clear hHeld
  refine hK.out _ _ ?_ (fun hHeld => ?_)
  · (try dsimp only); exact D13.out
  clear hK K
  try simp only [Act.put, List.setIfInBounds_toArray, List.set_cons_zero, List.set_cons_succ]
  refine wpAnyH_ready (rs := [34]) (by kernel_rfl) (by simp) ?_
  refine AllReadyH.cons rfl (fun K hK => ?_) AllReadyH.nil
  go_simp
  go_at_call 40
  refine (mk_text _ _ _).mono ?_
  rintro e V14 ⟨n14, hn14, rfl, hx14, hb14⟩
  have D14 := keepD D13 hb14
  have K14 := Lib.hid hb14
  have X14 := Lib.hid hx14
  have N14 := Lib.hid hn14
  try (go_wp2_with fail)
  clear hHeld
  refine hK.out _ _ ?_ (fun hHeld => ?_)
  · (try dsimp only); exact D14.out
  clear hK K
  try simp only [Act.put, List.setIfInBounds_toArray, List.set_cons_zero, List.set_cons_succ]
  refine wpAnyH_ready (rs := [36]) (by kernel_rfl) (by simp) ?_
  refine AllReadyH.cons rfl (fun K hK => ?_) AllReadyH.nil
  go_simp
  go_at_call 43
  refine (mk_some _ _ _ _ _ _).mono ?_
  rintro e V15 ⟨n15, hn15, rfl, hx15, hb15⟩
  have D15 := keepD D14 hb15
  have K15 := Lib.hid hb15
  have X15 := Lib.hid hx15
  have N15 := Lib.hid hn15
  try (go_wp2_with fail)
  clear hHeld
  refine hK.out _ _ ?_ (fun hHeld => ?_)
  · (try dsimp only); exact D15.out
  clear hK K
  try simp only [Act.put, List.setIfInBounds_toArray, List.set_cons_zero, List.set_cons_succ]
  refine wpAnyH_ready (rs := [38]) (by kernel_rfl) (by simp) ?_
  refine AllReadyH.cons rfl (fun K hK => ?_) AllReadyH.nil
  go_simp
  go_at_call 40
  refine (mk_text _ _ _).mono ?_
  rintro e V16 ⟨n16, hn16, rfl, hx16, hb16⟩
  have D16 := keepD D15 hb16
  have K16 := Lib.hid hb16
  have X16 := Lib.hid hx16
  have N16 := Lib.hid hn16
  try (go_wp2_with fail)
  clear hHeld
  refine hK.out _ _ ?_ (fun hHeld => ?_)
  · (try dsimp only); exact D16.out
  clear hK K
  try simp only [Act.put, List.setIfInBounds_toArray, List.set_cons_zero, List.set_cons_succ]
  refine wpAnyH_ready (rs := [39]) (by kernel_rfl) (by simp) ?_
  refine AllReadyH.cons rfl (fun K hK => ?_) AllReadyH.nil
  go_simp
  clear hHeld
  refine hK.out _ _ ?_ (fun hHeld => ?_)
  · (try dsimp only); exact keepA _ D16.out
  clear hK K
  try simp only [Act.put, List.setIfInBounds_toArray, List.set_cons_zero, List.set_cons_succ]
  refine wpAnyH_ready (rs := [40]) (by kernel_rfl) (by simp) ?_
  refine AllReadyH.cons rfl (fun K hK => ?_) AllReadyH.nil
  go_simp
  go_at_call 44
  refine (mk_maybe _ _ _ _ _ _).mono ?_
  rintro e V17 ⟨n17, hn17, rfl, hx17, hb17⟩
  have D17 := keepD (Lib.hid (keepA _ D16.out)) hb17
  have K17 := Lib.hid hb17
  have X17 := Lib.hid hx17
  have N17 := Lib.hid hn17
  try (go_wp2_with fail)
  clear hHeld
  refine hK.out _ _ ?_ (fun hHeld => ?_)
  · (try dsimp only); exact D17.out
  clear hK K
  try simp only [Act.put, List.setIfInBounds_toArray, List.set_cons_zero, List.set_cons_succ]
  refine wpAnyH_ready (rs := [42]) (by kernel_rfl) (by simp) ?_
  refine AllReadyH.cons rfl (fun K hK => ?_) AllReadyH.nil
  go_simp
  clear hHeld
  refine hK.out _ _ ?_ (fun hHeld => ?_)
  · (try dsimp only); exact keepA _ D17.out
  clear hK K
  try simp only [Act.put, List.setIfInBounds_toArray, List.set_cons_zero, List.set_cons_succ]
  refine wpAnyH_ready (rs := [43]) (by kernel_rfl) (by simp) ?_
  refine AllReadyH.cons rfl (fun K hK => ?_) AllReadyH.nil
  go_simp
  go_at_call 39
  refine (steps_chain (E := E.drew) rfl hs hG cA cU hA hU HZ H0 H1 H2 H3 H4 H5 (Lib.hid (below_drew HEB.out)) N1 K1 X1 N2 K2 X2 N3 K3 X3 N4 K4 X4 N5 K5 X5 N6 K6 X6 N7 K7 X7 N8 K8 X8 N9 K9 X9 N10 K10 X10 N11 K11 X11 N12 K12 X12 N13 K13 X13 N14 K14 X14 N15 K15 X15 N16 K16 X16 N17 K17 X17).mono ?_
  rintro e V18 ⟨rfl, hP⟩
  have HP := Lib.hid hP
  have D18 : Hid (V18.cell? ⟨(w.heap.size + 1 + 1 + 1), 0, none⟩ = some (ptr (w.heap.size + 1 + 1) 0)) := Lib.hid hP.rb
  try (go_wp2_with fail)
  clear hHeld
  refine hK.out _ _ ?_ (fun hHeld => ?_)
  · (try dsimp only); exact D18.out
  clear hK K
  try simp only [Act.put, List.setIfInBounds_toArray, List.set_cons_zero, List.set_cons_succ]
  refine wpAnyH_take (i := 44) (v := ?_) rfl (by kernel_rfl) (by kernel_rfl) (by kernel_rfl) (fun _ _ _ h => h) (Or.inl ⟨by rfl, ?_⟩) hHeld ?_
  rotate_left
  · (intro w hSw; (try dsimp only at hSw); go_simp; try with_reducible rfl)
  refine wpAnyH_done (by kernel_rfl) ?_ _
  simp only [Act.put, List.setIfInBounds_toArray, List.set_cons_zero, List.set_cons_succ]
  clear D0 D1 N1 K1 X1 D2 N2 K2 X2 D3 N3 K3 X3 D4 N4 K4 X4 D5 N5 K5 X5 D6 N6 K6 X6 D7 N7 K7 X7 D8 N8 K8 X8 D9 N9 K9 X9 D10 N10 K10 X10 D11 N11 K11 X11 D12 N12 K12 X12 D13 N13 K13 X13 D14 N14 K14 X14 D15 N15 K15 X15 D16 N16 K16 X16 D17 N17 K17 X17 D18 HZ H0 H1 H2 H3 H4 H5 HEB hHeld hmf
  obtain ⟨⟨b, st⟩, hr⟩ : ∃ r, runS (parseL s cA cU) st0 = r := ⟨_, rfl⟩
  rw [hr] at HP ⊢
  dsimp only at HP ⊢
  have HR := Lib.hid hr
  clear hr
  cases b
  · go_wp2
    rename_i K1 a1 K0 a0
    refine tail_bad rfl HP _ _ _ _ _ _ _ _ _ _ _ _ _ _ _ _ _ _ _ _ _ _ _ _ _ _ _ _ _ _ _ _ _ _ _ _ _ _ _ _ _ _ _ _ _ _ _ _ _ _ _ _ _ _ _ _ _ _ _ _ _ _ _ _ _ _ (fun a V' h2 h3 h4 h5 h6 h7 => ?_) (by intro c a a' V' h; simp (config := { zetaDelta := true }) only [Exit.then, bodyPost] at h; cases h.2.1)
    refine a0 _ _ (wp_ret ?_)
    show bodyPost Tryd.prog Tryd.f15 (fun e w' => e = .returned (fpV (fparse s cA cU)) ∧ Below w.heap.size w w') .ret a V'
    refine bodyPost_ret (results_ctt (fn := Tryd.f15) rfl a.tmps V' (w.heap.size + 1) _ _ _ _ h2 h6 Tryd.underlying24 rfl (by kernel_rfl)) h5 ?_
    rw [h3, h4]
    refine ⟨?_, h7⟩
    unfold fparse
    rw [HR.out]
    rfl
  · go_wp2
    rename_i K0 a0
    refine tail_good rfl HP _ _ _ _ _ _ _ _ _ _ _ _ _ _ _ _ _ _ _ _ _ _ _ _ _ _ _ _ _ _ _ _ _ _ _ _ _ _ _ _ _ _ _ _ _ _ _ _ _ _ _ _ _ _ _ _ _ _ _ _ _ _ _ _ _ _ (fun a V' h2 h3 h4 h5 h6 h7 => ?_) (by intro c a a' V' h; simp (config := { zetaDelta := true }) only [Exit.then, bodyPost] at h; cases h.2.1)
    refine a0 _ _ (wp_ret ?_)
    show bodyPost Tryd.prog Tryd.f15 (fun e w' => e = .returned (fpV (fparse s cA cU)) ∧ Below w.heap.size w w') .ret a V'
    refine bodyPost_ret (results_ctt (fn := Tryd.f15) rfl a.tmps V' (w.heap.size + 1) _ _ _ _ h2 h6 Tryd.underlying24 rfl (by kernel_rfl)) h5 ?_
    rw [h3, h4]
    refine ⟨?_, h7⟩
    unfold fparse
    rw [HR.out]
    rfl
end Go.Proofs.YtkklccccjmipkaaDoor.Fin

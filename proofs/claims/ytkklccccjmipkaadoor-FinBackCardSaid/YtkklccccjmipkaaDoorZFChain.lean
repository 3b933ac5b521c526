/- fin.Parse, by hand: its twelve steps, behind the calls that made them. Printed by tools/mkfchain.py. -/
import Derived.Test.YtkklccccjmipkaaDoorZFAll
namespace Go.Proofs.YtkklccccjmipkaaDoor.Fin
open Go.RowKit Go.Proofs.YtkklccccjmipkaaDoorW.PrintWords Go.Proofs.YtkklccccjmipkaaDoorW.PrintLast GPlain Go.Proofs.YtkklccccjmipkaaDoor.PAll
set_option linter.unusedSimpArgs false
def st0 : FS := ⟨0, ⟨#[]⟩, ⟨#[]⟩, ⟨#[]⟩, ⟨#[]⟩, ⟨#[]⟩, ⟨#[]⟩⟩
/-- What fin.Parse reads behind its steps. -/
structure Post (p : Nat) (s : ByteArray) (w W : World) (st : FS) : Prop where
  rd : W.heap[(p + 1 + 1)]? = some (.cells #[.string s, .int .i64 (st.at_ : Int)] 78 (0, 0))
  ms : W.heap[(p + 1 + 1 + 1 + 1)]? = some (.cells #[.string st.se, .string st.ki, .string st.re, .string st.ue, .string st.bo] 24 (0, 0))
  rb : W.cell? ⟨(p + 1 + 1 + 1), 0, none⟩ = some (ptr (p + 1 + 1) 0)
  sb : W.cell? ⟨p, 0, none⟩ = some (.string s)
  res : W.heap[p + 1]? = some (.cells #[.string ⟨#[]⟩, .string ⟨#[]⟩, .string ⟨#[]⟩, .string ⟨#[]⟩, .string ⟨#[]⟩] 24 (0, 0))
  below : Below w.heap.size w W
  le : st.at_ ≤ s.size
variable {w : World} {s : ByteArray}
theorem alloc_row (V : World) (o : Obj) : Below V.heap.size V (V.alloc o) ∧ (V.alloc o).heap[V.heap.size]? = some o := ⟨(Below.refl _ V).alloc (Nat.le_refl _) o, World.alloc_heap_new V o⟩
theorem heap_below {V W : World} {k : Nat} {o : Obj} (hb : Below V.heap.size V W) (h : V.heap[k]? = some o) : W.heap[k]? = some o := (hb.block k (Array.getElem?_eq_some_iff.1 h).1).trans h
set_option maxRecDepth 100000 in
set_option maxHeartbeats 4000000 in
theorem steps_chain {p : Nat} (hp : w.heap.size = p) (hs : s.size ≤ 1048576) (hG : GW w) (cA cU : ByteArray → Int)
    (hA : ∀ (x : ByteArray) (W : World), x.size = 12 → Calls Tryd.prog 42 #[.string x] W fun e w' => e = .returned (.int .i64 (cA x)) ∧ Below W.heap.size W w')
    (hU : ∀ (x : ByteArray) (W : World), x.size = 36 → Calls Tryd.prog 45 #[.string x] W fun e w' => e = .returned (.int .i64 (cU x)) ∧ Below W.heap.size W w')
    {E V1 V2 V3 V4 V5 V6 V7 V8 V9 V10 V11 V12 V13 V14 V15 V16 V17 : World} {n1 n2 n3 n4 n5 n6 n7 n8 n9 n10 n11 n12 n13 n14 n15 n16 n17 : Nat}
    (HZ : Hid (E.heap.size = p + 6)) (H0 : Hid (E.heap[p]? = some (.cells #[.string s] 9 (0, 0)))) (H1 : Hid (E.heap[p + 1]? = some (.cells #[.string ⟨#[]⟩, .string ⟨#[]⟩, .string ⟨#[]⟩, .string ⟨#[]⟩, .string ⟨#[]⟩] 24 (0, 0))))
    (H2 : Hid (E.heap[(p + 1 + 1)]? = some (.cells #[.string s, .int .i64 0] 78 (0, 0)))) (H3 : Hid (E.heap[(p + 1 + 1 + 1)]? = some (.cells #[ptr (p + 1 + 1) 0] 76 (0, 0)))) (H4 : Hid (E.heap[(p + 1 + 1 + 1 + 1)]? = some (.cells #[.string ⟨#[]⟩, .string ⟨#[]⟩, .string ⟨#[]⟩, .string ⟨#[]⟩, .string ⟨#[]⟩] 24 (0, 0))))
    (H5 : Hid (E.heap[(p + 1 + 1 + 1 + 1 + 1)]? = some (.cells #[.string ⟨#[]⟩] 9 (0, 0)))) (HEB : Hid (Below w.heap.size w E))
    (N1 : Hid (E.heap.size ≤ n1)) (K1 : Hid (Below E.heap.size E V1)) (X1 : Hid (Boxes V1 n1 [ptr (p + 1 + 1) 0, .string ⟨#[123, 49, 58, 70, 48, 49]⟩]))
    (N2 : Hid (V1.heap.size ≤ n2)) (K2 : Hid (Below V1.heap.size V1 V2)) (X2 : Hid (Boxes V2 n2 [ptr (p + 1 + 1) 0, .int .i64 12, .func (.func 42) #[] #[], ptr (p + 1 + 1 + 1 + 1) 0]))
    (N3 : Hid (V2.heap.size ≤ n3)) (K3 : Hid (Below V2.heap.size V2 V3)) (X3 : Hid (Boxes V3 n3 [ptr (p + 1 + 1) 0, .string ⟨#[48, 48, 48, 48, 48, 48, 48, 48, 48, 48, 125, 123, 50, 58, 73]⟩]))
    (N4 : Hid (V3.heap.size ≤ n4)) (K4 : Hid (Below V3.heap.size V3 V4)) (X4 : Hid (Boxes V4 n4 [ptr (p + 1 + 1) 0, .int .i64 3, .string ⟨#[48, 49, 50, 51, 52, 53, 54, 55, 56, 57]⟩, ptr (p + 1 + 1 + 1 + 1) 1]))
    (N5 : Hid (V4.heap.size ≤ n5)) (K5 : Hid (Below V4.heap.size V4 V5)) (X5 : Hid (Boxes V5 n5 [ptr (p + 1 + 1) 0, .int .i64 12, .func (.func 42) #[] #[], ptr (p + 1 + 1 + 1 + 1) 2]))
    (N6 : Hid (V5.heap.size ≤ n6)) (K6 : Hid (Below V5.heap.size V5 V6)) (X6 : Hid (Boxes V6 n6 [ptr (p + 1 + 1) 0, .string ⟨#[78, 125]⟩]))
    (N7 : Hid (V6.heap.size ≤ n7)) (K7 : Hid (Below V6.heap.size V6 V7)) (X7 : Hid (Boxes V7 n7 [ptr (p + 1 + 1) 0, .string ⟨#[123, 51, 58, 123, 49, 50, 49, 58]⟩]))
    (N8 : Hid (V7.heap.size ≤ n8)) (K8 : Hid (Below V7.heap.size V7 V8)) (X8 : Hid (Boxes V8 n8 [ptr (p + 1 + 1) 0, .int .i64 36, .func (.func 45) #[] #[], ptr (p + 1 + 1 + 1 + 1) 3]))
    (N9 : Hid (V8.heap.size ≤ n9)) (K9 : Hid (Below V8.heap.size V8 V9)) (X9 : Hid (Boxes V9 n9 [ptr (p + 1 + 1) 0, .string ⟨#[125, 125]⟩]))
    (N10 : Hid ((V9.alloc (.cells #[.func (.func 75) #[] #[ptr (n7 + 1) 0, ptr n7 0], .func (.func 76) #[] #[ptr n8 0, ptr (n8 + 1) 0, ptr (n8 + 2) 0, ptr (n8 + 3) 0], .func (.func 75) #[] #[ptr (n9 + 1) 0, ptr n9 0]] 22 (0, 0))).heap.size ≤ n10)) (K10 : Hid (Below (V9.alloc (.cells #[.func (.func 75) #[] #[ptr (n7 + 1) 0, ptr n7 0], .func (.func 76) #[] #[ptr n8 0, ptr (n8 + 1) 0, ptr (n8 + 2) 0, ptr (n8 + 3) 0], .func (.func 75) #[] #[ptr (n9 + 1) 0, ptr n9 0]] 22 (0, 0))).heap.size (V9.alloc (.cells #[.func (.func 75) #[] #[ptr (n7 + 1) 0, ptr n7 0], .func (.func 76) #[] #[ptr n8 0, ptr (n8 + 1) 0, ptr (n8 + 2) 0, ptr (n8 + 3) 0], .func (.func 75) #[] #[ptr (n9 + 1) 0, ptr n9 0]] 22 (0, 0))) V10)) (X10 : Hid (Boxes V10 n10 [ptr (p + 1 + 1) 0, .string ⟨#[123, 51]⟩, .slice (some ⟨V9.heap.size, 0, none⟩) 3 3]))
    (N11 : Hid (V10.heap.size ≤ n11)) (K11 : Hid (Below V10.heap.size V10 V11)) (X11 : Hid (Boxes V11 n11 [ptr (p + 1 + 1) 0, .string ⟨#[123, 52, 58, 13, 10]⟩]))
    (N12 : Hid (V11.heap.size ≤ n12)) (K12 : Hid (Below V11.heap.size V11 V12)) (X12 : Hid (Boxes V12 n12 [ptr (p + 1 + 1) 0, ptr (p + 1 + 1 + 1 + 1) 4]))
    (N13 : Hid (V12.heap.size ≤ n13)) (K13 : Hid (Below V12.heap.size V12 V13)) (X13 : Hid (Boxes V13 n13 [ptr (p + 1 + 1) 0, .string ⟨#[125]⟩]))
    (N14 : Hid (V13.heap.size ≤ n14)) (K14 : Hid (Below V13.heap.size V13 V14)) (X14 : Hid (Boxes V14 n14 [ptr (p + 1 + 1) 0, .string ⟨#[123, 53, 58, 123, 67, 72, 75, 58]⟩]))
    (N15 : Hid (V14.heap.size ≤ n15)) (K15 : Hid (Below V14.heap.size V14 V15)) (X15 : Hid (Boxes V15 n15 [ptr (p + 1 + 1) 0, .int .i64 12, .string ⟨#[48, 49, 50, 51, 52, 53, 54, 55, 56, 57, 65, 66, 67, 68, 69, 70]⟩, ptr (p + 1 + 1 + 1 + 1 + 1) 0]))
    (N16 : Hid (V15.heap.size ≤ n16)) (K16 : Hid (Below V15.heap.size V15 V16)) (X16 : Hid (Boxes V16 n16 [ptr (p + 1 + 1) 0, .string ⟨#[125, 125]⟩]))
    (N17 : Hid ((V16.alloc (.cells #[.func (.func 75) #[] #[ptr (n14 + 1) 0, ptr n14 0], .func (.func 78) #[] #[ptr n15 0, ptr (n15 + 1) 0, ptr (n15 + 2) 0, ptr (n15 + 3) 0], .func (.func 75) #[] #[ptr (n16 + 1) 0, ptr n16 0]] 22 (0, 0))).heap.size ≤ n17)) (K17 : Hid (Below (V16.alloc (.cells #[.func (.func 75) #[] #[ptr (n14 + 1) 0, ptr n14 0], .func (.func 78) #[] #[ptr n15 0, ptr (n15 + 1) 0, ptr (n15 + 2) 0, ptr (n15 + 3) 0], .func (.func 75) #[] #[ptr (n16 + 1) 0, ptr n16 0]] 22 (0, 0))).heap.size (V16.alloc (.cells #[.func (.func 75) #[] #[ptr (n14 + 1) 0, ptr n14 0], .func (.func 78) #[] #[ptr n15 0, ptr (n15 + 1) 0, ptr (n15 + 2) 0, ptr (n15 + 3) 0], .func (.func 75) #[] #[ptr (n16 + 1) 0, ptr n16 0]] 22 (0, 0))) V17)) (X17 : Hid (Boxes V17 n17 [ptr (p + 1 + 1) 0, .string ⟨#[123]⟩, .slice (some ⟨V16.heap.size, 0, none⟩) 3 3]))
    : Calls Tryd.prog 39 #[.slice (some ⟨V17.heap.size, 0, none⟩) 12 12] (V17.alloc (.cells #[.func (.func 75) #[] #[ptr (n1 + 1) 0, ptr n1 0], .func (.func 76) #[] #[ptr n2 0, ptr (n2 + 1) 0, ptr (n2 + 2) 0, ptr (n2 + 3) 0], .func (.func 75) #[] #[ptr (n3 + 1) 0, ptr n3 0], .func (.func 78) #[] #[ptr n4 0, ptr (n4 + 1) 0, ptr (n4 + 2) 0, ptr (n4 + 3) 0], .func (.func 76) #[] #[ptr n5 0, ptr (n5 + 1) 0, ptr (n5 + 2) 0, ptr (n5 + 3) 0], .func (.func 75) #[] #[ptr (n6 + 1) 0, ptr n6 0], .func (.func 80) #[] #[ptr n10 0, ptr (n10 + 1) 0, ptr (n10 + 2) 0], .func (.func 75) #[] #[ptr (n11 + 1) 0, ptr n11 0], .func (.func 83) #[] #[ptr n12 0, ptr (n12 + 1) 0], .func (.func 75) #[] #[ptr (n13 + 1) 0, ptr n13 0], .func (.func 80) #[] #[ptr n17 0, ptr (n17 + 1) 0, ptr (n17 + 2) 0], .func (.func 47) #[] #[ptr (p + 1 + 1 + 1) 0, ptr p 0]] 22 (0, 0))) fun e W' => e = .returned (.bool (runS (parseL s cA cU) st0).1) ∧ Post p s w W' (runS (parseL s cA cU) st0).2 := by
  obtain ⟨a3, q3⟩ := alloc_row V17 (.cells #[.func (.func 75) #[] #[ptr (n1 + 1) 0, ptr n1 0], .func (.func 76) #[] #[ptr n2 0, ptr (n2 + 1) 0, ptr (n2 + 2) 0, ptr (n2 + 3) 0], .func (.func 75) #[] #[ptr (n3 + 1) 0, ptr n3 0], .func (.func 78) #[] #[ptr n4 0, ptr (n4 + 1) 0, ptr (n4 + 2) 0, ptr (n4 + 3) 0], .func (.func 76) #[] #[ptr n5 0, ptr (n5 + 1) 0, ptr (n5 + 2) 0, ptr (n5 + 3) 0], .func (.func 75) #[] #[ptr (n6 + 1) 0, ptr n6 0], .func (.func 80) #[] #[ptr n10 0, ptr (n10 + 1) 0, ptr (n10 + 2) 0], .func (.func 75) #[] #[ptr (n11 + 1) 0, ptr n11 0], .func (.func 83) #[] #[ptr n12 0, ptr (n12 + 1) 0], .func (.func 75) #[] #[ptr (n13 + 1) 0, ptr n13 0], .func (.func 80) #[] #[ptr n17 0, ptr (n17 + 1) 0, ptr (n17 + 2) 0], .func (.func 47) #[] #[ptr (p + 1 + 1 + 1) 0, ptr p 0]] 22 (0, 0))
  generalize V17.alloc _ = W0 at a3 q3 ⊢
  obtain ⟨a1, q1⟩ := alloc_row V9 (.cells #[.func (.func 75) #[] #[ptr (n7 + 1) 0, ptr n7 0], .func (.func 76) #[] #[ptr n8 0, ptr (n8 + 1) 0, ptr (n8 + 2) 0, ptr (n8 + 3) 0], .func (.func 75) #[] #[ptr (n9 + 1) 0, ptr n9 0]] 22 (0, 0))
  obtain ⟨a2, q2⟩ := alloc_row V16 (.cells #[.func (.func 75) #[] #[ptr (n14 + 1) 0, ptr n14 0], .func (.func 78) #[] #[ptr n15 0, ptr (n15 + 1) 0, ptr (n15 + 2) 0, ptr (n15 + 3) 0], .func (.func 75) #[] #[ptr (n16 + 1) 0, ptr n16 0]] 22 (0, 0))
  have B17 : Below V17.heap.size V17 W0 := a3
  have C16 : Below (V16.alloc (.cells #[.func (.func 75) #[] #[ptr (n14 + 1) 0, ptr n14 0], .func (.func 78) #[] #[ptr n15 0, ptr (n15 + 1) 0, ptr (n15 + 2) 0, ptr (n15 + 3) 0], .func (.func 75) #[] #[ptr (n16 + 1) 0, ptr n16 0]] 22 (0, 0))).heap.size (V16.alloc (.cells #[.func (.func 75) #[] #[ptr (n14 + 1) 0, ptr n14 0], .func (.func 78) #[] #[ptr n15 0, ptr (n15 + 1) 0, ptr (n15 + 2) 0, ptr (n15 + 3) 0], .func (.func 75) #[] #[ptr (n16 + 1) 0, ptr n16 0]] 22 (0, 0))) W0 := K17.out.trans (B17.mono K17.out.size)
  have B16 : Below V16.heap.size V16 W0 := a2.trans (C16.mono a2.size)
  have B15 : Below V15.heap.size V15 W0 := K16.out.trans (B16.mono K16.out.size)
  have B14 : Below V14.heap.size V14 W0 := K15.out.trans (B15.mono K15.out.size)
  have B13 : Below V13.heap.size V13 W0 := K14.out.trans (B14.mono K14.out.size)
  have B12 : Below V12.heap.size V12 W0 := K13.out.trans (B13.mono K13.out.size)
  have B11 : Below V11.heap.size V11 W0 := K12.out.trans (B12.mono K12.out.size)
  have B10 : Below V10.heap.size V10 W0 := K11.out.trans (B11.mono K11.out.size)
  have C9 : Below (V9.alloc (.cells #[.func (.func 75) #[] #[ptr (n7 + 1) 0, ptr n7 0], .func (.func 76) #[] #[ptr n8 0, ptr (n8 + 1) 0, ptr (n8 + 2) 0, ptr (n8 + 3) 0], .func (.func 75) #[] #[ptr (n9 + 1) 0, ptr n9 0]] 22 (0, 0))).heap.size (V9.alloc (.cells #[.func (.func 75) #[] #[ptr (n7 + 1) 0, ptr n7 0], .func (.func 76) #[] #[ptr n8 0, ptr (n8 + 1) 0, ptr (n8 + 2) 0, ptr (n8 + 3) 0], .func (.func 75) #[] #[ptr (n9 + 1) 0, ptr n9 0]] 22 (0, 0))) W0 := K10.out.trans (B10.mono K10.out.size)
  have B9 : Below V9.heap.size V9 W0 := a1.trans (C9.mono a1.size)
  have B8 : Below V8.heap.size V8 W0 := K9.out.trans (B9.mono K9.out.size)
  have B7 : Below V7.heap.size V7 W0 := K8.out.trans (B8.mono K8.out.size)
  have B6 : Below V6.heap.size V6 W0 := K7.out.trans (B7.mono K7.out.size)
  have B5 : Below V5.heap.size V5 W0 := K6.out.trans (B6.mono K6.out.size)
  have B4 : Below V4.heap.size V4 W0 := K5.out.trans (B5.mono K5.out.size)
  have B3 : Below V3.heap.size V3 W0 := K4.out.trans (B4.mono K4.out.size)
  have B2 : Below V2.heap.size V2 W0 := K3.out.trans (B3.mono K3.out.size)
  have B1 : Below V1.heap.size V1 W0 := K2.out.trans (B2.mono K2.out.size)
  have B0 : Below E.heap.size E W0 := K1.out.trans (B1.mono K1.out.size)
  have z0 : p + 6 ≤ E.heap.size := Nat.le_of_eq HZ.out.symm
  have z1 : p + 6 ≤ V1.heap.size := Nat.le_trans z0 K1.out.size
  have z2 : p + 6 ≤ V2.heap.size := Nat.le_trans z1 K2.out.size
  have z3 : p + 6 ≤ V3.heap.size := Nat.le_trans z2 K3.out.size
  have z4 : p + 6 ≤ V4.heap.size := Nat.le_trans z3 K4.out.size
  have z5 : p + 6 ≤ V5.heap.size := Nat.le_trans z4 K5.out.size
  have z6 : p + 6 ≤ V6.heap.size := Nat.le_trans z5 K6.out.size
  have z7 : p + 6 ≤ V7.heap.size := Nat.le_trans z6 K7.out.size
  have z8 : p + 6 ≤ V8.heap.size := Nat.le_trans z7 K8.out.size
  have z9 : p + 6 ≤ V9.heap.size := Nat.le_trans z8 K9.out.size
  have z10a : p + 6 ≤ (V9.alloc (.cells #[.func (.func 75) #[] #[ptr (n7 + 1) 0, ptr n7 0], .func (.func 76) #[] #[ptr n8 0, ptr (n8 + 1) 0, ptr (n8 + 2) 0, ptr (n8 + 3) 0], .func (.func 75) #[] #[ptr (n9 + 1) 0, ptr n9 0]] 22 (0, 0))).heap.size := Nat.le_trans z9 a1.size
  have z10 : p + 6 ≤ V10.heap.size := Nat.le_trans z10a K10.out.size
  have z11 : p + 6 ≤ V11.heap.size := Nat.le_trans z10 K11.out.size
  have z12 : p + 6 ≤ V12.heap.size := Nat.le_trans z11 K12.out.size
  have z13 : p + 6 ≤ V13.heap.size := Nat.le_trans z12 K13.out.size
  have z14 : p + 6 ≤ V14.heap.size := Nat.le_trans z13 K14.out.size
  have z15 : p + 6 ≤ V15.heap.size := Nat.le_trans z14 K15.out.size
  have z16 : p + 6 ≤ V16.heap.size := Nat.le_trans z15 K16.out.size
  have z17a : p + 6 ≤ (V16.alloc (.cells #[.func (.func 75) #[] #[ptr (n14 + 1) 0, ptr n14 0], .func (.func 78) #[] #[ptr n15 0, ptr (n15 + 1) 0, ptr (n15 + 2) 0, ptr (n15 + 3) 0], .func (.func 75) #[] #[ptr (n16 + 1) 0, ptr n16 0]] 22 (0, 0))).heap.size := Nat.le_trans z16 a2.size
  have z17 : p + 6 ≤ V17.heap.size := Nat.le_trans z17a K17.out.size
  have e0 := heap_below B0 H0.out
  have e1 := heap_below B0 H1.out
  have e2 := heap_below B0 H2.out
  have e3 := heap_below B0 H3.out
  have e4 := heap_below B0 H4.out
  have e5 := heap_below B0 H5.out
  have zW : p + 6 ≤ W0.heap.size := Nat.le_trans z0 B0.size
  have F : Frame w s (p + 1 + 1) (p + 1 + 1 + 1 + 1) (p + 1 + 1 + 1 + 1 + 1) W0 (p + 6) := ⟨⟨by omega, by omega, by omega, by omega, by omega, by omega, by omega, by omega, by omega⟩, by omega, by omega, by omega, e2, e4, e5, HEB.out.trans (B0.mono HEB.out.size)⟩
  have h := steps_all F hs hG cA cU hA hU (RB := (p + 1 + 1 + 1)) (SB := p) (blk_cell e3 rfl) (blk_cell e0 rfl) ⟨by omega, by omega, by omega⟩ ⟨by omega, by omega, by omega⟩ (Nat.le_trans z0 N1.out) (X1.out.below B1) (Nat.le_trans z1 N2.out) (X2.out.below B2) (Nat.le_trans z2 N3.out) (X3.out.below B3) (Nat.le_trans z3 N4.out) (X4.out.below B4) (Nat.le_trans z4 N5.out) (X5.out.below B5) (Nat.le_trans z5 N6.out) (X6.out.below B6) (Nat.le_trans z6 N7.out) (X7.out.below B7) (Nat.le_trans z7 N8.out) (X8.out.below B8) (Nat.le_trans z8 N9.out) (X9.out.below B9) (Nat.le_trans z10a N10.out) (X10.out.below B10) (Nat.le_trans z10 N11.out) (X11.out.below B11) (Nat.le_trans z11 N12.out) (X12.out.below B12) (Nat.le_trans z12 N13.out) (X13.out.below B13) (Nat.le_trans z13 N14.out) (X14.out.below B14) (Nat.le_trans z14 N15.out) (X15.out.below B15) (Nat.le_trans z15 N16.out) (X16.out.below B16) (Nat.le_trans z17a N17.out) (X17.out.below B17) z9 (heap_below C9 q1) z16 (heap_below C16 q2) z17 q3 12
  refine h.mono ?_
  rintro e W' ⟨he, hI⟩
  refine ⟨he, hI.rd, hI.ms, hI.box (blk_cell e3 rfl) (by omega) (by omega) (by omega), hI.box (blk_cell e0 rfl) (by omega) (by omega) (by omega), ?_, hI.below, hI.le⟩
  exact (hI.kept.2 (p + 1) (by omega) (by rintro (e | e | e) <;> omega)).trans e1
end Go.Proofs.YtkklccccjmipkaaDoor.Fin

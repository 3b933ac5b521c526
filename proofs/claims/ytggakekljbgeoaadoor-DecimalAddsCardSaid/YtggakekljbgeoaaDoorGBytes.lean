/- '[]byte(s)' made by the call, one byte of it stored, and 'string(b)' back: small lemmas of this session's own. -/
import Derived.WalkKit
import Derived.Lib.ConvBytes
import Derived.Laws.BytesArg
import Derived.Laws.NewBlocks
namespace Go.Proofs.YtggakekljbgeoaaDoor.GBytes
open Go.RowKit
theorem bytes_frozen (w : World) (e : TypeId) (s : ByteArray) (j : Nat) (hj : j < s.size) : (Lib.bytesWorld w e s).frozen? ⟨w.heap.size, j, none⟩ = false := by
  unfold World.frozen?
  rw [Lib.bytesWorld_at_new]
  have : s.size ≤ (Lib.bytesCells w e s).size := by
    unfold Lib.bytesCells
    simp
  simp
  omega
theorem bytes_below (w : World) (e : TypeId) (s : ByteArray) : Below w.heap.size w (Lib.bytesWorld w e s) := by
  refine ⟨?_, ?_, ?_, ?_, fun i hi => Lib.bytesWorld_at_old w e s i hi⟩
  · simp [Lib.bytesWorld, World.freeze, World.alloc, World.drew, -World.alloc_eq, -World.drew_eq]
  · simp [Lib.bytesWorld, World.freeze, World.alloc, World.drew, -World.alloc_eq, -World.drew_eq]
  · simp [Lib.bytesWorld, World.freeze, World.alloc, World.drew, -World.alloc_eq, -World.drew_eq]
  · rw [Lib.bytesWorld_size]; omega
theorem getD_toNat (l : List UInt8) (j : Nat) : (l.map fun b => (b.toNat : Int)).getD j 0 = ((l.getD j 0).toNat : Int) := by
  rw [List.getD_eq_getElem?_getD, List.getD_eq_getElem?_getD, List.getElem?_map]
  cases l[j]? <;> rfl
/-- Behind one store: the text with that byte turned. -/
theorem bytes_back {P : Program} (src dst e : TypeId) (hs : P.underlying src = some (.slice e)) (he : P.underlying e = some (.int .u8)) (hd : P.underlying dst = some .string)
    (w : World) (s : ByteArray) (O : Obj) (m : Nat) (hm : m < s.size) (v : UInt8) (c : Nat) :
    (convert src dst (.slice (some ⟨w.heap.size, 0, none⟩) s.size c)).run P (((Lib.bytesWorld w e s).setCell ⟨w.heap.size, m, none⟩ (.int .u8 (v.toNat : Int))).alloc O) =
      .ok (.string ⟨(s.data.toList.set m v).toArray⟩) (((Lib.bytesWorld w e s).setCell ⟨w.heap.size, m, none⟩ (.int .u8 (v.toNat : Int))).alloc O) := by
  have hlt : w.heap.size < (Lib.bytesWorld w e s).heap.size := by rw [Lib.bytesWorld_size]; omega
  have hlt2 : w.heap.size < ((Lib.bytesWorld w e s).setCell ⟨w.heap.size, m, none⟩ (.int .u8 (v.toNat : Int))).heap.size := by simpa [World.setCell] using hlt
  have hsz : s.data.toList.length = s.size := by rw [Array.length_toList]; rfl
  rw [run_convert_bytes_arg _ src e hs he w.heap.size 0 s.size c ((s.data.toList.set m v).map fun b => (b.toNat : Int)) (by simp [hsz]) ?_ dst hd]
  · congr 1
    unfold strOfNums
    rw [List.map_map]
    congr 3
    have : ((fun n : Int => UInt8.ofNat n.toNat) ∘ fun b : UInt8 => (b.toNat : Int)) = id := by
      funext b
      simp
    rw [this, List.map_id]
  · intro i hi
    have ha : (0 + i) = i := by omega
    rw [ha]
    by_cases h : m = i
    · subst h
      rw [World.cell?_alloc_past _ _ _ hlt2, World.cell?_setCell_same' _ _ _ (by rw [Lib.bytesWorld_cell w e s m hm]; rfl), getD_toNat]
      rw [List.getD_eq_getElem?_getD, List.getElem?_set_self (by omega)]
      rfl
    · rw [World.cell?_alloc_past _ _ _ hlt2, World.cell?_setCell_other (h := show (⟨w.heap.size, m, none⟩ : Addr) ≠ ⟨w.heap.size, i, none⟩ from fun e_ => h (by injection e_)), Lib.bytesWorld_cell w e s i hi, getD_toNat]
      rw [List.getD_eq_getElem?_getD, List.getD_eq_getElem?_getD, List.getElem?_set_ne h]
/-- The same, the byte as a number. -/
theorem bytes_back_num {P : Program} (src dst e : TypeId) (hs : P.underlying src = some (.slice e)) (he : P.underlying e = some (.int .u8)) (hd : P.underlying dst = some .string)
    (w : World) (s : ByteArray) (O : Obj) (m : Nat) (hm : m < s.size) (v : UInt8) (n : Int) (hn : (v.toNat : Int) = n) (t : ByteArray) (ht : (⟨(s.data.toList.set m v).toArray⟩ : ByteArray) = t) (c : Nat) :
    (convert src dst (.slice (some ⟨w.heap.size, 0, none⟩) s.size c)).run P (((Lib.bytesWorld w e s).setCell ⟨w.heap.size, m, none⟩ (.int .u8 n)).alloc O) =
      .ok (.string t) (((Lib.bytesWorld w e s).setCell ⟨w.heap.size, m, none⟩ (.int .u8 n)).alloc O) := by
  subst hn ht
  exact bytes_back src dst e hs he hd w s O m hm v c
end Go.Proofs.YtggakekljbgeoaaDoor.GBytes

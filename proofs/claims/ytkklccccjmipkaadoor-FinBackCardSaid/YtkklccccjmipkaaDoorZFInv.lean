/- fin.Parse's state: a reader, a message, a text, each in a block of its own; what its steps do, as plain functions; what a step keeps. -/
import Derived.Test.YtkklccccjmipkaaDoorProg
import Derived.Test.YtkklccccjmipkaaDoorZW
import Derived.Test.YtkklccccjmipkaaDoorZGPlain
import Derived.Lib.IndexMore
import Derived.Lib.Hide
namespace Go.Proofs.YtkklccccjmipkaaDoor.Fin
open Go.RowKit Go.Proofs.YtkklccccjmipkaaDoorW.PrintWords GPlain

structure FS where
  at_ : Nat
  se : ByteArray
  ki : ByteArray
  re : ByteArray
  ue : ByteArray
  bo : ByteArray
  ck : ByteArray
abbrev Sem := FS → Bool × FS
/-- How far two texts are the same. -/
def com : List UInt8 → List UInt8 → Nat
  | a :: x, b :: y => if a = b then com x y + 1 else 0
  | _, _ => 0
theorem com_le : ∀ x y : List UInt8, com x y ≤ x.length ∧ com x y ≤ y.length
  | [], [] => ⟨Nat.le_refl _, Nat.le_refl _⟩
  | [], _ :: _ => ⟨Nat.le_refl _, Nat.zero_le _⟩
  | _ :: _, [] => ⟨Nat.zero_le _, Nat.le_refl _⟩
  | a :: x, b :: y => by
    have := com_le x y
    unfold com
    split
    · simp only [List.length_cons]; omega
    · exact ⟨Nat.zero_le _, Nat.zero_le _⟩
theorem com_end (x : List UInt8) : com x [] = 0 := by cases x <;> rfl
/-- How many bytes of a set come, so many at most. -/
def cnt (set : List UInt8) : Nat → List UInt8 → Nat
  | 0, _ => 0
  | _ + 1, [] => 0
  | n + 1, c :: r => if 0 ≤ Lib.indexByte set c then cnt set n r + 1 else 0
theorem cnt_le (set : List UInt8) : ∀ (n : Nat) (x : List UInt8), cnt set n x ≤ n ∧ cnt set n x ≤ x.length
  | 0, _ => ⟨Nat.le_refl _, Nat.zero_le _⟩
  | _ + 1, [] => ⟨Nat.zero_le _, Nat.le_refl _⟩
  | n + 1, c :: r => by
    have := cnt_le set n r
    unfold cnt
    split
    · simp only [List.length_cons]; omega
    · exact ⟨Nat.zero_le _, Nat.zero_le _⟩
/-- The first place of a body that is not as it must be; its length: none. -/
def badB (l : List UInt8) (i : Nat) : Bool :=
  let c := (l.getD i 0).toNat
  c == 123 || c == 125 || (c == 13 && !(i + 1 < l.length && (l.getD (i + 1) 0).toNat == 10)) || (c == 10 && (i == 0 || !((l.getD (i - 1) 0).toNat == 13))) || (c == 45 && (i == 0 || (l.getD (i - 1) 0).toNat == 10))
def faultFrom (l : List UInt8) : Nat → Nat → Nat
  | 0, _ => l.length
  | n + 1, i => if badB l i then i else faultFrom l n (i + 1)
def faultL (l : List UInt8) : Nat := faultFrom l l.length 0
theorem faultFrom_le (l : List UInt8) : ∀ n i : Nat, i + n = l.length → faultFrom l n i ≤ l.length
  | 0, _, _ => Nat.le_refl _
  | n + 1, i, h => by
    unfold faultFrom
    split
    · omega
    · exact faultFrom_le l n (i + 1) (by omega)
theorem faultL_le (l : List UInt8) : faultL l ≤ l.length := faultFrom_le l _ _ (Nat.zero_add _)
def pieceB (s : ByteArray) (a n : Nat) : ByteArray := s.extract a (a + n)
def textS (s t : ByteArray) : Sem := fun st => let k := com (s.data.toList.drop st.at_) t.data.toList
  (decide (k = t.size), { st with at_ := st.at_ + k })
def someS (s : ByteArray) (n : Nat) (set : ByteArray) (put : FS → ByteArray → FS) : Sem := fun st => let k := cnt set.data.toList n (s.data.toList.drop st.at_)
  if k = n then (true, put { st with at_ := st.at_ + n } (pieceB s st.at_ n)) else (false, { st with at_ := st.at_ + k })
def wholeS (s : ByteArray) (n : Nat) (chk : ByteArray → Bool) (put : FS → ByteArray → FS) : Sem := fun st =>
  if st.at_ + n ≤ s.size ∧ chk (pieceB s st.at_ n) = true then (true, { put st (pieceB s st.at_ n) with at_ := st.at_ + n }) else (false, st)
def runS : List Sem → Sem
  | [], st => (true, st)
  | f :: r, st => if (f st).1 = true then runS r (f st).2 else (false, (f st).2)
def maybeS (s t : ByteArray) (l : List Sem) : Sem := fun st => if com (s.data.toList.drop st.at_) t.data.toList = t.size then runS l st else (true, st)
def cutS (l : List UInt8) : List UInt8 × List UInt8 × Bool := Lib.cut l [13, 10, 45]
def bodyS (s : ByteArray) : Sem := fun st => let c := cutS (s.data.toList.drop st.at_)
  if c.2.2 = true ∧ faultL c.1 = c.1.length ∧ c.1 ≠ [] then (true, { st with at_ := st.at_ + c.1.length + 3, bo := ⟨c.1.toArray⟩ }) else (false, { st with at_ := st.at_ + faultL c.1 })
def endS (s : ByteArray) : Sem := fun st => (decide (st.at_ = s.size), st)
/-- What holds between two steps: of a reader at R, a message at M, a text at C. -/
structure Inv (w : World) (s : ByteArray) (R M C : Nat) (W0 W : World) (st : FS) : Prop where
  rd : W.heap[R]? = some (.cells #[.string s, .int .i64 (st.at_ : Int)] 78 (0, 0))
  ms : W.heap[M]? = some (.cells #[.string st.se, .string st.ki, .string st.re, .string st.ue, .string st.bo] 24 (0, 0))
  ck : W.heap[C]? = some (.cells #[.string st.ck] 9 (0, 0))
  kept : Kept W0 W (fun k => k = R ∨ k = M ∨ k = C)
  le : st.at_ ≤ s.size
  below : Below w.heap.size w W
structure Sep (w : World) (R M C : Nat) (W0 : World) : Prop where
  r0 : w.heap.size ≤ R
  m0 : w.heap.size ≤ M
  c0 : w.heap.size ≤ C
  rw : R < W0.heap.size
  mw : M < W0.heap.size
  cw : C < W0.heap.size
  rm : R ≠ M
  rc : R ≠ C
  mc : M ≠ C
section
variable {w : World} {s : ByteArray} {R M C : Nat} {W0 W : World} {st : FS}
theorem blk_cell {b o : Nat} {cs : Array Value} {t : TypeId} {fr : Nat × Nat} {v : Value} (h : W.heap[b]? = some (.cells cs t fr)) (hv : cs[o]? = some v) : W.cell? ⟨b, o, none⟩ = some v := by simp [World.cell?, h, hv]
theorem blk_frozen {b o : Nat} {cs : Array Value} {t : TypeId} (h : W.heap[b]? = some (.cells cs t (0, 0))) : W.frozen? ⟨b, o, none⟩ = false := by simp [World.frozen?, h]
theorem Inv.r0 (h : Inv w s R M C W0 W st) : W.cell? ⟨R, 0, none⟩ = some (.string s) := blk_cell h.rd rfl
theorem Inv.r1 (h : Inv w s R M C W0 W st) : W.cell? ⟨R, 1, none⟩ = some (.int .i64 (st.at_ : Int)) := blk_cell h.rd rfl
theorem Inv.f1 (h : Inv w s R M C W0 W st) : W.frozen? ⟨R, 1, none⟩ = false := blk_frozen h.rd
/-- A captured variable's box, or any block else, is as it was. -/
theorem Inv.box (h : Inv w s R M C W0 W st) {b o : Nat} {v : Value} (hb : W0.cell? ⟨b, o, none⟩ = some v) (hr : b ≠ R) (hm : b ≠ M) (hc : b ≠ C) : W.cell? ⟨b, o, none⟩ = some v :=
  cell_kept hb h.kept (by rintro (e | e | e); exact hr e; exact hm e; exact hc e)
theorem heap_set {b o : Nat} {v : Value} {cs : Array Value} {t : TypeId} {fr : Nat × Nat} (h : W.heap[b]? = some (.cells cs t fr)) : (W.setCell ⟨b, o, none⟩ v).heap[b]? = some (.cells (cs.setIfInBounds o v) t fr) := by
  obtain ⟨hlt, hk⟩ := Array.getElem?_eq_some_iff.1 h
  show (W.heap.modify b _)[b]? = _
  rw [Array.getElem?_eq_getElem (by rw [Array.size_modify]; exact hlt), Array.getElem_modify_self, hk]
  rfl
/-- The place is moved. -/
theorem Inv.setAt (h : Inv w s R M C W0 W st) (hs : Sep w R M C W0) (n : Nat) (hn : n ≤ s.size) : Inv w s R M C W0 (W.setCell ⟨R, 1, none⟩ (.int .i64 (n : Int))) { st with at_ := n } where
  rd := heap_set h.rd
  ms := (Below.heap_setCell _ _ _ M (Ne.symm hs.rm)).trans h.ms
  ck := (Below.heap_setCell _ _ _ C (Ne.symm hs.rc)).trans h.ck
  kept := h.kept.setCell (.inl (.inl rfl)) _
  le := hn
  below := h.below.setCell (p := ⟨R, 1, none⟩) hs.r0 _
/-- A world that only has more. -/
theorem Inv.more (h : Inv w s R M C W0 W st) {W2 : World} (hb : Below W.heap.size W W2) : Inv w s R M C W0 W2 st where
  rd := (hb.block R (Array.getElem?_eq_some_iff.1 h.rd).1).trans h.rd
  ms := (hb.block M (Array.getElem?_eq_some_iff.1 h.ms).1).trans h.ms
  ck := (hb.block C (Array.getElem?_eq_some_iff.1 h.ck).1).trans h.ck
  kept := h.kept.below hb
  le := h.le
  below := h.below.trans (hb.mono h.below.size)
/-- Where a step puts what it read. -/
structure PutOk (w : World) (s : ByteArray) (R M C : Nat) (W0 : World) (b o : Nat) (put : FS → ByteArray → FS) : Prop where
  has : ∀ {W st}, Inv w s R M C W0 W st → ∃ v, W.cell? ⟨b, o, none⟩ = some v
  free : ∀ {W st}, Inv w s R M C W0 W st → W.frozen? ⟨b, o, none⟩ = false
  at_ : ∀ st v, (put st v).at_ = st.at_
  set : ∀ {W st}, Inv w s R M C W0 W st → ∀ v, Inv w s R M C W0 (W.setCell ⟨b, o, none⟩ (.string v)) (put st v)
  ne : b ≠ R
theorem put_msg (hs : Sep w R M C W0) (o : Nat) (put : FS → ByteArray → FS) (ho : o < 5) (hat : ∀ st v, (put st v).at_ = st.at_) (hck : ∀ st v, (put st v).ck = st.ck)
    (hp : ∀ st v, (#[.string st.se, .string st.ki, .string st.re, .string st.ue, .string st.bo] : Array Value).setIfInBounds o (.string v) = #[.string (put st v).se, .string (put st v).ki, .string (put st v).re, .string (put st v).ue, .string (put st v).bo]) :
    PutOk w s R M C W0 M o put where
  has := fun {W st} h => ⟨_, blk_cell h.ms (show (#[Value.string st.se, .string st.ki, .string st.re, .string st.ue, .string st.bo] : Array Value)[o]? = some ((#[Value.string st.se, .string st.ki, .string st.re, .string st.ue, .string st.bo] : Array Value)[o]'(by simpa using ho)) from Array.getElem?_eq_getElem _)⟩
  free := fun h => blk_frozen h.ms
  at_ := hat
  set := fun {W st} h v =>
    { rd := by rw [hat]; exact (Below.heap_setCell _ _ _ R hs.rm).trans h.rd
      ms := by rw [← hp]; exact heap_set h.ms
      ck := by rw [hck]; exact (Below.heap_setCell _ _ _ C (Ne.symm hs.mc)).trans h.ck
      kept := h.kept.setCell (.inl (.inr (.inl rfl))) _
      le := by rw [hat]; exact h.le
      below := h.below.setCell (p := ⟨M, o, none⟩) hs.m0 _ }
  ne := Ne.symm hs.rm
theorem put_chk (hs : Sep w R M C W0) : PutOk w s R M C W0 C 0 (fun st v => { st with ck := v }) where
  has := fun h => ⟨_, blk_cell h.ck rfl⟩
  free := fun h => blk_frozen h.ck
  at_ := fun _ _ => rfl
  set := fun {W st} h v =>
    { rd := (Below.heap_setCell _ _ _ R hs.rc).trans h.rd
      ms := (Below.heap_setCell _ _ _ M hs.mc).trans h.ms
      ck := heap_set h.ck
      kept := h.kept.setCell (.inl (.inr (.inr rfl))) _
      le := h.le
      below := h.below.setCell (p := ⟨C, 0, none⟩) hs.c0 _ }
  ne := Ne.symm hs.rc
end
/-- A closure is a step. -/
def StepOk (w : World) (s : ByteArray) (R M C : Nat) (W0 : World) (f : FuncId) (caps : Array Value) (sem : Sem) : Prop :=
  ∀ st W, Inv w s R M C W0 W st → Calls Tryd.prog f caps W fun e W' => e = .returned (.bool (sem st).1) ∧ Inv w s R M C W0 W' (sem st).2
end Go.Proofs.YtkklccccjmipkaaDoor.Fin

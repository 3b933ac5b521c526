/- A range over a function whose iterator gives the elements of one list, in order, and turns blocks of its own between two rounds; the law over it. -/
import Derived.RangeFuncNested
import Derived.RangeFuncBox
import Derived.RangeFuncCalls
namespace Go.Proofs.YtkklccccjmipkaaDoor.Rng
open Go Go.RowKit

variable {F : Fence} {n : Nat} {P : Program}
theorem room_none {F : Fence} (hd : F.depth = none) (k : Nat) : F.room k := fun d h => by rw [hd] at h; cases h
/-- Where no depth is asked the figures are all one. -/
theorem round_any {F : Fence} (hd : F.depth = none) {m m' : Nat} {P : Program} {l : Nat} {f : FuncId} {tmps : Array Value} {assign body : Code} {w : World} {R : Ending → World → Prop}
    (h : RoundIn F m P l f tmps assign body w R) : RoundIn F m' P l f tmps assign body w R := ⟨h.1, fun c cs _ => h.2 c cs (room_none hd _)⟩
theorem round_in {F : Fence} {m : Nat} {P : Program} {l l' : Nat} {f : FuncId} {tmps : Array Value} {assign body : Code} {w : World} {R : Ending → World → Prop}
    (h : RoundIn F m P l f tmps assign body w R) : RoundIn (F.inRound l') m P l f tmps assign body w R := h
/-- An iterator's step: new blocks; one block of its own is turned. -/
def StZ (Z : Nat → Prop) (A B : World) : Prop := ∃ row, A.grownBy B row ∧ ∀ r, row = some r → Z r
/-- What a round keeps: the iterator's own blocks. -/
def KpZ (Z : Nat → Prop) (A B : World) : Prop := A.heap.size ≤ B.heap.size ∧ ∀ (j : Nat) (o : Obj), Z j → A.heap[j]? = some o → B.heap[j]? = some o
theorem KpZ.refl (Z : Nat → Prop) (A : World) : KpZ Z A A := ⟨Nat.le_refl _, fun _ _ _ h => h⟩
theorem KpZ.trans {Z : Nat → Prop} {A B C : World} (h : KpZ Z A B) (k : KpZ Z B C) : KpZ Z A C := ⟨Nat.le_trans h.1 k.1, fun j o hz ho => k.2 j o hz (h.2 j o hz ho)⟩
theorem KpZ.grown {Z : Nat → Prop} {A B : World} {row : Option Nat} (hg : A.grownBy B row) (hr : ∀ r, row = some r → ¬ Z r) : KpZ Z A B :=
  ⟨hg.size, fun j o hz ho => (hg.block j (Array.getElem?_eq_some_iff.1 ho).1 (fun e => hr j e.symm hz)).trans ho⟩
theorem KpZ.below {Z : Nat → Prop} {A B : World} (hb : Below A.heap.size A B) : KpZ Z A B :=
  ⟨hb.size, fun j o _ ho => (hb.block j (Array.getElem?_eq_some_iff.1 ho).1).trans ho⟩
theorem KpZ.setCell {Z : Nat → Prop} (A : World) (b : Nat) (v : Value) (hb : ¬ Z b) : KpZ Z A (A.setCell ⟨b, 0, none⟩ v) := KpZ.grown (grownBy_setCell' A b v) (fun r e => by cases e; exact hb)
theorem StZ.keeps {Z : Nat → Prop} {A B : World} (h : StZ Z A B) {k : Nat} {o : Obj} (hk : A.heap[k]? = some o) (hz : ¬ Z k) : B.heap[k]? = some o := by
  obtain ⟨row, hg, hr⟩ := h
  exact (hg.block k (Array.getElem?_eq_some_iff.1 hk).1 (fun e => hz (hr k e.symm))).trans hk
theorem StZ.size {Z : Nat → Prop} {A B : World} (h : StZ Z A B) : A.heap.size ≤ B.heap.size := h.choose_spec.1.size
/-- An iterator that gives just the elements of L, in order. -/
def SeqL {α : Type} (F : Fence) (n : Nat) (P : Program) (g : Nat) (lb : Array Value) (encs : α → Array Value) (Z Y : Nat → Nat → Prop) (k : Nat) (L : List α) (w : World) : Prop :=
  ∀ (l : Nat) (J Jx : List α → World → Prop) (W : World), Below w.heap.size w W →
    (∀ s A B, J s A → StZ (Z W.heap.size) A B → J s B) → (∀ s A B, Jx s A → StZ (Z W.heap.size) A B → Jx s B) →
    (∀ pre x rest W1, L = pre ++ x :: rest → J pre W1 → W.heap.size + k ≤ W1.heap.size → YieldAt F (n - 1) P l (encs x) W1 fun e W' =>
      (e = .returned (.bool true) ∧ J (pre ++ [x]) W' ∧ KpZ (Y W.heap.size) W1 W') ∨ (e = .returned (.bool false) ∧ Jx (pre ++ [x]) W' ∧ KpZ (Y W.heap.size) W1 W')) →
    J [] W →
    CallsIn F n P g (#[.func (.yield l) #[] #[]] ++ lb) W fun e W' => (∃ v, e = .returned v) ∧ (J L W' ∨ ∃ pre, pre <+: L ∧ Jx pre W')

/-- What is said abides new blocks, and the turn of one of the law's own two blocks. -/
def OwnRec {β : Type} (B : Nat) (I : β → World → Prop) : Prop :=
  ∀ s W W' row, I s W → W.grownBy W' row → (∀ r, row = some r → (B ≤ r ∧ r < B + 2) ∧ ∃ o : Obj, W.heap[r]? = some o ∧ o.isCells = false) → I s W'
theorem OwnRec.of {β : Type} {B : Nat} {I : β → World → Prop} (h : OwnFrom B I) : OwnRec B I := fun s W W' row hs hg hr => h s W W' row hs hg (fun r e => ⟨(hr r e).1.1, (hr r e).2⟩)
theorem OwnRec.and {β : Type} {B : Nat} {I I' : β → World → Prop} (h : OwnRec B I) (h' : OwnRec B I') : OwnRec B (fun s W => I s W ∧ I' s W) := fun s W W' row hs hg hr => ⟨h s W W' row hs.1 hg hr, h' s W W' row hs.2 hg hr⟩
theorem OwnRec.putObj {β : Type} {B : Nat} {I : β → World → Prop} (h : OwnRec B I) {s : β} {W : World} {l : Nat} {o : Obj} (o' : Obj) (hs : I s W) (hB : B ≤ l ∧ l < B + 2) (hl : W.heap[l]? = some o) (ho : o.isCells = false) : I s (W.putObj l o') :=
  h s W _ (some l) hs (grownBy_putObj' W l o') (fun r e => by cases e; exact ⟨hB, o, hl, ho⟩)
theorem OwnRec.alloc {β : Type} {B : Nat} {I : β → World → Prop} (h : OwnRec B I) {s : β} {W : World} (o : Obj) (hs : I s W) : I s (W.alloc o) :=
  h s W _ none hs (World.grownBy_alloc W o none) (fun r e => by cases e)
/-- The body's word: the law's own two blocks lie as they lay. -/
structure KeepsRec (B : Nat) (W W' : World) : Prop where
  size : W.heap.size ≤ W'.heap.size
  same : ∀ (k : Nat) (o : Obj), B ≤ k → k < B + 2 → W.heap[k]? = some o → o.isCells = false → W'.heap[k]? = some o
theorem KeepsFrom.rec {B : Nat} {W W' : World} (h : KeepsFrom B W W') : KeepsRec B W W' := ⟨h.size, fun k o h1 _ hk hc => h.same k o h1 hk hc⟩
theorem KeepsRec.trans {B : Nat} {X Y Z : World} (h : KeepsRec B X Y) (k : KeepsRec B Y Z) : KeepsRec B X Z := ⟨Nat.le_trans h.size k.size, fun i o hB hB2 hi ho => k.same i o hB hB2 (h.same i o hB hB2 hi ho) ho⟩
theorem KpZ.rec {Y : Nat → Prop} {B : Nat} {W W' : World} (h : KpZ Y W W') (hY : ∀ k, B ≤ k → k < B + 2 → Y k) : KeepsRec B W W' := ⟨h.1, fun k o h1 h2 hk _ => h.2 k o (hY k h1 h2) hk⟩
theorem KeepsRec.grown {B : Nat} {W W' : World} {row : Option Nat} (hg : W.grownBy W' row) (hr : ∀ r, row = some r → r < B ∨ B + 2 ≤ r) : KeepsRec B W W' :=
  ⟨hg.size, fun k o h1 h2 hk _ => (hg.block k (Array.getElem?_eq_some_iff.1 hk).1 (fun e => by rcases hr k e.symm with h | h <;> omega)).trans hk⟩

/-- How the body of a round may be left. -/
def postL {α : Type} (B : Nat) (Z : Nat → Prop) (I : List α → World → Prop) (Ix : Code → List α → World → Prop) (xs : List α) (W : World) : Exit → Act → World → Prop
  | .normal, _, W' => KeepsRec B W W' ∧ KpZ Z W W' ∧ I xs W'
  | .ret, _, W' => KeepsRec B W W' ∧ KpZ Z W W' ∧ Ix .ret xs W'
  | .exit id, _, W' => KeepsRec B W W' ∧ KpZ Z W W' ∧ Ix (.exit id) xs W'
  | .goto t, _, W' => KeepsRec B W W' ∧ KpZ Z W W' ∧ Ix (.goto t) xs W'
  | .panic _, _, _ => False
  | .outgrown, _, _ => False

theorem wpIn_rangeFunc_L {α : Type} {g : Operand} {ps : Array Tmp} {assign body : Code} {Q : Exit → Act → World → Prop} {a : Act} {w : World}
    (hro : F.round = none) (h1 : 1 ≤ n) {gf : Nat} {lb : Array Value} (hg : a.eval g = .func (.func gf) #[] lb) (hFg : F.fn gf) (eg : ∀ args w, (callFunc gf args).run P w = .ok (.enter gf args) w)
    {encs : α → Array Value} {Z Y : Nat → Nat → Prop} {k : Nat} {L : List α} {w0 : World} (hseq : SeqL F (n - 1) P gf lb encs Z Y k L w0)
    (hZ : ∀ j, Z (w.heap.size + 2) j → j < w.heap.size ∨ w.heap.size + 2 ≤ j) (hY : ∀ j, Y (w.heap.size + 2) j → j < w.heap.size ∨ w.heap.size + 2 ≤ j) (hb0 : Below w0.heap.size w0 w) (hps : ∀ x, (encs x).size = ps.size)
    (I : List α → World → Prop) (Ix : Code → List α → World → Prop) (hI : OwnRec w.heap.size I) (hIx : ∀ c, OwnRec w.heap.size (Ix c))
    (hIZ : ∀ s A B, I s A → StZ (Z (w.heap.size + 2)) A B → I s B) (hIxZ : ∀ c s A B, Ix c s A → StZ (Z (w.heap.size + 2)) A B → Ix c s B)
    (h0 : I [] w) (a₁ : α → Act)
    (hassign : ∀ (l : Nat) (x : α) (W : World) (K : Act → World → Prop), K (a₁ x) W →
      assign.wpIn (F.inRound l) (n - 1 - 1) P (Exit.then K (fun _ _ _ => False)) { tmps := (ps.zip (encs x)).foldl (fun t (p, v) => t.setIfInBounds p v) a.tmps, defers := [] } W)
    (hbody : ∀ (l : Nat) (pre : List α) (x : α) (rest : List α) (W : World), L = pre ++ x :: rest → I pre W → w.heap.size + 2 + k ≤ W.heap.size → body.wpIn (F.inRound l) (n - 1 - 1) P (postL w.heap.size (Y (w.heap.size + 2)) I Ix (pre ++ [x]) W) (a₁ x) W)
    (hdone : ∀ (W : World), I L W → W.heap[w.heap.size]? = some (.deferred (some [])) → Q .normal { a with defers := { target := .collected w.heap.size, args := #[] } :: a.defers } W)
    (hstop : ∀ (c : Code) (pre : List α) (W : World), pre <+: L → Ix c pre W → W.heap[w.heap.size]? = some (.deferred (some [])) → c.wpIn F n P Q { a with defers := { target := .collected w.heap.size, args := #[] } :: a.defers } W) :
    (Code.rangeFunc g ps assign body).wpIn F n P Q a w := by
  refine wpIn_rangeFunc ?_
  intro fn hfn
  rw [hro]
  obtain ⟨rec, hrec⟩ : ∃ rec : LoopState → Option Code → Loop, rec = fun st pe => { state := st, pending := pe, fn, tmps := a.tmps, params := ps, assign, body, defers := w.heap.size } := ⟨_, rfl⟩
  obtain ⟨W1, hW1⟩ : ∃ W1, (w.alloc (.deferred (some []))).alloc (.loop (rec .ready none)) = W1 := ⟨_, rfl⟩
  have hz1 : W1.heap.size = w.heap.size + 2 := by rw [← hW1]; simp
  have hZl : ¬ Z (w.heap.size + 2) (w.heap.size + 1) := fun h => by rcases hZ _ h with h | h <;> omega
  have hYl : ¬ Y (w.heap.size + 2) (w.heap.size + 1) := fun h => by rcases hY _ h with h | h <;> omega
  have hZd : ¬ Z (w.heap.size + 2) w.heap.size := fun h => by rcases hZ _ h with h | h <;> omega
  have hL1 : W1.heap[w.heap.size + 1]? = some (.loop (rec .ready none)) := by
    rw [← hW1]; have := World.alloc_heap_new (w.alloc (.deferred (some []))) (.loop (rec .ready none)); rwa [World.size_alloc] at this
  have hK1 : W1.heap[w.heap.size]? = some (.deferred (some [])) := by
    rw [← hW1]; exact (Below.heap_alloc _ _ _ (by simp)).trans (World.alloc_heap_new w _)
  have hI1 : I [] W1 := by rw [← hW1]; exact hI.alloc _ (hI.alloc _ h0)
  have hb1 : Below w0.heap.size w0 W1 := by
    rw [← hW1]; exact hb0.trans ((((Below.refl _ w).alloc (Nat.le_refl _) _).alloc (by simp) _).mono hb0.size)
  refine ⟨w.heap.size + 1, [{ target := .collected w.heap.size, args := #[] }], W1, { target := .fn (.func gf) lb, args := #[.func (.yield (w.heap.size + 1)) #[] #[]] }, W1, gf,
    #[.func (.yield (w.heap.size + 1)) #[] #[]] ++ lb, W1, ?_, ?_, ?_, ?_, fun _ => h1, ?_⟩
  · rw [← hW1, hrec]; exact run_enterLoop_outer _ _ _ _ _
  · simp only [resolve, hg]
    simp [go_sem]
  · intro f' hf'; simp [Target.leads] at hf'; subst hf'; exact hFg
  · simp [invoke, go_sem, eg]
  · refine (hseq (w.heap.size + 1)
      (fun pre W => I pre W ∧ W.heap[w.heap.size + 1]? = some (.loop (rec .ready none)) ∧ W.heap[w.heap.size]? = some (.deferred (some [])))
      (fun pre W => ∃ c, Ix c pre W ∧ W.heap[w.heap.size + 1]? = some (.loop (rec .done (some c))) ∧ W.heap[w.heap.size]? = some (.deferred (some [])))
      W1 hb1
      (fun s A B hs hst => by rw [hz1] at hst; exact ⟨hIZ s A B hs.1 hst, hst.keeps hs.2.1 hZl, hst.keeps hs.2.2 hZd⟩)
      (fun s A B hs hst => by
        rw [hz1] at hst
        obtain ⟨c, hc, hl, hk⟩ := hs
        exact ⟨c, hIxZ c s A B hc hst, hst.keeps hl hZl, hst.keeps hk hZd⟩)
      ?_ ⟨hI1, hL1, hK1⟩).mono ?_
    · rintro pre x rest W hLe ⟨hi, hl, hk⟩ hsz
      rw [hz1] at hsz ⊢
      have hlt : w.heap.size + 1 < W.heap.size := (Array.getElem?_eq_some_iff.1 hl).1
      have hy := run_yield (P := P) (args := encs x) hl (by rw [hrec]; exact hps x)
      rw [hrec] at hy
      refine ⟨fn, _, assign, body, hy, roundIn_of_wpIn hfn (hassign _ x W _ ⟨_, run_beginRound hl (by rw [hrec]), ?_⟩)⟩
      have hl2 : (W.putObj (w.heap.size + 1) (.loop { rec .ready none with state := .busy })).heap[w.heap.size + 1]? = some (.loop { rec .ready none with state := .busy }) := World.putObj_heap_same hlt
      have hk2 : (W.putObj (w.heap.size + 1) (.loop { rec .ready none with state := .busy })).heap[w.heap.size]? = some (.deferred (some [])) := (World.putObj_heap_other (by omega)).trans hk
      have hput : ∀ (V : World) (o : Obj), KpZ (Y (w.heap.size + 2)) V (V.putObj (w.heap.size + 1) o) := fun V o => KpZ.grown (grownBy_putObj' V _ o) (fun r e => by cases e; exact hYl)
      have hw2 := hput W (.loop { rec .ready none with state := .busy })
      refine wpIn_mono (hbody _ pre x rest _ hLe (hI.putObj _ hi ⟨by omega, by omega⟩ hl rfl) (Nat.le_trans hsz hw2.1)) ?_
      have fin : ∀ (jump : Option Code) (W3 : World), KeepsRec w.heap.size (W.putObj (w.heap.size + 1) (.loop { rec .ready none with state := .busy })) W3 →
          (Instr.endRound (w.heap.size + 1) jump).run P W3 = .ok (.bool jump.isNone) (W3.putObj (w.heap.size + 1) (.loop (rec (if jump.isNone then .ready else .done) jump))) ∧
          W3.heap[w.heap.size + 1]? = some (.loop { rec .ready none with state := .busy }) ∧
          (W3.putObj (w.heap.size + 1) (.loop (rec (if jump.isNone then .ready else .done) jump))).heap[w.heap.size + 1]? = some (.loop (rec (if jump.isNone then .ready else .done) jump)) ∧
          (W3.putObj (w.heap.size + 1) (.loop (rec (if jump.isNone then .ready else .done) jump))).heap[w.heap.size]? = some (.deferred (some [])) := fun jump W3 hk3 => by
        have hl3 := hk3.same _ _ (by omega) (by omega) hl2 rfl
        have := run_endRound (P := P) jump hl3
        rw [hrec] at this ⊢
        exact ⟨this, by rw [hrec] at hl3; exact hl3, World.putObj_heap_same (Array.getElem?_eq_some_iff.1 hl3).1, (World.putObj_heap_other (by omega)).trans (hk3.same _ _ (Nat.le_refl _) (by omega) hk2 rfl)⟩
      rintro e a3 W3 hp
      cases e with
      | normal =>
        obtain ⟨hk3, hkp3, hi3⟩ := hp
        obtain ⟨hr, hl3, hl4, hk4⟩ := fin none W3 hk3
        exact ⟨_, _, hr, .inl ⟨rfl, ⟨hI.putObj _ hi3 ⟨by omega, by omega⟩ hl3 rfl, hl4, hk4⟩, (hw2.trans hkp3).trans (hput W3 _)⟩⟩
      | ret =>
        obtain ⟨hk3, hkp3, hi3⟩ := hp
        obtain ⟨hr, hl3, hl4, hk4⟩ := fin (some .ret) W3 hk3
        exact ⟨_, _, hr, .inr ⟨rfl, ⟨.ret, (hIx _).putObj _ hi3 ⟨by omega, by omega⟩ hl3 rfl, hl4, hk4⟩, (hw2.trans hkp3).trans (hput W3 _)⟩⟩
      | exit id =>
        obtain ⟨hk3, hkp3, hi3⟩ := hp
        obtain ⟨hr, hl3, hl4, hk4⟩ := fin (some (.exit id)) W3 hk3
        exact ⟨_, _, hr, .inr ⟨rfl, ⟨.exit id, (hIx _).putObj _ hi3 ⟨by omega, by omega⟩ hl3 rfl, hl4, hk4⟩, (hw2.trans hkp3).trans (hput W3 _)⟩⟩
      | goto t =>
        obtain ⟨hk3, hkp3, hi3⟩ := hp
        obtain ⟨hr, hl3, hl4, hk4⟩ := fin (some (.goto t)) W3 hk3
        exact ⟨_, _, hr, .inr ⟨rfl, ⟨.goto t, (hIx _).putObj _ hi3 ⟨by omega, by omega⟩ hl3 rfl, hl4, hk4⟩, (hw2.trans hkp3).trans (hput W3 _)⟩⟩
      | panic ch => exact hp.elim
      | outgrown => exact hp.elim
    · rintro e W2 ⟨⟨v, rfl⟩, (⟨hi, hl, hk⟩ | ⟨pre, hSp, c, hi, hl, hk⟩)⟩
      · exact ⟨none, _, by have := run_endLoop (P := P) hl (by rw [hrec]; simp); rw [hrec] at this; exact this, hdone _ (hI.putObj _ hi ⟨by omega, by omega⟩ hl rfl) ((World.putObj_heap_other (by omega)).trans hk)⟩
      · exact ⟨some c, _, by have := run_endLoop (P := P) hl (by rw [hrec]; simp); rw [hrec] at this; exact this, hstop c pre _ hSp ((hIx c).putObj _ hi ⟨by omega, by omega⟩ hl rfl) ((World.putObj_heap_other (by omega)).trans hk)⟩
end Go.Proofs.YtkklccccjmipkaaDoor.Rng

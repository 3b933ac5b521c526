/- lines.Read, by hand: a range over lines.places whose rounds collect fields. -/
import Derived.Test.YtkklccccjmipkaaDoorLLPlaces
import Derived.Laws.OwnMore
import Derived.WalkMore
import Derived.BigRegion
namespace Go.Proofs.YtkklccccjmipkaaDoor.Lin
open Go.RowKit Go.Shelf GPlain Go.Proofs.YtkklccccjmipkaaDoor.PAll Go.Proofs.YtkklccccjmipkaaDoor.Rng
set_option linter.unusedSimpArgs false
attribute [local go_sem] Oper.semAt_some

structure LF where
  tag : ByteArray
  text : ByteArray
  at_ : Int
def lfCells (f : LF) : List Value := [.string f.tag, .string f.text, .int .i64 f.at_]
def rowOf (l : List LF) : List Value := l.flatMap lfCells
theorem rowOf_append (a b : List LF) : rowOf (a ++ b) = rowOf a ++ rowOf b := by unfold rowOf; exact List.flatMap_append
theorem rowOf_length (l : List LF) : (rowOf l).length = l.length * 3 := by
  induction l with
  | nil => rfl
  | cons x l ih => rw [show x :: l = [x] ++ l from rfl, rowOf_append, List.length_append, ih]; show 3 + _ = _; simp only [List.length_append, List.length_cons, List.length_nil]; omega
/-- A text more for the last field. -/
def addText (o : List LF) (s : ByteArray) : List LF := match o.getLast? with
  | none => o
  | some f => o.dropLast ++ [{ f with text := f.text ++ (crlf ++ s) }]
theorem addText_concat (o : List LF) (f : LF) (s : ByteArray) : addText (o ++ [f]) s = o ++ [{ f with text := f.text ++ (crlf ++ s) }] := by
  unfold addText
  rw [List.getLast?_concat, List.dropLast_concat]
/-- A line's first byte. -/
def head_ (s : ByteArray) : Int := ((s.data.toList.getD 0 0).toNat : Int)
theorem head_eq (x : ByteArray) (h : 0 < x.size) : head_ x = ((x[0]'h).toNat : Int) := by
  obtain ⟨d⟩ := x
  have hd : 0 < d.toList.length := by rw [Array.length_toList]; exact h
  unfold head_
  rw [List.getD_eq_getElem?_getD, List.getElem?_eq_getElem hd]
  rfl
/-- What one line does: fields and where an empty one stands; or a place and a number. -/
def lstep (xok : ByteArray → Bool) (tg : ByteArray → ByteArray × ByteArray × Bool) (o : List LF) (emp : Int) (n : Nat) (x : Nat × ByteArray) : (List LF × Int) ⊕ (Int × Int) :=
  if (tg x.2).2.2 = true ∧ 0 ≤ emp then .inr (emp, 31)
  else if 2000 < n then .inr (x.1, 3)
  else if xok x.2 = false ∨ x.2.size = 0 ∨ 78 < x.2.size then .inr (x.1, 31)
  else if (tg x.2).2.2 = true then .inl (o ++ [⟨(tg x.2).1, (tg x.2).2.1, x.1⟩], if (tg x.2).2.1.size = 0 then x.1 else emp)
  else if o = [] ∨ head_ x.2 = 58 ∨ head_ x.2 = 45 then .inr (x.1, 31)
  else .inl (addText o x.2, -1)
/-- What lines do. -/
def lrun (xok : ByteArray → Bool) (tg : ByteArray → ByteArray × ByteArray × Bool) : List LF → Int → Nat → List (Nat × ByteArray) → (List LF × Int) ⊕ (Int × Int)
  | o, emp, _, [] => .inl (o, emp)
  | o, emp, n, x :: r => match lstep xok tg o emp (n + 1) x with
    | .inr e => .inr e
    | .inl (o', emp') => lrun xok tg o' emp' (n + 1) r
theorem lrun_snoc (xok : ByteArray → Bool) (tg : ByteArray → ByteArray × ByteArray × Bool) : ∀ (l : List (Nat × ByteArray)) (o : List LF) (emp : Int) (n : Nat) (x : Nat × ByteArray),
    lrun xok tg o emp n (l ++ [x]) = match lrun xok tg o emp n l with
      | .inr e => .inr e
      | .inl (o', emp') => lstep xok tg o' emp' (n + l.length + 1) x
  | [], o, emp, n, x => by
    show (match lstep xok tg o emp (n + 1) x with | .inr e => Sum.inr e | .inl (o', emp') => .inl (o', emp')) = lstep xok tg o emp (n + 0 + 1) x
    rw [Nat.add_zero]
    cases lstep xok tg o emp (n + 1) x with
    | inr e => rfl
    | inl e => rfl
  | y :: l, o, emp, n, x => by
    show (match lstep xok tg o emp (n + 1) y with | .inr e => Sum.inr e | .inl (o', emp') => lrun xok tg o' emp' (n + 1) (l ++ [x])) = match (match lstep xok tg o emp (n + 1) y with | .inr e => Sum.inr e | .inl (o', emp') => lrun xok tg o' emp' (n + 1) l) with | .inr e => Sum.inr e | .inl (o', emp') => lstep xok tg o' emp' (n + (l.length + 1) + 1) x
    cases lstep xok tg o emp (n + 1) y with
    | inr e => rfl
    | inl e =>
      dsimp only
      rw [lrun_snoc xok tg l, show n + 1 + l.length + 1 = n + (l.length + 1) + 1 by omega]
theorem lrun_stop (xok : ByteArray → Bool) (tg : ByteArray → ByteArray × ByteArray × Bool) : ∀ (l r : List (Nat × ByteArray)) (o : List LF) (emp : Int) (n : Nat) (e : Int × Int), lrun xok tg o emp n l = .inr e → lrun xok tg o emp n (l ++ r) = .inr e
  | [], _, _, _, _, _, h => by cases h
  | y :: l, r, o, emp, n, e, h => by
    have h : (match lstep xok tg o emp (n + 1) y with | .inr e => Sum.inr e | .inl (o', emp') => lrun xok tg o' emp' (n + 1) l) = .inr e := h
    show (match lstep xok tg o emp (n + 1) y with | .inr e => Sum.inr e | .inl (o', emp') => lrun xok tg o' emp' (n + 1) (l ++ r)) = .inr e
    cases hs : lstep xok tg o emp (n + 1) y with
    | inr e2 => rw [hs] at h; exact h
    | inl e2 => rw [hs] at h; exact lrun_stop xok tg l r _ _ _ e h
/-- lines.Read's answer. -/
def lread (xok : ByteArray → Bool) (tg : ByteArray → ByteArray × ByteArray × Bool) (s : ByteArray) : List LF × Int × Int :=
  match lrun xok tg [] (-1) 0 (placesFrom 0 (linesB s)) with
  | .inr e => ([], e.1, e.2)
  | .inl (o, emp) => if 0 ≤ emp then ([], emp, 31) else (o, s.size, 0)
/-- Three results that lie in cells. -/
theorem results_cell3 {fn : Func} {p q r : Tmp} (h : fn.results = #[.cell p 58, .cell q 3, .cell r 25]) (tmps : Array Value) (w : World) (g1 g2 g3 : Nat) (A : Option Addr) (n c : Nat) (v2 v3 : Int)
    (h1 : tmps.getD p undef = .pointer (some ⟨g1, 0, none⟩)) (h2 : tmps.getD q undef = .pointer (some ⟨g2, 0, none⟩)) (h3 : tmps.getD r undef = .pointer (some ⟨g3, 0, none⟩)) (c1 : w.cell? ⟨g1, 0, none⟩ = some (.slice A n c)) (c2 : w.cell? ⟨g2, 0, none⟩ = some (.int .i64 v2)) (c3 : w.cell? ⟨g3, 0, none⟩ = some (.int .i64 v3)) :
    (results fn tmps).run Tryd.prog w = .ok (.tuple #[.slice A n c, .int .i64 v2, .int .i64 v3]) w := by
  have h1' : tmps[p]?.getD undef = .pointer (some ⟨g1, 0, none⟩) := by simpa using h1
  have h2' : tmps[q]?.getD undef = .pointer (some ⟨g2, 0, none⟩) := by simpa using h2
  have h3' : tmps[r]?.getD undef = .pointer (some ⟨g3, 0, none⟩) := by simpa using h3
  simp only [results, h]
  simp [Sem.run_bind, Result.andThen, h1', h2', h3', asAddr]
  go_simp
section
variable (xok : ByteArray → Bool) (tg : ByteArray → ByteArray × ByteArray × Bool)
/-- What the boxes hold. -/
structure LI (w : World) (p : Nat) (o : List LF) (emp : Int) (n : Nat) (V : World) : Prop where
  r0 : Boxed V p 58 (.slice none 0 0)
  r1 : Boxed V (p + 1) 3 (.int .i64 0)
  r2 : Boxed V (p + 1 + 1) 25 (.int .i64 0)
  out : ∃ v, Boxed V (p + 1 + 1 + 1) 58 v ∧ V.ownsRow (p + 16) 68 3 v o.length (rowOf o)
  n_ : Boxed V (p + 1 + 1 + 1 + 1) 3 (.int .i64 (n : Int))
  e_ : Boxed V (p + 1 + 1 + 1 + 1 + 1) 3 (.int .i64 emp)
  bel : Below p w V
/-- What the boxes hold where a round has left. -/
structure LX (w : World) (p : Nat) (e : Int × Int) (V : World) : Prop where
  r0 : Boxed V p 58 (.slice none 0 0)
  r1 : Boxed V (p + 1) 3 (.int .i64 e.1)
  r2 : Boxed V (p + 1 + 1) 25 (.int .i64 e.2)
  bel : Below p w V
theorem own_ge {W : World} {base : Nat} {e : TypeId} {size : Nat} {v : Value} {k : Nat} {xs : List Value} (h : W.ownsRow base e size v k xs) (g : Nat) (hg : v.ownBlock = some g) : base ≤ g := by
  rcases h.2 with ⟨rfl, _⟩ | ⟨g', cap, cur, rfl, hb, _⟩
  · cases hg
  · have : g' = g := by simpa [Value.ownBlock] using hg
    omega
theorem row_base {W : World} {base base' : Nat} {e : TypeId} {size : Nat} {v : Value} {k : Nat} {xs : List Value} (h : W.ownsRow base e size v k xs) (hb : base' ≤ base) : W.ownsRow base' e size v k xs := by
  refine ⟨h.1, ?_⟩
  rcases h.2 with h | ⟨g, cap, cur, hv, hbg, hr⟩
  · exact .inl h
  · exact .inr ⟨g, cap, cur, hv, Nat.le_trans hb hbg, hr⟩
theorem row_set {W : World} {base : Nat} {e : TypeId} {size : Nat} {v : Value} {k : Nat} {xs : List Value} (h : W.ownsRow base e size v k xs) {b : Nat} (hb : b < base) (u : Value) : (W.setCell ⟨b, 0, none⟩ u).ownsRow base e size v k xs :=
  h.kept (grownBy_setCell' W b u) (.inr (fun e => by have := own_ge h b e; omega))
theorem row_val {W : World} {base : Nat} {e : TypeId} {size : Nat} {v : Value} {k : Nat} {xs : List Value} (h : W.ownsRow base e size v k xs) : ∃ A c, v = .slice A k c := by
  rcases h.2 with ⟨rfl, rfl⟩ | ⟨g, cap, cur, rfl, _⟩
  · exact ⟨_, _, rfl⟩
  · exact ⟨_, _, rfl⟩
theorem cells3_new (W : World) (a b c : Value) (t : TypeId) : ∀ (j : Nat) u, [a, b, c][j]? = some u → (W.alloc (.cells #[a, b, c] t)).cell? ((⟨W.heap.size, 0, none⟩ : Addr).add j) = some u := by
  intro j u h
  have hb := World.alloc_heap_new W (.cells #[a, b, c] t)
  have e : ((⟨W.heap.size, 0, none⟩ : Addr).add j) = ⟨W.heap.size, j, none⟩ := by simp [Addr.add]; intro h; exact h.symm
  rw [e]
  unfold World.cell?
  rw [hb]
  match j, h with
  | 0, h => exact h
  | 1, h => exact h
  | 2, h => exact h
theorem A_info_field : (Tryd.prog.info? 68).map (fun i => (i.zero, i.size, i.bytes)) = some (some (.agg #[.string ⟨#[]⟩, .string ⟨#[]⟩, .int .i64 0]), 3, 40) := by kernel_rfl
theorem LI.grown {w A B : World} {p : Nat} {o : List LF} {emp : Int} {n : Nat} {row : Option Nat} (h : LI w p o emp n A) (hg : A.grownBy B row) (hr : ∀ r, row = some r → p + 7 ≤ r ∧ r < p + 16) (hp : p ≤ A.heap.size) : LI w p o emp n B := by
  obtain ⟨v, h1, h2⟩ := h.out
  refine ⟨h.r0.kept hg (fun e => ?_), h.r1.kept hg (fun e => ?_), h.r2.kept hg (fun e => ?_), ⟨v, h1.kept hg (fun e => ?_), h2.kept hg ?_⟩, h.n_.kept hg (fun e => ?_), h.e_.kept hg (fun e => ?_), h.bel.grown hg hp (fun k e => ?_)⟩
  · have := hr _ e.symm; omega
  · have := hr _ e.symm; omega
  · have := hr _ e.symm; omega
  · have := hr _ e.symm; omega
  · rcases h2.2 with ⟨h6, _⟩ | ⟨g, cap, cur, h6, _⟩
    · exact .inl (by rw [h6]; rfl)
    · have h7 : v.ownBlock = some g := by rw [h6]; rfl
      exact .inr fun e => by have h4 := own_ge h2 g h7; have h5 := hr g (by rw [← h7]; exact e.symm); omega
  · have := hr _ e.symm; omega
  · have := hr _ e.symm; omega
  · have := hr _ e; omega
theorem LX.grown {w A B : World} {p : Nat} {e : Int × Int} {row : Option Nat} (h : LX w p e A) (hg : A.grownBy B row) (hr : ∀ r, row = some r → p + 7 ≤ r ∧ r < p + 16) (hp : p ≤ A.heap.size) : LX w p e B := by
  refine ⟨h.r0.kept hg (fun e => ?_), h.r1.kept hg (fun e => ?_), h.r2.kept hg (fun e => ?_), h.bel.grown hg hp (fun k e => ?_)⟩
  · have := hr _ e.symm; omega
  · have := hr _ e.symm; omega
  · have := hr _ e.symm; omega
  · have := hr _ e; omega
theorem at7 (w : World) {p : Nat} (hp : w.heap.size = p) {t0 t1 t2 t3 t4 t5 t6 : TypeId} (v0 v1 v2 v3 v4 v5 v6 : Value) : ∃ G, ((((((w.alloc (.cells #[v0] t0)).alloc (.cells #[v1] t1)).alloc (.cells #[v2] t2)).alloc (.cells #[v3] t3)).alloc (.cells #[v4] t4)).alloc (.cells #[v5] t5)).alloc (.cells #[v6] t6) = G ∧
    Boxed G p t0 v0 ∧ Boxed G (p + 1) t1 v1 ∧ Boxed G (p + 1 + 1) t2 v2 ∧ Boxed G (p + 1 + 1 + 1) t3 v3 ∧ Boxed G (p + 1 + 1 + 1 + 1) t4 v4 ∧ Boxed G (p + 1 + 1 + 1 + 1 + 1) t5 v5 ∧ Boxed G (p + 1 + 1 + 1 + 1 + 1 + 1) t6 v6 ∧ G.heap.size = p + 7 ∧ Below p w G := by
  subst hp
  have b0 := Boxed.new w t0 v0
  have b1 := Boxed.new (w.alloc (.cells #[v0] t0)) t1 v1
  have b2 := Boxed.new ((w.alloc (.cells #[v0] t0)).alloc (.cells #[v1] t1)) t2 v2
  have b3 := Boxed.new (((w.alloc (.cells #[v0] t0)).alloc (.cells #[v1] t1)).alloc (.cells #[v2] t2)) t3 v3
  have b4 := Boxed.new ((((w.alloc (.cells #[v0] t0)).alloc (.cells #[v1] t1)).alloc (.cells #[v2] t2)).alloc (.cells #[v3] t3)) t4 v4
  have b5 := Boxed.new (((((w.alloc (.cells #[v0] t0)).alloc (.cells #[v1] t1)).alloc (.cells #[v2] t2)).alloc (.cells #[v3] t3)).alloc (.cells #[v4] t4)) t5 v5
  have b6 := Boxed.new ((((((w.alloc (.cells #[v0] t0)).alloc (.cells #[v1] t1)).alloc (.cells #[v2] t2)).alloc (.cells #[v3] t3)).alloc (.cells #[v4] t4)).alloc (.cells #[v5] t5)) t6 v6
  simp only [World.size_alloc] at b1 b2 b3 b4 b5 b6
  refine ⟨_, rfl, (((((b0.alloc _).alloc _).alloc _).alloc _).alloc _).alloc _, ((((b1.alloc _).alloc _).alloc _).alloc _).alloc _, (((b2.alloc _).alloc _).alloc _).alloc _, ((b3.alloc _).alloc _).alloc _, (b4.alloc _).alloc _, b5.alloc _, b6, by simp only [World.size_alloc], ?_⟩
  exact ((((((((Below.refl _ w).alloc (Nat.le_refl _) _).alloc (by simp only [World.size_alloc]; omega) _).alloc (by simp only [World.size_alloc]; omega) _).alloc (by simp only [World.size_alloc]; omega) _).alloc (by simp only [World.size_alloc]; omega) _).alloc (by simp only [World.size_alloc]; omega) _).alloc (by simp only [World.size_alloc]; omega) _)
theorem row_below {W W' : World} {base : Nat} {e : TypeId} {size : Nat} {v : Value} {k : Nat} {xs : List Value} (h : W.ownsRow base e size v k xs) (hb : Below W.heap.size W W') : W'.ownsRow base e size v k xs := by
  refine ⟨h.1, ?_⟩
  rcases h.2 with h | ⟨g, cap, cur, hv, hbg, hg, hn⟩
  · exact .inl h
  · exact .inr ⟨g, cap, cur, hv, hbg, (hb.block g (Array.getElem?_eq_some_iff.1 hg).1).trans hg, hn⟩
theorem LI.below {w A B : World} {p : Nat} {o : List LF} {emp : Int} {n : Nat} (h : LI w p o emp n A) (hb : Below A.heap.size A B) (hp : p ≤ A.heap.size) : LI w p o emp n B := by
  have up : ∀ {b : Nat} {t : TypeId} {v : Value}, Boxed A b t v → Boxed B b t v := fun h => (hb.block _ h.lt).trans h
  obtain ⟨v, h1, h2⟩ := h.out
  exact ⟨up h.r0, up h.r1, up h.r2, ⟨v, up h1, row_below h2 hb⟩, up h.n_, up h.e_, h.bel.trans (hb.mono hp)⟩
/-- A store into the counter's box. -/
theorem LI.setN {w A : World} {p : Nat} {o : List LF} {emp : Int} {n : Nat} (h : LI w p o emp n A) (k : Nat) : LI w p o emp k (A.setCell ⟨p + 1 + 1 + 1 + 1, 0, none⟩ (.int .i64 (k : Int))) := by
  obtain ⟨v, h1, h2⟩ := h.out
  exact ⟨h.r0.other (by omega) _, h.r1.other (by omega) _, h.r2.other (by omega) _, ⟨v, h1.other (by omega) _, row_set h2 (by omega) _⟩, h.n_.set _, h.e_.other (by omega) _, h.bel.setCell (p := ⟨p + 1 + 1 + 1 + 1, 0, none⟩) (show p ≤ p + 1 + 1 + 1 + 1 by omega) _⟩
/-- A store into the box of the empty field's place. -/
theorem LI.setE {w A : World} {p : Nat} {o : List LF} {emp : Int} {n : Nat} (h : LI w p o emp n A) (k : Int) : LI w p o k n (A.setCell ⟨p + 1 + 1 + 1 + 1 + 1, 0, none⟩ (.int .i64 k)) := by
  obtain ⟨v, h1, h2⟩ := h.out
  exact ⟨h.r0.other (by omega) _, h.r1.other (by omega) _, h.r2.other (by omega) _, ⟨v, h1.other (by omega) _, row_set h2 (by omega) _⟩, h.n_.other (by omega) _, h.e_.set _, h.bel.setCell (p := ⟨p + 1 + 1 + 1 + 1 + 1, 0, none⟩) (show p ≤ p + 1 + 1 + 1 + 1 + 1 by omega) _⟩
/-- A field more. -/
theorem LI.app {w A B : World} {p : Nat} {o : List LF} {emp : Int} {n : Nat} {f : LF} {v v' : Value} {tmp : Obj} (h : LI w p o emp n A) (hv : Boxed A (p + 1 + 1 + 1) 58 v) (hrow : A.ownsRow (p + 16) 68 3 v o.length (rowOf o)) (hz : p + 16 ≤ A.heap.size)
    (hown : B.ownsRow (p + 16) 68 3 v' (o.length + 1) (rowOf o ++ lfCells f)) (hgrow : (A.alloc tmp).grownBy B v.ownBlock) :
    Boxed B (p + 1 + 1 + 1) 58 v ∧ LI w p (o ++ [f]) emp n (B.setCell ⟨p + 1 + 1 + 1, 0, none⟩ v') ∧ (A.heap.size ≤ (B.setCell ⟨p + 1 + 1 + 1, 0, none⟩ v').heap.size ∧ ∀ j, j < p + 16 → j ≠ p + 1 + 1 + 1 → (B.setCell ⟨p + 1 + 1 + 1, 0, none⟩ v').heap[j]? = A.heap[j]?) := by
  have low : ∀ j, j < p + 16 → B.heap[j]? = A.heap[j]? := fun j hj => by
    rw [hgrow.block j (by simp; omega) (fun e' => by have := own_ge hrow j e'.symm; omega)]
    exact Below.heap_alloc A _ j (by omega)
  have up : ∀ {b : Nat} {t : TypeId} {u : Value}, b < p + 16 → Boxed A b t u → Boxed B b t u := fun hb hu => (low _ hb).trans hu
  have hvB := up (by omega) hv
  refine ⟨hvB, ⟨(up (by omega) h.r0).other (by omega) _, (up (by omega) h.r1).other (by omega) _, (up (by omega) h.r2).other (by omega) _, ⟨v', hvB.set v', ?_⟩, (up (by omega) h.n_).other (by omega) _, (up (by omega) h.e_).other (by omega) _, ?_⟩, by have := hgrow.size; simp [World.setCell] at this ⊢; omega, fun j hj hne => ?_⟩
  · rw [List.length_append, rowOf_append]
    have e : rowOf [f] = lfCells f := by unfold rowOf; simp
    rw [e]
    exact row_set hown (by omega) _
  · exact ((h.bel.alloc (by omega) tmp).grown hgrow (by simp; omega) (fun j ej => by have := own_ge hrow j ej; omega)).setCell (p := ⟨p + 1 + 1 + 1, 0, none⟩) (show p ≤ p + 1 + 1 + 1 by omega) v'
  · rw [Below.heap_setCell _ _ _ j (fun e' => hne e')]
    exact low j hj
/-- A text more for the last field. -/
theorem LI.txt {w A : World} {p : Nat} {o : List LF} {f : LF} {emp : Int} {n g cp : Nat} (h : LI w p (o ++ [f]) emp n A) (hv : Boxed A (p + 1 + 1 + 1) 58 (.slice (some ⟨g, 0, none⟩) (o.length + 1) cp)) (hrow : A.ownsRow (p + 16) 68 3 (.slice (some ⟨g, 0, none⟩) (o.length + 1) cp) (o.length + 1) (rowOf (o ++ [f]))) (u : ByteArray) :
    LI w p (o ++ [{ f with text := u }]) emp n (A.setCell ⟨g, o.length * 3 + 1, none⟩ (.string u)) := by
  have hg : p + 16 ≤ g := own_ge hrow g rfl
  have st := hrow.stored (o.length * 3 + 1) (.string u)
  have oth : ∀ {b : Nat} {t : TypeId} {x : Value}, b < p + 16 → Boxed A b t x → Boxed (A.setCell ⟨g, o.length * 3 + 1, none⟩ (.string u)) b t x := fun hb hx => hx.kept st.2 (fun e => by have := Option.some.inj e; omega)
  refine ⟨oth (by omega) h.r0, oth (by omega) h.r1, oth (by omega) h.r2, ⟨_, oth (by omega) hv, ?_⟩, oth (by omega) h.n_, oth (by omega) h.e_, h.bel.setCell (p := ⟨g, o.length * 3 + 1, none⟩) (show p ≤ g by omega) _⟩
  have e : (rowOf (o ++ [f])).set (o.length * 3 + 1) (.string u) = rowOf (o ++ [{ f with text := u }]) := by
    rw [rowOf_append, rowOf_append, List.set_append_right _ _ (by rw [rowOf_length]; omega), rowOf_length, show o.length * 3 + 1 - o.length * 3 = 1 by omega]
    rfl
  rw [List.length_append, ← e]
  exact st.1
theorem places_at : ∀ (ls : List ByteArray) (a : Nat) (pre : List (Nat × ByteArray)) (x : Nat × ByteArray) (rest : List (Nat × ByteArray)), placesFrom a ls = pre ++ x :: rest → x.1 + x.2.size + 2 ≤ endFrom a ls
  | [], a, pre, x, rest, h => by simp [placesFrom] at h
  | y :: ls, a, [], x, rest, h => by
    simp only [placesFrom, List.nil_append, List.cons.injEq] at h
    rw [← h.1]
    have := endFrom_le [y] ls a
    exact this
  | y :: ls, a, z :: pre, x, rest, h => by
    simp only [placesFrom, List.cons_append, List.cons.injEq] at h
    exact places_at ls _ pre x rest h.2
/-- What a round keeps. -/
abbrev KK (p : Nat) (A B : World) : Prop := KpZ (fun j => (p + 6 ≤ j ∧ j < p + 16) ∨ j = 0) A B
theorem KK.rec {p : Nat} {A B : World} (h : KK p A B) {g : Nat} (hg : g = p + 7) : KeepsRec g A B := KpZ.rec h (fun k h1 h2 => .inl ⟨by omega, by omega⟩)
theorem KK.yp {p : Nat} {A B : World} (h : KK p A B) {g : Nat} (hg : g = p + 7) : KpZ (YP (p + 1 + 1 + 1 + 1 + 1 + 1) (g + 2)) A B :=
  ⟨h.1, fun j o hz ho => h.2 j o (by
    rcases hz with h | h | h
    · exact .inl ⟨by omega, by omega⟩
    · exact .inl ⟨by omega, by omega⟩
    · exact .inr h) ho⟩
theorem KK.set {p : Nat} {A B : World} (h : KK p A B) (hp : 0 < p) {b : Nat} (hb : p ≤ b ∧ b < p + 6) (v : Value) : KK p A (B.setCell ⟨b, 0, none⟩ v) := KpZ.trans h (KpZ.setCell B b v (by omega))
theorem KK.below {p : Nat} {A B C : World} (h : KK p A B) (hb : Below B.heap.size B C) : KK p A C := KpZ.trans h (KpZ.below hb)
/-- A round that leaves. -/
theorem leave {w A B : World} {p : Nat} {o : List LF} {emp : Int} {n : Nat} (hk : KK p A B) (hI : LI w p o emp n B) (hp : 0 < p) {g : Nat} (hg : g = p + 7) (a b : Int) :
    let C := ((B.setCell ⟨p, 0, none⟩ (.slice none 0 0)).setCell ⟨p + 1, 0, none⟩ (.int .i64 a)).setCell ⟨p + 1 + 1, 0, none⟩ (.int .i64 b)
    KeepsRec g A C ∧ KpZ (YP (p + 1 + 1 + 1 + 1 + 1 + 1) (g + 2)) A C ∧ LX w p (a, b) C := by
  have h := ((hk.set hp (b := p) ⟨by omega, by omega⟩ (.slice none 0 0)).set hp (b := p + 1) ⟨by omega, by omega⟩ (.int .i64 a)).set hp (b := p + 1 + 1) ⟨by omega, by omega⟩ (.int .i64 b)
  refine ⟨h.rec hg, h.yp hg, ?_, ?_, ?_, ?_⟩
  · exact ((hI.r0.set _).other (by omega) _).other (by omega) _
  · exact ((hI.r1.other (by omega) _).set _).other (by omega) _
  · exact ((hI.r2.other (by omega) _).other (by omega) _).set _
  · exact ((hI.bel.setCell (p := ⟨p, 0, none⟩) (Nat.le_refl _) _).setCell (p := ⟨p + 1, 0, none⟩) (show p ≤ p + 1 by omega) _).setCell (p := ⟨p + 1 + 1, 0, none⟩) (show p ≤ p + 1 + 1 by omega) _
theorem leave_drew {w A B : World} {p : Nat} {o : List LF} {emp : Int} {n : Nat} (hk : KK p A B) (hI : LI w p o emp n B) (hp : 0 < p) {g : Nat} (hg : g = p + 7) (a b : Int) :
    let C := (((B.setCell ⟨p, 0, none⟩ (.slice none 0 0)).setCell ⟨p + 1, 0, none⟩ (.int .i64 a)).setCell ⟨p + 1 + 1, 0, none⟩ (.int .i64 b)).drew
    KeepsRec g A C ∧ KpZ (YP (p + 1 + 1 + 1 + 1 + 1 + 1) (g + 2)) A C ∧ LX w p (a, b) C := by
  obtain ⟨h1, h2, h3⟩ := leave hk hI hp hg a b
  exact ⟨⟨h1.size, h1.same⟩, ⟨h2.1, h2.2⟩, h3.r0, h3.r1, h3.r2, h3.bel.drew⟩
theorem LI.drew {w A : World} {p : Nat} {o : List LF} {emp : Int} {n : Nat} (h : LI w p o emp n A) (hp : p ≤ A.heap.size) : LI w p o emp n A.drew := h.below ((Below.refl _ A).drew) hp
theorem read_fin {s : ByteArray} {w V : World} {p : Nat} (hp : w.heap.size = p) {tmps : Array Value} {A : Option Addr} {n c : Nat} {a b : Int} {l : List LF} (h2 : tmps.getD 2 undef = ptr p) (h3 : tmps.getD 3 undef = ptr (p + 1)) (h4 : tmps.getD 4 undef = ptr (p + 1 + 1))
    (b0 : Boxed V p 58 (.slice A n c)) (b1 : Boxed V (p + 1) 3 (.int .i64 a)) (b2 : Boxed V (p + 1 + 1) 25 (.int .i64 b)) {D : Nat} (hDp : D = p + 7) (hD : V.heap[D]? = some (.deferred (some []))) (hres : lread xok tg s = (l, a, b))
    (hrow : V.ownsRow (p + 16) 68 3 (.slice A n c) l.length (rowOf l)) (hbel : Below p w V) :
    bodyPostM Fence.wide 20 Tryd.prog Tryd.f31 (fun e w' => ∃ v, e = .returned (.tuple #[v, .int .i64 (lread xok tg s).2.1, .int .i64 (lread xok tg s).2.2]) ∧
      w'.ownsRow w.heap.size 68 3 v (lread xok tg s).1.length (rowOf (lread xok tg s).1) ∧ Below w.heap.size w w') .ret { tmps := tmps, defers := [{ target := .collected D, args := #[] }] } V := by
  rw [hres, hp]
  have hlt : p + 7 < V.heap.size := by rw [← hDp]; exact (Array.getElem?_eq_some_iff.1 hD).1
  refine ⟨by simp, .inl ⟨_, _, rfl, run_takeDeferred hD, ?_⟩⟩
  have hg := grownBy_putObj' V D (.deferred none)
  refine ⟨_, results_cell3 rfl tmps _ p (p + 1) (p + 1 + 1) A n c a b h2 h3 h4 (b0.kept hg (fun e => by cases e; omega)).cell (b1.kept hg (fun e => by have := Option.some.inj e; omega)).cell (b2.kept hg (fun e => by have := Option.some.inj e; omega)).cell, _, rfl, row_base (hrow.kept hg (.inr (fun e => by have := own_ge hrow D e; omega))) (by omega), hbel.grown hg (by omega) (fun k e => by cases e; omega)⟩
theorem read_fin_drew {s : ByteArray} {w V : World} {p : Nat} (hp : w.heap.size = p) {tmps : Array Value} {A : Option Addr} {n c : Nat} {a b : Int} {l : List LF} (h2 : tmps.getD 2 undef = ptr p) (h3 : tmps.getD 3 undef = ptr (p + 1)) (h4 : tmps.getD 4 undef = ptr (p + 1 + 1))
    (b0 : Boxed V p 58 (.slice A n c)) (b1 : Boxed V (p + 1) 3 (.int .i64 a)) (b2 : Boxed V (p + 1 + 1) 25 (.int .i64 b)) {D : Nat} (hDp : D = p + 7) (hD : V.heap[D]? = some (.deferred (some []))) (hres : lread xok tg s = (l, a, b))
    (hrow : V.ownsRow (p + 16) 68 3 (.slice A n c) l.length (rowOf l)) (hbel : Below p w V) :
    bodyPostM Fence.wide 20 Tryd.prog Tryd.f31 (fun e w' => ∃ v, e = .returned (.tuple #[v, .int .i64 (lread xok tg s).2.1, .int .i64 (lread xok tg s).2.2]) ∧
      w'.ownsRow w.heap.size 68 3 v (lread xok tg s).1.length (rowOf (lread xok tg s).1) ∧ Below w.heap.size w w') .ret { tmps := tmps, defers := [{ target := .collected D, args := #[] }] } V.drew :=
  read_fin xok tg hp h2 h3 h4 (show Boxed V.drew _ _ _ from b0) (show Boxed V.drew _ _ _ from b1) (show Boxed V.drew _ _ _ from b2) hDp hD hres (row_below hrow ((Below.refl _ V).drew)) hbel.drew

set_option maxRecDepth 100000 in
set_option maxHeartbeats 4000000 in
theorem read_in (s : ByteArray) (hs : s.size < 4294967281) (w : World) (hG : GW w) (htg : ∀ x, (tg x).2.1.size ≤ x.size)
    (hX : ∀ (x : ByteArray) (W : World), x.size ≤ s.size → Calls Tryd.prog 68 #[.int .u8 88, .string x] W fun e w' => (∃ k, e = .returned (.tuple #[.int .i64 k, .int .i64 (if xok x = true then 0 else 15)])) ∧ Below W.heap.size W w')
    (hT : ∀ (x : ByteArray) (W : World), x.size ≤ s.size → GW W → Calls Tryd.prog 69 #[.string x] W fun e w' => e = .returned (.tuple #[.string (tg x).1, .string (tg x).2.1, .bool (tg x).2.2]) ∧ Below W.heap.size W w') :
    CallsIn Fence.wide 20 Tryd.prog 31 #[.string s] w fun e w' => ∃ v, e = .returned (.tuple #[v, .int .i64 (lread xok tg s).2.1, .int .i64 (lread xok tg s).2.2]) ∧
      w'.ownsRow w.heap.size 68 3 v (lread xok tg s).1.length (rowOf (lread xok tg s).1) ∧ Below w.heap.size w w' := by
  refine callsIn_of_wp_marks Tryd.func31 rfl trivial ?_ rfl
  simp only [Tryd.ntmps31, List.size_toArray, List.length_cons, List.length_nil, Nat.reduceAdd, Nat.reduceSub, Array.replicate_succ, Array.replicate_zero, List.push_toArray, List.append_toArray, List.nil_append, List.cons_append]
  gi_wp2
  refine wpIn_wide.2 ?_
  go_step3
  go_wp2
  go_step3
  go_wp2_with (go_at_call 67; refine (places_calls s _).mono ?_; rintro e w3 ⟨rfl, he⟩; subst he)
  obtain ⟨p, hp⟩ : ∃ p, w.heap.size = p := ⟨_, rfl⟩
  obtain ⟨G, hGe, g0, g1, g2, g3, g4, g5, g6, hGz, hGb⟩ := at7 w hp (t0 := 58) (t1 := 3) (t2 := 25) (t3 := 58) (t4 := 3) (t5 := 3) (t6 := 9) (.slice none 0 0) (.int .i64 0) (.int .i64 0) (.slice none 0 0) (.int .i64 0) (.int .i64 (-1)) (.string s)
  rw [hGe, hp]
  clear hGe
  have HGW := Lib.hid hG
  obtain ⟨m, hm⟩ := hG
  have hG0 : G.cell? ⟨0, 0, none⟩ = some (.int .i64 m) := (hGb.cell (p := ⟨0, 0, none⟩) (by have := World.block_lt_of_cell? _ _ hm; rw [hp] at this; exact this)).trans hm
  refine (wpIn_wide (n := 20)).1 ?_
  obtain ⟨i0, hi, hz0, hz1, hz2⟩ := info_parts A_info_field
  have HX := Lib.hid hX
  have HT := Lib.hid hT
  clear hX hT
  refine wpIn_rangeFunc_L rfl (by decide) (gf := 122) (lb := #[ptr (p + 1 + 1 + 1 + 1 + 1 + 1)]) rfl trivial (enters_of Tryd.func122 (by kernel_rfl) rfl)
    (places_gives 19 (by decide) (p + 1 + 1 + 1 + 1 + 1 + 1) s hs m G g6 hG0)
    (fun j h => by rw [hGz] at h ⊢; unfold ZP at h; omega) (fun j h => by rw [hGz] at h ⊢; unfold YP at h; omega) (Below.refl _ _) (fun _ => rfl)
    (fun pre V => ∃ o emp, Hid (lrun xok tg [] (-1) 0 pre = .inl (o, emp)) ∧ (pre.length ≤ 2000 ∧ o.length ≤ pre.length ∧ ∀ f ∈ o, f.text.size ≤ 100 * pre.length) ∧ LI w p o emp pre.length V)
    (fun c pre V => c = .ret ∧ ∃ e, Hid (lrun xok tg [] (-1) 0 pre = .inr e) ∧ LX w p e V)
    ?hI ?hIx ?hIZ ?hIxZ ⟨[], -1, Lib.hid rfl, ⟨by decide, by decide, fun f hf => by cases hf⟩, g0, g1, g2, ⟨_, g3, ⟨rfl, .inl ⟨rfl, rfl⟩⟩⟩, g4, g5, hGb⟩
    (fun x_ => { tmps := #[.string s, undef, ptr p, ptr (p + 1), ptr (p + 1 + 1), ptr (p + 1 + 1 + 1), ptr (p + 1 + 1 + 1 + 1), ptr (p + 1 + 1 + 1 + 1 + 1), .int .i64 (x_.1 : Int), .string x_.2, undef, undef, undef, undef, undef, .string s, .func (.func 122) #[] #[ptr (p + 1 + 1 + 1 + 1 + 1 + 1)], .int .i64 (x_.1 : Int), .string x_.2, undef, undef, undef, undef, undef, undef, undef, undef, undef, undef, undef, undef, undef, undef, undef, undef, undef, undef, undef, undef, undef, undef, undef, undef, undef, undef, undef, undef, undef, undef, undef, undef, undef, undef, undef, undef, undef, undef, undef, undef, undef, undef, undef, undef, undef, undef, undef, undef, undef, undef, undef, undef, undef, undef, undef, undef, undef, undef, undef, undef, undef, undef, undef, undef, undef, undef, undef, undef, undef, undef, undef, undef, undef, undef, undef, undef, undef, undef, undef, undef, undef, undef], defers := [] }) ?assign ?body ?done ?stop
  case hI =>
    rintro xs A B row ⟨o, emp, h1, h2, h3⟩ hg hr
    exact ⟨o, emp, h1, h2, h3.grown hg (fun r e => by have h := (hr r e).1; rw [hGz] at h; omega) (by have := h3.r0.lt; omega)⟩
  case hIx =>
    rintro c xs A B row ⟨rfl, e, h1, h2⟩ hg hr
    exact ⟨rfl, e, h1, h2.grown hg (fun r e => by have h := (hr r e).1; rw [hGz] at h; omega) (by have := h2.r0.lt; omega)⟩
  case hIZ =>
    rintro xs A B ⟨o, emp, h1, h2, h3⟩ ⟨row, hg, hr⟩
    exact ⟨o, emp, h1, h2, h3.grown hg (fun r e => by have h := hr r e; rw [hGz] at h; unfold ZP at h; omega) (by have := h3.r0.lt; omega)⟩
  case hIxZ =>
    rintro c xs A B ⟨rfl, e, h1, h2⟩ ⟨row, hg, hr⟩
    exact ⟨rfl, e, h1, h2.grown hg (fun r e => by have h := hr r e; rw [hGz] at h; unfold ZP at h; omega) (by have := h2.r0.lt; omega)⟩
  case assign =>
    intro l x W K hK
    unfold encP
    gi_wp2
    exact hK
  case body =>
    rintro l pre ⟨at_, x⟩ rest V hL ⟨o, emp, hrun, ⟨hlen, hol, htx⟩, hI⟩ hsz
    rw [hGz] at hsz
    have hb := places_at _ _ _ _ _ hL
    rw [show endFrom 0 (linesB s) = 0 + s.size + 2 from split_end _ _ _] at hb
    dsimp only at hb
    have HN : Hid (lrun xok tg [] (-1) 0 (pre ++ [(at_, x)]) = lstep xok tg o emp (pre.length + 1) (at_, x)) := Lib.hid (by rw [lrun_snoc, hrun.out]; show lstep xok tg o emp (0 + pre.length + 1) (at_, x) = _; rw [Nat.zero_add])
    clear hL hrun
    obtain ⟨n, hn⟩ : ∃ n, pre.length = n := ⟨_, rfl⟩
    rw [hn] at HN hI hlen hol htx
    have HTX := Lib.hid htx
    clear htx
    have hpl : (pre ++ [(at_, x)]).length = n + 1 := by rw [List.length_append, hn]; rfl
    have HPL := Lib.hid hpl
    clear hpl
    have hI1 := hI.setN (n + 1)
    have HI1 := Lib.hid hI1
    have cn := hI.n_.cell
    have fn := hI.n_.frozen
    obtain ⟨ec, hec⟩ : ∃ c : Int, (if xok x = true then 0 else 15) = c := ⟨_, rfl⟩
    have HXi := HX.out x
    rw [hec] at HXi
    have HXi := Lib.hid HXi
    have HEC := Lib.hid hec
    obtain ⟨⟨tt, rr, bb⟩, ht⟩ : ∃ q, tg x = q := ⟨_, rfl⟩
    have HTi := HT.out x
    rw [ht] at HTi
    have HTi := Lib.hid HTi
    have HTT := Lib.hid ht
    clear hec ht hn
    have hsz2 : p ≤ (V.setCell ⟨p + 1 + 1 + 1 + 1, 0, none⟩ (.int .i64 ((n : Int) + 1))).heap.size := Nat.le_of_lt hI1.r0.lt
    -- BODY
    have hp0 : 0 < p := by have := World.block_lt_of_cell? _ _ hm; rw [hp] at this; exact this
    by_cases c1 : bb = true ∧ 0 ≤ emp
    · obtain ⟨rfl, he⟩ := c1
      gi_wp2_with (first
          | (refine ⟨trivial, ?_⟩; gi_at_call 68; refine (CallsIn.inRound l (callsIn_wide.2 (HXi.out _ (by omega)))).mono ?_; rintro e V2 ⟨⟨k, rfl⟩, hb2⟩; have HI2 := Lib.hid (HI1.out.below hb2 hsz2); have HB2 := Lib.hid hb2; clear hb2)
          | (refine ⟨trivial, ?_⟩; gi_at_call 69; refine (CallsIn.inRound l (callsIn_wide.2 (HTi.out _ (by omega) (GW_below HGW.out (by rw [hp]; exact HI2.out.bel))))).mono ?_; rintro e V3 ⟨rfl, hb3⟩; have HI3 := Lib.hid (HI2.out.below hb3 (Nat.le_of_lt HI2.out.r0.lt)); have HK3 : Hid (KK p V V3) := Lib.hid (KK.below (KK.below (KK.set (KpZ.refl _ V) hp0 (b := p + 1 + 1 + 1 + 1) ⟨by omega, by omega⟩ (.int .i64 ((n : Int) + 1))) HB2.out) hb3); have ce := HI3.out.e_.cell; have fe := HI3.out.e_.frozen; have cn := HI3.out.n_.cell; have k0 := HI3.out.r0.cell; have k1 := HI3.out.r1.cell; have k2 := HI3.out.r2.cell; have f0 := HI3.out.r0.frozen; have f1 := HI3.out.r1.frozen; have f2 := HI3.out.r2.frozen; obtain ⟨vo, hv1, hv2⟩ := HI3.out.out; obtain ⟨A, cp, rfl⟩ := row_val hv2; have cv := hv1.cell; have fv := hv1.frozen; have HV1 := Lib.hid hv1; have HV2 := Lib.hid hv2; clear hv1 hv2 hb3)
          | fail)
      gi_region
      all_goals (gi_wp2; exact And.imp_right (And.imp_right (fun h => ⟨rfl, _, Lib.hid (HN.out.trans (by unfold lstep; rw [HTT.out, if_pos ⟨rfl, he⟩])), h⟩)) (leave_drew HK3.out HI3.out hp0 hGz emp 31))
    have HC1 := Lib.hid c1
    by_cases c2 : 2000 < n + 1
    · cases bb
      · clear c1
        gi_wp2_with (first
          | (refine ⟨trivial, ?_⟩; gi_at_call 68; refine (CallsIn.inRound l (callsIn_wide.2 (HXi.out _ (by omega)))).mono ?_; rintro e V2 ⟨⟨k, rfl⟩, hb2⟩; have HI2 := Lib.hid (HI1.out.below hb2 hsz2); have HB2 := Lib.hid hb2; clear hb2)
          | (refine ⟨trivial, ?_⟩; gi_at_call 69; refine (CallsIn.inRound l (callsIn_wide.2 (HTi.out _ (by omega) (GW_below HGW.out (by rw [hp]; exact HI2.out.bel))))).mono ?_; rintro e V3 ⟨rfl, hb3⟩; have HI3 := Lib.hid (HI2.out.below hb3 (Nat.le_of_lt HI2.out.r0.lt)); have HK3 : Hid (KK p V V3) := Lib.hid (KK.below (KK.below (KK.set (KpZ.refl _ V) hp0 (b := p + 1 + 1 + 1 + 1) ⟨by omega, by omega⟩ (.int .i64 ((n : Int) + 1))) HB2.out) hb3); have ce := HI3.out.e_.cell; have fe := HI3.out.e_.frozen; have cn := HI3.out.n_.cell; have k0 := HI3.out.r0.cell; have k1 := HI3.out.r1.cell; have k2 := HI3.out.r2.cell; have f0 := HI3.out.r0.frozen; have f1 := HI3.out.r1.frozen; have f2 := HI3.out.r2.frozen; obtain ⟨vo, hv1, hv2⟩ := HI3.out.out; obtain ⟨A, cp, rfl⟩ := row_val hv2; have cv := hv1.cell; have fv := hv1.frozen; have HV1 := Lib.hid hv1; have HV2 := Lib.hid hv2; clear hv1 hv2 hb3)
          | fail)
        exact And.imp_right (And.imp_right (fun h => ⟨rfl, _, Lib.hid (HN.out.trans (by unfold lstep; rw [HTT.out, if_neg (by rintro ⟨h, h2⟩; first | omega | (cases h; done)), if_pos c2])), h⟩)) (leave HK3.out HI3.out hp0 hGz at_ 3)
      · have he : emp < 0 := by have := HC1.out; simp only [true_and] at this; omega
        clear c1
        gi_wp2_with (first
          | (refine ⟨trivial, ?_⟩; gi_at_call 68; refine (CallsIn.inRound l (callsIn_wide.2 (HXi.out _ (by omega)))).mono ?_; rintro e V2 ⟨⟨k, rfl⟩, hb2⟩; have HI2 := Lib.hid (HI1.out.below hb2 hsz2); have HB2 := Lib.hid hb2; clear hb2)
          | (refine ⟨trivial, ?_⟩; gi_at_call 69; refine (CallsIn.inRound l (callsIn_wide.2 (HTi.out _ (by omega) (GW_below HGW.out (by rw [hp]; exact HI2.out.bel))))).mono ?_; rintro e V3 ⟨rfl, hb3⟩; have HI3 := Lib.hid (HI2.out.below hb3 (Nat.le_of_lt HI2.out.r0.lt)); have HK3 : Hid (KK p V V3) := Lib.hid (KK.below (KK.below (KK.set (KpZ.refl _ V) hp0 (b := p + 1 + 1 + 1 + 1) ⟨by omega, by omega⟩ (.int .i64 ((n : Int) + 1))) HB2.out) hb3); have ce := HI3.out.e_.cell; have fe := HI3.out.e_.frozen; have cn := HI3.out.n_.cell; have k0 := HI3.out.r0.cell; have k1 := HI3.out.r1.cell; have k2 := HI3.out.r2.cell; have f0 := HI3.out.r0.frozen; have f1 := HI3.out.r1.frozen; have f2 := HI3.out.r2.frozen; obtain ⟨vo, hv1, hv2⟩ := HI3.out.out; obtain ⟨A, cp, rfl⟩ := row_val hv2; have cv := hv1.cell; have fv := hv1.frozen; have HV1 := Lib.hid hv1; have HV2 := Lib.hid hv2; clear hv1 hv2 hb3)
          | fail)
        exact And.imp_right (And.imp_right (fun h => ⟨rfl, _, Lib.hid (HN.out.trans (by unfold lstep; rw [HTT.out, if_neg (by rintro ⟨h, h2⟩; first | omega | (cases h; done)), if_pos c2])), h⟩)) (leave HK3.out HI3.out hp0 hGz at_ 3)
    cases hxk : xok x
    · obtain rfl : (15 : Int) = ec := by have := HEC.out; rw [hxk] at this; exact this
      have HXK := Lib.hid hxk
      clear hxk
      · cases bb
        · clear c1
          gi_wp2_with (first
          | (refine ⟨trivial, ?_⟩; gi_at_call 68; refine (CallsIn.inRound l (callsIn_wide.2 (HXi.out _ (by omega)))).mono ?_; rintro e V2 ⟨⟨k, rfl⟩, hb2⟩; have HI2 := Lib.hid (HI1.out.below hb2 hsz2); have HB2 := Lib.hid hb2; clear hb2)
          | (refine ⟨trivial, ?_⟩; gi_at_call 69; refine (CallsIn.inRound l (callsIn_wide.2 (HTi.out _ (by omega) (GW_below HGW.out (by rw [hp]; exact HI2.out.bel))))).mono ?_; rintro e V3 ⟨rfl, hb3⟩; have HI3 := Lib.hid (HI2.out.below hb3 (Nat.le_of_lt HI2.out.r0.lt)); have HK3 : Hid (KK p V V3) := Lib.hid (KK.below (KK.below (KK.set (KpZ.refl _ V) hp0 (b := p + 1 + 1 + 1 + 1) ⟨by omega, by omega⟩ (.int .i64 ((n : Int) + 1))) HB2.out) hb3); have ce := HI3.out.e_.cell; have fe := HI3.out.e_.frozen; have cn := HI3.out.n_.cell; have k0 := HI3.out.r0.cell; have k1 := HI3.out.r1.cell; have k2 := HI3.out.r2.cell; have f0 := HI3.out.r0.frozen; have f1 := HI3.out.r1.frozen; have f2 := HI3.out.r2.frozen; obtain ⟨vo, hv1, hv2⟩ := HI3.out.out; obtain ⟨A, cp, rfl⟩ := row_val hv2; have cv := hv1.cell; have fv := hv1.frozen; have HV1 := Lib.hid hv1; have HV2 := Lib.hid hv2; clear hv1 hv2 hb3)
          | fail)
          exact And.imp_right (And.imp_right (fun h => ⟨rfl, _, Lib.hid (HN.out.trans (by unfold lstep; rw [HTT.out, if_neg (by rintro ⟨h, h2⟩; first | omega | (cases h; done)), if_neg c2, if_pos (.inl HXK.out)])), h⟩)) (leave HK3.out HI3.out hp0 hGz at_ 31)
        · have he : emp < 0 := by have := HC1.out; simp only [true_and] at this; omega
          clear c1
          gi_wp2_with (first
          | (refine ⟨trivial, ?_⟩; gi_at_call 68; refine (CallsIn.inRound l (callsIn_wide.2 (HXi.out _ (by omega)))).mono ?_; rintro e V2 ⟨⟨k, rfl⟩, hb2⟩; have HI2 := Lib.hid (HI1.out.below hb2 hsz2); have HB2 := Lib.hid hb2; clear hb2)
          | (refine ⟨trivial, ?_⟩; gi_at_call 69; refine (CallsIn.inRound l (callsIn_wide.2 (HTi.out _ (by omega) (GW_below HGW.out (by rw [hp]; exact HI2.out.bel))))).mono ?_; rintro e V3 ⟨rfl, hb3⟩; have HI3 := Lib.hid (HI2.out.below hb3 (Nat.le_of_lt HI2.out.r0.lt)); have HK3 : Hid (KK p V V3) := Lib.hid (KK.below (KK.below (KK.set (KpZ.refl _ V) hp0 (b := p + 1 + 1 + 1 + 1) ⟨by omega, by omega⟩ (.int .i64 ((n : Int) + 1))) HB2.out) hb3); have ce := HI3.out.e_.cell; have fe := HI3.out.e_.frozen; have cn := HI3.out.n_.cell; have k0 := HI3.out.r0.cell; have k1 := HI3.out.r1.cell; have k2 := HI3.out.r2.cell; have f0 := HI3.out.r0.frozen; have f1 := HI3.out.r1.frozen; have f2 := HI3.out.r2.frozen; obtain ⟨vo, hv1, hv2⟩ := HI3.out.out; obtain ⟨A, cp, rfl⟩ := row_val hv2; have cv := hv1.cell; have fv := hv1.frozen; have HV1 := Lib.hid hv1; have HV2 := Lib.hid hv2; clear hv1 hv2 hb3)
          | fail)
          exact And.imp_right (And.imp_right (fun h => ⟨rfl, _, Lib.hid (HN.out.trans (by unfold lstep; rw [HTT.out, if_neg (by rintro ⟨h, h2⟩; first | omega | (cases h; done)), if_neg c2, if_pos (.inl HXK.out)])), h⟩)) (leave HK3.out HI3.out hp0 hGz at_ 31)
    obtain rfl : (0 : Int) = ec := by have := HEC.out; rw [hxk] at this; exact this
    have HXK := Lib.hid hxk
    clear hxk
    by_cases h0 : x.size = 0
    · obtain rfl : x = ⟨#[]⟩ := by cases x; simp only [ByteArray.size] at h0; simp only [ByteArray.mk.injEq]; exact Array.eq_empty_of_size_eq_zero h0
      · cases bb
        · clear c1
          gi_wp2_with (first
          | (refine ⟨trivial, ?_⟩; gi_at_call 68; refine (CallsIn.inRound l (callsIn_wide.2 (HXi.out _ (by omega)))).mono ?_; rintro e V2 ⟨⟨k, rfl⟩, hb2⟩; have HI2 := Lib.hid (HI1.out.below hb2 hsz2); have HB2 := Lib.hid hb2; clear hb2)
          | (refine ⟨trivial, ?_⟩; gi_at_call 69; refine (CallsIn.inRound l (callsIn_wide.2 (HTi.out _ (by omega) (GW_below HGW.out (by rw [hp]; exact HI2.out.bel))))).mono ?_; rintro e V3 ⟨rfl, hb3⟩; have HI3 := Lib.hid (HI2.out.below hb3 (Nat.le_of_lt HI2.out.r0.lt)); have HK3 : Hid (KK p V V3) := Lib.hid (KK.below (KK.below (KK.set (KpZ.refl _ V) hp0 (b := p + 1 + 1 + 1 + 1) ⟨by omega, by omega⟩ (.int .i64 ((n : Int) + 1))) HB2.out) hb3); have ce := HI3.out.e_.cell; have fe := HI3.out.e_.frozen; have cn := HI3.out.n_.cell; have k0 := HI3.out.r0.cell; have k1 := HI3.out.r1.cell; have k2 := HI3.out.r2.cell; have f0 := HI3.out.r0.frozen; have f1 := HI3.out.r1.frozen; have f2 := HI3.out.r2.frozen; obtain ⟨vo, hv1, hv2⟩ := HI3.out.out; obtain ⟨A, cp, rfl⟩ := row_val hv2; have cv := hv1.cell; have fv := hv1.frozen; have HV1 := Lib.hid hv1; have HV2 := Lib.hid hv2; clear hv1 hv2 hb3)
          | fail)
          exact And.imp_right (And.imp_right (fun h => ⟨rfl, _, Lib.hid (HN.out.trans (by unfold lstep; rw [HTT.out, if_neg (by rintro ⟨h, h2⟩; first | omega | (cases h; done)), if_neg c2, if_pos (.inr (.inl h0))])), h⟩)) (leave HK3.out HI3.out hp0 hGz at_ 31)
        · have he : emp < 0 := by have := HC1.out; simp only [true_and] at this; omega
          clear c1
          gi_wp2_with (first
          | (refine ⟨trivial, ?_⟩; gi_at_call 68; refine (CallsIn.inRound l (callsIn_wide.2 (HXi.out _ (by omega)))).mono ?_; rintro e V2 ⟨⟨k, rfl⟩, hb2⟩; have HI2 := Lib.hid (HI1.out.below hb2 hsz2); have HB2 := Lib.hid hb2; clear hb2)
          | (refine ⟨trivial, ?_⟩; gi_at_call 69; refine (CallsIn.inRound l (callsIn_wide.2 (HTi.out _ (by omega) (GW_below HGW.out (by rw [hp]; exact HI2.out.bel))))).mono ?_; rintro e V3 ⟨rfl, hb3⟩; have HI3 := Lib.hid (HI2.out.below hb3 (Nat.le_of_lt HI2.out.r0.lt)); have HK3 : Hid (KK p V V3) := Lib.hid (KK.below (KK.below (KK.set (KpZ.refl _ V) hp0 (b := p + 1 + 1 + 1 + 1) ⟨by omega, by omega⟩ (.int .i64 ((n : Int) + 1))) HB2.out) hb3); have ce := HI3.out.e_.cell; have fe := HI3.out.e_.frozen; have cn := HI3.out.n_.cell; have k0 := HI3.out.r0.cell; have k1 := HI3.out.r1.cell; have k2 := HI3.out.r2.cell; have f0 := HI3.out.r0.frozen; have f1 := HI3.out.r1.frozen; have f2 := HI3.out.r2.frozen; obtain ⟨vo, hv1, hv2⟩ := HI3.out.out; obtain ⟨A, cp, rfl⟩ := row_val hv2; have cv := hv1.cell; have fv := hv1.frozen; have HV1 := Lib.hid hv1; have HV2 := Lib.hid hv2; clear hv1 hv2 hb3)
          | fail)
          exact And.imp_right (And.imp_right (fun h => ⟨rfl, _, Lib.hid (HN.out.trans (by unfold lstep; rw [HTT.out, if_neg (by rintro ⟨h, h2⟩; first | omega | (cases h; done)), if_neg c2, if_pos (.inr (.inl h0))])), h⟩)) (leave HK3.out HI3.out hp0 hGz at_ 31)
    have hne1 : ¬ x.toList = [] := by rw [ByteArray.toList_eq]; intro e; apply h0; have := congrArg List.length e; rw [Array.length_toList] at this; exact this
    have hne2 : x.toList.isEmpty = false := by cases hl : x.toList with | nil => exact absurd hl hne1 | cons a l => rfl
    by_cases h78 : 78 < x.size
    · cases bb
      · clear c1
        gi_wp2_with (first
          | (refine ⟨trivial, ?_⟩; gi_at_call 68; refine (CallsIn.inRound l (callsIn_wide.2 (HXi.out _ (by omega)))).mono ?_; rintro e V2 ⟨⟨k, rfl⟩, hb2⟩; have HI2 := Lib.hid (HI1.out.below hb2 hsz2); have HB2 := Lib.hid hb2; clear hb2)
          | (refine ⟨trivial, ?_⟩; gi_at_call 69; refine (CallsIn.inRound l (callsIn_wide.2 (HTi.out _ (by omega) (GW_below HGW.out (by rw [hp]; exact HI2.out.bel))))).mono ?_; rintro e V3 ⟨rfl, hb3⟩; have HI3 := Lib.hid (HI2.out.below hb3 (Nat.le_of_lt HI2.out.r0.lt)); have HK3 : Hid (KK p V V3) := Lib.hid (KK.below (KK.below (KK.set (KpZ.refl _ V) hp0 (b := p + 1 + 1 + 1 + 1) ⟨by omega, by omega⟩ (.int .i64 ((n : Int) + 1))) HB2.out) hb3); have ce := HI3.out.e_.cell; have fe := HI3.out.e_.frozen; have cn := HI3.out.n_.cell; have k0 := HI3.out.r0.cell; have k1 := HI3.out.r1.cell; have k2 := HI3.out.r2.cell; have f0 := HI3.out.r0.frozen; have f1 := HI3.out.r1.frozen; have f2 := HI3.out.r2.frozen; obtain ⟨vo, hv1, hv2⟩ := HI3.out.out; obtain ⟨A, cp, rfl⟩ := row_val hv2; have cv := hv1.cell; have fv := hv1.frozen; have HV1 := Lib.hid hv1; have HV2 := Lib.hid hv2; clear hv1 hv2 hb3)
          | fail)
        exact And.imp_right (And.imp_right (fun h => ⟨rfl, _, Lib.hid (HN.out.trans (by unfold lstep; rw [HTT.out, if_neg (by rintro ⟨h, h2⟩; first | omega | (cases h; done)), if_neg c2, if_pos (.inr (.inr h78))])), h⟩)) (leave HK3.out HI3.out hp0 hGz at_ 31)
      · have he : emp < 0 := by have := HC1.out; simp only [true_and] at this; omega
        clear c1
        gi_wp2_with (first
          | (refine ⟨trivial, ?_⟩; gi_at_call 68; refine (CallsIn.inRound l (callsIn_wide.2 (HXi.out _ (by omega)))).mono ?_; rintro e V2 ⟨⟨k, rfl⟩, hb2⟩; have HI2 := Lib.hid (HI1.out.below hb2 hsz2); have HB2 := Lib.hid hb2; clear hb2)
          | (refine ⟨trivial, ?_⟩; gi_at_call 69; refine (CallsIn.inRound l (callsIn_wide.2 (HTi.out _ (by omega) (GW_below HGW.out (by rw [hp]; exact HI2.out.bel))))).mono ?_; rintro e V3 ⟨rfl, hb3⟩; have HI3 := Lib.hid (HI2.out.below hb3 (Nat.le_of_lt HI2.out.r0.lt)); have HK3 : Hid (KK p V V3) := Lib.hid (KK.below (KK.below (KK.set (KpZ.refl _ V) hp0 (b := p + 1 + 1 + 1 + 1) ⟨by omega, by omega⟩ (.int .i64 ((n : Int) + 1))) HB2.out) hb3); have ce := HI3.out.e_.cell; have fe := HI3.out.e_.frozen; have cn := HI3.out.n_.cell; have k0 := HI3.out.r0.cell; have k1 := HI3.out.r1.cell; have k2 := HI3.out.r2.cell; have f0 := HI3.out.r0.frozen; have f1 := HI3.out.r1.frozen; have f2 := HI3.out.r2.frozen; obtain ⟨vo, hv1, hv2⟩ := HI3.out.out; obtain ⟨A, cp, rfl⟩ := row_val hv2; have cv := hv1.cell; have fv := hv1.frozen; have HV1 := Lib.hid hv1; have HV2 := Lib.hid hv2; clear hv1 hv2 hb3)
          | fail)
        exact And.imp_right (And.imp_right (fun h => ⟨rfl, _, Lib.hid (HN.out.trans (by unfold lstep; rw [HTT.out, if_neg (by rintro ⟨h, h2⟩; first | omega | (cases h; done)), if_neg c2, if_pos (.inr (.inr h78))])), h⟩)) (leave HK3.out HI3.out hp0 hGz at_ 31)
    have HBAD : Hid (¬ (xok x = false ∨ x.size = 0 ∨ 78 < x.size)) := Lib.hid (by rintro (h | h | h); rw [HXK.out] at h; cases h; exact h0 h; exact h78 h)
    cases bb
    · clear c1
      rcases List.eq_nil_or_concat o with rfl | ⟨o, f, rfl⟩
      · skip
        gi_wp2_with (first
          | (refine ⟨trivial, ?_⟩; gi_at_call 68; refine (CallsIn.inRound l (callsIn_wide.2 (HXi.out _ (by omega)))).mono ?_; rintro e V2 ⟨⟨k, rfl⟩, hb2⟩; have HI2 := Lib.hid (HI1.out.below hb2 hsz2); have HB2 := Lib.hid hb2; clear hb2)
          | (refine ⟨trivial, ?_⟩; gi_at_call 69; refine (CallsIn.inRound l (callsIn_wide.2 (HTi.out _ (by omega) (GW_below HGW.out (by rw [hp]; exact HI2.out.bel))))).mono ?_; rintro e V3 ⟨rfl, hb3⟩; have HI3 := Lib.hid (HI2.out.below hb3 (Nat.le_of_lt HI2.out.r0.lt)); have HK3 : Hid (KK p V V3) := Lib.hid (KK.below (KK.below (KK.set (KpZ.refl _ V) hp0 (b := p + 1 + 1 + 1 + 1) ⟨by omega, by omega⟩ (.int .i64 ((n : Int) + 1))) HB2.out) hb3); have ce := HI3.out.e_.cell; have fe := HI3.out.e_.frozen; have cn := HI3.out.n_.cell; have k0 := HI3.out.r0.cell; have k1 := HI3.out.r1.cell; have k2 := HI3.out.r2.cell; have f0 := HI3.out.r0.frozen; have f1 := HI3.out.r1.frozen; have f2 := HI3.out.r2.frozen; obtain ⟨vo, hv1, hv2⟩ := HI3.out.out; obtain ⟨A, cp, rfl⟩ := row_val hv2; have cv := hv1.cell; have fv := hv1.frozen; have HV1 := Lib.hid hv1; have HV2 := Lib.hid hv2; clear hv1 hv2 hb3)
          | fail)
        exact And.imp_right (And.imp_right (fun h => ⟨rfl, _, Lib.hid (HN.out.trans (by unfold lstep; rw [HTT.out, if_neg (by rintro ⟨h, h2⟩; first | omega | (cases h; done)), if_neg c2, if_neg HBAD.out, if_neg (by intro h; cases h), if_pos (.inl rfl)])), h⟩)) (leave HK3.out HI3.out hp0 hGz at_ 31)
      rw [List.concat_eq_append] at HN HI1 hI1 hol HTX
      have hol1 : o.length + 1 ≤ n := by rw [List.length_append] at hol; exact hol
      clear hol
      have hx0 : 0 < x.size := by omega
      obtain ⟨c, hc⟩ : ∃ c : Nat, (x[0]'hx0).toNat = c := ⟨_, rfl⟩
      have hcx : ∀ h : 0 < x.size, (x[0]'h).toNat = c := fun _ => hc
      have HH : Hid (head_ x = (c : Int)) := Lib.hid (by rw [← hc]; exact head_eq x hx0)
      clear hc
      have HNE : Hid (o ++ [f] ≠ []) := Lib.hid (by simp)
      by_cases h58 : c = 58
      · subst h58
        gi_wp2_with (first
          | (refine ⟨trivial, ?_⟩; gi_at_call 68; refine (CallsIn.inRound l (callsIn_wide.2 (HXi.out _ (by omega)))).mono ?_; rintro e V2 ⟨⟨k, rfl⟩, hb2⟩; have HI2 := Lib.hid (HI1.out.below hb2 hsz2); have HB2 := Lib.hid hb2; clear hb2)
          | (refine ⟨trivial, ?_⟩; gi_at_call 69; refine (CallsIn.inRound l (callsIn_wide.2 (HTi.out _ (by omega) (GW_below HGW.out (by rw [hp]; exact HI2.out.bel))))).mono ?_; rintro e V3 ⟨rfl, hb3⟩; have HI3 := Lib.hid (HI2.out.below hb3 (Nat.le_of_lt HI2.out.r0.lt)); have HK3 : Hid (KK p V V3) := Lib.hid (KK.below (KK.below (KK.set (KpZ.refl _ V) hp0 (b := p + 1 + 1 + 1 + 1) ⟨by omega, by omega⟩ (.int .i64 ((n : Int) + 1))) HB2.out) hb3); have ce := HI3.out.e_.cell; have fe := HI3.out.e_.frozen; have cn := HI3.out.n_.cell; have k0 := HI3.out.r0.cell; have k1 := HI3.out.r1.cell; have k2 := HI3.out.r2.cell; have f0 := HI3.out.r0.frozen; have f1 := HI3.out.r1.frozen; have f2 := HI3.out.r2.frozen; obtain ⟨vo, hv1, hv2⟩ := HI3.out.out; have hol : (o ++ [f]).length = o.length + 1 := List.length_append; rw [hol] at hv2; clear hol; obtain ⟨g, cp, rfl⟩ := ownsRow_succ hv2; have hg16 : p + 16 ≤ g := own_ge hv2 g rfl; have hgn : ¬ g = p + 1 + 1 + 1 + 1 + 1 := (by omega); have hrc : V3.cell? ⟨g, o.length * 3 + 1, none⟩ = some (.string f.text) := (hv2.cellAt (o.length * 3 + 1) (by omega)).trans (by rw [rowOf_append, List.getElem?_append_right (by rw [rowOf_length]; omega), rowOf_length, show o.length * 3 + 1 - o.length * 3 = 1 by omega]; rfl); have cv := hv1.cell; have fv := hv1.frozen; have HV1 := Lib.hid hv1; have HV2 := Lib.hid hv2; clear hv1 hv2 hb3)
          | fail)
        exact And.imp_right (And.imp_right (fun h => ⟨rfl, _, Lib.hid (HN.out.trans (by unfold lstep; rw [HTT.out, if_neg (by rintro ⟨h, h2⟩; first | omega | (cases h; done)), if_neg c2, if_neg HBAD.out, if_neg (by intro h; cases h), if_pos (.inr (.inl (HH.out.trans (by decide))))])), h⟩)) (leave HK3.out HI3.out hp0 hGz at_ 31)
      by_cases h45 : c = 45
      · subst h45
        gi_wp2_with (first
          | (refine ⟨trivial, ?_⟩; gi_at_call 68; refine (CallsIn.inRound l (callsIn_wide.2 (HXi.out _ (by omega)))).mono ?_; rintro e V2 ⟨⟨k, rfl⟩, hb2⟩; have HI2 := Lib.hid (HI1.out.below hb2 hsz2); have HB2 := Lib.hid hb2; clear hb2)
          | (refine ⟨trivial, ?_⟩; gi_at_call 69; refine (CallsIn.inRound l (callsIn_wide.2 (HTi.out _ (by omega) (GW_below HGW.out (by rw [hp]; exact HI2.out.bel))))).mono ?_; rintro e V3 ⟨rfl, hb3⟩; have HI3 := Lib.hid (HI2.out.below hb3 (Nat.le_of_lt HI2.out.r0.lt)); have HK3 : Hid (KK p V V3) := Lib.hid (KK.below (KK.below (KK.set (KpZ.refl _ V) hp0 (b := p + 1 + 1 + 1 + 1) ⟨by omega, by omega⟩ (.int .i64 ((n : Int) + 1))) HB2.out) hb3); have ce := HI3.out.e_.cell; have fe := HI3.out.e_.frozen; have cn := HI3.out.n_.cell; have k0 := HI3.out.r0.cell; have k1 := HI3.out.r1.cell; have k2 := HI3.out.r2.cell; have f0 := HI3.out.r0.frozen; have f1 := HI3.out.r1.frozen; have f2 := HI3.out.r2.frozen; obtain ⟨vo, hv1, hv2⟩ := HI3.out.out; have hol : (o ++ [f]).length = o.length + 1 := List.length_append; rw [hol] at hv2; clear hol; obtain ⟨g, cp, rfl⟩ := ownsRow_succ hv2; have hg16 : p + 16 ≤ g := own_ge hv2 g rfl; have hgn : ¬ g = p + 1 + 1 + 1 + 1 + 1 := (by omega); have hrc : V3.cell? ⟨g, o.length * 3 + 1, none⟩ = some (.string f.text) := (hv2.cellAt (o.length * 3 + 1) (by omega)).trans (by rw [rowOf_append, List.getElem?_append_right (by rw [rowOf_length]; omega), rowOf_length, show o.length * 3 + 1 - o.length * 3 = 1 by omega]; rfl); have cv := hv1.cell; have fv := hv1.frozen; have HV1 := Lib.hid hv1; have HV2 := Lib.hid hv2; clear hv1 hv2 hb3)
          | fail)
        exact And.imp_right (And.imp_right (fun h => ⟨rfl, _, Lib.hid (HN.out.trans (by unfold lstep; rw [HTT.out, if_neg (by rintro ⟨h, h2⟩; first | omega | (cases h; done)), if_neg c2, if_neg HBAD.out, if_neg (by intro h; cases h), if_pos (.inr (.inr (HH.out.trans (by decide))))])), h⟩)) (leave HK3.out HI3.out hp0 hGz at_ 31)
      have n58 : ((c : Int) == 58) = false := beq_eq_false_iff_ne.2 (by omega)
      have n45 : ((c : Int) == 45) = false := beq_eq_false_iff_ne.2 (by omega)
      have hf : f.text.size ≤ 100 * n := HTX.out f (by simp)
      have hx78 : x.size ≤ 78 := by omega
      gi_wp2_with (first
          | (refine ⟨trivial, ?_⟩; gi_at_call 68; refine (CallsIn.inRound l (callsIn_wide.2 (HXi.out _ (by omega)))).mono ?_; rintro e V2 ⟨⟨k, rfl⟩, hb2⟩; have HI2 := Lib.hid (HI1.out.below hb2 hsz2); have HB2 := Lib.hid hb2; clear hb2)
          | (refine ⟨trivial, ?_⟩; gi_at_call 69; refine (CallsIn.inRound l (callsIn_wide.2 (HTi.out _ (by omega) (GW_below HGW.out (by rw [hp]; exact HI2.out.bel))))).mono ?_; rintro e V3 ⟨rfl, hb3⟩; have HI3 := Lib.hid (HI2.out.below hb3 (Nat.le_of_lt HI2.out.r0.lt)); have HK3 : Hid (KK p V V3) := Lib.hid (KK.below (KK.below (KK.set (KpZ.refl _ V) hp0 (b := p + 1 + 1 + 1 + 1) ⟨by omega, by omega⟩ (.int .i64 ((n : Int) + 1))) HB2.out) hb3); have ce := HI3.out.e_.cell; have fe := HI3.out.e_.frozen; have cn := HI3.out.n_.cell; have k0 := HI3.out.r0.cell; have k1 := HI3.out.r1.cell; have k2 := HI3.out.r2.cell; have f0 := HI3.out.r0.frozen; have f1 := HI3.out.r1.frozen; have f2 := HI3.out.r2.frozen; obtain ⟨vo, hv1, hv2⟩ := HI3.out.out; have hol : (o ++ [f]).length = o.length + 1 := List.length_append; rw [hol] at hv2; clear hol; obtain ⟨g, cp, rfl⟩ := ownsRow_succ hv2; have hg16 : p + 16 ≤ g := own_ge hv2 g rfl; have hgn : ¬ g = p + 1 + 1 + 1 + 1 + 1 := (by omega); have hrc : V3.cell? ⟨g, o.length * 3 + 1, none⟩ = some (.string f.text) := (hv2.cellAt (o.length * 3 + 1) (by omega)).trans (by rw [rowOf_append, List.getElem?_append_right (by rw [rowOf_length]; omega), rowOf_length, show o.length * 3 + 1 - o.length * 3 = 1 by omega]; rfl); have hfz := hv2.frozenAt (o.length * 3 + 1); have cv := hv1.cell; have fv := hv1.frozen; have HV1 := Lib.hid hv1; have HV2 := Lib.hid hv2; clear hv1 hv2 hb3)
          | fail)
      have h4 := HI3.out.setE (-1)
      have hv1' := HV1.out.other (B' := p + 1 + 1 + 1 + 1 + 1) (by omega) (.int .i64 (-1))
      have hv2' := row_set HV2.out (b := p + 1 + 1 + 1 + 1 + 1) (by omega) (.int .i64 (-1))
      have h5 := LI.txt h4 hv1' hv2' (f.text ++ (⟨#[13, 10]⟩ ++ x))
      have hk := KpZ.trans (KK.set HK3.out hp0 (b := p + 1 + 1 + 1 + 1 + 1) ⟨by omega, by omega⟩ (.int .i64 (-1))) (KpZ.grown (hv2'.stored (o.length * 3 + 1) (.string (f.text ++ (⟨#[13, 10]⟩ ++ x)))).2 (fun r e => by cases e; omega))
      have HN2 := HN.out.trans (show _ = Sum.inl (o ++ [⟨f.tag, f.text ++ (⟨#[13, 10]⟩ ++ x), f.at_⟩], -1) by unfold lstep; rw [HTT.out, if_neg (by rintro ⟨h, h2⟩; first | omega | (cases h; done)), if_neg c2, if_neg HBAD.out, if_neg (by intro h; cases h), if_neg (by rintro (h | h | h); exact HNE.out h; have := HH.out.symm.trans h; omega; have := HH.out.symm.trans h; omega)]; dsimp only; rw [addText_concat])
      refine ⟨KK.rec hk hGz, KK.yp hk hGz, o ++ [⟨f.tag, f.text ++ (⟨#[13, 10]⟩ ++ x), f.at_⟩], -1, Lib.hid HN2, ⟨by rw [HPL.out]; omega, by rw [HPL.out, List.length_append]; exact Nat.le_succ_of_le hol1, ?_⟩, by rw [HPL.out]; exact h5⟩
      intro f' hf'
      rw [HPL.out]
      rcases List.mem_append.1 hf' with h | h
      · have := HTX.out f' (List.mem_append_left _ h); omega
      · rw [List.mem_singleton.1 h]; show (f.text ++ ((⟨#[13, 10]⟩ : ByteArray) ++ x)).size ≤ _; rw [ByteArray.size_append, ByteArray.size_append]; have : (⟨#[13, 10]⟩ : ByteArray).size = 2 := rfl; omega
    · have he : emp < 0 := by have := HC1.out; simp only [true_and] at this; omega
      clear c1
      have hrx : rr.size ≤ x.size := by have := htg x; rw [HTT.out] at this; exact this
      by_cases hr0 : rr.size = 0
      · obtain rfl : rr = ⟨#[]⟩ := by cases rr; simp only [ByteArray.size] at hr0; simp only [ByteArray.mk.injEq]; exact Array.eq_empty_of_size_eq_zero hr0
        gi_wp2_with (first
          | (refine ⟨trivial, ?_⟩; gi_at_call 68; refine (CallsIn.inRound l (callsIn_wide.2 (HXi.out _ (by omega)))).mono ?_; rintro e V2 ⟨⟨k, rfl⟩, hb2⟩; have HI2 := Lib.hid (HI1.out.below hb2 hsz2); have HB2 := Lib.hid hb2; clear hb2)
          | (refine ⟨trivial, ?_⟩; gi_at_call 69; refine (CallsIn.inRound l (callsIn_wide.2 (HTi.out _ (by omega) (GW_below HGW.out (by rw [hp]; exact HI2.out.bel))))).mono ?_; rintro e V3 ⟨rfl, hb3⟩; have HI3 := Lib.hid (HI2.out.below hb3 (Nat.le_of_lt HI2.out.r0.lt)); have HK3 : Hid (KK p V V3) := Lib.hid (KK.below (KK.below (KK.set (KpZ.refl _ V) hp0 (b := p + 1 + 1 + 1 + 1) ⟨by omega, by omega⟩ (.int .i64 ((n : Int) + 1))) HB2.out) hb3); have ce := HI3.out.e_.cell; have fe := HI3.out.e_.frozen; have cn := HI3.out.n_.cell; have k0 := HI3.out.r0.cell; have k1 := HI3.out.r1.cell; have k2 := HI3.out.r2.cell; have f0 := HI3.out.r0.frozen; have f1 := HI3.out.r1.frozen; have f2 := HI3.out.r2.frozen; obtain ⟨vo, hv1, hv2⟩ := HI3.out.out; obtain ⟨A, cp, rfl⟩ := row_val hv2; have HIX := Lib.hid (HI3.out.setE (at_ : Int)); have HV1X := Lib.hid (hv1.other (B' := p + 1 + 1 + 1 + 1 + 1) (by omega) (.int .i64 (at_ : Int))); have HV2X := Lib.hid (row_set hv2 (b := p + 1 + 1 + 1 + 1 + 1) (by omega) (.int .i64 (at_ : Int))); have HZ3 : p + 16 ≤ V3.heap.size := Nat.le_trans (by omega) HK3.out.1; have hzs : (V3.setCell ⟨p + 1 + 1 + 1 + 1 + 1, 0, none⟩ (.int .i64 (at_ : Int))).heap.size = V3.heap.size := (by simp [World.setCell]); have HZX := Lib.hid (Nat.le_trans HZ3 (Nat.le_of_eq hzs.symm)); have hco := cells3_new (V3.setCell ⟨p + 1 + 1 + 1 + 1 + 1, 0, none⟩ (.int .i64 (at_ : Int))) (.string tt) (.string ⟨#[]⟩) (.int .i64 (at_ : Int)) 68; rw [hzs] at hco; have HCO := Lib.hid hco; clear hco hzs HZ3; have cv := hv1.cell; have fv := hv1.frozen; have HV1 := Lib.hid hv1; have HV2 := Lib.hid hv2; clear hv1 hv2 hb3)
          | (gi_at_builtin; refine wpListIn_append_own _ rfl _ _ 58 rfl (p + 16) 68 i0 (.agg #[.string ⟨#[]⟩, .string ⟨#[]⟩, .int .i64 0]) 3 40 Tryd.underlying58 hi hz0 hz1 hz2 rfl (by decide) _ _ _ rfl (HV2X.out.alloc _) ⟨V3.heap.size, 0, none⟩ 1 1 [.string tt, .string ⟨#[]⟩, .int .i64 (at_ : Int)] rfl rfl HCO.out (by simp [Value.oneCell']) (by rw [show maxLen = 9223372036854775807 from rfl]; omega) (by omega) (by rw [World.size_alloc]; have := HZX.out; omega) ?_; intro v' w1 hown' hgrow _; obtain ⟨g', cap', rfl⟩ := ownsRow_succ hown'; obtain ⟨hvB, hLI, hlow⟩ := LI.app (f := ⟨tt, ⟨#[]⟩, at_⟩) HIX.out HV1X.out HV2X.out HZX.out hown' hgrow; have hc1 := hvB.cell; have hf1 := hvB.frozen; have HLI := Lib.hid hLI; have HLOW := Lib.hid hlow; clear hlow hLI))
        have hk : KK p V _ := KpZ.trans (KK.set HK3.out hp0 (b := p + 1 + 1 + 1 + 1 + 1) ⟨by omega, by omega⟩ (.int .i64 (at_ : Int))) ⟨HLOW.out.1, fun j o' hz ho => (HLOW.out.2 j (by rcases hz with h | h <;> omega) (by rcases hz with h | h <;> omega)).trans ho⟩
        have HN2 := HN.out.trans (show _ = Sum.inl (o ++ [⟨tt, ⟨#[]⟩, at_⟩], (at_ : Int)) by unfold lstep; rw [HTT.out, if_neg (by rintro ⟨h, h2⟩; first | omega | (cases h; done)), if_neg c2, if_neg HBAD.out, if_pos rfl]; rfl)
        refine ⟨KK.rec hk hGz, KK.yp hk hGz, o ++ [⟨tt, ⟨#[]⟩, at_⟩], (at_ : Int), Lib.hid HN2, ⟨by rw [HPL.out]; omega, by rw [HPL.out, List.length_append]; exact Nat.succ_le_succ hol, fun f' hf' => ?_⟩, by rw [HPL.out]; exact HLI.out⟩
        rw [HPL.out]
        rcases List.mem_append.1 hf' with h | h
        · have := HTX.out f' h; omega
        · rw [List.mem_singleton.1 h]; show (⟨#[]⟩ : ByteArray).size ≤ _; exact Nat.zero_le _
      · have hre1 : ¬ rr.toList = [] := by rw [ByteArray.toList_eq]; intro e; apply hr0; have := congrArg List.length e; rw [Array.length_toList] at this; exact this
        have hre2 : rr.toList.isEmpty = false := by cases hl : rr.toList with | nil => exact absurd hl hre1 | cons a l => rfl
        gi_wp2_with (first
          | (refine ⟨trivial, ?_⟩; gi_at_call 68; refine (CallsIn.inRound l (callsIn_wide.2 (HXi.out _ (by omega)))).mono ?_; rintro e V2 ⟨⟨k, rfl⟩, hb2⟩; have HI2 := Lib.hid (HI1.out.below hb2 hsz2); have HB2 := Lib.hid hb2; clear hb2)
          | (refine ⟨trivial, ?_⟩; gi_at_call 69; refine (CallsIn.inRound l (callsIn_wide.2 (HTi.out _ (by omega) (GW_below HGW.out (by rw [hp]; exact HI2.out.bel))))).mono ?_; rintro e V3 ⟨rfl, hb3⟩; have HI3 := Lib.hid (HI2.out.below hb3 (Nat.le_of_lt HI2.out.r0.lt)); have HK3 : Hid (KK p V V3) := Lib.hid (KK.below (KK.below (KK.set (KpZ.refl _ V) hp0 (b := p + 1 + 1 + 1 + 1) ⟨by omega, by omega⟩ (.int .i64 ((n : Int) + 1))) HB2.out) hb3); have ce := HI3.out.e_.cell; have fe := HI3.out.e_.frozen; have cn := HI3.out.n_.cell; have k0 := HI3.out.r0.cell; have k1 := HI3.out.r1.cell; have k2 := HI3.out.r2.cell; have f0 := HI3.out.r0.frozen; have f1 := HI3.out.r1.frozen; have f2 := HI3.out.r2.frozen; obtain ⟨vo, hv1, hv2⟩ := HI3.out.out; obtain ⟨A, cp, rfl⟩ := row_val hv2; have HIX := HI3; have HV1X := Lib.hid hv1; have HV2X := Lib.hid hv2; have HZ3 : p + 16 ≤ V3.heap.size := Nat.le_trans (by omega) HK3.out.1; have HZX := Lib.hid HZ3; have HCO := Lib.hid (cells3_new V3 (.string tt) (.string rr) (.int .i64 (at_ : Int)) 68); clear HZ3; have cv := hv1.cell; have fv := hv1.frozen; have HV1 := Lib.hid hv1; have HV2 := Lib.hid hv2; clear hv1 hv2 hb3)
          | (gi_at_builtin; refine wpListIn_append_own _ rfl _ _ 58 rfl (p + 16) 68 i0 (.agg #[.string ⟨#[]⟩, .string ⟨#[]⟩, .int .i64 0]) 3 40 Tryd.underlying58 hi hz0 hz1 hz2 rfl (by decide) _ _ _ rfl (HV2X.out.alloc _) ⟨V3.heap.size, 0, none⟩ 1 1 [.string tt, .string rr, .int .i64 (at_ : Int)] rfl rfl HCO.out (by simp [Value.oneCell']) (by rw [show maxLen = 9223372036854775807 from rfl]; omega) (by omega) (by rw [World.size_alloc]; have := HZX.out; omega) ?_; intro v' w1 hown' hgrow _; obtain ⟨g', cap', rfl⟩ := ownsRow_succ hown'; obtain ⟨hvB, hLI, hlow⟩ := LI.app (f := ⟨tt, rr, at_⟩) HIX.out HV1X.out HV2X.out HZX.out hown' hgrow; have hc1 := hvB.cell; have hf1 := hvB.frozen; have HLI := Lib.hid hLI; have HLOW := Lib.hid hlow; clear hlow hLI))
        have hk : KK p V _ := KpZ.trans (HK3.out) ⟨HLOW.out.1, fun j o' hz ho => (HLOW.out.2 j (by rcases hz with h | h <;> omega) (by rcases hz with h | h <;> omega)).trans ho⟩
        have HN2 := HN.out.trans (show _ = Sum.inl (o ++ [⟨tt, rr, at_⟩], emp) by unfold lstep; rw [HTT.out, if_neg (by rintro ⟨h, h2⟩; first | omega | (cases h; done)), if_neg c2, if_neg HBAD.out, if_pos rfl]; dsimp only; rw [if_neg hr0])
        refine ⟨KK.rec hk hGz, KK.yp hk hGz, o ++ [⟨tt, rr, at_⟩], emp, Lib.hid HN2, ⟨by rw [HPL.out]; omega, by rw [HPL.out, List.length_append]; exact Nat.succ_le_succ hol, fun f' hf' => ?_⟩, by rw [HPL.out]; exact HLI.out⟩
        rw [HPL.out]
        rcases List.mem_append.1 hf' with h | h
        · have := HTX.out f' h; omega
        · rw [List.mem_singleton.1 h]; show (rr : ByteArray).size ≤ _; omega
  case done =>
    rintro V ⟨o, emp, h1, ⟨h2, h2', _⟩, h3⟩ hD
    have H1 := Lib.hid h1.out
    have ce := h3.e_.cell
    have k0 := h3.r0.cell
    have k1 := h3.r1.cell
    have k2 := h3.r2.cell
    have f0 := h3.r0.frozen
    have f1 := h3.r1.frozen
    have f2 := h3.r2.frozen
    have hD1 : ∀ (b : Nat) (o' : Nat) (u : Value) (W : World), W.heap[G.heap.size]? = some (.deferred (some [])) → b < p + 7 → (W.setCell ⟨b, o', none⟩ u).heap[G.heap.size]? = some (.deferred (some [])) := fun b o' u W h hb => (Below.heap_setCell _ _ _ _ (fun e => by have e : G.heap.size = b := e; omega)).trans h
    have HD1 := Lib.hid hD1
    have HD := Lib.hid hD
    clear hD1 hD
    by_cases he : 0 ≤ emp
    · have hres : lread xok tg s = ([], emp, 31) := by unfold lread; rw [H1.out]; exact if_pos he
      have HRES := Lib.hid hres
      clear hres
      go_wp2
      go_region
      all_goals
        go_wp2
        try rw [Exit.noGoto_ret]
        refine read_fin_drew xok tg hp ?_ ?_ ?_ (((h3.r0.set _).other (by omega) _).other (by omega) _) (((h3.r1.other (by omega) _).set _).other (by omega) _) (((h3.r2.other (by omega) _).other (by omega) _).set _) hGz (HD1.out _ 0 _ _ (HD1.out _ 0 _ _ (HD1.out _ 0 _ _ HD.out (by omega)) (by omega)) (by omega)) HRES.out ⟨rfl, .inl ⟨rfl, rfl⟩⟩ ?_
        · rfl
        · rfl
        · rfl
        exact (((h3.bel.setCell (p := ⟨p, 0, none⟩) (Nat.le_refl _) _).setCell (p := ⟨p + 1, 0, none⟩) (show p ≤ p + 1 by omega) _).setCell (p := ⟨p + 1 + 1, 0, none⟩) (show p ≤ p + 1 + 1 by omega) _)
    · obtain ⟨v, hv1, hv2⟩ := h3.out
      obtain ⟨A, cp, rfl⟩ := row_val hv2
      have cv := hv1.cell
      have hres : lread xok tg s = (o, (s.size : Int), 0) := by unfold lread; rw [H1.out]; exact if_neg he
      have HRES := Lib.hid hres
      have HV2 := Lib.hid hv2
      clear hres hv2
      go_wp2
      try rw [Exit.noGoto_ret]
      refine read_fin xok tg hp ?_ ?_ ?_ (((h3.r0.set _).other (by omega) _).other (by omega) _) (((h3.r1.other (by omega) _).set _).other (by omega) _) (((h3.r2.other (by omega) _).other (by omega) _).set _) rfl (by rw [← hGz]; exact HD1.out _ 0 _ _ (HD1.out _ 0 _ _ (HD1.out _ 0 _ _ HD.out (by omega)) (by omega)) (by omega)) HRES.out (row_set (row_set (row_set HV2.out (by omega) _) (by omega) _) (by omega) _) ?_
      · rfl
      · rfl
      · rfl
      exact (((h3.bel.setCell (p := ⟨p, 0, none⟩) (Nat.le_refl _) _).setCell (p := ⟨p + 1, 0, none⟩) (show p ≤ p + 1 by omega) _).setCell (p := ⟨p + 1 + 1, 0, none⟩) (show p ≤ p + 1 + 1 by omega) _)
  case stop =>
    rintro c pre V ⟨rest, hpre⟩ ⟨rfl, e, h1, h2⟩ hD
    have hres : lread xok tg s = ([], e.1, e.2) := by unfold lread; rw [← hpre, lrun_stop xok tg pre rest _ _ _ e h1.out]
    refine wpIn_wide.2 ?_
    go_wp2
    rw [Exit.noGoto_ret]
    exact read_fin xok tg hp rfl rfl rfl h2.r0 h2.r1 h2.r2 hGz hD hres ⟨rfl, .inl ⟨rfl, rfl⟩⟩ h2.bel
end
end Go.Proofs.YtkklccccjmipkaaDoor.Lin

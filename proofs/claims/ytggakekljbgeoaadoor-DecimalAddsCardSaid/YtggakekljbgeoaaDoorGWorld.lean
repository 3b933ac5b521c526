/- Facts on the world that library contracts ask. -/
import Derived.Test.YtggakekljbgeoaaDoorShelf
import Derived.Test.YtggakekljbgeoaaDoorRows
import Derived.WalkKit
import Derived.HandedShaped
import Derived.Lib.LaidTab
import Derived.LaidMore
import Derived.Stop.LaidErr
import Derived.Shelf.Unicode.PredsPay
import Derived.MakeChecks
namespace Go.Proofs.YtggakekljbgeoaaDoor.PAll
open Go.RowKit
/-- The library's own bound holds some int. -/
def GW (w : World) : Prop := ∃ m, w.cell? ⟨1, 0, none⟩ = some (.int .i64 m)
theorem GW_below {w w' : World} (h : GW w) (hb : Below w.heap.size w w') : GW w' := by
  obtain ⟨m, hm⟩ := h
  exact ⟨m, (hb.cell (p := ⟨1, 0, none⟩) (World.block_lt_of_cell? _ _ hm)).trans hm⟩
theorem GW_of (W : World) (h : W.ShapedOpen Tryd.prog) : GW W :=
  Go.Proofs.cell_of_shapedOpen_int (zero := #[.int .i64 0]) (t := 3) h (of_decide_eq_true (by kernel_rfl)) (by kernel_rfl) rfl (by kernel_rfl) (by kernel_rfl) Tryd.underlying3
/-- The table of white space. -/
def GWS (w : World) : Prop := Lib.TabIs Tryd.prog w "strings.asciiSpace" .u8 Lib.asciiSpaceTab
theorem gSp : Tryd.prog.globalNamed "strings.asciiSpace" = some 0 := by kernel_rfl
theorem gSpType : (Tryd.prog.globals[0]?).map (·.type) = some 114 := by kernel_rfl
theorem GWS_below {w w' : World} (h : GWS w) (hb : Below w.heap.size w w') : GWS w' := TabIs_below gSp h hb
theorem space_data : (Rows.laid_strings_asciiSpace : DataW Unit) = Lib.tabData .u8 Lib.asciiSpaceTab := by kernel_rfl
theorem laid_mem {P : Program} {W : World} {x : String × DataW Unit} : ∀ (l : List (String × DataW Unit)), laidMet P l W → x ∈ l → ∃ r, laidMet P (x :: r) W := by
  intro l
  induction l with
  | nil => intro _ hm; cases hm
  | cons y l ih =>
    intro h hm
    rcases List.mem_cons.1 hm with rfl | hm
    · exact ⟨l, h⟩
    · exact ih h.tail hm
theorem GWS_of {l : List (String × DataW Unit)} (W : World) (hL : laidMetH Tryd.prog l W) (hp : (l.all fun x => x.2.handleName?.isNone) = true := by kernel_rfl)
    (hm : ("strings.asciiSpace", Rows.laid_strings_asciiSpace) ∈ l := by first | exact .tail _ (.tail _ (.head _)) | exact .tail _ (.tail _ (.tail _ (.tail _ (.tail _ (.head _)))))) : GWS W := by
  rw [MakeChecks.laidMetH_plain _ _ _ hp] at hL
  obtain ⟨r, hr⟩ := laid_mem _ hL hm
  rw [space_data] at hr
  exact Lib.tabIs_of_head gSp gSpType Tryd.underlying114 Tryd.underlying5 (by kernel_rfl) (by kernel_rfl) hr
/-- The powers of ten. -/
def GWP (w : World) : Prop := Lib.TabIs Tryd.prog w "internal/strconv.uint64pow10" .u64 Lib.pow10Tab
theorem gPw : Tryd.prog.globalNamed "internal/strconv.uint64pow10" = some 3 := by kernel_rfl
theorem gPwType : (Tryd.prog.globals[3]?).map (·.type) = some 143 := by kernel_rfl
theorem GWP_below {w w' : World} (h : GWP w) (hb : Below w.heap.size w w') : GWP w' := TabIs_below gPw h hb
theorem pow_data : (Rows.laid_internal_strconv_uint64pow10 : DataW Unit) = Lib.tabData .u64 Lib.pow10Tab := by kernel_rfl
theorem GWP_of {l : List (String × DataW Unit)} (W : World) (hL : laidMetH Tryd.prog l W) (hp : (l.all fun x => x.2.handleName?.isNone) = true := by kernel_rfl)
    (hm : ("internal/strconv.uint64pow10", Rows.laid_internal_strconv_uint64pow10) ∈ l := by exact .tail _ (.tail _ (.head _))) : GWP W := by
  rw [MakeChecks.laidMetH_plain _ _ _ hp] at hL
  obtain ⟨r, hr⟩ := laid_mem _ hL hm
  rw [pow_data] at hr
  exact Lib.tabIs_of_head gPw gPwType Tryd.underlying143 Tryd.underlying62 (by kernel_rfl) (by kernel_rfl) hr
/-- The wrap of a row that lists variables, the world's shape kept. -/
theorem returnsIn_laid_shaped {H : Type} {enc : TypeId × Value → H} {a : Assume} {C : Checked} {os : Os} {f : FuncId} {fn : Func} {s : ChangeSpec} {conds : List PathCond} {apart fresh handsOn again : Bool} {X : World → Array Value → Prop}
    (hX : ∀ (w w' : World) (args : Array Value), w.heap = w'.heap → X w args → X w' args) (own : ownKnob C.prog.godebug = none) (started : os.Started) (noInit : C.prog.inits.idxOf? f = none) (hfn : C.prog.funcs[f]? = some fn)
    (witness : ∃ (w : World) (tape : Tape) (i : Input), w.os = os ∧ (w.forCall tape i).Shaped C.prog ∧ i.vars = [] ∧ Input.okWide C.prog (w.forCall tape i) .any w.heap.size f i ∧
      ((s.pre enc C.prog fn conds apart (w.forCall tape i).memory i.args ∧ X (w.forCall tape i).memory i.args) ∧ sizedMet enc C.prog fn (OpenSpec.ofChange s) apart (w.forCall tape i).memory i.args) ∧ a.holds C.prog (lone (Frame.enter C.prog f i.args .normal) [] (w.forCall tape i)))
    (contract : ∀ (W : World) (base : Nat) (args : Array Value) (ds gs : List (DataW H)) (before : List MemPlace),
      (∀ (j : Nat) t v, fn.params[j]? = some t → args[j]? = some v → Value.okWide C.prog W .any base t v) → DataW.Whole enc C.prog fn.params.toList s.vars apart W args.toList ds gs before →
      conds.all (PathCond.test C.prog ⟨fn.params.toList, ds, s.plain.varTypes C.prog, gs⟩) = true → (DataW.weightsEach C.prog (fn.params.toList ++ s.plain.varTypes C.prog) (ds ++ gs)).all (· ≤ reachBytes) = true →
      X W args → W.ShapedOpen C.prog → a.holds C.prog (lone (Frame.enter C.prog f args .normal) [] W) → Calls C.prog f args W fun e W' => ∃ v, e = .returned v ∧ s.post enc C.prog fn apart fresh handsOn again W args v W') :
    ReturnsInHanded a C os f .any (fun w args => (s.pre enc C.prog fn conds apart w args ∧ X w args) ∧ sizedMet enc C.prog fn (OpenSpec.ofChange s) apart w args) (s.post enc C.prog fn apart fresh handsOn again) := by
  refine returnsInHanded_of_calls own started noInit witness fun w tape i _ hsh _ hok hpre hh => ?_
  obtain ⟨_, _, _, g, hg, _, _, _, _, hv⟩ := hok
  obtain rfl : g = fn := Option.some.inj (hg.symm.trans hfn)
  obtain ⟨⟨⟨ds, gs, before, hw, hc⟩, hx⟩, hz⟩ := hpre
  refine (contract (w.forCall tape i) w.heap.size i.args ds gs before hv (DataW.Whole.of_heap (w' := w.forCall tape i) (by rfl) hw) hc (hz.weights hw) (hX _ _ _ (by rfl) hx) hsh hh).mono fun e W' ⟨v, he, hp⟩ => ?_
  subst he
  exact ChangeSpec.post_blind hp
end Go.Proofs.YtggakekljbgeoaaDoor.PAll

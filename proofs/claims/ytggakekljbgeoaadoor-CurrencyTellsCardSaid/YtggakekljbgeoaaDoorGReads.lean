/- The contracts of currency.ParseMT and currency.ParseXML, by hand (over the print of what they call: PCurx1): a way to read is handed on as a function value. -/
import Derived.Test.YtggakekljbgeoaaDoorPCurx1
import Derived.Test.YtggakekljbgeoaaDoorGAdd
namespace Go.Proofs.YtggakekljbgeoaaDoor.PAll
open Go.RowKit GPlain
set_option linter.unusedSimpArgs false

/-- What currency.read tells, of what was read. -/
def readF (r : Bool × Int × Int × Int) (ccy : ByteArray) : Option (Bool × Int × Int × Int) :=
  if r.2.2.2 = 0 then (currency_Fits.f 20 r.1 r.2.1 r.2.2.1 ccy).bind fun e => if e = 0 then some (r.1, r.2.1, r.2.2.1, 0) else some (false, 0, 0, e) else some (false, 0, 0, r.2.2.2)
set_option maxRecDepth 100000 in
set_option maxHeartbeats 2000000 in
theorem readMT_walk (s ccy : ByteArray) (n : Bool) (c sc e : Int) (h1 : decimal_ParseMT.f s = some (n, c, sc, e)) (r1 : Bool) (r2 r3 r4 : Int) (h : readF (n, c, sc, e) ccy = some (r1, r2, r3, r4)) (w : World) (hG : GW w) (hGS : GWS w) :
    Calls Tryd.prog 59 #[.string s, .string ccy, .func (.func 14) #[] #[]] w fun e w' => e = .returned (.tuple #[.agg #[.bool r1, .int .i64 r2, .int .i64 r3], .int .i64 r4]) ∧ Below w.heap.size w w' := by
  have HG := Lib.hid (GW_below hG ((Below.refl _ w).alloc (Nat.le_refl _) (.cells #[.bool false, .int .i64 0, .int .i64 0] 24)))
  have HS := Lib.hid hGS
  have H1 := Lib.hid h1
  clear hG hGS h1
  unfold readF at h
  dsimp only at h
  have B0 := (Below.refl _ w).alloc (Nat.le_refl _) (.cells #[.bool false, .int .i64 0, .int .i64 0] 24)
  by_cases he : e = 0
  · subst he
    rw [if_pos rfl] at h
    obtain ⟨q, hq, h⟩ := Option.bind_eq_some_iff.1 h
    have HQ := Lib.hid hq
    clear hq
    by_cases hq0 : q = 0
    · subst hq0
      rw [if_pos rfl] at h
      simp only [Option.some.injEq, Prod.mk.injEq] at h
      obtain ⟨rfl, rfl, rfl, rfl⟩ := h
      go_enter Tryd.func59, Tryd.ntmps59
      go_wp2_with (first
        | (go_at_call 14; refine (decimal_ParseMT.calls s n c sc 0 _ H1.out HG.out).mono ?_; rintro e_ w1 ⟨rfl, hb⟩; have b6 := (((Box3.new w 24 (.bool false) (.int .i64 0) (.int .i64 0)).below hb).alloc (.cells #[.bool n, .int .i64 c, .int .i64 sc] 24)); have b8 := Box3.new w1 24 (.bool n) (.int .i64 c) (.int .i64 sc); have B1 := (B0.trans (hb.mono (by simp))).alloc (Nat.le_trans B0.size hb.size) (.cells #[.bool n, .int .i64 c, .int .i64 sc] 24); have ka := b8.cell0; have kb := b8.cell1; have kc := b8.cell2)
        | (go_at_call 38; refine (currency_Fits.calls 20 n c sc ccy 0 _ HQ.out (GWS_below HS.out B1)).mono ?_; rintro e_ w2 ⟨rfl, hb2⟩; have b6 := b6.below hb2; have b8 := b8.below hb2; have B1 := B1.trans (hb2.mono B1.size); have ka := b8.cell0; have kb := b8.cell1; have kc := b8.cell2; have k0 := b6.cell0; have k1 := b6.cell1; have k2 := b6.cell2; have f0 := b6.frozen0; have f1 := b6.frozen1; have f2 := b6.frozen2))
      refine bodyPost_ret (results_numt rfl _ _ w.heap.size n c sc (.int .i64 0) rfl rfl (((b6.set0 _).set1 _).set2 _)) rfl ⟨rfl, ((B1.setCell (p := ⟨w.heap.size, 0, none⟩) (Nat.le_refl _) _).setCell (p := ⟨w.heap.size, 1, none⟩) (Nat.le_refl _) _).setCell (p := ⟨w.heap.size, 2, none⟩) (Nat.le_refl _) _⟩
    · rw [if_neg hq0] at h
      simp only [Option.some.injEq, Prod.mk.injEq] at h
      obtain ⟨rfl, rfl, rfl, rfl⟩ := h
      go_enter Tryd.func59, Tryd.ntmps59
      go_wp2_with (first
        | (go_at_call 14; refine (decimal_ParseMT.calls s n c sc 0 _ H1.out HG.out).mono ?_; rintro e_ w1 ⟨rfl, hb⟩; have b6 := (((Box3.new w 24 (.bool false) (.int .i64 0) (.int .i64 0)).below hb).alloc (.cells #[.bool n, .int .i64 c, .int .i64 sc] 24)); have b8 := Box3.new w1 24 (.bool n) (.int .i64 c) (.int .i64 sc); have B1 := (B0.trans (hb.mono (by simp))).alloc (Nat.le_trans B0.size hb.size) (.cells #[.bool n, .int .i64 c, .int .i64 sc] 24); have ka := b8.cell0; have kb := b8.cell1; have kc := b8.cell2)
        | (go_at_call 38; refine (currency_Fits.calls 20 n c sc ccy q _ HQ.out (GWS_below HS.out B1)).mono ?_; rintro e_ w2 ⟨rfl, hb2⟩; have b6 := b6.below hb2; have b8 := b8.below hb2; have B1 := B1.trans (hb2.mono B1.size); have ka := b8.cell0; have kb := b8.cell1; have kc := b8.cell2; have k0 := b6.cell0; have k1 := b6.cell1; have k2 := b6.cell2; have f0 := b6.frozen0; have f1 := b6.frozen1; have f2 := b6.frozen2))
      refine bodyPost_ret (results_numt rfl _ _ w.heap.size false 0 0 (.int .i64 q) rfl rfl (((b6.set0 _).set1 _).set2 _)) rfl ⟨rfl, ((B1.setCell (p := ⟨w.heap.size, 0, none⟩) (Nat.le_refl _) _).setCell (p := ⟨w.heap.size, 1, none⟩) (Nat.le_refl _) _).setCell (p := ⟨w.heap.size, 2, none⟩) (Nat.le_refl _) _⟩
  · rw [if_neg he] at h
    simp only [Option.some.injEq, Prod.mk.injEq] at h
    obtain ⟨rfl, rfl, rfl, rfl⟩ := h
    go_enter Tryd.func59, Tryd.ntmps59
    go_wp2_with (first
      | (go_at_call 14; refine (decimal_ParseMT.calls s n c sc e _ H1.out HG.out).mono ?_; rintro e_ w1 ⟨rfl, hb⟩; have b6 := (((Box3.new w 24 (.bool false) (.int .i64 0) (.int .i64 0)).below hb).alloc (.cells #[.bool n, .int .i64 c, .int .i64 sc] 24)); have b8 := Box3.new w1 24 (.bool n) (.int .i64 c) (.int .i64 sc); have B1 := (B0.trans (hb.mono (by simp))).alloc (Nat.le_trans B0.size hb.size) (.cells #[.bool n, .int .i64 c, .int .i64 sc] 24); have ka := b8.cell0; have kb := b8.cell1; have kc := b8.cell2; have k0 := b6.cell0; have k1 := b6.cell1; have k2 := b6.cell2; have f0 := b6.frozen0; have f1 := b6.frozen1; have f2 := b6.frozen2)
      | fail)
    refine bodyPost_ret (results_numt rfl _ _ w.heap.size false 0 0 (.int .i64 e) rfl rfl (((b6.set0 _).set1 _).set2 _)) rfl ⟨rfl, ((B1.setCell (p := ⟨w.heap.size, 0, none⟩) (Nat.le_refl _) _).setCell (p := ⟨w.heap.size, 1, none⟩) (Nat.le_refl _) _).setCell (p := ⟨w.heap.size, 2, none⟩) (Nat.le_refl _) _⟩
def currency_ParseMT.f (a0 a1 : ByteArray) : Option (Bool × Int × Int × Int) := (decimal_ParseMT.f a0).bind fun r => readF r a1
set_option maxRecDepth 100000 in
set_option maxHeartbeats 2000000 in
theorem currency_ParseMT.calls (a0 a1 : ByteArray) (r1 : Bool) (r2 r3 r4 : Int) (w : World) (h : currency_ParseMT.f a0 a1 = some (r1, r2, r3, r4)) (hG : GW w) (hGS : GWS w) :
    Calls Tryd.prog 36 #[.string a0, .string a1] w fun e w' => e = .returned (.tuple #[.agg #[.bool r1, .int .i64 r2, .int .i64 r3], .int .i64 r4]) ∧ Below w.heap.size w w' := by
  obtain ⟨⟨n, c, sc, e⟩, h1, h2⟩ := Option.bind_eq_some_iff.1 h
  clear h
  have B0 := (Below.refl _ w).alloc (Nat.le_refl _) (.cells #[.bool false, .int .i64 0, .int .i64 0] 24)
  have HC := Lib.hid (readMT_walk a0 a1 n c sc e h1 r1 r2 r3 r4 h2 (w.alloc (.cells #[.bool false, .int .i64 0, .int .i64 0] 24)) (GW_below hG ((Below.refl _ w).alloc (Nat.le_refl _) _)) (GWS_below hGS ((Below.refl _ w).alloc (Nat.le_refl _) _)))
  clear hG hGS h1 h2
  go_enter Tryd.func36, Tryd.ntmps36
  go_wp2_with (go_at_call 59; refine HC.out.mono ?_; rintro e_ w1 ⟨rfl, hb⟩; have b6 := (Box3.new w 24 (.bool false) (.int .i64 0) (.int .i64 0)).below hb; have B1 := B0.trans (hb.mono (by simp)); have k0 := b6.cell0; have k1 := b6.cell1; have k2 := b6.cell2; have f0 := b6.frozen0; have f1 := b6.frozen1; have f2 := b6.frozen2)
  refine bodyPost_ret (results_numt rfl _ _ w.heap.size r1 r2 r3 (.int .i64 r4) rfl rfl (((b6.set0 _).set1 _).set2 _)) rfl ⟨rfl, ((B1.setCell (p := ⟨w.heap.size, 0, none⟩) (Nat.le_refl _) _).setCell (p := ⟨w.heap.size, 1, none⟩) (Nat.le_refl _) _).setCell (p := ⟨w.heap.size, 2, none⟩) (Nat.le_refl _) _⟩
set_option maxRecDepth 100000 in
set_option maxHeartbeats 2000000 in
theorem readXML_walk (s ccy : ByteArray) (n : Bool) (c sc e : Int) (h1 : decimal_ParseXML.f s = some (n, c, sc, e)) (r1 : Bool) (r2 r3 r4 : Int) (h : readF (n, c, sc, e) ccy = some (r1, r2, r3, r4)) (w : World) (hG : GW w) (hGS : GWS w) :
    Calls Tryd.prog 59 #[.string s, .string ccy, .func (.func 16) #[] #[]] w fun e w' => e = .returned (.tuple #[.agg #[.bool r1, .int .i64 r2, .int .i64 r3], .int .i64 r4]) ∧ Below w.heap.size w w' := by
  have HG := Lib.hid (GW_below hG ((Below.refl _ w).alloc (Nat.le_refl _) (.cells #[.bool false, .int .i64 0, .int .i64 0] 24)))
  have HS := Lib.hid hGS
  have H1 := Lib.hid h1
  clear hG hGS h1
  unfold readF at h
  dsimp only at h
  have B0 := (Below.refl _ w).alloc (Nat.le_refl _) (.cells #[.bool false, .int .i64 0, .int .i64 0] 24)
  by_cases he : e = 0
  · subst he
    rw [if_pos rfl] at h
    obtain ⟨q, hq, h⟩ := Option.bind_eq_some_iff.1 h
    have HQ := Lib.hid hq
    clear hq
    by_cases hq0 : q = 0
    · subst hq0
      rw [if_pos rfl] at h
      simp only [Option.some.injEq, Prod.mk.injEq] at h
      obtain ⟨rfl, rfl, rfl, rfl⟩ := h
      go_enter Tryd.func59, Tryd.ntmps59
      go_wp2_with (first
        | (go_at_call 16; refine (decimal_ParseXML.calls s n c sc 0 _ H1.out HG.out).mono ?_; rintro e_ w1 ⟨rfl, hb⟩; have b6 := (((Box3.new w 24 (.bool false) (.int .i64 0) (.int .i64 0)).below hb).alloc (.cells #[.bool n, .int .i64 c, .int .i64 sc] 24)); have b8 := Box3.new w1 24 (.bool n) (.int .i64 c) (.int .i64 sc); have B1 := (B0.trans (hb.mono (by simp))).alloc (Nat.le_trans B0.size hb.size) (.cells #[.bool n, .int .i64 c, .int .i64 sc] 24); have ka := b8.cell0; have kb := b8.cell1; have kc := b8.cell2)
        | (go_at_call 38; refine (currency_Fits.calls 20 n c sc ccy 0 _ HQ.out (GWS_below HS.out B1)).mono ?_; rintro e_ w2 ⟨rfl, hb2⟩; have b6 := b6.below hb2; have b8 := b8.below hb2; have B1 := B1.trans (hb2.mono B1.size); have ka := b8.cell0; have kb := b8.cell1; have kc := b8.cell2; have k0 := b6.cell0; have k1 := b6.cell1; have k2 := b6.cell2; have f0 := b6.frozen0; have f1 := b6.frozen1; have f2 := b6.frozen2))
      refine bodyPost_ret (results_numt rfl _ _ w.heap.size n c sc (.int .i64 0) rfl rfl (((b6.set0 _).set1 _).set2 _)) rfl ⟨rfl, ((B1.setCell (p := ⟨w.heap.size, 0, none⟩) (Nat.le_refl _) _).setCell (p := ⟨w.heap.size, 1, none⟩) (Nat.le_refl _) _).setCell (p := ⟨w.heap.size, 2, none⟩) (Nat.le_refl _) _⟩
    · rw [if_neg hq0] at h
      simp only [Option.some.injEq, Prod.mk.injEq] at h
      obtain ⟨rfl, rfl, rfl, rfl⟩ := h
      go_enter Tryd.func59, Tryd.ntmps59
      go_wp2_with (first
        | (go_at_call 16; refine (decimal_ParseXML.calls s n c sc 0 _ H1.out HG.out).mono ?_; rintro e_ w1 ⟨rfl, hb⟩; have b6 := (((Box3.new w 24 (.bool false) (.int .i64 0) (.int .i64 0)).below hb).alloc (.cells #[.bool n, .int .i64 c, .int .i64 sc] 24)); have b8 := Box3.new w1 24 (.bool n) (.int .i64 c) (.int .i64 sc); have B1 := (B0.trans (hb.mono (by simp))).alloc (Nat.le_trans B0.size hb.size) (.cells #[.bool n, .int .i64 c, .int .i64 sc] 24); have ka := b8.cell0; have kb := b8.cell1; have kc := b8.cell2)
        | (go_at_call 38; refine (currency_Fits.calls 20 n c sc ccy q _ HQ.out (GWS_below HS.out B1)).mono ?_; rintro e_ w2 ⟨rfl, hb2⟩; have b6 := b6.below hb2; have b8 := b8.below hb2; have B1 := B1.trans (hb2.mono B1.size); have ka := b8.cell0; have kb := b8.cell1; have kc := b8.cell2; have k0 := b6.cell0; have k1 := b6.cell1; have k2 := b6.cell2; have f0 := b6.frozen0; have f1 := b6.frozen1; have f2 := b6.frozen2))
      refine bodyPost_ret (results_numt rfl _ _ w.heap.size false 0 0 (.int .i64 q) rfl rfl (((b6.set0 _).set1 _).set2 _)) rfl ⟨rfl, ((B1.setCell (p := ⟨w.heap.size, 0, none⟩) (Nat.le_refl _) _).setCell (p := ⟨w.heap.size, 1, none⟩) (Nat.le_refl _) _).setCell (p := ⟨w.heap.size, 2, none⟩) (Nat.le_refl _) _⟩
  · rw [if_neg he] at h
    simp only [Option.some.injEq, Prod.mk.injEq] at h
    obtain ⟨rfl, rfl, rfl, rfl⟩ := h
    go_enter Tryd.func59, Tryd.ntmps59
    go_wp2_with (first
      | (go_at_call 16; refine (decimal_ParseXML.calls s n c sc e _ H1.out HG.out).mono ?_; rintro e_ w1 ⟨rfl, hb⟩; have b6 := (((Box3.new w 24 (.bool false) (.int .i64 0) (.int .i64 0)).below hb).alloc (.cells #[.bool n, .int .i64 c, .int .i64 sc] 24)); have b8 := Box3.new w1 24 (.bool n) (.int .i64 c) (.int .i64 sc); have B1 := (B0.trans (hb.mono (by simp))).alloc (Nat.le_trans B0.size hb.size) (.cells #[.bool n, .int .i64 c, .int .i64 sc] 24); have ka := b8.cell0; have kb := b8.cell1; have kc := b8.cell2; have k0 := b6.cell0; have k1 := b6.cell1; have k2 := b6.cell2; have f0 := b6.frozen0; have f1 := b6.frozen1; have f2 := b6.frozen2)
      | fail)
    refine bodyPost_ret (results_numt rfl _ _ w.heap.size false 0 0 (.int .i64 e) rfl rfl (((b6.set0 _).set1 _).set2 _)) rfl ⟨rfl, ((B1.setCell (p := ⟨w.heap.size, 0, none⟩) (Nat.le_refl _) _).setCell (p := ⟨w.heap.size, 1, none⟩) (Nat.le_refl _) _).setCell (p := ⟨w.heap.size, 2, none⟩) (Nat.le_refl _) _⟩
def currency_ParseXML.f (a0 a1 : ByteArray) : Option (Bool × Int × Int × Int) := (decimal_ParseXML.f a0).bind fun r => readF r a1
set_option maxRecDepth 100000 in
set_option maxHeartbeats 2000000 in
theorem currency_ParseXML.calls (a0 a1 : ByteArray) (r1 : Bool) (r2 r3 r4 : Int) (w : World) (h : currency_ParseXML.f a0 a1 = some (r1, r2, r3, r4)) (hG : GW w) (hGS : GWS w) :
    Calls Tryd.prog 37 #[.string a0, .string a1] w fun e w' => e = .returned (.tuple #[.agg #[.bool r1, .int .i64 r2, .int .i64 r3], .int .i64 r4]) ∧ Below w.heap.size w w' := by
  obtain ⟨⟨n, c, sc, e⟩, h1, h2⟩ := Option.bind_eq_some_iff.1 h
  clear h
  have B0 := (Below.refl _ w).alloc (Nat.le_refl _) (.cells #[.bool false, .int .i64 0, .int .i64 0] 24)
  have HC := Lib.hid (readXML_walk a0 a1 n c sc e h1 r1 r2 r3 r4 h2 (w.alloc (.cells #[.bool false, .int .i64 0, .int .i64 0] 24)) (GW_below hG ((Below.refl _ w).alloc (Nat.le_refl _) _)) (GWS_below hGS ((Below.refl _ w).alloc (Nat.le_refl _) _)))
  clear hG hGS h1 h2
  go_enter Tryd.func37, Tryd.ntmps37
  go_wp2_with (go_at_call 59; refine HC.out.mono ?_; rintro e_ w1 ⟨rfl, hb⟩; have b6 := (Box3.new w 24 (.bool false) (.int .i64 0) (.int .i64 0)).below hb; have B1 := B0.trans (hb.mono (by simp)); have k0 := b6.cell0; have k1 := b6.cell1; have k2 := b6.cell2; have f0 := b6.frozen0; have f1 := b6.frozen1; have f2 := b6.frozen2)
  refine bodyPost_ret (results_numt rfl _ _ w.heap.size r1 r2 r3 (.int .i64 r4) rfl rfl (((b6.set0 _).set1 _).set2 _)) rfl ⟨rfl, ((B1.setCell (p := ⟨w.heap.size, 0, none⟩) (Nat.le_refl _) _).setCell (p := ⟨w.heap.size, 1, none⟩) (Nat.le_refl _) _).setCell (p := ⟨w.heap.size, 2, none⟩) (Nat.le_refl _) _⟩
end Go.Proofs.YtggakekljbgeoaaDoor.PAll

/- The lines' laws, in plain Lean: LinesReads, LinesMore, LinesLong. -/
import Derived.Test.YtkklccccjmipkaaDoorLPureLin4
import Derived.Test.YtkklccccjmipkaaDoorLPLWk
namespace Go.Proofs.YtkklccccjmipkaaDoor.Pure
open Go.RowKit Go.Proofs.YtkklccccjmipkaaDoor.PAll Go.Proofs.YtkklccccjmipkaaDoorW.PrintWords GPlain
open Go.Proofs.YtkklccccjmipkaaDoor.Lin
set_option linter.unusedSimpArgs false
theorem splitK_count : ∀ (k : Nat) (l : List UInt8), Lib.count l [13, 10] = k → Lib.splitK [13, 10] 0 k l = cl l
  | 0, l, h => by
    have hm : Lib.index l [13, 10] = -1 := by
      by_cases hm : Lib.index l [13, 10] = -1
      · exact hm
      · have hg := Lib.index_ge l [13, 10]
        obtain ⟨i, hi⟩ : ∃ i : Nat, Lib.index l [13, 10] = i := ⟨(Lib.index l [13, 10]).toNat, by omega⟩
        have := Lib.count_hit (sub := [13, 10]) (List.cons_ne_nil _ _) hi
        omega
    rw [(cl_index l).1 hm]
    rfl
  | k + 1, l, h => by
    rw [Lib.splitK]
    by_cases hm : Lib.index l [13, 10] = -1
    · rw [if_pos (beq_iff_eq.2 hm), (cl_index l).1 hm]
    · rw [if_neg (fun e => hm (beq_iff_eq.1 e))]
      have hg := Lib.index_ge l [13, 10]
      obtain ⟨i, hi⟩ : ∃ i : Nat, Lib.index l [13, 10] = i := ⟨(Lib.index l [13, 10]).toNat, by omega⟩
      have hc : Lib.count l [13, 10] = 1 + Lib.count (l.drop (i + 2)) [13, 10] := Lib.count_hit (sub := [13, 10]) (List.cons_ne_nil _ _) hi
      rw [(cl_index l).2 i hi, hi]
      have := splitK_count k (l.drop (i + 2)) (by omega)
      rw [← this]
      rfl
theorem split_f (s : List UInt8) (hs : s.length ≤ 1000000) : lines_Split.f (bs s) = some ((cl s).map bs) := by
  unfold lines_Split.f strings_Split.f
  rw [if_pos ⟨by rw [bs_size]; exact hs, by decide⟩, Option.bind_some]
  congr 1
  have h := Lib.splitB_data crlf 0 (Lib.countB (bs s) crlf) (bs s)
  have e : crlf.data.toList = [13, 10] := rfl
  have ec : Lib.countB (bs s) crlf = Lib.count s [13, 10] := by
    show Lib.count (bs s).data.toList crlf.data.toList = _
    rw [bs_data]
  rw [e, bs_data, ec, splitK_count _ _ rfl] at h
  show Lib.splitB crlf 0 (Lib.countB (bs s) crlf) (bs s) = _
  rw [ec, ← h, List.map_map]
  rw [show (bs ∘ fun (x : ByteArray) => x.data.toList) = id from funext fun x => (bs_of x).symm, List.map_id]
theorem wakes_ok : remitterlaw15_wakes.f = some true := by kernel_rfl
theorem wakes_bind : (remitterlaw15_wakes.f).bind (fun t => some t) = some true := by rw [wakes_ok]; rfl
theorem rd68 (o : List LF) (i : Nat) (h : i < o.length) : rd_T68 (o.map lfS) (i : Int) = lfS o[i] := by
  unfold rd_T68
  rw [Int.toNat_natCast, List.getD_eq_getElem?_getD, List.getElem?_eq_getElem (by rw [List.length_map]; exact h), List.getElem_map]; rfl
theorem rd69' (o : List LF) (i : Nat) (h : i < o.length) : rd_T69 (o.map l69) (i : Int) = l69 o[i] := by
  unfold rd_T69
  rw [Int.toNat_natCast, List.getD_eq_getElem?_getD, List.getElem?_eq_getElem (by rw [List.length_map]; exact h), List.getElem_map]; rfl
end Go.Proofs.YtkklccccjmipkaaDoor.Pure

/- What a sector has of a row that was torn. -/
import Derived.Test.YtbapomhoipdanaaCp2
set_option linter.unusedVariables false
set_option linter.unusedSimpArgs false
namespace Go.Sl
open Go.RowKit
/-- The numbers of a row from number k on. -/
theorem cells_suf {w : World} {b off k : Nat} {l : List Int} (h : CellsAt w (Option.some ⟨b, off, none⟩) (l.map (Value.int .i64))) : CellsAt w (Option.some ⟨b, off + k, none⟩) ((l.drop k).map (Value.int .i64)) := by
  intro j u hj
  rw [List.map_drop, List.getElem?_drop] at hj
  obtain ⟨b', off', e, hc⟩ := h (k + j) u hj
  cases e
  exact ⟨b, off + k, rfl, by rw [Nat.add_assoc]; exact hc⟩
end Go.Sl
namespace Go.Proofs.Ytbapomhoipdanaa
open Go.RowKit Go.Sl

def tornR (row old : List Int) : List Int := row.take (row.length / 2) ++ old.drop (row.length / 2)

set_option maxHeartbeats 1600000 in
theorem torn_c (rv ov : Value) (row old : List Int) (w : World) (h : rowC.V w [rv] row) (ho : rowC.V w [ov] old) (l1 : row.length ≤ 48) (l2 : old.length ≤ 48) :
    Calls Try.prog 98 #[rv, ov] w fun e w' => ∃ v', e = .returned v' ∧ Ext w w' ∧ rowC.own w.heap.size w'.heap.size w' [v'] (tornR row old) := by
  obtain ⟨ra, rc, rfl, r1, r2, _⟩ := row_cells h
  obtain ⟨oa, oc, rfl, o1, o2, ocell⟩ := row_cells ho
  unfold tornR
  obtain ⟨q, hq⟩ : ∃ q : Nat, q = row.length / 2 := ⟨_, rfl⟩
  rw [← hq]
  have HP := Lib.hid (row_pre h (k := q) (by omega))
  have hqi : ((row.length : Int) / 2) = q := by omega
  have hq1 : (q : Int) ≤ row.length := by omega
  have hq2 : (q : Int) ≤ rc := by omega
  have hq3 : (0 : Int) ≤ q := by omega
  have hq4 : q ≤ 48 := by omega
  have hlen := Lib.hid (show (row.take q).length = q by rw [List.length_take]; omega)
  have OC := Lib.hid ocell
  clear ocell h ho hq
  by_cases hlt : q < old.length
  · obtain ⟨b, off, e, _⟩ := OC.out 0 (.int .i64 (old[0]'(by omega))) (by rw [List.getElem?_map, List.getElem?_eq_getElem (by omega)]; rfl)
    subst e
    have hd1 : (q : Int) < old.length := by omega
    have hd2 : (q : Int) ≤ oc := by omega
    have hd3 : (q : Int) ≤ old.length := by omega
    have hd4 : ¬ (oc = q) := by omega
    have hd5 : q < oc := by omega
    have hdl := Lib.hid (show (old.drop q).length = old.length - q by rw [List.length_drop])
    go_enter Try.func98, Try.ntmps98
    go_wp2_with fail
    refine (copyRow_c _ (row.take q) _ HP.out (by rw [hlen.out]; omega)).mono ?_
    rintro e w1 ⟨v1, rfl, hE, hO⟩
    obtain ⟨a1, c1, hv, g1, g2, hI, hab⟩ := row_take hO
    have HI := Lib.hid hI
    rw [hlen.out] at g1 hv
    subst hv
    have hN := Lib.hid (cells_suf (k := q) (OC.out.ext hE))
    clear hO hI
    go_wp2_with (at_builtin; refine wpList_append_ints _ rfl _ _ _ rfl 2 Try.underlying44 Try.infoI _ _ _ (row.take q) rfl hlen.out HI.out g1 g2 _ _ _ (old.drop q) rfl hdl.out hN.out (by omega) ?_)
    intro a' cap' w2 hI2 hle hm hw
    go_wp2
    go_ret
    exact ⟨_, rfl, hw.ext hE (fun x hx => (hab x hx).1), row_app hI2 (by rw [List.length_append, hdl.out, hlen.out]) hle hm hw hE.size (fun x hx => (hab x hx).1)⟩
  · have hdr := Lib.hid (show old.drop q = [] from List.drop_of_length_le (by omega))
    rw [hdr.out, List.append_nil]
    have hd1 : ¬ (q : Int) < old.length := by omega
    have hd2 : (old.length : Int) ≤ q := by omega
    go_enter Try.func98, Try.ntmps98
    go_wp2_with fail
    refine (copyRow_c _ (row.take q) _ HP.out (by rw [hlen.out]; omega)).mono ?_
    rintro e w1 ⟨v1, rfl, hE, hO⟩
    go_wp2
    go_ret
    exact ⟨_, rfl, hE, hO⟩

set_option maxHeartbeats 1600000 in
theorem l3Torn_c (rv ov : Value) (row old : List Int) (w : World) (h : rowC.V w [rv] row) (ho : rowC.V w [ov] old) (l1 : row.length ≤ 48) (l2 : old.length ≤ 48) :
    Calls Try.prog 109 #[rv, ov] w fun e w' => ∃ v', e = .returned v' ∧ Ext w w' ∧ rowC.own w.heap.size w'.heap.size w' [v'] (tornR row old) := by
  obtain ⟨ra, rc, rfl, r1, r2, _⟩ := row_cells h
  obtain ⟨oa, oc, rfl, o1, o2, ocell⟩ := row_cells ho
  unfold tornR
  obtain ⟨q, hq⟩ : ∃ q : Nat, q = row.length / 2 := ⟨_, rfl⟩
  rw [← hq]
  have HP := Lib.hid (row_pre h (k := q) (by omega))
  have hqi : ((row.length : Int) / 2) = q := by omega
  have hq1 : (q : Int) ≤ row.length := by omega
  have hq2 : (q : Int) ≤ rc := by omega
  have hq3 : (0 : Int) ≤ q := by omega
  have hq4 : q ≤ 48 := by omega
  have hlen := Lib.hid (show (row.take q).length = q by rw [List.length_take]; omega)
  have OC := Lib.hid ocell
  clear ocell h ho hq
  by_cases hlt : q < old.length
  · obtain ⟨b, off, e, _⟩ := OC.out 0 (.int .i64 (old[0]'(by omega))) (by rw [List.getElem?_map, List.getElem?_eq_getElem (by omega)]; rfl)
    subst e
    have hd1 : (q : Int) < old.length := by omega
    have hd2 : (q : Int) ≤ oc := by omega
    have hd3 : (q : Int) ≤ old.length := by omega
    have hd4 : ¬ (oc = q) := by omega
    have hd5 : q < oc := by omega
    have hdl := Lib.hid (show (old.drop q).length = old.length - q by rw [List.length_drop])
    go_enter Try.func109, Try.ntmps109
    go_wp2_with fail
    refine (l1Copy_c _ (row.take q) _ HP.out (by rw [hlen.out]; omega)).mono ?_
    rintro e w1 ⟨v1, rfl, hE, hO⟩
    obtain ⟨a1, c1, hv, g1, g2, hI, hab⟩ := row_take hO
    have HI := Lib.hid hI
    rw [hlen.out] at g1 hv
    subst hv
    have hN := Lib.hid (cells_suf (k := q) (OC.out.ext hE))
    clear hO hI
    go_wp2_with (at_builtin; refine wpList_append_ints _ rfl _ _ _ rfl 2 Try.underlying44 Try.infoI _ _ _ (row.take q) rfl hlen.out HI.out g1 g2 _ _ _ (old.drop q) rfl hdl.out hN.out (by omega) ?_)
    intro a' cap' w2 hI2 hle hm hw
    go_wp2
    go_ret
    exact ⟨_, rfl, hw.ext hE (fun x hx => (hab x hx).1), row_app hI2 (by rw [List.length_append, hdl.out, hlen.out]) hle hm hw hE.size (fun x hx => (hab x hx).1)⟩
  · have hdr := Lib.hid (show old.drop q = [] from List.drop_of_length_le (by omega))
    rw [hdr.out, List.append_nil]
    have hd1 : ¬ (q : Int) < old.length := by omega
    have hd2 : (old.length : Int) ≤ q := by omega
    go_enter Try.func109, Try.ntmps109
    go_wp2_with fail
    refine (l1Copy_c _ (row.take q) _ HP.out (by rw [hlen.out]; omega)).mono ?_
    rintro e w1 ⟨v1, rfl, hE, hO⟩
    go_wp2
    go_ret
    exact ⟨_, rfl, hE, hO⟩

end Go.Proofs.Ytbapomhoipdanaa

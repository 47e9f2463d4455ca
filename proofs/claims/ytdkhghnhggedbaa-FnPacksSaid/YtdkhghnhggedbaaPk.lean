/- Rows: packed. -/
import Derived.Test.YtdkhghnhggedbaaRws
import Derived.Test.YtdkhghnhggedbaaRow4
import Derived.Test.YtdkhghnhggedbaaApd
set_option linter.unusedVariables false
set_option linter.unusedSimpArgs false
namespace Go.Proofs.Ytdkhghnhggedbaa
open Go.RowKit Go.Sl

/-- What is packed behind k rows. -/
def packK (rows : List (List Int)) (k : Nat) : List Int := (rows.length : Int) :: (rows.take k).flatMap (fun r => (r.length : Int) :: r)
def packed (rows : List (List Int)) : List Int := if rows.all rowOk = true ∧ (packK rows rows.length).length ≤ 48 then packK rows rows.length else []

theorem packK_snoc {rows : List (List Int)} {k : Nat} {x : List Int} (hx : Hid (rows[k]? = some x)) : packK rows (k + 1) = packK rows k ++ ((x.length : Int) :: x) := by
  unfold packK
  rw [take_snoc hx, List.flatMap_append]
  simp
theorem packK_le (rows : List (List Int)) (k : Nat) : (packK rows k).length ≤ (packK rows rows.length).length := by
  have e : rows.flatMap (fun r => (r.length : Int) :: r) = (rows.take k).flatMap (fun r => (r.length : Int) :: r) ++ (rows.drop k).flatMap (fun r => (r.length : Int) :: r) := by
    rw [← List.flatMap_append, List.take_append_drop]
  unfold packK
  rw [List.take_length, e]
  simp
theorem packK_ge (rows : List (List Int)) (k : Nat) (h : k ≤ rows.length) : k + 1 ≤ (packK rows k).length := by
  have key : ∀ l : List (List Int), l.length ≤ (l.flatMap (fun r => (r.length : Int) :: r)).length := by
    intro l
    induction l with
    | nil => simp
    | cons x l ih => simp only [List.flatMap_cons, List.length_append, List.length_cons]; omega
  have := key (rows.take k)
  unfold packK
  simp only [List.length_cons]
  rw [List.length_take, Nat.min_eq_left h] at this
  omega
theorem packed_no {rows : List (List Int)} {x : List Int} (hx : x ∈ rows) (h : rowOk x = false) : packed rows = [] := by
  unfold packed
  rw [if_neg]
  intro hh
  have := List.all_eq_true.1 hh.1 x hx
  rw [h] at this
  cases this
theorem packed_long {rows : List (List Int)} {k : Nat} (h : 48 < (packK rows k).length) : packed rows = [] := by
  unfold packed
  rw [if_neg]
  intro hh
  have := packK_le rows k
  omega
theorem packed_many {rows : List (List Int)} (h : 48 ≤ rows.length) : packed rows = [] := packed_long (k := rows.length) (by have := packK_ge rows rows.length (Nat.le_refl _); omega)
theorem packed_yes {rows : List (List Int)} (h : rows.all rowOk = true) (h2 : (packK rows rows.length).length ≤ 48) : packed rows = packK rows rows.length := by
  unfold packed; rw [if_pos ⟨h, h2⟩]
theorem packed_len (rows : List (List Int)) : (packed rows).length ≤ 48 := by
  unfold packed
  split
  · rename_i h; exact h.2
  · simp
theorem packK_ok {rows : List (List Int)} (h : rows.all rowOk = true) (h2 : (packK rows rows.length).length ≤ 48) : rowOk (packK rows rows.length) = true := by
  simp only [rowOk, Bool.and_eq_true, decide_eq_true_eq, List.all_eq_true]
  refine ⟨h2, fun x hx => ?_⟩
  have hn := packK_ge rows rows.length (Nat.le_refl _)
  unfold packK at hx
  rw [List.take_length] at hx
  rcases List.mem_cons.1 hx with rfl | hx
  · simp [inRow, inB]; omega
  · obtain ⟨r, hr, hx⟩ := List.mem_flatMap.1 hx
    have hro := List.all_eq_true.1 h r hr
    rcases List.mem_cons.1 hx with rfl | hx
    · have := rowOk_len hro
      simp [inRow, inB]; omega
    · simp only [rowOk, Bool.and_eq_true, List.all_eq_true] at hro
      exact hro.2 x hx

theorem row_cellsAt {w : World} {a : Option Addr} {n cap : Nat} {l : List Int} (h : rowC.V w [.slice a n cap] l) : CellsAt w a (l.map (Value.int .i64)) := by
  obtain ⟨a', cap', e, _, _, hc⟩ := row_cells h
  cases e
  exact hc
theorem ISl.rowV {w : World} {a : Option Addr} {cap : Nat} {l : List Int} (h : ISl w a cap l) (h1 : l.length ≤ cap) (h2 : cap ≤ 9223372036854775807) : rowC.V w [.slice a l.length cap] l :=
  ⟨a, cap, _, rfl, h1, by simpa [maxLen] using h2, SlAt.cells h, elemsV_int.2 rfl⟩
/-- A cursor in block cb, whose row is the call's own. -/
def Cu (W w : World) (cb : Nat) (l : List Int) : Prop := ∃ a cap, Bx w cb [.slice a l.length cap, .int .i64 0] ∧ ISl w a cap l ∧ l.length ≤ cap ∧ cap ≤ 9223372036854775807 ∧ (∀ b ∈ ablk a, cb < b) ∧ Ext W w ∧ W.heap.size ≤ cb

set_option maxHeartbeats 800000 in
theorem put_c (W : World) (cb : Nat) (l news : List Int) (ax : Option Addr) (m c : Nat) (w : World) (h : Cu W w cb l) (hm : m = news.length) (hn : CellsAt w ax (news.map (Value.int .i64))) (hl : l.length + news.length ≤ 8388608) :
    Calls Try.prog 58 #[.pointer (some ⟨cb, 0, none⟩), .slice ax m c] w fun e w' => e = .returned (.tuple #[]) ∧ Cu W w' cb (l ++ news) := by
  obtain ⟨a, cap, hB, hI, h1, h2, hab, hX, hW⟩ := h
  subst hm
  have c0 := hB.cell 0 _ rfl
  have n0 := hB.lt
  have HI := Lib.hid hI
  have HN := Lib.hid hn
  clear hI hn
  go_enter Try.func58, Try.ntmps58
  go_wp2_with (at_builtin; refine wpList_append_ints _ rfl _ _ _ rfl 2 Try.underlying25 Try.infoI a l.length cap l rfl rfl HI.out h1 h2 ax news.length c news rfl rfl HN.out (by omega) ?_)
  intro a' cap' w1 hI1 hle hm hw
  have hB1 : Bx w1 cb [.slice a l.length cap, .int .i64 0] := hB.of_block (hw.block cb hB.lt (fun hm => by have := hab cb hm; omega))
  have c1 := hB1.cell 0 _ rfl
  have f1 := hB1.fr
  have n1 := hB1.lt
  have X1 : Ext W w1 := hw.ext hX (fun b hb => by have := hab b hb; omega)
  have hab' : ∀ b ∈ ablk a', cb < b := fun b hb => by
    rcases hw.mem hb with h | ⟨h, _⟩
    · exact hab b h
    · omega
  clear c0 n0
  have HI1 := Lib.hid hI1
  have HAB := Lib.hid hab'
  clear hI1 hab hab'
  go_wp2
  go_end0
  refine ⟨rfl, a', cap', by rw [List.length_append]; exact Bx.set20 hB1 _, SlAt.frame HI1.out (fun b hb => Below.heap_setCell _ _ _ _ (by have := HAB.out b hb; simp; omega)), by rw [List.length_append]; exact hle, hm, HAB.out, Ext.pSet X1 hW _, hW⟩

set_option maxHeartbeats 1600000 in
set_option maxRecDepth 20000 in
theorem implPacked_c (v : Value) (rows : List (List Int)) (w : World) (h : rowsC.V w [v] rows) :
    Calls Try.prog 27 #[v] w fun e w' => ∃ v', e = .returned v' ∧ Ext w w' ∧ rowC.own w.heap.size w'.heap.size w' [v'] (packed rows) := by
  obtain ⟨a, cap, rfl, h1, h2, hc⟩ := slice_open1 (R := rowC) rfl h
  clear h
  go_enter Try.func27, Try.ntmps27
  go_wp2_with fail
  refine (put_c w w.heap.size [] [(rows.length : Int)] _ 1 _ ((w.alloc (.cells #[.slice none 0 0, .int .i64 0] 68)).alloc (.cells #[.int .i64 (rows.length : Int)] 2)) ⟨none, 0, (by show Bx _ w.heap.size [.slice none 0 0, .int .i64 0]; repeat (first | with_reducible assumption | with_reducible exact Bx.new _ _ _ _ rfl | ((with_reducible refine Bx.new _ _ _ _ ?_); simp; done) | with_reducible refine Bx.pAlloc ?_ _ | with_reducible refine Bx.pDrew ?_ | with_reducible refine Bx.pDrewN ?_ _ | with_reducible apply Bx.set10 | with_reducible apply Bx.set20 | with_reducible apply Bx.set21 | with_reducible apply Bx.set30 | with_reducible apply Bx.set31 | with_reducible apply Bx.set32 | with_reducible apply Bx.set40 | with_reducible apply Bx.set41 | with_reducible apply Bx.set42 | with_reducible apply Bx.set43 | ((with_reducible refine Bx.set_other ?_ ?_ _); rotate_left; (simp <;> omega)))), .inl ⟨rfl, rfl, rfl⟩, Nat.le_refl _, by omega, by simp [ablk], by repeat (first | with_reducible exact Ext.refl _ | with_reducible assumption | with_reducible refine Ext.pAlloc ?_ _ | ((with_reducible refine Ext.pSet ?_ ?_ _); rotate_left; (simp <;> omega)) | with_reducible refine Ext.pDrew ?_ | with_reducible refine Ext.pDrewN ?_ _), Nat.le_refl _⟩ rfl (CellsAt.litAt _ _ _ _ (by simp)) (by simp)).mono ?_
  rintro e w1 ⟨rfl, hC1⟩
  have HC1 : Cu w w1 w.heap.size (packK rows 0) := hC1
  clear hC1
  go_wp2
  go_loopw [5, 15] (fun _ i wr => ∃ k : Nat, k ≤ rows.length ∧ i = .int .i64 k ∧ Cu w wr w.heap.size (packK rows k) ∧ Hid ((rows.take k).all rowOk = true) ∧ Hid ((packK rows k).length ≤ 97)) (fun _ i _ => rows.length - (intOf i).toNat)
  case atStart => exact ⟨0, Nat.zero_le _, rfl, HC1, rfl, by simp [Hid, packK]⟩
  case round =>
    clear HC1
    obtain ⟨k, hk, rfl, hC, Hp, Hl⟩ := hrel
    obtain ⟨ca, cc, hB, hI, hcc, hcm, hab, X, hW⟩ := hC
    have HI := Lib.hid hI
    have c0 := hB.cell 0 _ rfl
    have n0 := hB.lt
    by_cases hlt : k < rows.length
    · obtain ⟨b, off, x, u, rfl, hx, hv, hcell⟩ := hc k hlt
      clear hc
      obtain ⟨xa, xc, rfl⟩ := u_slice hv
      have hcw := cell_ext hcell X
      have HV := Lib.hid (rowC.vext hv X)
      have HV0 := Lib.hid hv
      have hmem := List.mem_of_getElem? hx.out
      clear hcell hv
      cases hr : rowOk x
      · have Hr := Lib.hid hr
        clear hr hI
        go_wp2_with fail
        refine (implRowOk_c _ x _ HV.out).mono ?_
        rw [Hr.out]
        rintro e w' ⟨rfl, rfl⟩
        go_wp2
        go_ret
        exact ⟨_, rfl, X, by rw [packed_no hmem Hr.out]; exact row_nil _ _ _⟩
      · have Hr := Lib.hid hr
        have hxl := rowOk_len hr
        by_cases hln : 48 < (packK rows k).length
        · have Hln := Lib.hid hln
          have hd : decide ((48 : Int) < (packK rows k).length) = true := by rw [decide_eq_true_iff]; omega
          clear hr hI hln
          go_wp2_with fail
          refine (implRowOk_c _ x _ HV.out).mono ?_
          rw [Hr.out]
          rintro e w' ⟨rfl, rfl⟩
          go_wp2
          go_ret
          exact ⟨_, rfl, X, by rw [packed_long Hln.out]; exact row_nil _ _ _⟩
        · have hd : decide ((48 : Int) < (packK rows k).length) = false := by rw [decide_eq_false_iff_not]; omega
          have hnl : (packK rows k).length ≤ 48 := by omega
          have hsn := Lib.hid (packK_snoc hx)
          clear hr hI hln
          go_wp2_with fail
          refine (implRowOk_c _ x _ HV.out).mono ?_
          rw [Hr.out]
          rintro e w' ⟨rfl, rfl⟩
          go_wp2_with fail
          refine (put_c w w.heap.size (packK rows k) [(x.length : Int)] _ 1 _ _ ⟨ca, cc, hB.ext (Ext.alloc _ _), ISl.ext HI.out (Ext.alloc _ _), hcc, hcm, hab, X.trans (Ext.alloc _ _), hW⟩ rfl (CellsAt.lit _ _ _) (by simp; omega)).mono ?_
          rintro e w2 ⟨rfl, hC2⟩
          have HC2 := Lib.hid hC2
          obtain ⟨_, _, _, _, _, _, _, X2, _⟩ := hC2
          clear hB HI hab hd c0 n0
          go_wp2_with fail
          refine (put_c w w.heap.size _ x xa x.length xc _ HC2.out rfl (row_cellsAt (rowC.vext HV0.out X2)) (by simp; omega)).mono ?_
          rintro e w3 ⟨rfl, hC3⟩
          have HC3 := Lib.hid hC3
          clear hC3 HC2 X2
          go_wp2
          go_roundw
          case rel =>
            refine ⟨k + 1, by omega, by go_num, ?_, all_take hx Hp.out Hr.out, ?_⟩
            · have := HC3.out
              rw [List.append_assoc] at this
              rw [hsn.out]; exact this
            · show (packK rows (k + 1)).length ≤ 97
              rw [hsn.out]; simp; omega
          case measure => simp [intOf]; omega
    · have he : k = rows.length := by omega
      subst he
      have hall := Hp.out
      rw [List.take_length] at hall
      have Hall := Lib.hid hall
      have HV := Lib.hid (ISl.rowV HI.out hcc hcm)
      have Hown := Lib.hid (row_own.2 ⟨ca, cc, rfl, hcc, hcm, HI.out, fun b hb => (⟨by have := hab b hb; omega, SlAt.lt HI.out b hb⟩ : w.heap.size ≤ b ∧ b < wr.heap.size)⟩)
      clear hall hc hlt hab
      by_cases hln : (packK rows rows.length).length ≤ 48
      · have Hok := Lib.hid (packK_ok Hall.out hln)
        have Hpk := Lib.hid (packed_yes Hall.out hln)
        clear hln
        go_wp2_with fail
        refine (implRowOk_c _ _ _ HV.out).mono ?_
        rw [Hok.out]
        rintro e w' ⟨rfl, rfl⟩
        go_wp2
        go_ret
        exact ⟨_, rfl, X, by rw [Hpk.out]; exact Hown.out⟩
      · have Hok := Lib.hid (rowOk_long hln)
        have Hpk := Lib.hid (packed_long (rows := rows) (k := rows.length) (by omega))
        clear hln
        go_wp2_with fail
        refine (implRowOk_c _ _ _ HV.out).mono ?_
        rw [Hok.out]
        rintro e w' ⟨rfl, rfl⟩
        go_wp2
        go_ret
        exact ⟨_, rfl, X, by rw [Hpk.out]; exact row_nil _ _ _⟩

set_option maxHeartbeats 1600000 in
set_option maxRecDepth 20000 in
theorem specPacked_c (v : Value) (rows : List (List Int)) (w : World) (h : rowsC.V w [v] rows) :
    Calls Try.prog 25 #[v] w fun e w' => ∃ v', e = .returned v' ∧ Ext w w' ∧ rowC.own w.heap.size w'.heap.size w' [v'] (packed rows) := by
  obtain ⟨a, cap, rfl, h1, h2, hc⟩ := slice_open1 (R := rowC) rfl h
  clear h
  by_cases hm : 48 ≤ rows.length
  · have Hm := Lib.hid (packed_many hm)
    have hd : decide ((48 : Int) ≤ rows.length) = true := by rw [decide_eq_true_iff]; omega
    clear hm hc
    go_enter Try.func25, Try.ntmps25
    go_wp2
    go_ret
    exact ⟨_, rfl, Ext.alloc _ _, by rw [Hm.out]; exact row_empty _ _ _ (Nat.le_refl _)⟩
  · have hd : decide ((48 : Int) ≤ rows.length) = false := by rw [decide_eq_false_iff_not]; omega
    have hm' : rows.length ≤ 47 := by omega
    clear hm
    go_enter Try.func25, Try.ntmps25
    go_wp2
    go_loopw [3, 4] (fun o i wr => ∃ (k : Nat) (oa : Option Addr) (oc : Nat), k ≤ rows.length ∧ i = .int .i64 k ∧ o = .slice oa (packK rows k).length oc ∧ ISl wr oa oc (packK rows k) ∧ (packK rows k).length ≤ oc ∧ oc ≤ 9223372036854775807 ∧ Hid (∀ b ∈ ablk oa, w.heap.size ≤ b) ∧ Hid ((rows.take k).all rowOk = true) ∧ (packK rows k).length ≤ 48 ∧ Ext w wr) (fun _ i _ => rows.length - (intOf i).toNat)
    case atStart => exact ⟨0, _, 1, Nat.zero_le _, rfl, rfl, ISl.lit _ [(rows.length : Int)] _ _ rfl, Nat.le_refl _, by omega, by simp [Hid, ablk], rfl, by simp [packK], Ext.alloc _ _⟩
    case round =>
      obtain ⟨k, oa, oc, hk, rfl, rfl, hI, hoc, hom, hab, Hp, hln, X⟩ := hrel
      have HI := Lib.hid hI
      clear hI
      by_cases hlt : k < rows.length
      · obtain ⟨b, off, x, u, rfl, hx, hv, hcell⟩ := hc k hlt
        clear hc
        obtain ⟨xa, xc, rfl⟩ := u_slice hv
        have hcw := cell_ext hcell X
        have HV := Lib.hid (rowC.vext hv X)
        have HV0 := Lib.hid hv
        have hmem := List.mem_of_getElem? hx.out
        have hi1 : (0 : Int) ≤ k := by omega
        have hi2 : (k : Int) < rows.length := by omega
        have hcell0 := hcell
        clear hv
        have nb := World.block_lt_of_cell? _ _ hcw
        cases hr : rowOk x
        · have Hr := Lib.hid hr
          clear hr
          go_wp2_with fail
          refine (specRowOk_c _ x _ HV.out).mono ?_
          rw [Hr.out]
          rintro e w' ⟨rfl, rfl⟩
          go_wp2
          go_ret
          exact ⟨_, rfl, X.trans (Ext.alloc _ _), by rw [packed_no hmem Hr.out]; exact row_empty _ _ _ X.size⟩
        · have Hr := Lib.hid hr
          have hxl := rowOk_len hr
          clear hr
          have hsn := Lib.hid (packK_snoc hx)
          by_cases hlong : 48 < (packK rows k).length + 1 + x.length
          · have hg : decide ((48 : Int) < ((packK rows k).length : Int) + 1 + x.length) = true := by rw [decide_eq_true_iff]; omega
            have Hlong := Lib.hid (show packed rows = [] from packed_long (k := k + 1) (by rw [hsn.out]; simp; omega))
            go_wp2_with fail
            refine (specRowOk_c _ x _ HV.out).mono ?_
            rw [Hr.out]
            rintro e w' ⟨rfl, rfl⟩
            go_wp2
            go_ret
            exact ⟨_, rfl, X.trans (Ext.alloc _ _), by rw [Hlong.out]; exact row_empty _ _ _ X.size⟩
          · have hg : decide ((48 : Int) < ((packK rows k).length : Int) + 1 + x.length) = false := by rw [decide_eq_false_iff_not]; omega
            go_wp2_with fail
            refine (specRowOk_c _ x _ HV.out).mono ?_
            rw [Hr.out]
            rintro e w' ⟨rfl, rfl⟩
            go_wp2_with (at_builtin; refine wpList_append_ints _ rfl _ _ _ rfl 2 Try.underlying25 Try.infoI oa _ oc (packK rows k) rfl rfl (HI.out.ext (Ext.alloc _ _)) hoc hom _ 1 _ [(x.length : Int)] rfl rfl (CellsAt.lit _ _ _) (by omega) ?_)
            intro a2 c2 w2 hI2 hle2 hm2 hA2
            have HI2 := Lib.hid hI2
            have X2 : Ext w w2 := hA2.ext (X.trans (Ext.alloc _ _)) (fun b hb => hab.out b hb)
            have hcw2 := cell_ext hcell0 X2
            have hab2 : Hid (∀ b ∈ ablk a2, w.heap.size ≤ b) := fun b hb => by
              rcases hA2.mem hb with h | ⟨h, _⟩
              · exact hab.out b h
              · have := X.size; simp at h; omega
            clear hI2 hcw HI hA2
            go_wp2_with (at_builtin; refine wpList_append_ints _ rfl _ _ _ rfl 2 Try.underlying25 Try.infoI a2 _ c2 (packK rows k ++ [(x.length : Int)]) rfl (by simp) HI2.out (by simpa using hle2) hm2 xa x.length xc x rfl rfl (row_cellsAt (rowC.vext HV0.out X2)) (by omega) ?_)
            intro a3 c3 w3 hI3 hle3 hm3 hA3
            have HI3 := Lib.hid hI3
            have X3 : Ext w w3 := hA3.ext X2 (fun b hb => hab2.out b hb)
            have hab3 : Hid (∀ b ∈ ablk a3, w.heap.size ≤ b) := fun b hb => by
              rcases hA3.mem hb with h | ⟨h, _⟩
              · exact hab2.out b h
              · have := X2.size; omega
            clear hI3 HI2 hA3
            go_wp2
            go_roundw
            case rel =>
              have e := hsn.out
              have e1 : (packK rows (k + 1)).length = (packK rows k).length + 1 + x.length := by rw [e]; simp; omega
              refine ⟨k + 1, a3, c3, by omega, by go_num, by rw [e1], by rw [e]; have := HI3.out; simpa using this, by omega, hm3, hab3, all_take hx Hp.out Hr.out, by omega, X3⟩
            case measure => simp [intOf]; omega
      · have he : k = rows.length := by omega
        subst he
        have hall := Hp.out
        rw [List.take_length] at hall
        have Hpk := Lib.hid (packed_yes hall hln)
        clear hall hc hlt
        go_wp2
        go_ret
        refine ⟨_, rfl, X, ?_⟩
        rw [Hpk.out]
        exact row_own.2 ⟨oa, oc, rfl, hoc, hom, HI.out, fun b hb => ⟨hab.out b hb, SlAt.lt HI.out b hb⟩⟩

end Go.Proofs.Ytdkhghnhggedbaa

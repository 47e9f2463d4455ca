/- Two disks: the reference's crash. -/
import Derived.Test.YtbapomhoipdanaaTw2
set_option linter.unusedVariables false
set_option linter.unusedSimpArgs false
namespace Go.Proofs.Ytbapomhoipdanaa
open Go.RowKit Go.Sl

set_option maxHeartbeats 1600000 in
theorem l4Fates_c (fv : Value) (fates : List Int) (p : Nat) (hp : p < 2) (w : World) (h : rowC.V w [fv] fates) (hsz : fates.length ≤ 4194304) :
    Calls Try.prog 71 #[fv, .int .i64 (p : Int)] w fun e w' => ∃ v m, e = .returned v ∧ Ext w w' ∧ (fates.length ≤ m ∨ m = p + 120) ∧ rowC.own w.heap.size w'.heap.size w' [v] (altK p fates m) := by
  obtain ⟨fa, fc, rfl, f1, f2, hfc⟩ := row_open h
  clear h
  have hp1 : (p : Int) ≤ 1 := by omega
  go_enter Try.func71, Try.ntmps71
  go_wp2
  go_loopw [5, 6] (fun o i wr => ∃ (j : Nat) (oa : Option Addr) (oc : Nat), j ≤ 60 ∧ i = .int .i64 ((p : Int) + 2 * j) ∧ (j = 0 ∨ p + 2 * j ≤ fates.length + 1) ∧ o = .slice oa j oc ∧ ISl wr oa oc (altK p fates (p + 2 * j)) ∧ j ≤ oc ∧ oc ≤ 9223372036854775807 ∧ Hid (∀ b ∈ ablk oa, w.heap.size ≤ b) ∧ Ext w wr) (fun o _ _ => 60 - (match o with | .slice _ k _ => k | _ => 0))
  case atStart =>
    refine ⟨0, _, 0, by omega, valI (by omega), .inl rfl, rfl, ?_, Nat.le_refl _, by omega, by simp [Hid, ablk], Ext.alloc _ _⟩
    have e : altK p fates (p + 2 * 0) = [] := List.eq_nil_of_length_eq_zero (by rw [altK_len p hp]; omega)
    rw [e]
    exact ISl.lit w [] #[] _ rfl
  case round =>
    obtain ⟨j, oa, oc, hj, rfl, hlast, rfl, hI, hoc, hom, hab, X⟩ := hrel
    have HI := Lib.hid hI
    clear hI
    have hl := altK_len p hp fates (p + 2 * j)
    have Hl := Lib.hid (show (altK p fates (p + 2 * j)).length = j by rw [hl]; omega)
    clear hl
    by_cases hin : p + 2 * j < fates.length
    · have hd1 : decide ((p : Int) + 2 * j < fates.length) = true := by rw [decide_eq_true_iff]; omega
      by_cases hj60 : j < 60
      · obtain ⟨b, off, x, rfl, hcell, hx⟩ := hfc (p + 2 * j) hin
        clear hfc
        have hd2 : decide ((j : Int) < 60) = true := by rw [decide_eq_true_iff]; omega
        have hcw := cell_ext hcell X
        have nb := World.block_lt_of_cell? _ _ hcw
        obtain ⟨q, hq⟩ : ∃ q : Nat, q = p + 2 * j := ⟨_, rfl⟩
        have hqi : (p : Int) + 2 * j = q := by omega
        rw [← hq] at hcw hx
        rw [hqi] at hd1 ⊢
        have hi1 : (0 : Int) ≤ q := by omega
        have hi2 : (q : Int) < fates.length := by omega
        have hsn := Lib.hid (show altK p fates (p + 2 * (j + 1)) = altK p fates (p + 2 * j) ++ [x] by
          rw [show p + 2 * (j + 1) = (p + 2 * j + 1) + 1 by omega, altK, if_neg (by omega), altK, if_pos (by omega), List.getD_eq_getElem?_getD, ← hq, hx.out]; rfl)
        have Hqi := Lib.hid hqi
        have Hq := Lib.hid hq
        clear hqi hq hcell
        go_wp2_with (at_builtin; refine wpList_append_ints _ rfl _ _ _ rfl 2 Try.underlying44 Try.infoI oa j oc (altK p fates (p + 2 * j)) rfl Hl.out (HI.out.ext (Ext.alloc _ _)) hoc hom _ 1 _ [x] rfl rfl (CellsAt.lit _ _ _) (by omega) ?_)
        intro a2 c2 w2 hI2 hle2 hm2 hA2
        have HI2 := Lib.hid hI2
        have X2 : Ext w w2 := hA2.ext (X.trans (Ext.alloc _ _)) (fun b hb => hab.out b hb)
        have hab2 : Hid (∀ b ∈ ablk a2, w.heap.size ≤ b) := fun b hb => by
          rcases hA2.mem hb with h | ⟨h, _⟩
          · exact hab.out b h
          · have := X.size; simp at h; omega
        clear hI2 HI hA2
        go_wp2
        go_roundw
        case rel => exact ⟨j + 1, a2, c2, by omega, valI (by have := Hqi.out; push_cast; omega), .inr (by have := Hq.out; omega), rfl, by rw [hsn.out]; exact HI2.out, hle2, hm2, hab2, X2⟩
        case measure => simp; omega
      · have hd2 : decide ((j : Int) < 60) = false := by rw [decide_eq_false_iff_not]; omega
        clear hfc
        go_wp2
        go_ret
        refine ⟨.slice oa j oc, p + 2 * j, rfl, X, .inr (by omega), row_own.2 ⟨oa, oc, by rw [Hl.out], by rw [Hl.out]; exact hoc, hom, HI.out, fun b hb => ⟨hab.out b hb, SlAt.lt HI.out b hb⟩⟩⟩
    · have hd1 : decide ((p : Int) + 2 * j < fates.length) = false := by rw [decide_eq_false_iff_not]; omega
      clear hfc
      go_wp2
      go_ret
      refine ⟨.slice oa j oc, p + 2 * j, rfl, X, .inl (by omega), row_own.2 ⟨oa, oc, by rw [Hl.out], by rw [Hl.out]; exact hoc, hom, HI.out, fun b hb => ⟨hab.out b hb, SlAt.lt HI.out b hb⟩⟩⟩

set_option maxHeartbeats 6400000 in
set_option maxRecDepth 20000 in
theorem specBothFallen_c (cs : List Value) (m : TwoD) (rv : Value) (fates : List Int) (w : World) (h : twoC.V w cs m) (hrow : rowC.V w [rv] fates) (hsz : fates.length ≤ 4194304) :
    Calls Try.prog 30 #[.agg cs.toArray, rv] w fun e w' => ∃ u v u' v', e = .returned (.agg #[u, v, u', v']) ∧ Ext w w' ∧ twoC.own w.heap.size w'.heap.size w' [u, v, u', v'] (bothFallen m fates) := by
  obtain ⟨u, v, u', v', rfl, hu, hv⟩ := two_V.1 h
  have HT := Lib.hid h
  obtain ⟨d, d'⟩ := m
  simp only at hu hv
  obtain ⟨⟨ua, uc, rfl⟩, va, vc, rfl⟩ := disk_forms hu
  obtain ⟨⟨ua', uc', rfl⟩, va', vc', rfl⟩ := disk_forms hv
  have H := Lib.hid (And.intro hu hv); clear hu hv h
  obtain ⟨ra, rc, rfl⟩ := u_slice hrow
  have HR := Lib.hid hrow; clear hrow
  cases ht : twoOk (d, d')
  · have hr : bothFallen (d, d') fates = noTwo := by unfold bothFallen; rw [ht]; simp
    rw [hr]; clear hr
    have Ht := Lib.hid ht; clear ht
    go_enter Try.func30, Try.ntmps30
    go_wp2_with fail
    refine (specTwoOk_c _ (d, d') _ (twoC.vext HT.out (by repeat (first | with_reducible exact Ext.refl _ | with_reducible assumption | with_reducible refine Ext.pAlloc ?_ _ | ((with_reducible refine Ext.pSet ?_ ?_ _); rotate_left; (simp <;> omega)) | with_reducible refine Ext.pDrew ?_ | with_reducible refine Ext.pDrewN ?_ _)))).mono ?_
    rw [Ht.out]
    rintro e w1 ⟨rfl, Ew1⟩
    have Xw1 : Ext w w1 := Ext.trans (by repeat (first | with_reducible exact Ext.refl _ | with_reducible assumption | with_reducible refine Ext.pAlloc ?_ _ | ((with_reducible refine Ext.pSet ?_ ?_ _); rotate_left; (simp <;> omega)) | with_reducible refine Ext.pDrew ?_ | with_reducible refine Ext.pDrewN ?_ _)) Ew1
    have zw1 : w.heap.size + 1 + 1 ≤ w1.heap.size := by have := Ew1.size; (try simp at this); omega
    have B_t' : Bx w1 w.heap.size [.slice ua d.1.length uc, .slice va d.2.length vc, .slice ua' d'.1.length uc', .slice va' d'.2.length vc'] := Bx.ext (by repeat (first | with_reducible assumption | with_reducible exact Bx.new _ _ _ _ rfl | ((with_reducible refine Bx.new _ _ _ _ ?_); simp; done) | with_reducible refine Bx.pAlloc ?_ _ | with_reducible refine Bx.pDrew ?_ | with_reducible refine Bx.pDrewN ?_ _ | with_reducible apply Bx.set10 | with_reducible apply Bx.set20 | with_reducible apply Bx.set21 | with_reducible apply Bx.set30 | with_reducible apply Bx.set31 | with_reducible apply Bx.set32 | with_reducible apply Bx.set40 | with_reducible apply Bx.set41 | with_reducible apply Bx.set42 | with_reducible apply Bx.set43 | ((with_reducible refine Bx.set_other ?_ ?_ _); rotate_left; (simp <;> omega)))) Ew1
    have B_r' : Bx w1 (w.heap.size + 1) [.slice none 0 0, .slice none 0 0, .slice none 0 0, .slice none 0 0] := Bx.ext (by repeat (first | with_reducible assumption | with_reducible exact Bx.new _ _ _ _ rfl | ((with_reducible refine Bx.new _ _ _ _ ?_); simp; done) | with_reducible refine Bx.pAlloc ?_ _ | with_reducible refine Bx.pDrew ?_ | with_reducible refine Bx.pDrewN ?_ _ | with_reducible apply Bx.set10 | with_reducible apply Bx.set20 | with_reducible apply Bx.set21 | with_reducible apply Bx.set30 | with_reducible apply Bx.set31 | with_reducible apply Bx.set32 | with_reducible apply Bx.set40 | with_reducible apply Bx.set41 | with_reducible apply Bx.set42 | with_reducible apply Bx.set43 | ((with_reducible refine Bx.set_other ?_ ?_ _); rotate_left; (simp <;> omega)))) Ew1
    have B_t := B_t'; clear B_t'
    have B_r := B_r'; clear B_r'
    clear Ew1
    have c_t_0 := B_t.cell 0 _ rfl
    have c_t_1 := B_t.cell 1 _ rfl
    have c_t_2 := B_t.cell 2 _ rfl
    have c_t_3 := B_t.cell 3 _ rfl
    have n_t := B_t.lt
    have c_r_0 := B_r.cell 0 _ rfl
    have c_r_1 := B_r.cell 1 _ rfl
    have c_r_2 := B_r.cell 2 _ rfl
    have c_r_3 := B_r.cell 3 _ rfl
    have n_r := B_r.lt
    have f_r := B_r.fr
    go_wp2
    refine bodyPost_ret (v := .agg #[.slice none 0 0, .slice none 0 0, .slice none 0 0, .slice none 0 0]) (by simp [results, Try.results30, go_sem, c_r_0, c_r_1, c_r_2, c_r_3, n_r]) rfl ⟨_, _, _, _, rfl, ?_, ?_⟩
    · repeat (first | with_reducible exact Ext.refl _ | with_reducible assumption | with_reducible refine Ext.pAlloc ?_ _ | ((with_reducible refine Ext.pSet ?_ ?_ _); rotate_left; (simp <;> omega)) | with_reducible refine Ext.pDrew ?_ | with_reducible refine Ext.pDrewN ?_ _)
    · exact prod_own (c := [_, _]) (d := [_, _]) (mid := w.heap.size) (prod_own (c := [_]) (d := [_]) (mid := w.heap.size) (sl_nil _ _ _) (sl_nil _ _ _) (Nat.le_refl _) (Nat.le_refl _)) (prod_own (c := [_]) (d := [_]) (mid := w.heap.size) (sl_nil _ _ _) (sl_nil _ _ _) (Nat.le_refl _) (by first | (simp [World.setCell]; done) | (simp [World.setCell]; omega))) (Nat.le_refl _) (by first | (simp [World.setCell]; done) | (simp [World.setCell]; omega))
  · have hr : bothFallen (d, d') fates = (fallen d (altK 0 fates fates.length), fallen d' (altK 1 fates fates.length)) := by unfold bothFallen; rw [ht]; simp
    rw [hr]; clear hr
    have Ht := Lib.hid ht; clear ht
    go_enter Try.func30, Try.ntmps30
    go_wp2_with fail
    refine (specTwoOk_c _ (d, d') _ (twoC.vext HT.out (by repeat (first | with_reducible exact Ext.refl _ | with_reducible assumption | with_reducible refine Ext.pAlloc ?_ _ | ((with_reducible refine Ext.pSet ?_ ?_ _); rotate_left; (simp <;> omega)) | with_reducible refine Ext.pDrew ?_ | with_reducible refine Ext.pDrewN ?_ _)))).mono ?_
    rw [Ht.out]
    rintro e w1 ⟨rfl, Ew1⟩
    have Xw1 : Ext w w1 := Ext.trans (by repeat (first | with_reducible exact Ext.refl _ | with_reducible assumption | with_reducible refine Ext.pAlloc ?_ _ | ((with_reducible refine Ext.pSet ?_ ?_ _); rotate_left; (simp <;> omega)) | with_reducible refine Ext.pDrew ?_ | with_reducible refine Ext.pDrewN ?_ _)) Ew1
    have zw1 : w.heap.size + 1 + 1 ≤ w1.heap.size := by have := Ew1.size; (try simp at this); omega
    have B_t' : Bx w1 w.heap.size [.slice ua d.1.length uc, .slice va d.2.length vc, .slice ua' d'.1.length uc', .slice va' d'.2.length vc'] := Bx.ext (by repeat (first | with_reducible assumption | with_reducible exact Bx.new _ _ _ _ rfl | ((with_reducible refine Bx.new _ _ _ _ ?_); simp; done) | with_reducible refine Bx.pAlloc ?_ _ | with_reducible refine Bx.pDrew ?_ | with_reducible refine Bx.pDrewN ?_ _ | with_reducible apply Bx.set10 | with_reducible apply Bx.set20 | with_reducible apply Bx.set21 | with_reducible apply Bx.set30 | with_reducible apply Bx.set31 | with_reducible apply Bx.set32 | with_reducible apply Bx.set40 | with_reducible apply Bx.set41 | with_reducible apply Bx.set42 | with_reducible apply Bx.set43 | ((with_reducible refine Bx.set_other ?_ ?_ _); rotate_left; (simp <;> omega)))) Ew1
    have B_r' : Bx w1 (w.heap.size + 1) [.slice none 0 0, .slice none 0 0, .slice none 0 0, .slice none 0 0] := Bx.ext (by repeat (first | with_reducible assumption | with_reducible exact Bx.new _ _ _ _ rfl | ((with_reducible refine Bx.new _ _ _ _ ?_); simp; done) | with_reducible refine Bx.pAlloc ?_ _ | with_reducible refine Bx.pDrew ?_ | with_reducible refine Bx.pDrewN ?_ _ | with_reducible apply Bx.set10 | with_reducible apply Bx.set20 | with_reducible apply Bx.set21 | with_reducible apply Bx.set30 | with_reducible apply Bx.set31 | with_reducible apply Bx.set32 | with_reducible apply Bx.set40 | with_reducible apply Bx.set41 | with_reducible apply Bx.set42 | with_reducible apply Bx.set43 | ((with_reducible refine Bx.set_other ?_ ?_ _); rotate_left; (simp <;> omega)))) Ew1
    have B_t := B_t'; clear B_t'
    have B_r := B_r'; clear B_r'
    clear Ew1
    have c_t_0 := B_t.cell 0 _ rfl
    have c_t_1 := B_t.cell 1 _ rfl
    have c_t_2 := B_t.cell 2 _ rfl
    have c_t_3 := B_t.cell 3 _ rfl
    have n_t := B_t.lt
    have c_r_0 := B_r.cell 0 _ rfl
    have c_r_1 := B_r.cell 1 _ rfl
    have c_r_2 := B_r.cell 2 _ rfl
    have c_r_3 := B_r.cell 3 _ rfl
    have n_r := B_r.lt
    have f_r := B_r.fr
    go_wp2
    refine wp_region_T (S := fun ω => ω.cell? ⟨w.heap.size, 0, none⟩ = some (.slice ua d.1.length uc) ∧ ω.cell? ⟨w.heap.size, 1, none⟩ = some (.slice va d.2.length vc) ∧ ω.cell? ⟨w.heap.size, 2, none⟩ = some (.slice ua' d'.1.length uc') ∧ ω.cell? ⟨w.heap.size, 3, none⟩ = some (.slice va' d'.2.length vc') ∧ Bx ω (w.heap.size) [.slice ua d.1.length uc, .slice va d.2.length vc, .slice ua' d'.1.length uc', .slice va' d'.2.length vc'] ∧ Bx ω (w.heap.size + 1) [.slice none 0 0, .slice none 0 0, .slice none 0 0, .slice none 0 0] ∧ Ext w1 ω) 11 (by kernel_rfl) ?_ (fun hHeld => ?_) (by decide)
    · (try dsimp only); (refine ⟨?_, ?_, ?_, ?_, ?_, ?_, ?_⟩ <;> first | (simp [go_sem]; done) | (simp [*, go_sem]; done) | ((repeat (first | with_reducible assumption | with_reducible exact Bx.new _ _ _ _ rfl | ((with_reducible refine Bx.new _ _ _ _ ?_); simp; done) | with_reducible refine Bx.pAlloc ?_ _ | with_reducible refine Bx.pDrew ?_ | with_reducible refine Bx.pDrewN ?_ _ | with_reducible apply Bx.set10 | with_reducible apply Bx.set20 | with_reducible apply Bx.set21 | with_reducible apply Bx.set30 | with_reducible apply Bx.set31 | with_reducible apply Bx.set32 | with_reducible apply Bx.set40 | with_reducible apply Bx.set41 | with_reducible apply Bx.set42 | with_reducible apply Bx.set43 | ((with_reducible refine Bx.set_other ?_ ?_ _); rotate_left; (simp <;> omega)))); done) | ((repeat (first | with_reducible exact Ext.refl _ | with_reducible assumption | with_reducible refine Ext.pAlloc ?_ _ | ((with_reducible refine Ext.pSet ?_ ?_ _); rotate_left; (simp <;> omega)) | with_reducible refine Ext.pDrew ?_ | with_reducible refine Ext.pDrewN ?_ _)); done))
    refine wpT_take (i := 0) (v := ?_) rfl (by kernel_rfl) (by decide) (by kernel_rfl) (by kernel_rfl) (by kernel_rfl) (fun _ _ _ h => h) (Or.inl ⟨by rfl, ?_⟩) (by assumption) ?_
    rotate_left
    · intro w9 hSw; (try dsimp only at hSw); go_simp; (first | done | with_reducible rfl)
    (try simp only [List.getElem_toArray, List.getElem_cons_succ, List.getElem_cons_zero, Act.put, List.setIfInBounds_toArray, List.set_cons_zero, List.set_cons_succ])
    refine wpT_take (i := 1) (v := ?_) rfl (by kernel_rfl) (by decide) (by kernel_rfl) (by kernel_rfl) (by kernel_rfl) (fun _ _ _ h => h) (Or.inl ⟨by rfl, ?_⟩) (by assumption) ?_
    rotate_left
    · intro w9 hSw; (try dsimp only at hSw); go_simp; (first | done | with_reducible rfl)
    (try simp only [List.getElem_toArray, List.getElem_cons_succ, List.getElem_cons_zero, Act.put, List.setIfInBounds_toArray, List.set_cons_zero, List.set_cons_succ])
    refine wpT_take (i := 2) (v := ?_) rfl (by kernel_rfl) (by decide) (by kernel_rfl) (by kernel_rfl) (by kernel_rfl) (fun _ _ _ h => h) (Or.inl ⟨by rfl, ?_⟩) (by assumption) ?_
    rotate_left
    · intro w9 hSw; (try dsimp only at hSw); go_simp; (first | done | with_reducible rfl)
    (try simp only [List.getElem_toArray, List.getElem_cons_succ, List.getElem_cons_zero, Act.put, List.setIfInBounds_toArray, List.set_cons_zero, List.set_cons_succ])
    refine wpT_take (i := 5) (v := ?_) rfl (by kernel_rfl) (by decide) (by kernel_rfl) (by kernel_rfl) (by kernel_rfl) (fun _ _ _ h => h) (Or.inl ⟨by rfl, ?_⟩) (by assumption) ?_
    rotate_left
    · intro w9 hSw; (try dsimp only at hSw); go_simp; (first | done | with_reducible rfl)
    (try simp only [List.getElem_toArray, List.getElem_cons_succ, List.getElem_cons_zero, Act.put, List.setIfInBounds_toArray, List.set_cons_zero, List.set_cons_succ])
    refine wpT_take (i := 6) (v := ?_) rfl (by kernel_rfl) (by decide) (by kernel_rfl) (by kernel_rfl) (by kernel_rfl) (fun _ _ _ h => h) (Or.inl ⟨by rfl, ?_⟩) (by assumption) ?_
    rotate_left
    · intro w9 hSw; (try dsimp only at hSw); go_simp; (first | done | with_reducible rfl)
    (try simp only [List.getElem_toArray, List.getElem_cons_succ, List.getElem_cons_zero, Act.put, List.setIfInBounds_toArray, List.set_cons_zero, List.set_cons_succ])
    refine wpT_take (i := 7) (v := ?_) rfl (by kernel_rfl) (by decide) (by kernel_rfl) (by kernel_rfl) (by kernel_rfl) (fun _ _ _ h => h) (Or.inl ⟨by rfl, ?_⟩) (by assumption) ?_
    rotate_left
    · intro w9 hSw; (try dsimp only at hSw); go_simp; (first | done | with_reducible rfl)
    (try simp only [List.getElem_toArray, List.getElem_cons_succ, List.getElem_cons_zero, Act.put, List.setIfInBounds_toArray, List.set_cons_zero, List.set_cons_succ])
    refine wpT_step (i := 3) (by kernel_rfl) (by decide) rfl (fun K hK => ?_)
    go_simp
    refine (l4Fates_c _ fates 0 (by omega) _ (rowC.vext HR.out (Xw1.trans hHeld.2.2.2.2.2.2)) hsz).mono ?_
    rintro e wf ⟨v_f, m_f, rfl, Ef, hm_f, O_f⟩
    obtain ⟨sa_f, sc_f, rfl⟩ := u_slice O_f.view
    have Efw : Ext w1 wf := Ext.trans (by repeat (first | with_reducible exact Ext.refl _ | with_reducible assumption | with_reducible refine Ext.pAlloc ?_ _ | ((with_reducible refine Ext.pSet ?_ ?_ _); rotate_left; (simp <;> omega)) | with_reducible refine Ext.pDrew ?_ | with_reducible refine Ext.pDrewN ?_ _)) Ef
    have zwf : w1.heap.size ≤ wf.heap.size := Efw.size
    (try go_wp2_with fail)
    refine hK.out _ _ ?_ (fun hHeld2 => ?_)
    · (try dsimp only); (obtain ⟨s0, s1, s2, s3, s4, s5, s6⟩ := hHeld; exact ⟨cell_ext s0 Ef, cell_ext s1 Ef, cell_ext s2 Ef, cell_ext s3 Ef, Bx.ext s4 Ef, Bx.ext s5 Ef, s6.trans Ef⟩)
    clear hK K hHeld
    rename _ => hHeld
    (try simp only [List.getElem_toArray, List.getElem_cons_succ, List.getElem_cons_zero, Act.put, List.setIfInBounds_toArray, List.set_cons_zero, List.set_cons_succ])
    refine wpT_step (i := 4) (by kernel_rfl) (by decide) rfl (fun K hK => ?_)
    go_simp
    refine (specFallen_c _ d _ (altK 0 fates m_f) _ (diskC.vext H.out.1 (Xw1.trans hHeld.2.2.2.2.2.2)) O_f.view).mono ?_
    rw [fallen_alt (by omega) fates m_f hm_f]
    rintro e wa ⟨u_a, v_a, rfl, Ea, O_a⟩
    obtain ⟨⟨a_a, c_a, rfl⟩, b_a, e_a, rfl⟩ := disk_forms O_a.view
    have Eaw : Ext wf wa := Ext.trans (by repeat (first | with_reducible exact Ext.refl _ | with_reducible assumption | with_reducible refine Ext.pAlloc ?_ _ | ((with_reducible refine Ext.pSet ?_ ?_ _); rotate_left; (simp <;> omega)) | with_reducible refine Ext.pDrew ?_ | with_reducible refine Ext.pDrewN ?_ _)) Ea
    replace O_a := O_a.wide (lo' := wf.heap.size) (hi' := wa.heap.size) (by first | omega | (simp <;> omega)) (Nat.le_refl _)
    have zwa : wf.heap.size ≤ wa.heap.size := Eaw.size
    (try go_wp2_with fail)
    refine hK.out _ _ ?_ (fun hHeld2 => ?_)
    · (try dsimp only); (obtain ⟨s0, s1, s2, s3, s4, s5, s6⟩ := hHeld; exact ⟨cell_ext s0 Ea, cell_ext s1 Ea, cell_ext s2 Ea, cell_ext s3 Ea, Bx.ext s4 Ea, Bx.ext s5 Ea, s6.trans Ea⟩)
    clear hK K hHeld
    rename _ => hHeld
    (try simp only [List.getElem_toArray, List.getElem_cons_succ, List.getElem_cons_zero, Act.put, List.setIfInBounds_toArray, List.set_cons_zero, List.set_cons_succ])
    refine wpT_step (i := 8) (by kernel_rfl) (by decide) rfl (fun K hK => ?_)
    go_simp
    refine (l4Fates_c _ fates 1 (by omega) _ (rowC.vext HR.out (Xw1.trans hHeld.2.2.2.2.2.2)) hsz).mono ?_
    rintro e wg ⟨v_g, m_g, rfl, Eg, hm_g, O_g⟩
    obtain ⟨sa_g, sc_g, rfl⟩ := u_slice O_g.view
    have Egw : Ext wa wg := Ext.trans (by repeat (first | with_reducible exact Ext.refl _ | with_reducible assumption | with_reducible refine Ext.pAlloc ?_ _ | ((with_reducible refine Ext.pSet ?_ ?_ _); rotate_left; (simp <;> omega)) | with_reducible refine Ext.pDrew ?_ | with_reducible refine Ext.pDrewN ?_ _)) Eg
    have zwg : wa.heap.size ≤ wg.heap.size := Egw.size
    replace O_a := O_a.ext Egw
    (try go_wp2_with fail)
    refine hK.out _ _ ?_ (fun hHeld2 => ?_)
    · (try dsimp only); (obtain ⟨s0, s1, s2, s3, s4, s5, s6⟩ := hHeld; exact ⟨cell_ext s0 Eg, cell_ext s1 Eg, cell_ext s2 Eg, cell_ext s3 Eg, Bx.ext s4 Eg, Bx.ext s5 Eg, s6.trans Eg⟩)
    clear hK K hHeld
    rename _ => hHeld
    (try simp only [List.getElem_toArray, List.getElem_cons_succ, List.getElem_cons_zero, Act.put, List.setIfInBounds_toArray, List.set_cons_zero, List.set_cons_succ])
    refine wpT_step (i := 9) (by kernel_rfl) (by decide) rfl (fun K hK => ?_)
    go_simp
    refine (specFallen_c _ d' _ (altK 1 fates m_g) _ (diskC.vext H.out.2 (Xw1.trans hHeld.2.2.2.2.2.2)) O_g.view).mono ?_
    rw [fallen_alt (by omega) fates m_g hm_g]
    rintro e wb ⟨u_b, v_b, rfl, Eb, O_b⟩
    obtain ⟨⟨a_b, c_b, rfl⟩, b_b, e_b, rfl⟩ := disk_forms O_b.view
    have Ebw : Ext wg wb := Ext.trans (by repeat (first | with_reducible exact Ext.refl _ | with_reducible assumption | with_reducible refine Ext.pAlloc ?_ _ | ((with_reducible refine Ext.pSet ?_ ?_ _); rotate_left; (simp <;> omega)) | with_reducible refine Ext.pDrew ?_ | with_reducible refine Ext.pDrewN ?_ _)) Eb
    replace O_b := O_b.wide (lo' := wg.heap.size) (hi' := wb.heap.size) (by first | omega | (simp <;> omega)) (Nat.le_refl _)
    have zwb : wg.heap.size ≤ wb.heap.size := Ebw.size
    replace O_a := O_a.ext Ebw
    (try go_wp2_with fail)
    refine hK.out _ _ ?_ (fun hHeld2 => ?_)
    · (try dsimp only); (obtain ⟨s0, s1, s2, s3, s4, s5, s6⟩ := hHeld; exact ⟨cell_ext s0 Eb, cell_ext s1 Eb, cell_ext s2 Eb, cell_ext s3 Eb, Bx.ext s4 Eb, Bx.ext s5 Eb, s6.trans Eb⟩)
    clear hK K hHeld
    rename _ => hHeld
    (try simp only [List.getElem_toArray, List.getElem_cons_succ, List.getElem_cons_zero, Act.put, List.setIfInBounds_toArray, List.set_cons_zero, List.set_cons_succ])
    refine wpT_take (i := 10) (v := ?_) rfl (by kernel_rfl) (by decide) (by kernel_rfl) (by kernel_rfl) (by kernel_rfl) (fun _ _ _ h => h) (Or.inl ⟨by rfl, ?_⟩) (by assumption) ?_
    rotate_left
    · intro w9 hSw; (try dsimp only at hSw); go_simp; (first | done | with_reducible rfl)
    (try simp only [List.getElem_toArray, List.getElem_cons_succ, List.getElem_cons_zero, Act.put, List.setIfInBounds_toArray, List.set_cons_zero, List.set_cons_succ])
    refine wpT_last (by kernel_rfl) (by kernel_rfl) rfl (fun K hK => ?_)
    obtain ⟨e0, e1, e2, e3, e4, e5, e6⟩ := hHeld
    clear c_t_0 c_t_1 c_t_2 c_t_3 n_t c_r_0 c_r_1 c_r_2 c_r_3 n_r f_r e0 e1 e2 e3
    have c_r_0 := e5.cell 0 _ rfl
    have c_r_1 := e5.cell 1 _ rfl
    have c_r_2 := e5.cell 2 _ rfl
    have c_r_3 := e5.cell 3 _ rfl
    have f_r := e5.fr
    have n_r := e5.lt
    have X_l := Xw1.trans e6
    go_simp
    refine hK.out _ _ ?_
    clear hK K
    go_wp2
    refine bodyPost_ret (v := .agg #[.slice a_a (fallen d (altK 0 fates fates.length)).1.length c_a, .slice b_a (fallen d (altK 0 fates fates.length)).2.length e_a, .slice a_b (fallen d' (altK 1 fates fates.length)).1.length c_b, .slice b_b (fallen d' (altK 1 fates fates.length)).2.length e_b]) (by simp [results, Try.results30, go_sem, c_r_0, c_r_1, c_r_2, c_r_3, n_r]) rfl ⟨_, _, _, _, rfl, ?_, ?_⟩
    · repeat (first | with_reducible exact Ext.refl _ | with_reducible assumption | with_reducible refine Ext.pAlloc ?_ _ | ((with_reducible refine Ext.pSet ?_ ?_ _); rotate_left; (simp <;> omega)) | with_reducible refine Ext.pDrew ?_ | with_reducible refine Ext.pDrewN ?_ _)
    · exact Cd.own.wide (prod_own (c := [_, _]) (d := [_, _]) (mid := wa.heap.size) (lo := wf.heap.size) (hi := wb.heap.size) (by repeat (first | with_reducible assumption | with_reducible refine Cd.own.pAlloc ?_ _ | with_reducible refine Cd.own.pDrew ?_ | with_reducible refine Cd.own.pDrewN ?_ _ | ((with_reducible refine Cd.own.pSet ?_ ?_ _); rotate_left; (simp <;> omega)))) (Cd.own.wide (lo := wg.heap.size) (hi := wb.heap.size) (by repeat (first | with_reducible assumption | with_reducible refine Cd.own.pAlloc ?_ _ | with_reducible refine Cd.own.pDrew ?_ | with_reducible refine Cd.own.pDrewN ?_ _ | ((with_reducible refine Cd.own.pSet ?_ ?_ _); rotate_left; (simp <;> omega)))) (by omega) (Nat.le_refl _)) (by omega) (by omega)) (by omega) (by first | (simp [World.setCell]; done) | (simp [World.setCell]; omega))

end Go.Proofs.Ytbapomhoipdanaa

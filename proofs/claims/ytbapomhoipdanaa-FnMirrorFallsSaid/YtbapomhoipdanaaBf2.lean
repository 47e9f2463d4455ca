/- Two disks: the program's crash. -/
import Derived.Test.YtbapomhoipdanaaBf
set_option linter.unusedVariables false
set_option linter.unusedSimpArgs false
namespace Go.Proofs.Ytbapomhoipdanaa
open Go.RowKit Go.Sl

set_option maxHeartbeats 16000000 in
set_option maxRecDepth 20000 in
theorem implBothFallen_c (cs : List Value) (m : TwoD) (rv : Value) (fates : List Int) (w : World) (h : twoC.V w cs m) (hrow : rowC.V w [rv] fates) (hsz : fates.length ≤ 4194304) :
    Calls Try.prog 31 #[.agg cs.toArray, rv] w fun e w' => ∃ u v u' v', e = .returned (.agg #[u, v, u', v']) ∧ Ext w w' ∧ twoC.own w.heap.size w'.heap.size w' [u, v, u', v'] (bothFallen m fates) := by
  obtain ⟨u, v, u', v', rfl, hu, hv⟩ := two_V.1 h
  have HT := Lib.hid h
  obtain ⟨d, d'⟩ := m
  simp only at hu hv
  obtain ⟨⟨ua, uc, rfl⟩, va, vc, rfl⟩ := disk_forms hu
  obtain ⟨⟨ua', uc', rfl⟩, va', vc', rfl⟩ := disk_forms hv
  have H := Lib.hid (And.intro hu hv); clear hu hv h
  obtain ⟨fa, fc, rfl, f1, f2, hfc⟩ := row_open hrow
  clear hrow
  cases ht : twoOk (d, d')
  · have hr : bothFallen (d, d') fates = noTwo := by unfold bothFallen; rw [ht]; simp
    rw [hr]; clear hr hfc
    have Ht := Lib.hid ht; clear ht
    go_enter Try.func31, Try.ntmps31
    go_wp2_with fail
    refine (implTwoOk_c _ (d, d') _ (twoC.vext HT.out (by repeat (first | with_reducible exact Ext.refl _ | with_reducible assumption | with_reducible refine Ext.pAlloc ?_ _ | ((with_reducible refine Ext.pSet ?_ ?_ _); rotate_left; (simp <;> omega)) | with_reducible refine Ext.pDrew ?_ | with_reducible refine Ext.pDrewN ?_ _)))).mono ?_
    rw [Ht.out]
    rintro e w1 ⟨rfl, Ew1⟩
    have Xw1 : Ext w w1 := Ext.trans (by repeat (first | with_reducible exact Ext.refl _ | with_reducible assumption | with_reducible refine Ext.pAlloc ?_ _ | ((with_reducible refine Ext.pSet ?_ ?_ _); rotate_left; (simp <;> omega)) | with_reducible refine Ext.pDrew ?_ | with_reducible refine Ext.pDrewN ?_ _)) Ew1
    have zw1 : w.heap.size + 1 + 1 ≤ w1.heap.size := by have := Ew1.size; (try simp at this); omega
    have B_t' : Bx w1 w.heap.size [.slice ua d.1.length uc, .slice va d.2.length vc, .slice ua' d'.1.length uc', .slice va' d'.2.length vc'] := Bx.ext (by repeat (first | with_reducible assumption | with_reducible exact Bx.new _ _ _ _ rfl | ((with_reducible refine Bx.new _ _ _ _ ?_); simp; done) | with_reducible refine Bx.pAlloc ?_ _ | with_reducible refine Bx.pDrew ?_ | with_reducible refine Bx.pDrewN ?_ _ | with_reducible apply Bx.set10 | with_reducible apply Bx.set20 | with_reducible apply Bx.set21 | with_reducible apply Bx.set30 | with_reducible apply Bx.set31 | with_reducible apply Bx.set32 | with_reducible apply Bx.set40 | with_reducible apply Bx.set41 | with_reducible apply Bx.set42 | with_reducible apply Bx.set43 | ((with_reducible refine Bx.set_other ?_ ?_ _); rotate_left; (simp <;> omega)))) Ew1
    have B_r' : Bx w1 (w.heap.size + 1) [.slice none 0 0, .slice none 0 0, .slice none 0 0, .slice none 0 0] := Bx.ext (by repeat (first | with_reducible assumption | with_reducible exact Bx.new _ _ _ _ rfl | ((with_reducible refine Bx.new _ _ _ _ ?_); simp; done) | with_reducible refine Bx.pAlloc ?_ _ | with_reducible refine Bx.pDrew ?_ | with_reducible refine Bx.pDrewN ?_ _ | with_reducible apply Bx.set10 | with_reducible apply Bx.set20 | with_reducible apply Bx.set21 | with_reducible apply Bx.set30 | with_reducible apply Bx.set31 | with_reducible apply Bx.set32 | with_reducible apply Bx.set40 | with_reducible apply Bx.set41 | with_reducible apply Bx.set42 | with_reducible apply Bx.set43 | ((with_reducible refine Bx.set_other ?_ ?_ _); rotate_left; (simp <;> omega)))) Ew1
    have B_t := B_t'; clear B_t'
    have B_r := B_r'; clear B_r'
    clear Ew1
    have c_t_0 := B_t.cell 0 _ rfl
    have c_t_1 := B_t.cell 1 _ rfl
    have c_t_2 := B_t.cell 2 _ rfl
    have c_t_3 := B_t.cell 3 _ rfl
    have n_t := B_t.lt
    have c_r_0 := B_r.cell 0 _ rfl
    have c_r_1 := B_r.cell 1 _ rfl
    have c_r_2 := B_r.cell 2 _ rfl
    have c_r_3 := B_r.cell 3 _ rfl
    have n_r := B_r.lt
    have f_r := B_r.fr
    go_wp2
    refine bodyPost_ret (v := .agg #[.slice none 0 0, .slice none 0 0, .slice none 0 0, .slice none 0 0]) (by simp [results, Try.results31, go_sem, c_r_0, c_r_1, c_r_2, c_r_3, n_r]) rfl ⟨_, _, _, _, rfl, ?_, ?_⟩
    · repeat (first | with_reducible exact Ext.refl _ | with_reducible assumption | with_reducible refine Ext.pAlloc ?_ _ | ((with_reducible refine Ext.pSet ?_ ?_ _); rotate_left; (simp <;> omega)) | with_reducible refine Ext.pDrew ?_ | with_reducible refine Ext.pDrewN ?_ _)
    · exact prod_own (c := [_, _]) (d := [_, _]) (mid := w.heap.size) (prod_own (c := [_]) (d := [_]) (mid := w.heap.size) (sl_nil _ _ _) (sl_nil _ _ _) (Nat.le_refl _) (Nat.le_refl _)) (prod_own (c := [_]) (d := [_]) (mid := w.heap.size) (sl_nil _ _ _) (sl_nil _ _ _) (Nat.le_refl _) (by first | (simp [World.setCell]; done) | (simp [World.setCell]; omega))) (Nat.le_refl _) (by first | (simp [World.setCell]; done) | (simp [World.setCell]; omega))
  · have hr : bothFallen (d, d') fates = (fallen d (altK 0 fates fates.length), fallen d' (altK 1 fates fates.length)) := by unfold bothFallen; rw [ht]; simp
    rw [hr]; clear hr
    have Ht := Lib.hid ht; clear ht
    have hix0 : ∀ (w : World) (a b c e : Option Addr) (n1 m1 n2 m2 n3 m3 n4 m4 : Nat), (Instr.index 75 (.agg #[.slice a n1 m1, .slice b n2 m2, .slice c n3 m3, .slice e n4 m4]) (.int .i64 0)).run Try.prog w = .ok (.agg #[.slice a n1 m1, .slice b n2 m2]) w := fun _ _ _ _ _ _ _ _ _ _ _ _ _ => by kernel_rfl
    have hix1 : ∀ (w : World) (a b c e : Option Addr) (n1 m1 n2 m2 n3 m3 n4 m4 : Nat), (Instr.index 75 (.agg #[.slice a n1 m1, .slice b n2 m2, .slice c n3 m3, .slice e n4 m4]) (.int .i64 1)).run Try.prog w = .ok (.agg #[.slice c n3 m3, .slice e n4 m4]) w := fun _ _ _ _ _ _ _ _ _ _ _ _ _ => by kernel_rfl
    go_enter Try.func31, Try.ntmps31
    go_wp2_with fail
    refine (implTwoOk_c _ (d, d') _ (twoC.vext HT.out (by repeat (first | with_reducible exact Ext.refl _ | with_reducible assumption | with_reducible refine Ext.pAlloc ?_ _ | ((with_reducible refine Ext.pSet ?_ ?_ _); rotate_left; (simp <;> omega)) | with_reducible refine Ext.pDrew ?_ | with_reducible refine Ext.pDrewN ?_ _)))).mono ?_
    rw [Ht.out]
    rintro e w1 ⟨rfl, Ew1⟩
    have Xw1 : Ext w w1 := Ext.trans (by repeat (first | with_reducible exact Ext.refl _ | with_reducible assumption | with_reducible refine Ext.pAlloc ?_ _ | ((with_reducible refine Ext.pSet ?_ ?_ _); rotate_left; (simp <;> omega)) | with_reducible refine Ext.pDrew ?_ | with_reducible refine Ext.pDrewN ?_ _)) Ew1
    have zw1 : w.heap.size + 1 + 1 ≤ w1.heap.size := by have := Ew1.size; (try simp at this); omega
    have B_t' : Bx w1 w.heap.size [.slice ua d.1.length uc, .slice va d.2.length vc, .slice ua' d'.1.length uc', .slice va' d'.2.length vc'] := Bx.ext (by repeat (first | with_reducible assumption | with_reducible exact Bx.new _ _ _ _ rfl | ((with_reducible refine Bx.new _ _ _ _ ?_); simp; done) | with_reducible refine Bx.pAlloc ?_ _ | with_reducible refine Bx.pDrew ?_ | with_reducible refine Bx.pDrewN ?_ _ | with_reducible apply Bx.set10 | with_reducible apply Bx.set20 | with_reducible apply Bx.set21 | with_reducible apply Bx.set30 | with_reducible apply Bx.set31 | with_reducible apply Bx.set32 | with_reducible apply Bx.set40 | with_reducible apply Bx.set41 | with_reducible apply Bx.set42 | with_reducible apply Bx.set43 | ((with_reducible refine Bx.set_other ?_ ?_ _); rotate_left; (simp <;> omega)))) Ew1
    have B_r' : Bx w1 (w.heap.size + 1) [.slice none 0 0, .slice none 0 0, .slice none 0 0, .slice none 0 0] := Bx.ext (by repeat (first | with_reducible assumption | with_reducible exact Bx.new _ _ _ _ rfl | ((with_reducible refine Bx.new _ _ _ _ ?_); simp; done) | with_reducible refine Bx.pAlloc ?_ _ | with_reducible refine Bx.pDrew ?_ | with_reducible refine Bx.pDrewN ?_ _ | with_reducible apply Bx.set10 | with_reducible apply Bx.set20 | with_reducible apply Bx.set21 | with_reducible apply Bx.set30 | with_reducible apply Bx.set31 | with_reducible apply Bx.set32 | with_reducible apply Bx.set40 | with_reducible apply Bx.set41 | with_reducible apply Bx.set42 | with_reducible apply Bx.set43 | ((with_reducible refine Bx.set_other ?_ ?_ _); rotate_left; (simp <;> omega)))) Ew1
    have B_t := B_t'; clear B_t'
    have B_r := B_r'; clear B_r'
    clear Ew1
    have c_t_0 := B_t.cell 0 _ rfl
    have c_t_1 := B_t.cell 1 _ rfl
    have c_t_2 := B_t.cell 2 _ rfl
    have c_t_3 := B_t.cell 3 _ rfl
    have n_t := B_t.lt
    have c_r_0 := B_r.cell 0 _ rfl
    have c_r_1 := B_r.cell 1 _ rfl
    have c_r_2 := B_r.cell 2 _ rfl
    have c_r_3 := B_r.cell 3 _ rfl
    have n_r := B_r.lt
    have f_r := B_r.fr
    go_wp2
    have hz0 : w.heap.size + 1 + 1 ≤ w1.heap.size := zw1
    go_loopw [6, 7, 18] (fun _ _ i wr => ∃ (k : Nat) (a0 a1 : Option Addr) (c0 c1 : Nat), k ≤ fates.length ∧ i = .int .i64 k ∧ Bx wr w.heap.size [.slice ua d.1.length uc, .slice va d.2.length vc, .slice ua' d'.1.length uc', .slice va' d'.2.length vc'] ∧ Bx wr (w.heap.size + 1) [.slice none 0 0, .slice none 0 0, .slice none 0 0, .slice none 0 0] ∧ Bx wr w1.heap.size [.slice a0 (altK 0 fates k).length c0, .slice a1 (altK 1 fates k).length c1] ∧ ISl wr a0 c0 (altK 0 fates k) ∧ ISl wr a1 c1 (altK 1 fates k) ∧ ((altK 0 fates k).length ≤ c0 ∧ c0 ≤ 9223372036854775807) ∧ ((altK 1 fates k).length ≤ c1 ∧ c1 ≤ 9223372036854775807) ∧ Hid (∀ b ∈ ablk a0, w1.heap.size < b ∧ b ∉ ablk a1) ∧ Hid (∀ b ∈ ablk a1, w1.heap.size < b) ∧ Ext w wr ∧ w1.heap.size < wr.heap.size) (fun _ _ i _ => fates.length - (intOf i).toNat)
    case atStart => exact ⟨0, none, none, 0, 0, Nat.zero_le _, rfl, by repeat (first | with_reducible assumption | with_reducible exact Bx.new _ _ _ _ rfl | ((with_reducible refine Bx.new _ _ _ _ ?_); simp; done) | with_reducible refine Bx.pAlloc ?_ _ | with_reducible refine Bx.pDrew ?_ | with_reducible refine Bx.pDrewN ?_ _ | with_reducible apply Bx.set10 | with_reducible apply Bx.set20 | with_reducible apply Bx.set21 | with_reducible apply Bx.set30 | with_reducible apply Bx.set31 | with_reducible apply Bx.set32 | with_reducible apply Bx.set40 | with_reducible apply Bx.set41 | with_reducible apply Bx.set42 | with_reducible apply Bx.set43 | ((with_reducible refine Bx.set_other ?_ ?_ _); rotate_left; (simp <;> omega))), by repeat (first | with_reducible assumption | with_reducible exact Bx.new _ _ _ _ rfl | ((with_reducible refine Bx.new _ _ _ _ ?_); simp; done) | with_reducible refine Bx.pAlloc ?_ _ | with_reducible refine Bx.pDrew ?_ | with_reducible refine Bx.pDrewN ?_ _ | with_reducible apply Bx.set10 | with_reducible apply Bx.set20 | with_reducible apply Bx.set21 | with_reducible apply Bx.set30 | with_reducible apply Bx.set31 | with_reducible apply Bx.set32 | with_reducible apply Bx.set40 | with_reducible apply Bx.set41 | with_reducible apply Bx.set42 | with_reducible apply Bx.set43 | ((with_reducible refine Bx.set_other ?_ ?_ _); rotate_left; (simp <;> omega))), (by show Bx _ _ [.slice none 0 0, .slice none 0 0]; repeat (first | with_reducible assumption | with_reducible exact Bx.new _ _ _ _ rfl | ((with_reducible refine Bx.new _ _ _ _ ?_); simp; done) | with_reducible refine Bx.pAlloc ?_ _ | with_reducible refine Bx.pDrew ?_ | with_reducible refine Bx.pDrewN ?_ _ | with_reducible apply Bx.set10 | with_reducible apply Bx.set20 | with_reducible apply Bx.set21 | with_reducible apply Bx.set30 | with_reducible apply Bx.set31 | with_reducible apply Bx.set32 | with_reducible apply Bx.set40 | with_reducible apply Bx.set41 | with_reducible apply Bx.set42 | with_reducible apply Bx.set43 | ((with_reducible refine Bx.set_other ?_ ?_ _); rotate_left; (simp <;> omega)))), .inl ⟨rfl, rfl, rfl⟩, .inl ⟨rfl, rfl, rfl⟩, ⟨Nat.le_refl _, by omega⟩, ⟨Nat.le_refl _, by omega⟩, by simp [Hid, ablk], by simp [Hid, ablk], by repeat (first | with_reducible exact Ext.refl _ | with_reducible assumption | with_reducible refine Ext.pAlloc ?_ _ | ((with_reducible refine Ext.pSet ?_ ?_ _); rotate_left; (simp <;> omega)) | with_reducible refine Ext.pDrew ?_ | with_reducible refine Ext.pDrewN ?_ _), by simp⟩
    case round =>
      clear c_t_0 c_t_1 c_t_2 c_t_3 n_t c_r_0 c_r_1 c_r_2 c_r_3 n_r f_r B_t B_r Xw1
      obtain ⟨k, a0, a1, c0, c1, hk, rfl, B_t, B_r, B_s, hI0, hI1, hb0, hb1, hab0, hab1, X, hz⟩ := hrel
      have HI0 := Lib.hid hI0; have HI1 := Lib.hid hI1; clear hI0 hI1
      by_cases hlt : k < fates.length
      · obtain ⟨b, off, x, rfl, hcell, hx⟩ := hfc k hlt
        clear hfc
        have hcw := cell_ext hcell X
        have nb := World.block_lt_of_cell? _ _ hcw
        have hi1 : (0 : Int) ≤ k := by omega
        have hi2 : (k : Int) < fates.length := by omega
        have Xw1z := Lib.hid hz0
        clear hcell
        by_cases hpar : k % 2 = 0
        · have hm2 : ((k : Int) % 2) = 0 := by omega
          have c_s0 := B_s.cell 0 _ rfl
          have f_s := B_s.fr
          have n_s := B_s.lt
          have hsA := Lib.hid (show altK 0 fates (k + 1) = altK 0 fates k ++ [x] by rw [altK, if_pos (by omega), List.getD_eq_getElem?_getD, hx.out]; rfl)
          have hsB := Lib.hid (show altK 1 fates (k + 1) = altK 1 fates k by rw [altK, if_neg (by omega)])
          have hlA := altK_len 0 (by omega) fates k
          have hlA2 : (altK 0 fates k).length ≤ 4194304 := by omega
          clear hlA
          go_wp2_with (at_builtin; refine wpList_append_ints _ rfl _ _ _ rfl 2 Try.underlying44 Try.infoI a0 _ c0 (altK 0 fates k) rfl rfl (HI0.out.ext (Ext.alloc _ _)) hb0.1 hb0.2 _ 1 _ [x] rfl rfl (CellsAt.lit _ _ _) (by omega) ?_)
          intro a2 c2 w2 hI2 hle2 hm2' hA2
          have HI2 := Lib.hid hI2
          have X2 : Ext w w2 := hA2.ext (X.trans (Ext.alloc _ _)) (fun b hb => by have := (hab0.out b hb).1; have := Xw1z.out; omega)
          have hnb : ∀ b ∈ ablk a1, b ∉ ablk a0 := fun b h1 h2 => (hab0.out b h2).2 h1
          have HB := Lib.hid (SlAt.frame (SlAt.frame HI1.out (w' := wr.alloc (.cells #[.int .i64 x] 2)) (fun b hb => Below.heap_alloc _ _ _ (SlAt.lt HI1.out b hb))) (w' := w2) (fun b hb => hA2.block b (by have := SlAt.lt HI1.out b hb; simp; omega) (hnb b hb)))
          have hns : w1.heap.size ∉ ablk a0 := fun h => by have := (hab0.out _ h).1; omega
          have B_t2 : Bx w2 w.heap.size _ := (B_t.pAlloc _).of_block (hA2.block _ (B_t.pAlloc _).lt (fun h => by have := (hab0.out _ h).1; have := Xw1z.out; omega))
          have B_r2 : Bx w2 (w.heap.size + 1) _ := (B_r.pAlloc _).of_block (hA2.block _ (B_r.pAlloc _).lt (fun h => by have := (hab0.out _ h).1; have := Xw1z.out; omega))
          have B_s2 : Bx w2 w1.heap.size _ := (B_s.pAlloc _).of_block (hA2.block _ (B_s.pAlloc _).lt hns)
          have hz2 : wr.heap.size + 1 ≤ w2.heap.size := by have := hA2.size; simp at this; omega
          have hmem : ∀ b ∈ ablk a2, b ∈ ablk a0 ∨ wr.heap.size ≤ b := fun b hb => by
            rcases hA2.mem hb with h | ⟨h, _⟩
            · exact .inl h
            · right; simp at h; omega
          have HM := Lib.hid hmem
          have hltB : ∀ b ∈ ablk a1, b < wr.heap.size := fun b hb => SlAt.lt HI1.out b hb
          have HLB := Lib.hid hltB
          have HNB := Lib.hid hnb
          clear c_s0 f_s n_s hI2 hA2 hnb hns hmem hltB B_t B_r B_s
          have c_s0 := B_s2.cell 0 _ rfl
          have f_s := B_s2.fr
          have n_s := B_s2.lt
          go_wp2
          go_roundw
          case rel =>
            refine ⟨k + 1, a2, a1, c2, c1, by omega, by go_num, by repeat (first | with_reducible assumption | with_reducible exact Bx.new _ _ _ _ rfl | ((with_reducible refine Bx.new _ _ _ _ ?_); simp; done) | with_reducible refine Bx.pAlloc ?_ _ | with_reducible refine Bx.pDrew ?_ | with_reducible refine Bx.pDrewN ?_ _ | with_reducible apply Bx.set10 | with_reducible apply Bx.set20 | with_reducible apply Bx.set21 | with_reducible apply Bx.set30 | with_reducible apply Bx.set31 | with_reducible apply Bx.set32 | with_reducible apply Bx.set40 | with_reducible apply Bx.set41 | with_reducible apply Bx.set42 | with_reducible apply Bx.set43 | ((with_reducible refine Bx.set_other ?_ ?_ _); rotate_left; (simp <;> omega))), by repeat (first | with_reducible assumption | with_reducible exact Bx.new _ _ _ _ rfl | ((with_reducible refine Bx.new _ _ _ _ ?_); simp; done) | with_reducible refine Bx.pAlloc ?_ _ | with_reducible refine Bx.pDrew ?_ | with_reducible refine Bx.pDrewN ?_ _ | with_reducible apply Bx.set10 | with_reducible apply Bx.set20 | with_reducible apply Bx.set21 | with_reducible apply Bx.set30 | with_reducible apply Bx.set31 | with_reducible apply Bx.set32 | with_reducible apply Bx.set40 | with_reducible apply Bx.set41 | with_reducible apply Bx.set42 | with_reducible apply Bx.set43 | ((with_reducible refine Bx.set_other ?_ ?_ _); rotate_left; (simp <;> omega))), ?_, by rw [hsA.out]; exact (SlAt.frame HI2.out (fun b hb => Below.heap_setCell _ _ _ _ (by rcases HM.out b hb with h | h <;> first | (have := (hab0.out b h).1; simp; omega) | (simp; omega)))), by rw [hsB.out]; exact (SlAt.frame HB.out (fun b hb => Below.heap_setCell _ _ _ _ (by have := hab1.out b hb; simp; omega))), ⟨by rw [hsA.out, List.length_append]; exact hle2, hm2'⟩, ⟨by rw [hsB.out]; exact hb1.1, hb1.2⟩, ?_, ?_, by repeat (first | with_reducible exact Ext.refl _ | with_reducible assumption | with_reducible refine Ext.pAlloc ?_ _ | ((with_reducible refine Ext.pSet ?_ ?_ _); rotate_left; (simp <;> omega)) | with_reducible refine Ext.pDrew ?_ | with_reducible refine Ext.pDrewN ?_ _), by simp [World.setCell]; omega⟩
            · rw [hsA.out, hsB.out, List.length_append]; exact Bx.set20 B_s2 _
            · exact fun b hb => by
                rcases HM.out b hb with h | h
                · exact ⟨(hab0.out b h).1, (hab0.out b h).2⟩
                · exact ⟨by omega, fun h2 => by have := HLB.out b h2; omega⟩
            · exact hab1
          case measure => simp [intOf]; omega
        · have hm2 : ((k : Int) % 2) = 1 := by omega
          have c_s0 := B_s.cell 1 _ rfl
          have f_s := B_s.fr
          have n_s := B_s.lt
          have hsA := Lib.hid (show altK 1 fates (k + 1) = altK 1 fates k ++ [x] by rw [altK, if_pos (by omega), List.getD_eq_getElem?_getD, hx.out]; rfl)
          have hsB := Lib.hid (show altK 0 fates (k + 1) = altK 0 fates k by rw [altK, if_neg (by omega)])
          have hlA := altK_len 1 (by omega) fates k
          have hlA2 : (altK 1 fates k).length ≤ 4194304 := by omega
          clear hlA
          go_wp2_with (at_builtin; refine wpList_append_ints _ rfl _ _ _ rfl 2 Try.underlying44 Try.infoI a1 _ c1 (altK 1 fates k) rfl rfl (HI1.out.ext (Ext.alloc _ _)) hb1.1 hb1.2 _ 1 _ [x] rfl rfl (CellsAt.lit _ _ _) (by omega) ?_)
          intro a2 c2 w2 hI2 hle2 hm2' hA2
          have HI2 := Lib.hid hI2
          have X2 : Ext w w2 := hA2.ext (X.trans (Ext.alloc _ _)) (fun b hb => by have := hab1.out b hb; have := Xw1z.out; omega)
          have hnb : ∀ b ∈ ablk a0, b ∉ ablk a1 := fun b h1 h2 => (hab0.out b h1).2 h2
          have HB := Lib.hid (SlAt.frame (SlAt.frame HI0.out (w' := wr.alloc (.cells #[.int .i64 x] 2)) (fun b hb => Below.heap_alloc _ _ _ (SlAt.lt HI0.out b hb))) (w' := w2) (fun b hb => hA2.block b (by have := SlAt.lt HI0.out b hb; simp; omega) (hnb b hb)))
          have hns : w1.heap.size ∉ ablk a1 := fun h => by have := hab1.out _ h; omega
          have B_t2 : Bx w2 w.heap.size _ := (B_t.pAlloc _).of_block (hA2.block _ (B_t.pAlloc _).lt (fun h => by have := hab1.out _ h; have := Xw1z.out; omega))
          have B_r2 : Bx w2 (w.heap.size + 1) _ := (B_r.pAlloc _).of_block (hA2.block _ (B_r.pAlloc _).lt (fun h => by have := hab1.out _ h; have := Xw1z.out; omega))
          have B_s2 : Bx w2 w1.heap.size _ := (B_s.pAlloc _).of_block (hA2.block _ (B_s.pAlloc _).lt hns)
          have hz2 : wr.heap.size + 1 ≤ w2.heap.size := by have := hA2.size; simp at this; omega
          have hmem : ∀ b ∈ ablk a2, b ∈ ablk a1 ∨ wr.heap.size ≤ b := fun b hb => by
            rcases hA2.mem hb with h | ⟨h, _⟩
            · exact .inl h
            · right; simp at h; omega
          have HM := Lib.hid hmem
          have hltB : ∀ b ∈ ablk a0, b < wr.heap.size := fun b hb => SlAt.lt HI0.out b hb
          have HLB := Lib.hid hltB
          have HNB := Lib.hid hnb
          clear c_s0 f_s n_s hI2 hA2 hnb hns hmem hltB B_t B_r B_s
          have c_s0 := B_s2.cell 1 _ rfl
          have f_s := B_s2.fr
          have n_s := B_s2.lt
          go_wp2
          go_roundw
          case rel =>
            refine ⟨k + 1, a0, a2, c0, c2, by omega, by go_num, by repeat (first | with_reducible assumption | with_reducible exact Bx.new _ _ _ _ rfl | ((with_reducible refine Bx.new _ _ _ _ ?_); simp; done) | with_reducible refine Bx.pAlloc ?_ _ | with_reducible refine Bx.pDrew ?_ | with_reducible refine Bx.pDrewN ?_ _ | with_reducible apply Bx.set10 | with_reducible apply Bx.set20 | with_reducible apply Bx.set21 | with_reducible apply Bx.set30 | with_reducible apply Bx.set31 | with_reducible apply Bx.set32 | with_reducible apply Bx.set40 | with_reducible apply Bx.set41 | with_reducible apply Bx.set42 | with_reducible apply Bx.set43 | ((with_reducible refine Bx.set_other ?_ ?_ _); rotate_left; (simp <;> omega))), by repeat (first | with_reducible assumption | with_reducible exact Bx.new _ _ _ _ rfl | ((with_reducible refine Bx.new _ _ _ _ ?_); simp; done) | with_reducible refine Bx.pAlloc ?_ _ | with_reducible refine Bx.pDrew ?_ | with_reducible refine Bx.pDrewN ?_ _ | with_reducible apply Bx.set10 | with_reducible apply Bx.set20 | with_reducible apply Bx.set21 | with_reducible apply Bx.set30 | with_reducible apply Bx.set31 | with_reducible apply Bx.set32 | with_reducible apply Bx.set40 | with_reducible apply Bx.set41 | with_reducible apply Bx.set42 | with_reducible apply Bx.set43 | ((with_reducible refine Bx.set_other ?_ ?_ _); rotate_left; (simp <;> omega))), ?_, by rw [hsB.out]; exact (SlAt.frame HB.out (fun b hb => Below.heap_setCell _ _ _ _ (by have := (hab0.out b hb).1; simp; omega))), by rw [hsA.out]; exact (SlAt.frame HI2.out (fun b hb => Below.heap_setCell _ _ _ _ (by rcases HM.out b hb with h | h <;> first | (have := hab1.out b h; simp; omega) | (simp; omega)))), ⟨by rw [hsB.out]; exact hb0.1, hb0.2⟩, ⟨by rw [hsA.out, List.length_append]; exact hle2, hm2'⟩, ?_, ?_, by repeat (first | with_reducible exact Ext.refl _ | with_reducible assumption | with_reducible refine Ext.pAlloc ?_ _ | ((with_reducible refine Ext.pSet ?_ ?_ _); rotate_left; (simp <;> omega)) | with_reducible refine Ext.pDrew ?_ | with_reducible refine Ext.pDrewN ?_ _), by simp [World.setCell]; omega⟩
            · rw [hsA.out, hsB.out, List.length_append]; exact Bx.set21 B_s2 _
            · exact fun b hb => ⟨(hab0.out b hb).1, fun h2 => by
                rcases HM.out b h2 with h | h
                · exact (hab0.out b hb).2 h
                · have := HLB.out b hb; omega⟩
            · exact fun b hb => by
                rcases HM.out b hb with h | h
                · exact hab1.out b h
                · omega
          case measure => simp [intOf]; omega
      · have he : k = fates.length := by omega
        subst he
        clear hfc hlt hk
        have O_p := row_own.2 ⟨a0, c0, rfl, hb0.1, hb0.2, HI0.out, fun b hb => (⟨(hab0.out b hb).1, SlAt.lt HI0.out b hb⟩ : w1.heap.size + 1 ≤ b ∧ b < wr.heap.size)⟩
        have O_q := row_own.2 ⟨a1, c1, rfl, hb1.1, hb1.2, HI1.out, fun b hb => (⟨hab1.out b hb, SlAt.lt HI1.out b hb⟩ : w1.heap.size + 1 ≤ b ∧ b < wr.heap.size)⟩
        clear HI0 HI1 hab0 hab1
        have hzw := hz0
        have c_t_0 := B_t.cell 0 _ rfl
        have c_t_1 := B_t.cell 1 _ rfl
        have c_t_2 := B_t.cell 2 _ rfl
        have c_t_3 := B_t.cell 3 _ rfl
        have n_t := B_t.lt
        have c_r_0 := B_r.cell 0 _ rfl
        have c_r_1 := B_r.cell 1 _ rfl
        have c_r_2 := B_r.cell 2 _ rfl
        have c_r_3 := B_r.cell 3 _ rfl
        have n_r := B_r.lt
        have f_r := B_r.fr
        have c_s_0 := B_s.cell 0 _ rfl
        have c_s_1 := B_s.cell 1 _ rfl
        have n_s := B_s.lt
        go_wp2_with fail
        refine (disks_c _ _ _ _ _ _ _ _ _ _ _ _ _).mono ?_
        rintro e w2 ⟨rfl, Ew2⟩
        have Xw2 : Ext w w2 := Ext.trans (by repeat (first | with_reducible exact Ext.refl _ | with_reducible assumption | with_reducible refine Ext.pAlloc ?_ _ | ((with_reducible refine Ext.pSet ?_ ?_ _); rotate_left; (simp <;> omega)) | with_reducible refine Ext.pDrew ?_ | with_reducible refine Ext.pDrewN ?_ _)) Ew2
        have zw2 : wr.heap.size ≤ w2.heap.size := by have := Ew2.size; (try simp at this); omega
        have B_t' : Bx w2 w.heap.size [.slice ua d.1.length uc, .slice va d.2.length vc, .slice ua' d'.1.length uc', .slice va' d'.2.length vc'] := Bx.ext (by repeat (first | with_reducible assumption | with_reducible exact Bx.new _ _ _ _ rfl | ((with_reducible refine Bx.new _ _ _ _ ?_); simp; done) | with_reducible refine Bx.pAlloc ?_ _ | with_reducible refine Bx.pDrew ?_ | with_reducible refine Bx.pDrewN ?_ _ | with_reducible apply Bx.set10 | with_reducible apply Bx.set20 | with_reducible apply Bx.set21 | with_reducible apply Bx.set30 | with_reducible apply Bx.set31 | with_reducible apply Bx.set32 | with_reducible apply Bx.set40 | with_reducible apply Bx.set41 | with_reducible apply Bx.set42 | with_reducible apply Bx.set43 | ((with_reducible refine Bx.set_other ?_ ?_ _); rotate_left; (simp <;> omega)))) Ew2
        have B_r' : Bx w2 (w.heap.size + 1) [.slice none 0 0, .slice none 0 0, .slice none 0 0, .slice none 0 0] := Bx.ext (by repeat (first | with_reducible assumption | with_reducible exact Bx.new _ _ _ _ rfl | ((with_reducible refine Bx.new _ _ _ _ ?_); simp; done) | with_reducible refine Bx.pAlloc ?_ _ | with_reducible refine Bx.pDrew ?_ | with_reducible refine Bx.pDrewN ?_ _ | with_reducible apply Bx.set10 | with_reducible apply Bx.set20 | with_reducible apply Bx.set21 | with_reducible apply Bx.set30 | with_reducible apply Bx.set31 | with_reducible apply Bx.set32 | with_reducible apply Bx.set40 | with_reducible apply Bx.set41 | with_reducible apply Bx.set42 | with_reducible apply Bx.set43 | ((with_reducible refine Bx.set_other ?_ ?_ _); rotate_left; (simp <;> omega)))) Ew2
        have B_s' : Bx w2 w1.heap.size [.slice a0 (altK 0 fates fates.length).length c0, .slice a1 (altK 1 fates fates.length).length c1] := Bx.ext (by repeat (first | with_reducible assumption | with_reducible exact Bx.new _ _ _ _ rfl | ((with_reducible refine Bx.new _ _ _ _ ?_); simp; done) | with_reducible refine Bx.pAlloc ?_ _ | with_reducible refine Bx.pDrew ?_ | with_reducible refine Bx.pDrewN ?_ _ | with_reducible apply Bx.set10 | with_reducible apply Bx.set20 | with_reducible apply Bx.set21 | with_reducible apply Bx.set30 | with_reducible apply Bx.set31 | with_reducible apply Bx.set32 | with_reducible apply Bx.set40 | with_reducible apply Bx.set41 | with_reducible apply Bx.set42 | with_reducible apply Bx.set43 | ((with_reducible refine Bx.set_other ?_ ?_ _); rotate_left; (simp <;> omega)))) Ew2
        have O_p' : (rowC).own (w1.heap.size + 1) (wr.heap.size) w2 [.slice a0 (altK 0 fates fates.length).length c0] (altK 0 fates fates.length) := Cd.own.ext (by repeat (first | with_reducible assumption | with_reducible refine Cd.own.pAlloc ?_ _ | with_reducible refine Cd.own.pDrew ?_ | with_reducible refine Cd.own.pDrewN ?_ _ | ((with_reducible refine Cd.own.pSet ?_ ?_ _); rotate_left; (simp <;> omega)))) Ew2
        have O_q' : (rowC).own (w1.heap.size + 1) (wr.heap.size) w2 [.slice a1 (altK 1 fates fates.length).length c1] (altK 1 fates fates.length) := Cd.own.ext (by repeat (first | with_reducible assumption | with_reducible refine Cd.own.pAlloc ?_ _ | with_reducible refine Cd.own.pDrew ?_ | with_reducible refine Cd.own.pDrewN ?_ _ | ((with_reducible refine Cd.own.pSet ?_ ?_ _); rotate_left; (simp <;> omega)))) Ew2
        clear c_t_0 c_t_1 c_t_2 c_t_3 n_t c_r_0 c_r_1 c_r_2 c_r_3 n_r f_r c_s_0 c_s_1 n_s
        clear B_t
        have B_t := B_t'; clear B_t'
        clear B_r
        have B_r := B_r'; clear B_r'
        clear B_s
        have B_s := B_s'; clear B_s'
        clear O_p; have O_p := O_p'; clear O_p'
        clear O_q; have O_q := O_q'; clear O_q'
        clear Ew2 X
        have c_t_0 := B_t.cell 0 _ rfl
        have c_t_1 := B_t.cell 1 _ rfl
        have c_t_2 := B_t.cell 2 _ rfl
        have c_t_3 := B_t.cell 3 _ rfl
        have n_t := B_t.lt
        have c_r_0 := B_r.cell 0 _ rfl
        have c_r_1 := B_r.cell 1 _ rfl
        have c_r_2 := B_r.cell 2 _ rfl
        have c_r_3 := B_r.cell 3 _ rfl
        have n_r := B_r.lt
        have f_r := B_r.fr
        have c_s_0 := B_s.cell 0 _ rfl
        have c_s_1 := B_s.cell 1 _ rfl
        have n_s := B_s.lt
        go_wp2
        refine wp_loop_rounds 3 ?_
        rw [rounds_succ]
        go_wp2
        refine wp_region_T (S := fun ω => ω.cell? ⟨w2.heap.size + 1, 0, none⟩ = some (.slice ua d.1.length uc) ∧ ω.cell? ⟨w2.heap.size + 1, 1, none⟩ = some (.slice va d.2.length vc) ∧ ω.cell? ⟨w1.heap.size, 0, none⟩ = some (.slice a0 (altK 0 fates fates.length).length c0) ∧ Bx ω (w.heap.size) [.slice ua d.1.length uc, .slice va d.2.length vc, .slice ua' d'.1.length uc', .slice va' d'.2.length vc'] ∧ Bx ω (w.heap.size + 1) [.slice none 0 0, .slice none 0 0, .slice none 0 0, .slice none 0 0] ∧ Bx ω (w1.heap.size) [.slice a0 (altK 0 fates fates.length).length c0, .slice a1 (altK 1 fates fates.length).length c1] ∧ Bx ω (w2.heap.size) [.slice ua d.1.length uc, .slice va d.2.length vc, .slice ua' d'.1.length uc', .slice va' d'.2.length vc'] ∧ Bx ω (w2.heap.size + 1) [.slice ua d.1.length uc, .slice va d.2.length vc] ∧ Ext w2 ω) 7 (by kernel_rfl) ?_ (fun hHeld => ?_) (by decide)
        · (try dsimp only); (refine ⟨?_, ?_, ?_, ?_, ?_, ?_, ?_, ?_, ?_⟩ <;> first | (simp [go_sem]; done) | (simp [*, go_sem]; done) | ((repeat (first | with_reducible assumption | with_reducible exact Bx.new _ _ _ _ rfl | ((with_reducible refine Bx.new _ _ _ _ ?_); simp; done) | with_reducible refine Bx.pAlloc ?_ _ | with_reducible refine Bx.pDrew ?_ | with_reducible refine Bx.pDrewN ?_ _ | with_reducible apply Bx.set10 | with_reducible apply Bx.set20 | with_reducible apply Bx.set21 | with_reducible apply Bx.set30 | with_reducible apply Bx.set31 | with_reducible apply Bx.set32 | with_reducible apply Bx.set40 | with_reducible apply Bx.set41 | with_reducible apply Bx.set42 | with_reducible apply Bx.set43 | ((with_reducible refine Bx.set_other ?_ ?_ _); rotate_left; (simp <;> omega)))); done) | ((repeat (first | with_reducible exact Ext.refl _ | with_reducible assumption | with_reducible refine Ext.pAlloc ?_ _ | ((with_reducible refine Ext.pSet ?_ ?_ _); rotate_left; (simp <;> omega)) | with_reducible refine Ext.pDrew ?_ | with_reducible refine Ext.pDrewN ?_ _)); done))
        refine wpT_take (i := 0) (v := ?_) rfl (by kernel_rfl) (by decide) (by kernel_rfl) (by kernel_rfl) (by kernel_rfl) (fun _ _ _ h => h) (Or.inl ⟨by rfl, ?_⟩) (by assumption) ?_
        rotate_left
        · intro w9 hSw; (try dsimp only at hSw); go_simp; (first | done | with_reducible rfl)
        (try simp only [List.getElem_toArray, List.getElem_cons_succ, List.getElem_cons_zero, Act.put, List.setIfInBounds_toArray, List.set_cons_zero, List.set_cons_succ])
        refine wpT_take (i := 1) (v := ?_) rfl (by kernel_rfl) (by decide) (by kernel_rfl) (by kernel_rfl) (by kernel_rfl) (fun _ _ _ h => h) (Or.inl ⟨by rfl, ?_⟩) (by assumption) ?_
        rotate_left
        · intro w9 hSw; (try dsimp only at hSw); go_simp; (first | done | with_reducible rfl)
        (try simp only [List.getElem_toArray, List.getElem_cons_succ, List.getElem_cons_zero, Act.put, List.setIfInBounds_toArray, List.set_cons_zero, List.set_cons_succ])
        refine wpT_take (i := 2) (v := ?_) rfl (by kernel_rfl) (by decide) (by kernel_rfl) (by kernel_rfl) (by kernel_rfl) (fun _ _ _ h => h) (Or.inl ⟨by rfl, ?_⟩) (by assumption) ?_
        rotate_left
        · intro w9 hSw; (try dsimp only at hSw); go_simp; (first | done | with_reducible rfl)
        (try simp only [List.getElem_toArray, List.getElem_cons_succ, List.getElem_cons_zero, Act.put, List.setIfInBounds_toArray, List.set_cons_zero, List.set_cons_succ])
        refine wpT_take (i := 3) (v := ?_) rfl (by kernel_rfl) (by decide) (by kernel_rfl) (by kernel_rfl) (by kernel_rfl) (fun _ _ _ h => h) (Or.inl ⟨by rfl, ?_⟩) (by assumption) ?_
        rotate_left
        · intro w9 hSw; (try dsimp only at hSw); go_simp; (first | done | with_reducible rfl)
        (try simp only [List.getElem_toArray, List.getElem_cons_succ, List.getElem_cons_zero, Act.put, List.setIfInBounds_toArray, List.set_cons_zero, List.set_cons_succ])
        refine wpT_take (i := 4) (v := ?_) rfl (by kernel_rfl) (by decide) (by kernel_rfl) (by kernel_rfl) (by kernel_rfl) (fun _ _ _ h => h) (Or.inl ⟨by rfl, ?_⟩) (by assumption) ?_
        rotate_left
        · intro w9 hSw; (try dsimp only at hSw); go_simp; (first | done | with_reducible rfl)
        (try simp only [List.getElem_toArray, List.getElem_cons_succ, List.getElem_cons_zero, Act.put, List.setIfInBounds_toArray, List.set_cons_zero, List.set_cons_succ])
        refine wpT_step (i := 5) (by kernel_rfl) (by decide) rfl (fun K hK => ?_)
        go_simp
        refine (implFallen_c _ d _ (altK 0 fates fates.length) _ (diskC.vext H.out.1 (Xw2.trans hHeld.2.2.2.2.2.2.2.2)) (rowC.vext O_p.view hHeld.2.2.2.2.2.2.2.2)).mono ?_
        rintro e w3 ⟨u_x, v_x, rfl, Ew3, O_x⟩
        obtain ⟨⟨a_x, c_x, rfl⟩, b_x, e_x, rfl⟩ := disk_forms O_x.view
        have Ew3w : Ext w2 w3 := Ext.trans (by repeat (first | with_reducible exact Ext.refl _ | with_reducible assumption | with_reducible refine Ext.pAlloc ?_ _ | ((with_reducible refine Ext.pSet ?_ ?_ _); rotate_left; (simp <;> omega)) | with_reducible refine Ext.pDrew ?_ | with_reducible refine Ext.pDrewN ?_ _)) Ew3
        replace O_x := O_x.wide (lo' := w2.heap.size + 2) (hi' := w3.heap.size) (by first | omega | (simp <;> omega)) (Nat.le_refl _)
        have zw3 : w2.heap.size + 2 ≤ w3.heap.size := by have := Ew3.size; (try simp at this); omega
        replace O_p := O_p.ext Ew3w; replace O_q := O_q.ext Ew3w
        (try go_wp2_with fail)
        refine hK.out _ _ ?_ (fun hHeld2 => ?_)
        · (try dsimp only); (obtain ⟨s0, s1, s2, s3, s4, s5, s6, s7, s8⟩ := hHeld; exact ⟨cell_ext s0 Ew3, cell_ext s1 Ew3, cell_ext s2 Ew3, Bx.ext s3 Ew3, Bx.ext s4 Ew3, Bx.ext s5 Ew3, Bx.ext s6 Ew3, Bx.ext s7 Ew3, s8.trans Ew3⟩)
        clear hK K hHeld
        rename _ => hHeld
        (try simp only [List.getElem_toArray, List.getElem_cons_succ, List.getElem_cons_zero, Act.put, List.setIfInBounds_toArray, List.set_cons_zero, List.set_cons_succ])
        refine wpT_take (i := 6) (v := ?_) rfl (by kernel_rfl) (by decide) (by kernel_rfl) (by kernel_rfl) (by kernel_rfl) (fun _ _ _ h => h) (Or.inl ⟨by rfl, ?_⟩) (by assumption) ?_
        rotate_left
        · intro w9 hSw; (try dsimp only at hSw); go_simp; (first | done | with_reducible rfl)
        (try simp only [List.getElem_toArray, List.getElem_cons_succ, List.getElem_cons_zero, Act.put, List.setIfInBounds_toArray, List.set_cons_zero, List.set_cons_succ])
        refine wpT_last (by kernel_rfl) (by kernel_rfl) rfl (fun K hK => ?_)
        obtain ⟨e0, e1, e2, e3, e4, e5, e6, e7, e8⟩ := hHeld
        clear c_t_0 c_t_1 c_t_2 c_t_3 n_t c_r_0 c_r_1 c_r_2 c_r_3 n_r f_r c_s_0 c_s_1 n_s e0 e1 e2
        have B_t := e3
        have B_r := e4
        have B_s := e5
        have B_b := e6
        have Xw3 := Xw2.trans e8
        have c_b_0 := B_b.cell 0 _ rfl; have c_b_1 := B_b.cell 1 _ rfl; have c_b_2 := B_b.cell 2 _ rfl; have c_b_3 := B_b.cell 3 _ rfl
        have f_b := B_b.fr; have n_b := B_b.lt
        go_simp
        refine hK.out _ _ ?_
        clear hK K
        go_wp2
        replace B_b : Bx ((w3.setCell ⟨w2.heap.size, 0, none⟩ (.slice a_x (fallen d (altK 0 fates fates.length)).1.length c_x)).setCell ⟨w2.heap.size, 1, none⟩ (.slice b_x (fallen d (altK 0 fates fates.length)).2.length e_x)) w2.heap.size [.slice a_x (fallen d (altK 0 fates fates.length)).1.length c_x, .slice b_x (fallen d (altK 0 fates fates.length)).2.length e_x, .slice ua' d'.1.length uc', .slice va' d'.2.length vc'] := by repeat (first | with_reducible assumption | with_reducible exact Bx.new _ _ _ _ rfl | ((with_reducible refine Bx.new _ _ _ _ ?_); simp; done) | with_reducible refine Bx.pAlloc ?_ _ | with_reducible refine Bx.pDrew ?_ | with_reducible refine Bx.pDrewN ?_ _ | with_reducible apply Bx.set10 | with_reducible apply Bx.set20 | with_reducible apply Bx.set21 | with_reducible apply Bx.set30 | with_reducible apply Bx.set31 | with_reducible apply Bx.set32 | with_reducible apply Bx.set40 | with_reducible apply Bx.set41 | with_reducible apply Bx.set42 | with_reducible apply Bx.set43 | ((with_reducible refine Bx.set_other ?_ ?_ _); rotate_left; (simp <;> omega)))
        have hst : Chg w2.heap.size (w2.heap.size + 1) w3 ((w3.setCell ⟨w2.heap.size, 0, none⟩ (.slice a_x (fallen d (altK 0 fates fates.length)).1.length c_x)).setCell ⟨w2.heap.size, 1, none⟩ (.slice b_x (fallen d (altK 0 fates fates.length)).2.length e_x)) := (Chg.setCell _ _ _ (lo := w2.heap.size) (hi := w2.heap.size + 1) (Nat.le_refl _) (Nat.lt_succ_self _)).trans (Chg.setCell _ _ _ (lo := w2.heap.size) (hi := w2.heap.size + 1) (Nat.le_refl _) (Nat.lt_succ_self _))
        generalize (w3.setCell ⟨w2.heap.size, 0, none⟩ (.slice a_x (fallen d (altK 0 fates fates.length)).1.length c_x)).setCell ⟨w2.heap.size, 1, none⟩ (.slice b_x (fallen d (altK 0 fates fates.length)).2.length e_x) = wz at hst B_b ⊢
        clear c_b_0 c_b_1 c_b_2 c_b_3 f_b n_b
        replace B_t := B_t.chg hst (by omega); replace B_r := B_r.chg hst (by omega); replace B_s := B_s.chg hst (by omega)
        replace O_p := O_p.chg hst (by omega); replace O_q := O_q.chg hst (by omega); replace O_x := O_x.chg hst (by omega)
        have Xwz : Ext w wz := Chg.ext Xw3 hst (by omega)
        have zwz := hst.size
        clear hst
        have c_t_0 := B_t.cell 0 _ rfl
        have c_t_1 := B_t.cell 1 _ rfl
        have c_t_2 := B_t.cell 2 _ rfl
        have c_t_3 := B_t.cell 3 _ rfl
        have n_t := B_t.lt
        have c_r_0 := B_r.cell 0 _ rfl
        have c_r_1 := B_r.cell 1 _ rfl
        have c_r_2 := B_r.cell 2 _ rfl
        have c_r_3 := B_r.cell 3 _ rfl
        have n_r := B_r.lt
        have f_r := B_r.fr
        have c_s_0 := B_s.cell 0 _ rfl
        have c_s_1 := B_s.cell 1 _ rfl
        have n_s := B_s.lt
        have c_b_0 := B_b.cell 0 _ rfl
        have c_b_1 := B_b.cell 1 _ rfl
        have c_b_2 := B_b.cell 2 _ rfl
        have c_b_3 := B_b.cell 3 _ rfl
        have n_b := B_b.lt
        have f_b := B_b.fr
        rw [rounds_succ]
        go_wp2
        refine wp_region_T (S := fun ω => ω.cell? ⟨wz.heap.size, 0, none⟩ = some (.slice ua' d'.1.length uc') ∧ ω.cell? ⟨wz.heap.size, 1, none⟩ = some (.slice va' d'.2.length vc') ∧ ω.cell? ⟨w1.heap.size, 1, none⟩ = some (.slice a1 (altK 1 fates fates.length).length c1) ∧ Bx ω (w.heap.size) [.slice ua d.1.length uc, .slice va d.2.length vc, .slice ua' d'.1.length uc', .slice va' d'.2.length vc'] ∧ Bx ω (w.heap.size + 1) [.slice none 0 0, .slice none 0 0, .slice none 0 0, .slice none 0 0] ∧ Bx ω (w1.heap.size) [.slice a0 (altK 0 fates fates.length).length c0, .slice a1 (altK 1 fates fates.length).length c1] ∧ Bx ω (w2.heap.size) [.slice a_x (fallen d (altK 0 fates fates.length)).1.length c_x, .slice b_x (fallen d (altK 0 fates fates.length)).2.length e_x, .slice ua' d'.1.length uc', .slice va' d'.2.length vc'] ∧ Bx ω (wz.heap.size) [.slice ua' d'.1.length uc', .slice va' d'.2.length vc'] ∧ Ext wz ω) 7 (by kernel_rfl) ?_ (fun hHeld => ?_) (by decide)
        · (try dsimp only); (refine ⟨?_, ?_, ?_, ?_, ?_, ?_, ?_, ?_, ?_⟩ <;> first | (simp [go_sem]; done) | (simp [*, go_sem]; done) | ((repeat (first | with_reducible assumption | with_reducible exact Bx.new _ _ _ _ rfl | ((with_reducible refine Bx.new _ _ _ _ ?_); simp; done) | with_reducible refine Bx.pAlloc ?_ _ | with_reducible refine Bx.pDrew ?_ | with_reducible refine Bx.pDrewN ?_ _ | with_reducible apply Bx.set10 | with_reducible apply Bx.set20 | with_reducible apply Bx.set21 | with_reducible apply Bx.set30 | with_reducible apply Bx.set31 | with_reducible apply Bx.set32 | with_reducible apply Bx.set40 | with_reducible apply Bx.set41 | with_reducible apply Bx.set42 | with_reducible apply Bx.set43 | ((with_reducible refine Bx.set_other ?_ ?_ _); rotate_left; (simp <;> omega)))); done) | ((repeat (first | with_reducible exact Ext.refl _ | with_reducible assumption | with_reducible refine Ext.pAlloc ?_ _ | ((with_reducible refine Ext.pSet ?_ ?_ _); rotate_left; (simp <;> omega)) | with_reducible refine Ext.pDrew ?_ | with_reducible refine Ext.pDrewN ?_ _)); done))
        refine wpT_take (i := 0) (v := ?_) rfl (by kernel_rfl) (by decide) (by kernel_rfl) (by kernel_rfl) (by kernel_rfl) (fun _ _ _ h => h) (Or.inl ⟨by rfl, ?_⟩) (by assumption) ?_
        rotate_left
        · intro w9 hSw; (try dsimp only at hSw); go_simp; (first | done | with_reducible rfl)
        (try simp only [List.getElem_toArray, List.getElem_cons_succ, List.getElem_cons_zero, Act.put, List.setIfInBounds_toArray, List.set_cons_zero, List.set_cons_succ])
        refine wpT_take (i := 1) (v := ?_) rfl (by kernel_rfl) (by decide) (by kernel_rfl) (by kernel_rfl) (by kernel_rfl) (fun _ _ _ h => h) (Or.inl ⟨by rfl, ?_⟩) (by assumption) ?_
        rotate_left
        · intro w9 hSw; (try dsimp only at hSw); go_simp; (first | done | with_reducible rfl)
        (try simp only [List.getElem_toArray, List.getElem_cons_succ, List.getElem_cons_zero, Act.put, List.setIfInBounds_toArray, List.set_cons_zero, List.set_cons_succ])
        refine wpT_take (i := 2) (v := ?_) rfl (by kernel_rfl) (by decide) (by kernel_rfl) (by kernel_rfl) (by kernel_rfl) (fun _ _ _ h => h) (Or.inl ⟨by rfl, ?_⟩) (by assumption) ?_
        rotate_left
        · intro w9 hSw; (try dsimp only at hSw); go_simp; (first | done | with_reducible rfl)
        (try simp only [List.getElem_toArray, List.getElem_cons_succ, List.getElem_cons_zero, Act.put, List.setIfInBounds_toArray, List.set_cons_zero, List.set_cons_succ])
        refine wpT_take (i := 3) (v := ?_) rfl (by kernel_rfl) (by decide) (by kernel_rfl) (by kernel_rfl) (by kernel_rfl) (fun _ _ _ h => h) (Or.inl ⟨by rfl, ?_⟩) (by assumption) ?_
        rotate_left
        · intro w9 hSw; (try dsimp only at hSw); go_simp; (first | done | with_reducible rfl)
        (try simp only [List.getElem_toArray, List.getElem_cons_succ, List.getElem_cons_zero, Act.put, List.setIfInBounds_toArray, List.set_cons_zero, List.set_cons_succ])
        refine wpT_take (i := 4) (v := ?_) rfl (by kernel_rfl) (by decide) (by kernel_rfl) (by kernel_rfl) (by kernel_rfl) (fun _ _ _ h => h) (Or.inl ⟨by rfl, ?_⟩) (by assumption) ?_
        rotate_left
        · intro w9 hSw; (try dsimp only at hSw); go_simp; (first | done | with_reducible rfl)
        (try simp only [List.getElem_toArray, List.getElem_cons_succ, List.getElem_cons_zero, Act.put, List.setIfInBounds_toArray, List.set_cons_zero, List.set_cons_succ])
        refine wpT_step (i := 5) (by kernel_rfl) (by decide) rfl (fun K hK => ?_)
        go_simp
        refine (implFallen_c _ d' _ (altK 1 fates fates.length) _ (diskC.vext H.out.2 (Xwz.trans hHeld.2.2.2.2.2.2.2.2)) (rowC.vext O_q.view hHeld.2.2.2.2.2.2.2.2)).mono ?_
        rintro e w4 ⟨u_y, v_y, rfl, Ew4, O_y⟩
        obtain ⟨⟨a_y, c_y, rfl⟩, b_y, e_y, rfl⟩ := disk_forms O_y.view
        have Ew4w : Ext wz w4 := Ext.trans (by repeat (first | with_reducible exact Ext.refl _ | with_reducible assumption | with_reducible refine Ext.pAlloc ?_ _ | ((with_reducible refine Ext.pSet ?_ ?_ _); rotate_left; (simp <;> omega)) | with_reducible refine Ext.pDrew ?_ | with_reducible refine Ext.pDrewN ?_ _)) Ew4
        replace O_y := O_y.wide (lo' := wz.heap.size + 1) (hi' := w4.heap.size) (by first | omega | (simp <;> omega)) (Nat.le_refl _)
        have zw4 : wz.heap.size + 1 ≤ w4.heap.size := by have := Ew4.size; (try simp at this); omega
        replace O_p := O_p.ext Ew4w; replace O_q := O_q.ext Ew4w
        replace O_x := O_x.ext Ew4w
        (try go_wp2_with fail)
        refine hK.out _ _ ?_ (fun hHeld2 => ?_)
        · (try dsimp only); (obtain ⟨s0, s1, s2, s3, s4, s5, s6, s7, s8⟩ := hHeld; exact ⟨cell_ext s0 Ew4, cell_ext s1 Ew4, cell_ext s2 Ew4, Bx.ext s3 Ew4, Bx.ext s4 Ew4, Bx.ext s5 Ew4, Bx.ext s6 Ew4, Bx.ext s7 Ew4, s8.trans Ew4⟩)
        clear hK K hHeld
        rename _ => hHeld
        (try simp only [List.getElem_toArray, List.getElem_cons_succ, List.getElem_cons_zero, Act.put, List.setIfInBounds_toArray, List.set_cons_zero, List.set_cons_succ])
        refine wpT_take (i := 6) (v := ?_) rfl (by kernel_rfl) (by decide) (by kernel_rfl) (by kernel_rfl) (by kernel_rfl) (fun _ _ _ h => h) (Or.inl ⟨by rfl, ?_⟩) (by assumption) ?_
        rotate_left
        · intro w9 hSw; (try dsimp only at hSw); go_simp; (first | done | with_reducible rfl)
        (try simp only [List.getElem_toArray, List.getElem_cons_succ, List.getElem_cons_zero, Act.put, List.setIfInBounds_toArray, List.set_cons_zero, List.set_cons_succ])
        refine wpT_last (by kernel_rfl) (by kernel_rfl) rfl (fun K hK => ?_)
        obtain ⟨e0, e1, e2, e3, e4, e5, e6, e7, e8⟩ := hHeld
        clear c_t_0 c_t_1 c_t_2 c_t_3 n_t c_r_0 c_r_1 c_r_2 c_r_3 n_r f_r c_s_0 c_s_1 n_s c_b_0 c_b_1 c_b_2 c_b_3 n_b f_b e0 e1 e2
        have B_t := e3
        have B_r := e4
        have B_s := e5
        have B_b := e6
        have Xw4 := Xwz.trans e8
        have c_b_0 := B_b.cell 0 _ rfl; have c_b_1 := B_b.cell 1 _ rfl; have c_b_2 := B_b.cell 2 _ rfl; have c_b_3 := B_b.cell 3 _ rfl
        have f_b := B_b.fr; have n_b := B_b.lt
        go_simp
        refine hK.out _ _ ?_
        clear hK K
        go_wp2
        rw [rounds_succ]
        go_wp2_with fail
        refine (twoOf_c _ _ _ _ _ _ _ _ _ _ _ _ _).mono ?_
        rintro e w5 ⟨rfl, Ew5⟩
        have Xw5 : Ext w w5 := Ext.trans (by repeat (first | with_reducible exact Ext.refl _ | with_reducible assumption | with_reducible refine Ext.pAlloc ?_ _ | ((with_reducible refine Ext.pSet ?_ ?_ _); rotate_left; (simp <;> omega)) | with_reducible refine Ext.pDrew ?_ | with_reducible refine Ext.pDrewN ?_ _)) Ew5
        have zw5 : w4.heap.size ≤ w5.heap.size := by have := Ew5.size; (try simp at this); omega
        have B_t' : Bx w5 w.heap.size [.slice ua d.1.length uc, .slice va d.2.length vc, .slice ua' d'.1.length uc', .slice va' d'.2.length vc'] := Bx.ext (by repeat (first | with_reducible assumption | with_reducible exact Bx.new _ _ _ _ rfl | ((with_reducible refine Bx.new _ _ _ _ ?_); simp; done) | with_reducible refine Bx.pAlloc ?_ _ | with_reducible refine Bx.pDrew ?_ | with_reducible refine Bx.pDrewN ?_ _ | with_reducible apply Bx.set10 | with_reducible apply Bx.set20 | with_reducible apply Bx.set21 | with_reducible apply Bx.set30 | with_reducible apply Bx.set31 | with_reducible apply Bx.set32 | with_reducible apply Bx.set40 | with_reducible apply Bx.set41 | with_reducible apply Bx.set42 | with_reducible apply Bx.set43 | ((with_reducible refine Bx.set_other ?_ ?_ _); rotate_left; (simp <;> omega)))) Ew5
        have B_r' : Bx w5 (w.heap.size + 1) [.slice none 0 0, .slice none 0 0, .slice none 0 0, .slice none 0 0] := Bx.ext (by repeat (first | with_reducible assumption | with_reducible exact Bx.new _ _ _ _ rfl | ((with_reducible refine Bx.new _ _ _ _ ?_); simp; done) | with_reducible refine Bx.pAlloc ?_ _ | with_reducible refine Bx.pDrew ?_ | with_reducible refine Bx.pDrewN ?_ _ | with_reducible apply Bx.set10 | with_reducible apply Bx.set20 | with_reducible apply Bx.set21 | with_reducible apply Bx.set30 | with_reducible apply Bx.set31 | with_reducible apply Bx.set32 | with_reducible apply Bx.set40 | with_reducible apply Bx.set41 | with_reducible apply Bx.set42 | with_reducible apply Bx.set43 | ((with_reducible refine Bx.set_other ?_ ?_ _); rotate_left; (simp <;> omega)))) Ew5
        have B_s' : Bx w5 w1.heap.size [.slice a0 (altK 0 fates fates.length).length c0, .slice a1 (altK 1 fates fates.length).length c1] := Bx.ext (by repeat (first | with_reducible assumption | with_reducible exact Bx.new _ _ _ _ rfl | ((with_reducible refine Bx.new _ _ _ _ ?_); simp; done) | with_reducible refine Bx.pAlloc ?_ _ | with_reducible refine Bx.pDrew ?_ | with_reducible refine Bx.pDrewN ?_ _ | with_reducible apply Bx.set10 | with_reducible apply Bx.set20 | with_reducible apply Bx.set21 | with_reducible apply Bx.set30 | with_reducible apply Bx.set31 | with_reducible apply Bx.set32 | with_reducible apply Bx.set40 | with_reducible apply Bx.set41 | with_reducible apply Bx.set42 | with_reducible apply Bx.set43 | ((with_reducible refine Bx.set_other ?_ ?_ _); rotate_left; (simp <;> omega)))) Ew5
        have O_p' : (rowC).own (w1.heap.size + 1) (wr.heap.size) w5 [.slice a0 (altK 0 fates fates.length).length c0] (altK 0 fates fates.length) := Cd.own.ext (by repeat (first | with_reducible assumption | with_reducible refine Cd.own.pAlloc ?_ _ | with_reducible refine Cd.own.pDrew ?_ | with_reducible refine Cd.own.pDrewN ?_ _ | ((with_reducible refine Cd.own.pSet ?_ ?_ _); rotate_left; (simp <;> omega)))) Ew5
        have O_q' : (rowC).own (w1.heap.size + 1) (wr.heap.size) w5 [.slice a1 (altK 1 fates fates.length).length c1] (altK 1 fates fates.length) := Cd.own.ext (by repeat (first | with_reducible assumption | with_reducible refine Cd.own.pAlloc ?_ _ | with_reducible refine Cd.own.pDrew ?_ | with_reducible refine Cd.own.pDrewN ?_ _ | ((with_reducible refine Cd.own.pSet ?_ ?_ _); rotate_left; (simp <;> omega)))) Ew5
        have O_x' : (diskC).own (w2.heap.size + 2) (w3.heap.size) w5 [.slice a_x (fallen d (altK 0 fates fates.length)).1.length c_x, .slice b_x (fallen d (altK 0 fates fates.length)).2.length e_x] (fallen d (altK 0 fates fates.length)) := Cd.own.ext (by repeat (first | with_reducible assumption | with_reducible refine Cd.own.pAlloc ?_ _ | with_reducible refine Cd.own.pDrew ?_ | with_reducible refine Cd.own.pDrewN ?_ _ | ((with_reducible refine Cd.own.pSet ?_ ?_ _); rotate_left; (simp <;> omega)))) Ew5
        have O_y' : (diskC).own (wz.heap.size + 1) (w4.heap.size) w5 [.slice a_y (fallen d' (altK 1 fates fates.length)).1.length c_y, .slice b_y (fallen d' (altK 1 fates fates.length)).2.length e_y] (fallen d' (altK 1 fates fates.length)) := Cd.own.ext (by repeat (first | with_reducible assumption | with_reducible refine Cd.own.pAlloc ?_ _ | with_reducible refine Cd.own.pDrew ?_ | with_reducible refine Cd.own.pDrewN ?_ _ | ((with_reducible refine Cd.own.pSet ?_ ?_ _); rotate_left; (simp <;> omega)))) Ew5
        clear B_t
        have B_t := B_t'; clear B_t'
        clear B_r
        have B_r := B_r'; clear B_r'
        clear B_s
        have B_s := B_s'; clear B_s'
        clear O_p; have O_p := O_p'; clear O_p'
        clear O_q; have O_q := O_q'; clear O_q'
        clear O_x; have O_x := O_x'; clear O_x'
        clear O_y; have O_y := O_y'; clear O_y'
        clear Ew5 Xw4
        have c_t_0 := B_t.cell 0 _ rfl
        have c_t_1 := B_t.cell 1 _ rfl
        have c_t_2 := B_t.cell 2 _ rfl
        have c_t_3 := B_t.cell 3 _ rfl
        have n_t := B_t.lt
        have c_r_0 := B_r.cell 0 _ rfl
        have c_r_1 := B_r.cell 1 _ rfl
        have c_r_2 := B_r.cell 2 _ rfl
        have c_r_3 := B_r.cell 3 _ rfl
        have n_r := B_r.lt
        have f_r := B_r.fr
        have c_s_0 := B_s.cell 0 _ rfl
        have c_s_1 := B_s.cell 1 _ rfl
        have n_s := B_s.lt
        go_wp2
        refine bodyPost_ret (v := .agg #[.slice a_x (fallen d (altK 0 fates fates.length)).1.length c_x, .slice b_x (fallen d (altK 0 fates fates.length)).2.length e_x, .slice a_y (fallen d' (altK 1 fates fates.length)).1.length c_y, .slice b_y (fallen d' (altK 1 fates fates.length)).2.length e_y]) (by simp [results, Try.results31, go_sem, c_r_0, c_r_1, c_r_2, c_r_3, n_r]) rfl ⟨_, _, _, _, rfl, ?_, ?_⟩
        · repeat (first | with_reducible exact Ext.refl _ | with_reducible assumption | with_reducible refine Ext.pAlloc ?_ _ | ((with_reducible refine Ext.pSet ?_ ?_ _); rotate_left; (simp <;> omega)) | with_reducible refine Ext.pDrew ?_ | with_reducible refine Ext.pDrewN ?_ _)
        · exact Cd.own.wide (prod_own (c := [_, _]) (d := [_, _]) (mid := w3.heap.size) (lo := w2.heap.size + 2) (hi := w4.heap.size) (by repeat (first | with_reducible assumption | with_reducible refine Cd.own.pAlloc ?_ _ | with_reducible refine Cd.own.pDrew ?_ | with_reducible refine Cd.own.pDrewN ?_ _ | ((with_reducible refine Cd.own.pSet ?_ ?_ _); rotate_left; (simp <;> omega)))) (Cd.own.wide (lo := wz.heap.size + 1) (hi := w4.heap.size) (by repeat (first | with_reducible assumption | with_reducible refine Cd.own.pAlloc ?_ _ | with_reducible refine Cd.own.pDrew ?_ | with_reducible refine Cd.own.pDrewN ?_ _ | ((with_reducible refine Cd.own.pSet ?_ ?_ _); rotate_left; (simp <;> omega)))) (by omega) (Nat.le_refl _)) (by omega) (by omega)) (by omega) (by first | (simp [World.setCell]; done) | (simp [World.setCell]; omega))

end Go.Proofs.Ytbapomhoipdanaa

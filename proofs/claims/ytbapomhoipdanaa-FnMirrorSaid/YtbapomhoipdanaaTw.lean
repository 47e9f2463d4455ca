/- Two disks: how they read, the laws' helpers on them; right, new. -/
import Derived.Test.YtbapomhoipdanaaApd
import Derived.Test.YtbapomhoipdanaaDk3
set_option linter.unusedVariables false
set_option linter.unusedSimpArgs false
namespace Go.Proofs.Ytbapomhoipdanaa
open Go.RowKit Go.Sl

abbrev TwoD := DiskD × DiskD
abbrev twoC : Cd TwoD := prodC diskC diskC
theorem two_V {w : World} {cs : List Value} {m : TwoD} : twoC.V w cs m ↔ ∃ u v u' v', cs = [u, v, u', v'] ∧ diskC.V w [u, v] m.1 ∧ diskC.V w [u', v'] m.2 := by
  constructor
  · rintro ⟨c, d, rfl, h1, h2⟩
    obtain ⟨u, v, rfl, _⟩ := disk_V.1 h1
    obtain ⟨u', v', rfl, _⟩ := disk_V.1 h2
    exact ⟨u, v, u', v', rfl, h1, h2⟩
  · rintro ⟨u, v, u', v', rfl, h1, h2⟩
    exact ⟨[u, v], [u', v'], rfl, h1, h2⟩
theorem two_O {w : World} {cs : List Value} {m : TwoD} {fp : List Nat} : twoC.O w cs m fp ↔ ∃ u v u' v' f g, cs = [u, v, u', v'] ∧ fp = f ++ g ∧ diskC.O w [u, v] m.1 f ∧ diskC.O w [u', v'] m.2 g := by
  constructor
  · rintro ⟨c, d, f, g, rfl, rfl, h1, h2⟩
    obtain ⟨u, v, rfl, _⟩ := disk_V.1 (diskC.view h1)
    obtain ⟨u', v', rfl, _⟩ := disk_V.1 (diskC.view h2)
    exact ⟨u, v, u', v', f, g, rfl, rfl, h1, h2⟩
  · rintro ⟨u, v, u', v', f, g, rfl, rfl, h1, h2⟩
    exact ⟨[u, v], [u', v'], f, g, rfl, rfl, h1, h2⟩
theorem disk_forms {w : World} {u v : Value} {d : DiskD} (h : diskC.V w [u, v] d) : (∃ a c, u = .slice a d.1.length c) ∧ ∃ a c, v = .slice a d.2.length c := by
  obtain ⟨u', v', e, hu, hv⟩ := disk_V.1 h
  cases e
  exact ⟨sl_form hu, sl_form hv⟩
def tcnt (d : TwoD) : Nat := dcnt d.1 + dcnt d.2
def tmk (q : Int) (d : TwoD) : TwoD := (dmk q d.1, dmk (q + dcnt d.1) d.2)
def tsz (d : TwoD) : Nat := dsz d.1 + dsz d.2
def tsmall (d : TwoD) : Prop := dsmall d.1 ∧ dsmall d.2
def twoOk (t : TwoD) : Bool := diskOk t.1 && diskOk t.2 && decide (t.1.1.length = t.2.1.length)
def newTwo (n : Int) : TwoD := (newDisk n, newDisk n)

set_option maxHeartbeats 800000 in
theorem szTwo_c (cs : List Value) (m : TwoD) (q : Int) (w : World) (h : twoC.V w cs m) (h0 : -1 ≤ q) (h1 : q ≤ 1048576) :
    Calls Try.prog 11 #[.agg cs.toArray, .int .i64 q] w fun e w' => e = .returned (.int .i64 (szI (tsz m) q)) ∧ Ext w w' := by
  obtain ⟨u, v, u', v', rfl, hu, hv⟩ := two_V.1 h
  obtain ⟨d, d'⟩ := m
  simp only at hu hv
  obtain ⟨⟨ua, uc, rfl⟩, va, vc, rfl⟩ := disk_forms hu
  obtain ⟨⟨ua', uc', rfl⟩, va', vc', rfl⟩ := disk_forms hv
  have H := Lib.hid (And.intro hu hv); clear hu hv h
  generalize hA : dsz d = A
  generalize hB : dsz d' = B
  have hd : tsz (d, d') = A + B := by rw [← hA, ← hB]; rfl
  rw [hd]
  have HA := Lib.hid hA; have HB := Lib.hid hB
  clear hA hB hd
  by_cases hn : q - A < 0
  · have hs : szI (A + B) q = -1 := by unfold szI; rw [if_pos (by push_cast; omega)]
    have ha : szI A q = -1 := by simp [szI, hn]
    rw [hs]; have Hs := Lib.hid ha; clear hs ha
    go_enter Try.func11, Try.ntmps11
    go_wp2_with fail
    refine (szDisk_c _ d _ _ (diskC.vext H.out.1 (by repeat (first | with_reducible exact Ext.refl _ | with_reducible assumption | with_reducible refine Ext.pAlloc ?_ _ | ((with_reducible refine Ext.pSet ?_ ?_ _); rotate_left; (simp <;> omega)) | with_reducible refine Ext.pDrew ?_ | with_reducible refine Ext.pDrewN ?_ _))) (by omega) (by omega)).mono ?_
    rw [HA.out, Hs.out]
    rintro e w1 ⟨rfl, Ew1⟩
    have Xw1 : Ext w w1 := Ext.trans (by repeat (first | with_reducible exact Ext.refl _ | with_reducible assumption | with_reducible refine Ext.pAlloc ?_ _ | ((with_reducible refine Ext.pSet ?_ ?_ _); rotate_left; (simp <;> omega)) | with_reducible refine Ext.pDrew ?_ | with_reducible refine Ext.pDrewN ?_ _)) Ew1
    have zw1 : w.heap.size + 1 ≤ w1.heap.size := by have := Ew1.size; (try simp at this); omega
    have B_t' : Bx w1 w.heap.size [.slice ua d.1.length uc, .slice va d.2.length vc, .slice ua' d'.1.length uc', .slice va' d'.2.length vc'] := Bx.ext (by repeat (first | with_reducible assumption | with_reducible exact Bx.new _ _ _ _ rfl | ((with_reducible refine Bx.new _ _ _ _ ?_); simp; done) | with_reducible refine Bx.pAlloc ?_ _ | with_reducible refine Bx.pDrew ?_ | with_reducible refine Bx.pDrewN ?_ _ | with_reducible apply Bx.set10 | with_reducible apply Bx.set20 | with_reducible apply Bx.set21 | with_reducible apply Bx.set30 | with_reducible apply Bx.set31 | with_reducible apply Bx.set32 | with_reducible apply Bx.set40 | with_reducible apply Bx.set41 | with_reducible apply Bx.set42 | with_reducible apply Bx.set43 | ((with_reducible refine Bx.set_other ?_ ?_ _); rotate_left; (simp <;> omega)))) Ew1
    have B_t := B_t'; clear B_t'
    clear Ew1
    have c_t_0 := B_t.cell 0 _ rfl
    have c_t_1 := B_t.cell 1 _ rfl
    have c_t_2 := B_t.cell 2 _ rfl
    have c_t_3 := B_t.cell 3 _ rfl
    have n_t := B_t.lt
    go_wp2
    go_ret
    exact ⟨rfl, by repeat (first | with_reducible exact Ext.refl _ | with_reducible assumption | with_reducible refine Ext.pAlloc ?_ _ | ((with_reducible refine Ext.pSet ?_ ?_ _); rotate_left; (simp <;> omega)) | with_reducible refine Ext.pDrew ?_ | with_reducible refine Ext.pDrewN ?_ _)⟩
  · have ha : szI A q = q - A := by simp [szI, hn]
    have Ha := Lib.hid ha; clear ha
    have hs : szI B (q - A) = szI (A + B) q := by unfold szI; push_cast; split <;> split <;> omega
    by_cases hn2 : q - A - B < 0
    all_goals
      have hb : szI B (q - A) = (if q - A - B < 0 then -1 else q - A - B) := rfl
      first | rw [if_pos hn2] at hb | rw [if_neg hn2] at hb
      rw [← hs, hb]
      have Hb := Lib.hid hb; clear hb hs
      go_enter Try.func11, Try.ntmps11
      go_wp2_with fail
      refine (szDisk_c _ d _ _ (diskC.vext H.out.1 (by repeat (first | with_reducible exact Ext.refl _ | with_reducible assumption | with_reducible refine Ext.pAlloc ?_ _ | ((with_reducible refine Ext.pSet ?_ ?_ _); rotate_left; (simp <;> omega)) | with_reducible refine Ext.pDrew ?_ | with_reducible refine Ext.pDrewN ?_ _))) (by omega) (by omega)).mono ?_
      rw [HA.out, Ha.out]
      rintro e w1 ⟨rfl, Ew1⟩
      have Xw1 : Ext w w1 := Ext.trans (by repeat (first | with_reducible exact Ext.refl _ | with_reducible assumption | with_reducible refine Ext.pAlloc ?_ _ | ((with_reducible refine Ext.pSet ?_ ?_ _); rotate_left; (simp <;> omega)) | with_reducible refine Ext.pDrew ?_ | with_reducible refine Ext.pDrewN ?_ _)) Ew1
      have zw1 : w.heap.size + 1 ≤ w1.heap.size := by have := Ew1.size; (try simp at this); omega
      have B_t' : Bx w1 w.heap.size [.slice ua d.1.length uc, .slice va d.2.length vc, .slice ua' d'.1.length uc', .slice va' d'.2.length vc'] := Bx.ext (by repeat (first | with_reducible assumption | with_reducible exact Bx.new _ _ _ _ rfl | ((with_reducible refine Bx.new _ _ _ _ ?_); simp; done) | with_reducible refine Bx.pAlloc ?_ _ | with_reducible refine Bx.pDrew ?_ | with_reducible refine Bx.pDrewN ?_ _ | with_reducible apply Bx.set10 | with_reducible apply Bx.set20 | with_reducible apply Bx.set21 | with_reducible apply Bx.set30 | with_reducible apply Bx.set31 | with_reducible apply Bx.set32 | with_reducible apply Bx.set40 | with_reducible apply Bx.set41 | with_reducible apply Bx.set42 | with_reducible apply Bx.set43 | ((with_reducible refine Bx.set_other ?_ ?_ _); rotate_left; (simp <;> omega)))) Ew1
      have B_t := B_t'; clear B_t'
      clear Ew1
      have c_t_0 := B_t.cell 0 _ rfl
      have c_t_1 := B_t.cell 1 _ rfl
      have c_t_2 := B_t.cell 2 _ rfl
      have c_t_3 := B_t.cell 3 _ rfl
      have n_t := B_t.lt
      go_wp2_with fail
      refine (szDisk_c _ d' _ _ (diskC.vext H.out.2 (by repeat (first | with_reducible exact Ext.refl _ | with_reducible assumption | with_reducible refine Ext.pAlloc ?_ _ | ((with_reducible refine Ext.pSet ?_ ?_ _); rotate_left; (simp <;> omega)) | with_reducible refine Ext.pDrew ?_ | with_reducible refine Ext.pDrewN ?_ _))) (by omega) (by omega)).mono ?_
      rw [HB.out, Hb.out]
      rintro e w2 ⟨rfl, Ew2⟩
      have Xw2 : Ext w w2 := Ext.trans (by repeat (first | with_reducible exact Ext.refl _ | with_reducible assumption | with_reducible refine Ext.pAlloc ?_ _ | ((with_reducible refine Ext.pSet ?_ ?_ _); rotate_left; (simp <;> omega)) | with_reducible refine Ext.pDrew ?_ | with_reducible refine Ext.pDrewN ?_ _)) Ew2
      have zw2 : w1.heap.size ≤ w2.heap.size := by have := Ew2.size; (try simp at this); omega
      have B_t' : Bx w2 w.heap.size [.slice ua d.1.length uc, .slice va d.2.length vc, .slice ua' d'.1.length uc', .slice va' d'.2.length vc'] := Bx.ext (by repeat (first | with_reducible assumption | with_reducible exact Bx.new _ _ _ _ rfl | ((with_reducible refine Bx.new _ _ _ _ ?_); simp; done) | with_reducible refine Bx.pAlloc ?_ _ | with_reducible refine Bx.pDrew ?_ | with_reducible refine Bx.pDrewN ?_ _ | with_reducible apply Bx.set10 | with_reducible apply Bx.set20 | with_reducible apply Bx.set21 | with_reducible apply Bx.set30 | with_reducible apply Bx.set31 | with_reducible apply Bx.set32 | with_reducible apply Bx.set40 | with_reducible apply Bx.set41 | with_reducible apply Bx.set42 | with_reducible apply Bx.set43 | ((with_reducible refine Bx.set_other ?_ ?_ _); rotate_left; (simp <;> omega)))) Ew2
      clear c_t_0 c_t_1 c_t_2 c_t_3 n_t
      clear B_t
      have B_t := B_t'; clear B_t'
      clear Ew2 Xw1
      have c_t_0 := B_t.cell 0 _ rfl
      have c_t_1 := B_t.cell 1 _ rfl
      have c_t_2 := B_t.cell 2 _ rfl
      have c_t_3 := B_t.cell 3 _ rfl
      have n_t := B_t.lt
      go_wp2
      go_ret
      exact ⟨rfl, by repeat (first | with_reducible exact Ext.refl _ | with_reducible assumption | with_reducible refine Ext.pAlloc ?_ _ | ((with_reducible refine Ext.pSet ?_ ?_ _); rotate_left; (simp <;> omega)) | with_reducible refine Ext.pDrew ?_ | with_reducible refine Ext.pDrewN ?_ _)⟩

set_option maxHeartbeats 1600000 in
theorem toTwo_c (cs : List Value) (m : TwoD) (w : World) (h : twoC.V w cs m) (hs : tsmall m) :
    Calls Try.prog 13 #[.agg cs.toArray] w fun e w' => ∃ u v u' v', e = .returned (.agg #[u, v, u', v']) ∧ Ext w w' ∧ twoC.own w.heap.size w'.heap.size w' [u, v, u', v'] m := by
  obtain ⟨u, v, u', v', rfl, hu, hv⟩ := two_V.1 h
  obtain ⟨d, d'⟩ := m
  simp only at hu hv
  obtain ⟨⟨ua, uc, rfl⟩, va, vc, rfl⟩ := disk_forms hu
  obtain ⟨⟨ua', uc', rfl⟩, va', vc', rfl⟩ := disk_forms hv
  have H := Lib.hid (And.intro hu hv); clear hu hv h
  go_enter Try.func13, Try.ntmps13
  go_wp2_with fail
  refine (toDisk_c _ d _ (diskC.vext H.out.1 (by repeat (first | with_reducible exact Ext.refl _ | with_reducible assumption | with_reducible refine Ext.pAlloc ?_ _ | ((with_reducible refine Ext.pSet ?_ ?_ _); rotate_left; (simp <;> omega)) | with_reducible refine Ext.pDrew ?_ | with_reducible refine Ext.pDrewN ?_ _))) hs.1).mono ?_
  rintro e w1 ⟨u_x, v_x, rfl, Ew1, O_x⟩
  obtain ⟨⟨a_x, c_x, rfl⟩, b_x, e_x, rfl⟩ := disk_forms O_x.view
  have Xw1 : Ext w w1 := Ext.trans (by repeat (first | with_reducible exact Ext.refl _ | with_reducible assumption | with_reducible refine Ext.pAlloc ?_ _ | ((with_reducible refine Ext.pSet ?_ ?_ _); rotate_left; (simp <;> omega)) | with_reducible refine Ext.pDrew ?_ | with_reducible refine Ext.pDrewN ?_ _)) Ew1
  have zw1 : w.heap.size + 1 + 1 + 1 ≤ w1.heap.size := by have := Ew1.size; (try simp at this); omega
  have B_t' : Bx w1 w.heap.size [.slice ua d.1.length uc, .slice va d.2.length vc, .slice ua' d'.1.length uc', .slice va' d'.2.length vc'] := Bx.ext (by repeat (first | with_reducible assumption | with_reducible exact Bx.new _ _ _ _ rfl | ((with_reducible refine Bx.new _ _ _ _ ?_); simp; done) | with_reducible refine Bx.pAlloc ?_ _ | with_reducible refine Bx.pDrew ?_ | with_reducible refine Bx.pDrewN ?_ _ | with_reducible apply Bx.set10 | with_reducible apply Bx.set20 | with_reducible apply Bx.set21 | with_reducible apply Bx.set30 | with_reducible apply Bx.set31 | with_reducible apply Bx.set32 | with_reducible apply Bx.set40 | with_reducible apply Bx.set41 | with_reducible apply Bx.set42 | with_reducible apply Bx.set43 | ((with_reducible refine Bx.set_other ?_ ?_ _); rotate_left; (simp <;> omega)))) Ew1
  have B_r' : Bx w1 (w.heap.size + 1) [.slice none 0 0, .slice none 0 0, .slice none 0 0, .slice none 0 0] := Bx.ext (by repeat (first | with_reducible assumption | with_reducible exact Bx.new _ _ _ _ rfl | ((with_reducible refine Bx.new _ _ _ _ ?_); simp; done) | with_reducible refine Bx.pAlloc ?_ _ | with_reducible refine Bx.pDrew ?_ | with_reducible refine Bx.pDrewN ?_ _ | with_reducible apply Bx.set10 | with_reducible apply Bx.set20 | with_reducible apply Bx.set21 | with_reducible apply Bx.set30 | with_reducible apply Bx.set31 | with_reducible apply Bx.set32 | with_reducible apply Bx.set40 | with_reducible apply Bx.set41 | with_reducible apply Bx.set42 | with_reducible apply Bx.set43 | ((with_reducible refine Bx.set_other ?_ ?_ _); rotate_left; (simp <;> omega)))) Ew1
  have B_o' : Bx w1 (w.heap.size + 1 + 1) [.slice none 0 0, .slice none 0 0, .slice none 0 0, .slice none 0 0] := Bx.ext (by repeat (first | with_reducible assumption | with_reducible exact Bx.new _ _ _ _ rfl | ((with_reducible refine Bx.new _ _ _ _ ?_); simp; done) | with_reducible refine Bx.pAlloc ?_ _ | with_reducible refine Bx.pDrew ?_ | with_reducible refine Bx.pDrewN ?_ _ | with_reducible apply Bx.set10 | with_reducible apply Bx.set20 | with_reducible apply Bx.set21 | with_reducible apply Bx.set30 | with_reducible apply Bx.set31 | with_reducible apply Bx.set32 | with_reducible apply Bx.set40 | with_reducible apply Bx.set41 | with_reducible apply Bx.set42 | with_reducible apply Bx.set43 | ((with_reducible refine Bx.set_other ?_ ?_ _); rotate_left; (simp <;> omega)))) Ew1
  have B_t := B_t'; clear B_t'
  have B_r := B_r'; clear B_r'
  have B_o := B_o'; clear B_o'
  replace O_x := O_x.wide (lo' := w.heap.size + 1 + 1 + 1) (hi' := w1.heap.size) (by first | omega | (simp <;> omega)) (Nat.le_refl _)
  clear Ew1
  have c_t_0 := B_t.cell 0 _ rfl
  have c_t_1 := B_t.cell 1 _ rfl
  have c_t_2 := B_t.cell 2 _ rfl
  have c_t_3 := B_t.cell 3 _ rfl
  have n_t := B_t.lt
  have c_r_0 := B_r.cell 0 _ rfl
  have c_r_1 := B_r.cell 1 _ rfl
  have c_r_2 := B_r.cell 2 _ rfl
  have c_r_3 := B_r.cell 3 _ rfl
  have n_r := B_r.lt
  have f_r := B_r.fr
  have c_o_0 := B_o.cell 0 _ rfl
  have c_o_1 := B_o.cell 1 _ rfl
  have c_o_2 := B_o.cell 2 _ rfl
  have c_o_3 := B_o.cell 3 _ rfl
  have n_o := B_o.lt
  have f_o := B_o.fr
  go_wp2_with fail
  refine (toDisk_c _ d' _ (diskC.vext H.out.2 (by repeat (first | with_reducible exact Ext.refl _ | with_reducible assumption | with_reducible refine Ext.pAlloc ?_ _ | ((with_reducible refine Ext.pSet ?_ ?_ _); rotate_left; (simp <;> omega)) | with_reducible refine Ext.pDrew ?_ | with_reducible refine Ext.pDrewN ?_ _))) hs.2).mono ?_
  rintro e w2 ⟨u_y, v_y, rfl, Ew2, O_y⟩
  obtain ⟨⟨a_y, c_y, rfl⟩, b_y, e_y, rfl⟩ := disk_forms O_y.view
  have Xw2 : Ext w w2 := Ext.trans (by repeat (first | with_reducible exact Ext.refl _ | with_reducible assumption | with_reducible refine Ext.pAlloc ?_ _ | ((with_reducible refine Ext.pSet ?_ ?_ _); rotate_left; (simp <;> omega)) | with_reducible refine Ext.pDrew ?_ | with_reducible refine Ext.pDrewN ?_ _)) Ew2
  have zw2 : w1.heap.size ≤ w2.heap.size := by have := Ew2.size; (try simp at this); omega
  have B_t' : Bx w2 w.heap.size [.slice ua d.1.length uc, .slice va d.2.length vc, .slice ua' d'.1.length uc', .slice va' d'.2.length vc'] := Bx.ext (by repeat (first | with_reducible assumption | with_reducible exact Bx.new _ _ _ _ rfl | ((with_reducible refine Bx.new _ _ _ _ ?_); simp; done) | with_reducible refine Bx.pAlloc ?_ _ | with_reducible refine Bx.pDrew ?_ | with_reducible refine Bx.pDrewN ?_ _ | with_reducible apply Bx.set10 | with_reducible apply Bx.set20 | with_reducible apply Bx.set21 | with_reducible apply Bx.set30 | with_reducible apply Bx.set31 | with_reducible apply Bx.set32 | with_reducible apply Bx.set40 | with_reducible apply Bx.set41 | with_reducible apply Bx.set42 | with_reducible apply Bx.set43 | ((with_reducible refine Bx.set_other ?_ ?_ _); rotate_left; (simp <;> omega)))) Ew2
  have B_r' : Bx w2 (w.heap.size + 1) [.slice none 0 0, .slice none 0 0, .slice none 0 0, .slice none 0 0] := Bx.ext (by repeat (first | with_reducible assumption | with_reducible exact Bx.new _ _ _ _ rfl | ((with_reducible refine Bx.new _ _ _ _ ?_); simp; done) | with_reducible refine Bx.pAlloc ?_ _ | with_reducible refine Bx.pDrew ?_ | with_reducible refine Bx.pDrewN ?_ _ | with_reducible apply Bx.set10 | with_reducible apply Bx.set20 | with_reducible apply Bx.set21 | with_reducible apply Bx.set30 | with_reducible apply Bx.set31 | with_reducible apply Bx.set32 | with_reducible apply Bx.set40 | with_reducible apply Bx.set41 | with_reducible apply Bx.set42 | with_reducible apply Bx.set43 | ((with_reducible refine Bx.set_other ?_ ?_ _); rotate_left; (simp <;> omega)))) Ew2
  have B_o' : Bx w2 (w.heap.size + 1 + 1) [.slice a_x (d).1.length c_x, .slice b_x (d).2.length e_x, .slice none 0 0, .slice none 0 0] := Bx.ext (by repeat (first | with_reducible assumption | with_reducible exact Bx.new _ _ _ _ rfl | ((with_reducible refine Bx.new _ _ _ _ ?_); simp; done) | with_reducible refine Bx.pAlloc ?_ _ | with_reducible refine Bx.pDrew ?_ | with_reducible refine Bx.pDrewN ?_ _ | with_reducible apply Bx.set10 | with_reducible apply Bx.set20 | with_reducible apply Bx.set21 | with_reducible apply Bx.set30 | with_reducible apply Bx.set31 | with_reducible apply Bx.set32 | with_reducible apply Bx.set40 | with_reducible apply Bx.set41 | with_reducible apply Bx.set42 | with_reducible apply Bx.set43 | ((with_reducible refine Bx.set_other ?_ ?_ _); rotate_left; (simp <;> omega)))) Ew2
  have O_x' : (diskC).own (w.heap.size + 1 + 1 + 1) (w1.heap.size) w2 [.slice a_x (d).1.length c_x, .slice b_x (d).2.length e_x] (d) := Cd.own.ext (by repeat (first | with_reducible assumption | with_reducible refine Cd.own.pAlloc ?_ _ | with_reducible refine Cd.own.pDrew ?_ | with_reducible refine Cd.own.pDrewN ?_ _ | ((with_reducible refine Cd.own.pSet ?_ ?_ _); rotate_left; (simp <;> omega)))) Ew2
  clear c_t_0 c_t_1 c_t_2 c_t_3 n_t c_r_0 c_r_1 c_r_2 c_r_3 n_r f_r c_o_0 c_o_1 c_o_2 c_o_3 n_o f_o
  clear B_t
  have B_t := B_t'; clear B_t'
  clear B_r
  have B_r := B_r'; clear B_r'
  clear B_o
  have B_o := B_o'; clear B_o'
  clear O_x; have O_x := O_x'; clear O_x'
  replace O_y := O_y.wide (lo' := w1.heap.size) (hi' := w2.heap.size) (by first | omega | (simp <;> omega)) (Nat.le_refl _)
  clear Ew2 Xw1
  have c_t_0 := B_t.cell 0 _ rfl
  have c_t_1 := B_t.cell 1 _ rfl
  have c_t_2 := B_t.cell 2 _ rfl
  have c_t_3 := B_t.cell 3 _ rfl
  have n_t := B_t.lt
  have c_r_0 := B_r.cell 0 _ rfl
  have c_r_1 := B_r.cell 1 _ rfl
  have c_r_2 := B_r.cell 2 _ rfl
  have c_r_3 := B_r.cell 3 _ rfl
  have n_r := B_r.lt
  have f_r := B_r.fr
  have c_o_0 := B_o.cell 0 _ rfl
  have c_o_1 := B_o.cell 1 _ rfl
  have c_o_2 := B_o.cell 2 _ rfl
  have c_o_3 := B_o.cell 3 _ rfl
  have n_o := B_o.lt
  have f_o := B_o.fr
  go_wp2
  refine bodyPost_ret (v := .agg #[.slice a_x (d).1.length c_x, .slice b_x (d).2.length e_x, .slice a_y (d').1.length c_y, .slice b_y (d').2.length e_y]) (by simp [results, Try.results13, go_sem, c_r_0, c_r_1, c_r_2, c_r_3]) rfl ⟨_, _, _, _, rfl, ?_, ?_⟩
  · repeat (first | with_reducible exact Ext.refl _ | with_reducible assumption | with_reducible refine Ext.pAlloc ?_ _ | ((with_reducible refine Ext.pSet ?_ ?_ _); rotate_left; (simp <;> omega)) | with_reducible refine Ext.pDrew ?_ | with_reducible refine Ext.pDrewN ?_ _)
  · exact Cd.own.wide (prod_own (c := [_, _]) (d := [_, _]) (mid := w1.heap.size) (lo := w.heap.size + 1 + 1 + 1) (hi := w2.heap.size) (by repeat (first | with_reducible assumption | with_reducible refine Cd.own.pAlloc ?_ _ | with_reducible refine Cd.own.pDrew ?_ | with_reducible refine Cd.own.pDrewN ?_ _ | ((with_reducible refine Cd.own.pSet ?_ ?_ _); rotate_left; (simp <;> omega)))) (by repeat (first | with_reducible assumption | with_reducible refine Cd.own.pAlloc ?_ _ | with_reducible refine Cd.own.pDrew ?_ | with_reducible refine Cd.own.pDrewN ?_ _ | ((with_reducible refine Cd.own.pSet ?_ ?_ _); rotate_left; (simp <;> omega)))) (by omega) (by omega)) (by omega) (by simp [World.setCell])

set_option maxHeartbeats 1600000 in
theorem eqTwo_c (cs ds : List Value) (m n : TwoD) (w : World) (h : twoC.V w cs m) (h' : twoC.V w ds n) :
    Calls Try.prog 15 #[.agg cs.toArray, .agg ds.toArray] w fun e w' => e = .returned (.bool (decide (m = n))) ∧ Ext w w' := by
  obtain ⟨u, v, u', v', rfl, hu, hv⟩ := two_V.1 h
  obtain ⟨d, d'⟩ := m
  simp only at hu hv
  obtain ⟨⟨ua, uc, rfl⟩, va, vc, rfl⟩ := disk_forms hu
  obtain ⟨⟨ua', uc', rfl⟩, va', vc', rfl⟩ := disk_forms hv
  have H := Lib.hid (And.intro hu hv); clear hu hv h
  obtain ⟨p, q, p', q', rfl, hu, hv⟩ := two_V.1 h'
  obtain ⟨e, e'⟩ := n
  simp only at hu hv
  obtain ⟨⟨pa, pc, rfl⟩, qa, qc, rfl⟩ := disk_forms hu
  obtain ⟨⟨pa', pc', rfl⟩, qa', qc', rfl⟩ := disk_forms hv
  have H' := Lib.hid (And.intro hu hv); clear hu hv h'
  cases hr : decide (d = e)
  · have Hr := Lib.hid hr
    go_enter Try.func15, Try.ntmps15
    go_wp2_with fail
    refine (eqDisk_c _ _ d e _ (diskC.vext H.out.1 (by repeat (first | with_reducible exact Ext.refl _ | with_reducible assumption | with_reducible refine Ext.pAlloc ?_ _ | ((with_reducible refine Ext.pSet ?_ ?_ _); rotate_left; (simp <;> omega)) | with_reducible refine Ext.pDrew ?_ | with_reducible refine Ext.pDrewN ?_ _))) (diskC.vext H'.out.1 (by repeat (first | with_reducible exact Ext.refl _ | with_reducible assumption | with_reducible refine Ext.pAlloc ?_ _ | ((with_reducible refine Ext.pSet ?_ ?_ _); rotate_left; (simp <;> omega)) | with_reducible refine Ext.pDrew ?_ | with_reducible refine Ext.pDrewN ?_ _)))).mono ?_
    rw [hr]
    rintro e w1 ⟨rfl, Ew1⟩
    have Xw1 : Ext w w1 := Ext.trans (by repeat (first | with_reducible exact Ext.refl _ | with_reducible assumption | with_reducible refine Ext.pAlloc ?_ _ | ((with_reducible refine Ext.pSet ?_ ?_ _); rotate_left; (simp <;> omega)) | with_reducible refine Ext.pDrew ?_ | with_reducible refine Ext.pDrewN ?_ _)) Ew1
    have zw1 : w.heap.size + 1 + 1 ≤ w1.heap.size := by have := Ew1.size; (try simp at this); omega
    have B_t' : Bx w1 w.heap.size [.slice ua d.1.length uc, .slice va d.2.length vc, .slice ua' d'.1.length uc', .slice va' d'.2.length vc'] := Bx.ext (by repeat (first | with_reducible assumption | with_reducible exact Bx.new _ _ _ _ rfl | ((with_reducible refine Bx.new _ _ _ _ ?_); simp; done) | with_reducible refine Bx.pAlloc ?_ _ | with_reducible refine Bx.pDrew ?_ | with_reducible refine Bx.pDrewN ?_ _ | with_reducible apply Bx.set10 | with_reducible apply Bx.set20 | with_reducible apply Bx.set21 | with_reducible apply Bx.set30 | with_reducible apply Bx.set31 | with_reducible apply Bx.set32 | with_reducible apply Bx.set40 | with_reducible apply Bx.set41 | with_reducible apply Bx.set42 | with_reducible apply Bx.set43 | ((with_reducible refine Bx.set_other ?_ ?_ _); rotate_left; (simp <;> omega)))) Ew1
    have B_s' : Bx w1 (w.heap.size + 1) [.slice pa e.1.length pc, .slice qa e.2.length qc, .slice pa' e'.1.length pc', .slice qa' e'.2.length qc'] := Bx.ext (by repeat (first | with_reducible assumption | with_reducible exact Bx.new _ _ _ _ rfl | ((with_reducible refine Bx.new _ _ _ _ ?_); simp; done) | with_reducible refine Bx.pAlloc ?_ _ | with_reducible refine Bx.pDrew ?_ | with_reducible refine Bx.pDrewN ?_ _ | with_reducible apply Bx.set10 | with_reducible apply Bx.set20 | with_reducible apply Bx.set21 | with_reducible apply Bx.set30 | with_reducible apply Bx.set31 | with_reducible apply Bx.set32 | with_reducible apply Bx.set40 | with_reducible apply Bx.set41 | with_reducible apply Bx.set42 | with_reducible apply Bx.set43 | ((with_reducible refine Bx.set_other ?_ ?_ _); rotate_left; (simp <;> omega)))) Ew1
    have B_t := B_t'; clear B_t'
    have B_s := B_s'; clear B_s'
    clear Ew1
    have c_t_0 := B_t.cell 0 _ rfl
    have c_t_1 := B_t.cell 1 _ rfl
    have c_t_2 := B_t.cell 2 _ rfl
    have c_t_3 := B_t.cell 3 _ rfl
    have n_t := B_t.lt
    have c_s_0 := B_s.cell 0 _ rfl
    have c_s_1 := B_s.cell 1 _ rfl
    have c_s_2 := B_s.cell 2 _ rfl
    have c_s_3 := B_s.cell 3 _ rfl
    have n_s := B_s.lt
    go_wp2
    go_ret
    exact ⟨retB (by symm; rw [decide_eq_false_iff_not]; intro e; exact of_decide_eq_false hr (Prod.mk.inj e).1), by repeat (first | with_reducible exact Ext.refl _ | with_reducible assumption | with_reducible refine Ext.pAlloc ?_ _ | ((with_reducible refine Ext.pSet ?_ ?_ _); rotate_left; (simp <;> omega)) | with_reducible refine Ext.pDrew ?_ | with_reducible refine Ext.pDrewN ?_ _)⟩
  · cases hs : decide (d' = e')
    all_goals
      go_enter Try.func15, Try.ntmps15
      go_wp2_with fail
      refine (eqDisk_c _ _ d e _ (diskC.vext H.out.1 (by repeat (first | with_reducible exact Ext.refl _ | with_reducible assumption | with_reducible refine Ext.pAlloc ?_ _ | ((with_reducible refine Ext.pSet ?_ ?_ _); rotate_left; (simp <;> omega)) | with_reducible refine Ext.pDrew ?_ | with_reducible refine Ext.pDrewN ?_ _))) (diskC.vext H'.out.1 (by repeat (first | with_reducible exact Ext.refl _ | with_reducible assumption | with_reducible refine Ext.pAlloc ?_ _ | ((with_reducible refine Ext.pSet ?_ ?_ _); rotate_left; (simp <;> omega)) | with_reducible refine Ext.pDrew ?_ | with_reducible refine Ext.pDrewN ?_ _)))).mono ?_
      rw [hr]
      rintro e w1 ⟨rfl, Ew1⟩
      have Xw1 : Ext w w1 := Ext.trans (by repeat (first | with_reducible exact Ext.refl _ | with_reducible assumption | with_reducible refine Ext.pAlloc ?_ _ | ((with_reducible refine Ext.pSet ?_ ?_ _); rotate_left; (simp <;> omega)) | with_reducible refine Ext.pDrew ?_ | with_reducible refine Ext.pDrewN ?_ _)) Ew1
      have zw1 : w.heap.size + 1 + 1 ≤ w1.heap.size := by have := Ew1.size; (try simp at this); omega
      have B_t' : Bx w1 w.heap.size [.slice ua d.1.length uc, .slice va d.2.length vc, .slice ua' d'.1.length uc', .slice va' d'.2.length vc'] := Bx.ext (by repeat (first | with_reducible assumption | with_reducible exact Bx.new _ _ _ _ rfl | ((with_reducible refine Bx.new _ _ _ _ ?_); simp; done) | with_reducible refine Bx.pAlloc ?_ _ | with_reducible refine Bx.pDrew ?_ | with_reducible refine Bx.pDrewN ?_ _ | with_reducible apply Bx.set10 | with_reducible apply Bx.set20 | with_reducible apply Bx.set21 | with_reducible apply Bx.set30 | with_reducible apply Bx.set31 | with_reducible apply Bx.set32 | with_reducible apply Bx.set40 | with_reducible apply Bx.set41 | with_reducible apply Bx.set42 | with_reducible apply Bx.set43 | ((with_reducible refine Bx.set_other ?_ ?_ _); rotate_left; (simp <;> omega)))) Ew1
      have B_s' : Bx w1 (w.heap.size + 1) [.slice pa e.1.length pc, .slice qa e.2.length qc, .slice pa' e'.1.length pc', .slice qa' e'.2.length qc'] := Bx.ext (by repeat (first | with_reducible assumption | with_reducible exact Bx.new _ _ _ _ rfl | ((with_reducible refine Bx.new _ _ _ _ ?_); simp; done) | with_reducible refine Bx.pAlloc ?_ _ | with_reducible refine Bx.pDrew ?_ | with_reducible refine Bx.pDrewN ?_ _ | with_reducible apply Bx.set10 | with_reducible apply Bx.set20 | with_reducible apply Bx.set21 | with_reducible apply Bx.set30 | with_reducible apply Bx.set31 | with_reducible apply Bx.set32 | with_reducible apply Bx.set40 | with_reducible apply Bx.set41 | with_reducible apply Bx.set42 | with_reducible apply Bx.set43 | ((with_reducible refine Bx.set_other ?_ ?_ _); rotate_left; (simp <;> omega)))) Ew1
      have B_t := B_t'; clear B_t'
      have B_s := B_s'; clear B_s'
      clear Ew1
      have c_t_0 := B_t.cell 0 _ rfl
      have c_t_1 := B_t.cell 1 _ rfl
      have c_t_2 := B_t.cell 2 _ rfl
      have c_t_3 := B_t.cell 3 _ rfl
      have n_t := B_t.lt
      have c_s_0 := B_s.cell 0 _ rfl
      have c_s_1 := B_s.cell 1 _ rfl
      have c_s_2 := B_s.cell 2 _ rfl
      have c_s_3 := B_s.cell 3 _ rfl
      have n_s := B_s.lt
      go_wp2_with fail
      refine (eqDisk_c _ _ d' e' _ (diskC.vext H.out.2 (by repeat (first | with_reducible exact Ext.refl _ | with_reducible assumption | with_reducible refine Ext.pAlloc ?_ _ | ((with_reducible refine Ext.pSet ?_ ?_ _); rotate_left; (simp <;> omega)) | with_reducible refine Ext.pDrew ?_ | with_reducible refine Ext.pDrewN ?_ _))) (diskC.vext H'.out.2 (by repeat (first | with_reducible exact Ext.refl _ | with_reducible assumption | with_reducible refine Ext.pAlloc ?_ _ | ((with_reducible refine Ext.pSet ?_ ?_ _); rotate_left; (simp <;> omega)) | with_reducible refine Ext.pDrew ?_ | with_reducible refine Ext.pDrewN ?_ _)))).mono ?_
      rw [hs]
      rintro e w2 ⟨rfl, Ew2⟩
      have Xw2 : Ext w w2 := Ext.trans (by repeat (first | with_reducible exact Ext.refl _ | with_reducible assumption | with_reducible refine Ext.pAlloc ?_ _ | ((with_reducible refine Ext.pSet ?_ ?_ _); rotate_left; (simp <;> omega)) | with_reducible refine Ext.pDrew ?_ | with_reducible refine Ext.pDrewN ?_ _)) Ew2
      have zw2 : w1.heap.size ≤ w2.heap.size := by have := Ew2.size; (try simp at this); omega
      have B_t' : Bx w2 w.heap.size [.slice ua d.1.length uc, .slice va d.2.length vc, .slice ua' d'.1.length uc', .slice va' d'.2.length vc'] := Bx.ext (by repeat (first | with_reducible assumption | with_reducible exact Bx.new _ _ _ _ rfl | ((with_reducible refine Bx.new _ _ _ _ ?_); simp; done) | with_reducible refine Bx.pAlloc ?_ _ | with_reducible refine Bx.pDrew ?_ | with_reducible refine Bx.pDrewN ?_ _ | with_reducible apply Bx.set10 | with_reducible apply Bx.set20 | with_reducible apply Bx.set21 | with_reducible apply Bx.set30 | with_reducible apply Bx.set31 | with_reducible apply Bx.set32 | with_reducible apply Bx.set40 | with_reducible apply Bx.set41 | with_reducible apply Bx.set42 | with_reducible apply Bx.set43 | ((with_reducible refine Bx.set_other ?_ ?_ _); rotate_left; (simp <;> omega)))) Ew2
      have B_s' : Bx w2 (w.heap.size + 1) [.slice pa e.1.length pc, .slice qa e.2.length qc, .slice pa' e'.1.length pc', .slice qa' e'.2.length qc'] := Bx.ext (by repeat (first | with_reducible assumption | with_reducible exact Bx.new _ _ _ _ rfl | ((with_reducible refine Bx.new _ _ _ _ ?_); simp; done) | with_reducible refine Bx.pAlloc ?_ _ | with_reducible refine Bx.pDrew ?_ | with_reducible refine Bx.pDrewN ?_ _ | with_reducible apply Bx.set10 | with_reducible apply Bx.set20 | with_reducible apply Bx.set21 | with_reducible apply Bx.set30 | with_reducible apply Bx.set31 | with_reducible apply Bx.set32 | with_reducible apply Bx.set40 | with_reducible apply Bx.set41 | with_reducible apply Bx.set42 | with_reducible apply Bx.set43 | ((with_reducible refine Bx.set_other ?_ ?_ _); rotate_left; (simp <;> omega)))) Ew2
      clear c_t_0 c_t_1 c_t_2 c_t_3 n_t c_s_0 c_s_1 c_s_2 c_s_3 n_s
      clear B_t
      have B_t := B_t'; clear B_t'
      clear B_s
      have B_s := B_s'; clear B_s'
      clear Ew2 Xw1
      have c_t_0 := B_t.cell 0 _ rfl
      have c_t_1 := B_t.cell 1 _ rfl
      have c_t_2 := B_t.cell 2 _ rfl
      have c_t_3 := B_t.cell 3 _ rfl
      have n_t := B_t.lt
      have c_s_0 := B_s.cell 0 _ rfl
      have c_s_1 := B_s.cell 1 _ rfl
      have c_s_2 := B_s.cell 2 _ rfl
      have c_s_3 := B_s.cell 3 _ rfl
      have n_s := B_s.lt
      go_wp2
      go_ret
      exact ⟨retB (by have h1 := of_decide_eq_true hr; first | (have h2 := of_decide_eq_true hs; simp [h1, h2]) | (have h2 := of_decide_eq_false hs; simp [h2])), by repeat (first | with_reducible exact Ext.refl _ | with_reducible assumption | with_reducible refine Ext.pAlloc ?_ _ | ((with_reducible refine Ext.pSet ?_ ?_ _); rotate_left; (simp <;> omega)) | with_reducible refine Ext.pDrew ?_ | with_reducible refine Ext.pDrewN ?_ _)⟩

set_option maxHeartbeats 1600000 in
theorem markTwo_o (cs : List Value) (m : TwoD) (q : Int) (w : World) (fp : List Nat) (h : twoC.O w cs m fp) (hn : fp.Nodup) (hq0 : 0 ≤ q) (hq : q + tcnt m ≤ 4611686018427387904) :
    Calls Try.prog 19 #[.agg cs.toArray, .int .i64 q] w fun e w' => e = .returned (.int .i64 (q + tcnt m)) ∧ ChgG fp w w' ∧ twoC.O w' cs (tmk q m) fp := by
  obtain ⟨u, v, u', v', f, g, rfl, rfl, hu, hv⟩ := two_O.1 h
  obtain ⟨d, d'⟩ := m
  simp only at hu hv
  obtain ⟨⟨ua, uc, rfl⟩, va, vc, rfl⟩ := disk_forms (diskC.view hu)
  obtain ⟨⟨ua', uc', rfl⟩, va', vc', rfl⟩ := disk_forms (diskC.view hv)
  have hd : tcnt (d, d') = dcnt d + dcnt d' := rfl
  rw [hd] at hq ⊢
  push_cast at hq ⊢
  have hbf := diskC.lt hu
  have hbg := diskC.lt hv
  obtain ⟨nf, ng, nd⟩ := List.nodup_append.1 hn
  have H := Lib.hid (And.intro (And.intro hu hv) (And.intro (And.intro hbf hbg) (And.intro nf (And.intro ng nd))))
  clear hu hv h hn hbf hbg nf ng nd hd
  go_enter Try.func19, Try.ntmps19
  go_wp2_with fail
  refine (markDisk_o _ d _ _ f (diskC.O_ext H.out.1.1 (Ext.alloc _ _)) H.out.2.2.1 (by omega) (by omega)).mono ?_
  rintro e w1 ⟨rfl, hC, hO⟩
  have c2 : w1.cell? ⟨w.heap.size, 2, none⟩ = some (.slice ua' d'.1.length uc') := hC.cell (by simp [go_sem]) (by simp) (fun hm => absurd (H.out.2.1.1 _ hm) (Nat.lt_irrefl _))
  have c3 : w1.cell? ⟨w.heap.size, 3, none⟩ = some (.slice va' d'.2.length vc') := hC.cell (by simp [go_sem]) (by simp) (fun hm => absurd (H.out.2.1.1 _ hm) (Nat.lt_irrefl _))
  have hO2 : diskC.O w1 _ d' g := hC.frame (diskC.O_ext H.out.1.2 (Ext.alloc _ _)) (fun b hb hm => H.out.2.2.2.2 b hm b hb rfl)
  have hC' := Lib.hid hC
  have HO := Lib.hid hO
  have HO2 := Lib.hid hO2
  clear hC hO hO2
  go_wp2_with fail
  refine (markDisk_o _ d' _ _ g HO2.out H.out.2.2.2.1 (by omega) (by omega)).mono ?_
  rintro e w2 ⟨rfl, hD, hO3⟩
  go_wp2
  go_ret
  refine ⟨retI (by omega), ?_, two_O.2 ⟨_, _, _, _, f, g, rfl, rfl, ?_, hO3⟩⟩
  · exact (ChgG.of_ext (Ext.alloc _ _)).trans ((hC'.out.wide (fun x hx => List.mem_append_left _ hx)).trans (hD.wide (fun x hx => List.mem_append_right _ hx)))
  · exact hD.frame HO.out (fun b hb hm => H.out.2.2.2.2 b hb b hm rfl)

theorem markTwo_c (cs : List Value) (m : TwoD) (q : Int) (w : World) (lo hi : Nat) (h : twoC.own lo hi w cs m) (hq0 : 0 ≤ q) (hq : q + tcnt m ≤ 4611686018427387904) :
    Calls Try.prog 19 #[.agg cs.toArray, .int .i64 q] w fun e w' => e = .returned (.int .i64 (q + tcnt m)) ∧ Chg lo hi w w' ∧ twoC.own lo hi w' cs (tmk q m) :=
  markG_own h fun fp ho hn => markTwo_o cs m q w fp ho hn hq0 hq

set_option maxHeartbeats 1600000 in
theorem heldTwo_c (cs : List Value) (m : TwoD) (q : Int) (w : World) (h : twoC.V w cs (tmk q m)) (hq0 : 0 ≤ q) (hq : q + tcnt m ≤ 4611686018427387904) :
    Calls Try.prog 24 #[.agg cs.toArray, .int .i64 q] w fun e w' => e = .returned (.int .i64 (q + tcnt m)) ∧ Ext w w' := by
  obtain ⟨u, v, u', v', rfl, hu, hv⟩ := two_V.1 h
  obtain ⟨d, d'⟩ := m
  have hd : tcnt (d, d') = dcnt d + dcnt d' := rfl
  rw [hd] at hq ⊢
  push_cast at hq ⊢
  simp only [tmk] at hu hv
  obtain ⟨⟨ua, uc, rfl⟩, va, vc, rfl⟩ := disk_forms hu
  obtain ⟨⟨ua', uc', rfl⟩, va', vc', rfl⟩ := disk_forms hv
  have H := Lib.hid (And.intro hu hv)
  clear hu hv h hd
  go_enter Try.func24, Try.ntmps24
  go_wp2_with fail
  refine (heldDisk_c _ d _ _ (diskC.vext H.out.1 (by repeat (first | with_reducible exact Ext.refl _ | with_reducible assumption | with_reducible refine Ext.pAlloc ?_ _ | ((with_reducible refine Ext.pSet ?_ ?_ _); rotate_left; (simp <;> omega)) | with_reducible refine Ext.pDrew ?_ | with_reducible refine Ext.pDrewN ?_ _))) (by omega) (by omega)).mono ?_
  rintro e w1 ⟨rfl, Ew1⟩
  have Xw1 : Ext w w1 := Ext.trans (by repeat (first | with_reducible exact Ext.refl _ | with_reducible assumption | with_reducible refine Ext.pAlloc ?_ _ | ((with_reducible refine Ext.pSet ?_ ?_ _); rotate_left; (simp <;> omega)) | with_reducible refine Ext.pDrew ?_ | with_reducible refine Ext.pDrewN ?_ _)) Ew1
  have zw1 : w.heap.size + 1 ≤ w1.heap.size := by have := Ew1.size; (try simp at this); omega
  have B_t' : Bx w1 w.heap.size [.slice ua (dmk q d).1.length uc, .slice va (dmk q d).2.length vc, .slice ua' (dmk (q + dcnt d) d').1.length uc', .slice va' (dmk (q + dcnt d) d').2.length vc'] := Bx.ext (by repeat (first | with_reducible assumption | with_reducible exact Bx.new _ _ _ _ rfl | ((with_reducible refine Bx.new _ _ _ _ ?_); simp; done) | with_reducible refine Bx.pAlloc ?_ _ | with_reducible refine Bx.pDrew ?_ | with_reducible refine Bx.pDrewN ?_ _ | with_reducible apply Bx.set10 | with_reducible apply Bx.set20 | with_reducible apply Bx.set21 | with_reducible apply Bx.set30 | with_reducible apply Bx.set31 | with_reducible apply Bx.set32 | with_reducible apply Bx.set40 | with_reducible apply Bx.set41 | with_reducible apply Bx.set42 | with_reducible apply Bx.set43 | ((with_reducible refine Bx.set_other ?_ ?_ _); rotate_left; (simp <;> omega)))) Ew1
  have B_t := B_t'; clear B_t'
  clear Ew1
  have c_t_0 := B_t.cell 0 _ rfl
  have c_t_1 := B_t.cell 1 _ rfl
  have c_t_2 := B_t.cell 2 _ rfl
  have c_t_3 := B_t.cell 3 _ rfl
  have n_t := B_t.lt
  have hp : ¬ (q + (dcnt d : Int) < 0) := by omega
  go_wp2_with fail
  refine (heldDisk_c _ d' _ _ (diskC.vext H.out.2 (by repeat (first | with_reducible exact Ext.refl _ | with_reducible assumption | with_reducible refine Ext.pAlloc ?_ _ | ((with_reducible refine Ext.pSet ?_ ?_ _); rotate_left; (simp <;> omega)) | with_reducible refine Ext.pDrew ?_ | with_reducible refine Ext.pDrewN ?_ _))) (by omega) (by omega)).mono ?_
  rintro e w2 ⟨rfl, Ew2⟩
  have Xw2 : Ext w w2 := Ext.trans (by repeat (first | with_reducible exact Ext.refl _ | with_reducible assumption | with_reducible refine Ext.pAlloc ?_ _ | ((with_reducible refine Ext.pSet ?_ ?_ _); rotate_left; (simp <;> omega)) | with_reducible refine Ext.pDrew ?_ | with_reducible refine Ext.pDrewN ?_ _)) Ew2
  have zw2 : w1.heap.size ≤ w2.heap.size := by have := Ew2.size; (try simp at this); omega
  have B_t' : Bx w2 w.heap.size [.slice ua (dmk q d).1.length uc, .slice va (dmk q d).2.length vc, .slice ua' (dmk (q + dcnt d) d').1.length uc', .slice va' (dmk (q + dcnt d) d').2.length vc'] := Bx.ext (by repeat (first | with_reducible assumption | with_reducible exact Bx.new _ _ _ _ rfl | ((with_reducible refine Bx.new _ _ _ _ ?_); simp; done) | with_reducible refine Bx.pAlloc ?_ _ | with_reducible refine Bx.pDrew ?_ | with_reducible refine Bx.pDrewN ?_ _ | with_reducible apply Bx.set10 | with_reducible apply Bx.set20 | with_reducible apply Bx.set21 | with_reducible apply Bx.set30 | with_reducible apply Bx.set31 | with_reducible apply Bx.set32 | with_reducible apply Bx.set40 | with_reducible apply Bx.set41 | with_reducible apply Bx.set42 | with_reducible apply Bx.set43 | ((with_reducible refine Bx.set_other ?_ ?_ _); rotate_left; (simp <;> omega)))) Ew2
  clear c_t_0 c_t_1 c_t_2 c_t_3 n_t
  clear B_t
  have B_t := B_t'; clear B_t'
  clear Ew2 Xw1
  have c_t_0 := B_t.cell 0 _ rfl
  have c_t_1 := B_t.cell 1 _ rfl
  have c_t_2 := B_t.cell 2 _ rfl
  have c_t_3 := B_t.cell 3 _ rfl
  have n_t := B_t.lt
  have hp2 : ¬ (q + (dcnt d : Int) + (dcnt d' : Int) < 0) := by omega
  go_wp2
  go_ret
  exact ⟨retI (by omega), by repeat (first | with_reducible exact Ext.refl _ | with_reducible assumption | with_reducible refine Ext.pAlloc ?_ _ | ((with_reducible refine Ext.pSet ?_ ?_ _); rotate_left; (simp <;> omega)) | with_reducible refine Ext.pDrew ?_ | with_reducible refine Ext.pDrewN ?_ _)⟩

set_option maxHeartbeats 1600000 in
theorem implTwoOk_c (cs : List Value) (m : TwoD) (w : World) (h : twoC.V w cs m) :
    Calls Try.prog 38 #[.agg cs.toArray] w fun e w' => e = .returned (.bool (twoOk m)) ∧ Ext w w' := by
  obtain ⟨u, v, u', v', rfl, hu, hv⟩ := two_V.1 h
  obtain ⟨d, d'⟩ := m
  simp only at hu hv
  obtain ⟨⟨ua, uc, rfl⟩, va, vc, rfl⟩ := disk_forms hu
  obtain ⟨⟨ua', uc', rfl⟩, va', vc', rfl⟩ := disk_forms hv
  have H := Lib.hid (And.intro hu hv); clear hu hv h
  cases h1 : diskOk d
  · have H1 := Lib.hid h1; clear h1
    go_enter Try.func38, Try.ntmps38
    go_wp2_with fail
    refine (implDiskOk_c _ d _ (diskC.vext H.out.1 (by repeat (first | with_reducible exact Ext.refl _ | with_reducible assumption | with_reducible refine Ext.pAlloc ?_ _ | ((with_reducible refine Ext.pSet ?_ ?_ _); rotate_left; (simp <;> omega)) | with_reducible refine Ext.pDrew ?_ | with_reducible refine Ext.pDrewN ?_ _)))).mono ?_
    rw [H1.out]
    rintro e w1 ⟨rfl, Ew1⟩
    have Xw1 : Ext w w1 := Ext.trans (by repeat (first | with_reducible exact Ext.refl _ | with_reducible assumption | with_reducible refine Ext.pAlloc ?_ _ | ((with_reducible refine Ext.pSet ?_ ?_ _); rotate_left; (simp <;> omega)) | with_reducible refine Ext.pDrew ?_ | with_reducible refine Ext.pDrewN ?_ _)) Ew1
    have zw1 : w.heap.size + 1 ≤ w1.heap.size := by have := Ew1.size; (try simp at this); omega
    have B_t' : Bx w1 w.heap.size [.slice ua d.1.length uc, .slice va d.2.length vc, .slice ua' d'.1.length uc', .slice va' d'.2.length vc'] := Bx.ext (by repeat (first | with_reducible assumption | with_reducible exact Bx.new _ _ _ _ rfl | ((with_reducible refine Bx.new _ _ _ _ ?_); simp; done) | with_reducible refine Bx.pAlloc ?_ _ | with_reducible refine Bx.pDrew ?_ | with_reducible refine Bx.pDrewN ?_ _ | with_reducible apply Bx.set10 | with_reducible apply Bx.set20 | with_reducible apply Bx.set21 | with_reducible apply Bx.set30 | with_reducible apply Bx.set31 | with_reducible apply Bx.set32 | with_reducible apply Bx.set40 | with_reducible apply Bx.set41 | with_reducible apply Bx.set42 | with_reducible apply Bx.set43 | ((with_reducible refine Bx.set_other ?_ ?_ _); rotate_left; (simp <;> omega)))) Ew1
    have B_t := B_t'; clear B_t'
    clear Ew1
    have c_t_0 := B_t.cell 0 _ rfl
    have c_t_1 := B_t.cell 1 _ rfl
    have c_t_2 := B_t.cell 2 _ rfl
    have c_t_3 := B_t.cell 3 _ rfl
    have n_t := B_t.lt
    go_wp2
    go_ret
    exact ⟨retB (by simp [twoOk, H1.out]), by repeat (first | with_reducible exact Ext.refl _ | with_reducible assumption | with_reducible refine Ext.pAlloc ?_ _ | ((with_reducible refine Ext.pSet ?_ ?_ _); rotate_left; (simp <;> omega)) | with_reducible refine Ext.pDrew ?_ | with_reducible refine Ext.pDrewN ?_ _)⟩
  · cases h2 : diskOk d'
    · have H1 := Lib.hid h1; have H2 := Lib.hid h2; clear h1 h2
      go_enter Try.func38, Try.ntmps38
      go_wp2_with fail
      refine (implDiskOk_c _ d _ (diskC.vext H.out.1 (by repeat (first | with_reducible exact Ext.refl _ | with_reducible assumption | with_reducible refine Ext.pAlloc ?_ _ | ((with_reducible refine Ext.pSet ?_ ?_ _); rotate_left; (simp <;> omega)) | with_reducible refine Ext.pDrew ?_ | with_reducible refine Ext.pDrewN ?_ _)))).mono ?_
      rw [H1.out]
      rintro e w1 ⟨rfl, Ew1⟩
      have Xw1 : Ext w w1 := Ext.trans (by repeat (first | with_reducible exact Ext.refl _ | with_reducible assumption | with_reducible refine Ext.pAlloc ?_ _ | ((with_reducible refine Ext.pSet ?_ ?_ _); rotate_left; (simp <;> omega)) | with_reducible refine Ext.pDrew ?_ | with_reducible refine Ext.pDrewN ?_ _)) Ew1
      have zw1 : w.heap.size + 1 ≤ w1.heap.size := by have := Ew1.size; (try simp at this); omega
      have B_t' : Bx w1 w.heap.size [.slice ua d.1.length uc, .slice va d.2.length vc, .slice ua' d'.1.length uc', .slice va' d'.2.length vc'] := Bx.ext (by repeat (first | with_reducible assumption | with_reducible exact Bx.new _ _ _ _ rfl | ((with_reducible refine Bx.new _ _ _ _ ?_); simp; done) | with_reducible refine Bx.pAlloc ?_ _ | with_reducible refine Bx.pDrew ?_ | with_reducible refine Bx.pDrewN ?_ _ | with_reducible apply Bx.set10 | with_reducible apply Bx.set20 | with_reducible apply Bx.set21 | with_reducible apply Bx.set30 | with_reducible apply Bx.set31 | with_reducible apply Bx.set32 | with_reducible apply Bx.set40 | with_reducible apply Bx.set41 | with_reducible apply Bx.set42 | with_reducible apply Bx.set43 | ((with_reducible refine Bx.set_other ?_ ?_ _); rotate_left; (simp <;> omega)))) Ew1
      have B_t := B_t'; clear B_t'
      clear Ew1
      have c_t_0 := B_t.cell 0 _ rfl
      have c_t_1 := B_t.cell 1 _ rfl
      have c_t_2 := B_t.cell 2 _ rfl
      have c_t_3 := B_t.cell 3 _ rfl
      have n_t := B_t.lt
      go_wp2_with fail
      refine (implDiskOk_c _ d' _ (diskC.vext H.out.2 (by repeat (first | with_reducible exact Ext.refl _ | with_reducible assumption | with_reducible refine Ext.pAlloc ?_ _ | ((with_reducible refine Ext.pSet ?_ ?_ _); rotate_left; (simp <;> omega)) | with_reducible refine Ext.pDrew ?_ | with_reducible refine Ext.pDrewN ?_ _)))).mono ?_
      rw [H2.out]
      rintro e w2 ⟨rfl, Ew2⟩
      have Xw2 : Ext w w2 := Ext.trans (by repeat (first | with_reducible exact Ext.refl _ | with_reducible assumption | with_reducible refine Ext.pAlloc ?_ _ | ((with_reducible refine Ext.pSet ?_ ?_ _); rotate_left; (simp <;> omega)) | with_reducible refine Ext.pDrew ?_ | with_reducible refine Ext.pDrewN ?_ _)) Ew2
      have zw2 : w1.heap.size ≤ w2.heap.size := by have := Ew2.size; (try simp at this); omega
      have B_t' : Bx w2 w.heap.size [.slice ua d.1.length uc, .slice va d.2.length vc, .slice ua' d'.1.length uc', .slice va' d'.2.length vc'] := Bx.ext (by repeat (first | with_reducible assumption | with_reducible exact Bx.new _ _ _ _ rfl | ((with_reducible refine Bx.new _ _ _ _ ?_); simp; done) | with_reducible refine Bx.pAlloc ?_ _ | with_reducible refine Bx.pDrew ?_ | with_reducible refine Bx.pDrewN ?_ _ | with_reducible apply Bx.set10 | with_reducible apply Bx.set20 | with_reducible apply Bx.set21 | with_reducible apply Bx.set30 | with_reducible apply Bx.set31 | with_reducible apply Bx.set32 | with_reducible apply Bx.set40 | with_reducible apply Bx.set41 | with_reducible apply Bx.set42 | with_reducible apply Bx.set43 | ((with_reducible refine Bx.set_other ?_ ?_ _); rotate_left; (simp <;> omega)))) Ew2
      clear c_t_0 c_t_1 c_t_2 c_t_3 n_t
      clear B_t
      have B_t := B_t'; clear B_t'
      clear Ew2 Xw1
      have c_t_0 := B_t.cell 0 _ rfl
      have c_t_1 := B_t.cell 1 _ rfl
      have c_t_2 := B_t.cell 2 _ rfl
      have c_t_3 := B_t.cell 3 _ rfl
      have n_t := B_t.lt
      go_wp2
      go_ret
      exact ⟨retB (by simp [twoOk, H1.out, H2.out]), by repeat (first | with_reducible exact Ext.refl _ | with_reducible assumption | with_reducible refine Ext.pAlloc ?_ _ | ((with_reducible refine Ext.pSet ?_ ?_ _); rotate_left; (simp <;> omega)) | with_reducible refine Ext.pDrew ?_ | with_reducible refine Ext.pDrewN ?_ _)⟩
    · have H1 := Lib.hid h1; have H2 := Lib.hid h2; clear h1 h2
      go_enter Try.func38, Try.ntmps38
      go_wp2_with fail
      refine (implDiskOk_c _ d _ (diskC.vext H.out.1 (by repeat (first | with_reducible exact Ext.refl _ | with_reducible assumption | with_reducible refine Ext.pAlloc ?_ _ | ((with_reducible refine Ext.pSet ?_ ?_ _); rotate_left; (simp <;> omega)) | with_reducible refine Ext.pDrew ?_ | with_reducible refine Ext.pDrewN ?_ _)))).mono ?_
      rw [H1.out]
      rintro e w1 ⟨rfl, Ew1⟩
      have Xw1 : Ext w w1 := Ext.trans (by repeat (first | with_reducible exact Ext.refl _ | with_reducible assumption | with_reducible refine Ext.pAlloc ?_ _ | ((with_reducible refine Ext.pSet ?_ ?_ _); rotate_left; (simp <;> omega)) | with_reducible refine Ext.pDrew ?_ | with_reducible refine Ext.pDrewN ?_ _)) Ew1
      have zw1 : w.heap.size + 1 ≤ w1.heap.size := by have := Ew1.size; (try simp at this); omega
      have B_t' : Bx w1 w.heap.size [.slice ua d.1.length uc, .slice va d.2.length vc, .slice ua' d'.1.length uc', .slice va' d'.2.length vc'] := Bx.ext (by repeat (first | with_reducible assumption | with_reducible exact Bx.new _ _ _ _ rfl | ((with_reducible refine Bx.new _ _ _ _ ?_); simp; done) | with_reducible refine Bx.pAlloc ?_ _ | with_reducible refine Bx.pDrew ?_ | with_reducible refine Bx.pDrewN ?_ _ | with_reducible apply Bx.set10 | with_reducible apply Bx.set20 | with_reducible apply Bx.set21 | with_reducible apply Bx.set30 | with_reducible apply Bx.set31 | with_reducible apply Bx.set32 | with_reducible apply Bx.set40 | with_reducible apply Bx.set41 | with_reducible apply Bx.set42 | with_reducible apply Bx.set43 | ((with_reducible refine Bx.set_other ?_ ?_ _); rotate_left; (simp <;> omega)))) Ew1
      have B_t := B_t'; clear B_t'
      clear Ew1
      have c_t_0 := B_t.cell 0 _ rfl
      have c_t_1 := B_t.cell 1 _ rfl
      have c_t_2 := B_t.cell 2 _ rfl
      have c_t_3 := B_t.cell 3 _ rfl
      have n_t := B_t.lt
      go_wp2_with fail
      refine (implDiskOk_c _ d' _ (diskC.vext H.out.2 (by repeat (first | with_reducible exact Ext.refl _ | with_reducible assumption | with_reducible refine Ext.pAlloc ?_ _ | ((with_reducible refine Ext.pSet ?_ ?_ _); rotate_left; (simp <;> omega)) | with_reducible refine Ext.pDrew ?_ | with_reducible refine Ext.pDrewN ?_ _)))).mono ?_
      rw [H2.out]
      rintro e w2 ⟨rfl, Ew2⟩
      have Xw2 : Ext w w2 := Ext.trans (by repeat (first | with_reducible exact Ext.refl _ | with_reducible assumption | with_reducible refine Ext.pAlloc ?_ _ | ((with_reducible refine Ext.pSet ?_ ?_ _); rotate_left; (simp <;> omega)) | with_reducible refine Ext.pDrew ?_ | with_reducible refine Ext.pDrewN ?_ _)) Ew2
      have zw2 : w1.heap.size ≤ w2.heap.size := by have := Ew2.size; (try simp at this); omega
      have B_t' : Bx w2 w.heap.size [.slice ua d.1.length uc, .slice va d.2.length vc, .slice ua' d'.1.length uc', .slice va' d'.2.length vc'] := Bx.ext (by repeat (first | with_reducible assumption | with_reducible exact Bx.new _ _ _ _ rfl | ((with_reducible refine Bx.new _ _ _ _ ?_); simp; done) | with_reducible refine Bx.pAlloc ?_ _ | with_reducible refine Bx.pDrew ?_ | with_reducible refine Bx.pDrewN ?_ _ | with_reducible apply Bx.set10 | with_reducible apply Bx.set20 | with_reducible apply Bx.set21 | with_reducible apply Bx.set30 | with_reducible apply Bx.set31 | with_reducible apply Bx.set32 | with_reducible apply Bx.set40 | with_reducible apply Bx.set41 | with_reducible apply Bx.set42 | with_reducible apply Bx.set43 | ((with_reducible refine Bx.set_other ?_ ?_ _); rotate_left; (simp <;> omega)))) Ew2
      clear c_t_0 c_t_1 c_t_2 c_t_3 n_t
      clear B_t
      have B_t := B_t'; clear B_t'
      clear Ew2 Xw1
      have c_t_0 := B_t.cell 0 _ rfl
      have c_t_1 := B_t.cell 1 _ rfl
      have c_t_2 := B_t.cell 2 _ rfl
      have c_t_3 := B_t.cell 3 _ rfl
      have n_t := B_t.lt
      go_wp2
      go_ret
      exact ⟨retB (by rw [Bool.eq_iff_iff]; simp [twoOk, H1.out, H2.out]; omega), by repeat (first | with_reducible exact Ext.refl _ | with_reducible assumption | with_reducible refine Ext.pAlloc ?_ _ | ((with_reducible refine Ext.pSet ?_ ?_ _); rotate_left; (simp <;> omega)) | with_reducible refine Ext.pDrew ?_ | with_reducible refine Ext.pDrewN ?_ _)⟩

set_option maxHeartbeats 1600000 in
theorem specTwoOk_c (cs : List Value) (m : TwoD) (w : World) (h : twoC.V w cs m) :
    Calls Try.prog 36 #[.agg cs.toArray] w fun e w' => e = .returned (.bool (twoOk m)) ∧ Ext w w' := by
  obtain ⟨u, v, u', v', rfl, hu, hv⟩ := two_V.1 h
  obtain ⟨d, d'⟩ := m
  simp only at hu hv
  obtain ⟨⟨ua, uc, rfl⟩, va, vc, rfl⟩ := disk_forms hu
  obtain ⟨⟨ua', uc', rfl⟩, va', vc', rfl⟩ := disk_forms hv
  have H := Lib.hid (And.intro hu hv); clear hu hv h
  cases h1 : diskOk d
  · have H1 := Lib.hid h1; clear h1
    go_enter Try.func36, Try.ntmps36
    go_wp2_with fail
    refine (specDiskOk_c _ d _ (diskC.vext H.out.1 (by repeat (first | with_reducible exact Ext.refl _ | with_reducible assumption | with_reducible refine Ext.pAlloc ?_ _ | ((with_reducible refine Ext.pSet ?_ ?_ _); rotate_left; (simp <;> omega)) | with_reducible refine Ext.pDrew ?_ | with_reducible refine Ext.pDrewN ?_ _)))).mono ?_
    rw [H1.out]
    rintro e w1 ⟨rfl, Ew1⟩
    have Xw1 : Ext w w1 := Ext.trans (by repeat (first | with_reducible exact Ext.refl _ | with_reducible assumption | with_reducible refine Ext.pAlloc ?_ _ | ((with_reducible refine Ext.pSet ?_ ?_ _); rotate_left; (simp <;> omega)) | with_reducible refine Ext.pDrew ?_ | with_reducible refine Ext.pDrewN ?_ _)) Ew1
    have zw1 : w.heap.size + 1 ≤ w1.heap.size := by have := Ew1.size; (try simp at this); omega
    have B_t' : Bx w1 w.heap.size [.slice ua d.1.length uc, .slice va d.2.length vc, .slice ua' d'.1.length uc', .slice va' d'.2.length vc'] := Bx.ext (by repeat (first | with_reducible assumption | with_reducible exact Bx.new _ _ _ _ rfl | ((with_reducible refine Bx.new _ _ _ _ ?_); simp; done) | with_reducible refine Bx.pAlloc ?_ _ | with_reducible refine Bx.pDrew ?_ | with_reducible refine Bx.pDrewN ?_ _ | with_reducible apply Bx.set10 | with_reducible apply Bx.set20 | with_reducible apply Bx.set21 | with_reducible apply Bx.set30 | with_reducible apply Bx.set31 | with_reducible apply Bx.set32 | with_reducible apply Bx.set40 | with_reducible apply Bx.set41 | with_reducible apply Bx.set42 | with_reducible apply Bx.set43 | ((with_reducible refine Bx.set_other ?_ ?_ _); rotate_left; (simp <;> omega)))) Ew1
    have B_t := B_t'; clear B_t'
    clear Ew1
    have c_t_0 := B_t.cell 0 _ rfl
    have c_t_1 := B_t.cell 1 _ rfl
    have c_t_2 := B_t.cell 2 _ rfl
    have c_t_3 := B_t.cell 3 _ rfl
    have n_t := B_t.lt
    go_wp2
    go_ret
    exact ⟨retB (by simp [twoOk, H1.out]), by repeat (first | with_reducible exact Ext.refl _ | with_reducible assumption | with_reducible refine Ext.pAlloc ?_ _ | ((with_reducible refine Ext.pSet ?_ ?_ _); rotate_left; (simp <;> omega)) | with_reducible refine Ext.pDrew ?_ | with_reducible refine Ext.pDrewN ?_ _)⟩
  · cases h2 : diskOk d'
    · have H1 := Lib.hid h1; have H2 := Lib.hid h2; clear h1 h2
      go_enter Try.func36, Try.ntmps36
      go_wp2_with fail
      refine (specDiskOk_c _ d _ (diskC.vext H.out.1 (by repeat (first | with_reducible exact Ext.refl _ | with_reducible assumption | with_reducible refine Ext.pAlloc ?_ _ | ((with_reducible refine Ext.pSet ?_ ?_ _); rotate_left; (simp <;> omega)) | with_reducible refine Ext.pDrew ?_ | with_reducible refine Ext.pDrewN ?_ _)))).mono ?_
      rw [H1.out]
      rintro e w1 ⟨rfl, Ew1⟩
      have Xw1 : Ext w w1 := Ext.trans (by repeat (first | with_reducible exact Ext.refl _ | with_reducible assumption | with_reducible refine Ext.pAlloc ?_ _ | ((with_reducible refine Ext.pSet ?_ ?_ _); rotate_left; (simp <;> omega)) | with_reducible refine Ext.pDrew ?_ | with_reducible refine Ext.pDrewN ?_ _)) Ew1
      have zw1 : w.heap.size + 1 ≤ w1.heap.size := by have := Ew1.size; (try simp at this); omega
      have B_t' : Bx w1 w.heap.size [.slice ua d.1.length uc, .slice va d.2.length vc, .slice ua' d'.1.length uc', .slice va' d'.2.length vc'] := Bx.ext (by repeat (first | with_reducible assumption | with_reducible exact Bx.new _ _ _ _ rfl | ((with_reducible refine Bx.new _ _ _ _ ?_); simp; done) | with_reducible refine Bx.pAlloc ?_ _ | with_reducible refine Bx.pDrew ?_ | with_reducible refine Bx.pDrewN ?_ _ | with_reducible apply Bx.set10 | with_reducible apply Bx.set20 | with_reducible apply Bx.set21 | with_reducible apply Bx.set30 | with_reducible apply Bx.set31 | with_reducible apply Bx.set32 | with_reducible apply Bx.set40 | with_reducible apply Bx.set41 | with_reducible apply Bx.set42 | with_reducible apply Bx.set43 | ((with_reducible refine Bx.set_other ?_ ?_ _); rotate_left; (simp <;> omega)))) Ew1
      have B_t := B_t'; clear B_t'
      clear Ew1
      have c_t_0 := B_t.cell 0 _ rfl
      have c_t_1 := B_t.cell 1 _ rfl
      have c_t_2 := B_t.cell 2 _ rfl
      have c_t_3 := B_t.cell 3 _ rfl
      have n_t := B_t.lt
      go_wp2_with fail
      refine (specDiskOk_c _ d' _ (diskC.vext H.out.2 (by repeat (first | with_reducible exact Ext.refl _ | with_reducible assumption | with_reducible refine Ext.pAlloc ?_ _ | ((with_reducible refine Ext.pSet ?_ ?_ _); rotate_left; (simp <;> omega)) | with_reducible refine Ext.pDrew ?_ | with_reducible refine Ext.pDrewN ?_ _)))).mono ?_
      rw [H2.out]
      rintro e w2 ⟨rfl, Ew2⟩
      have Xw2 : Ext w w2 := Ext.trans (by repeat (first | with_reducible exact Ext.refl _ | with_reducible assumption | with_reducible refine Ext.pAlloc ?_ _ | ((with_reducible refine Ext.pSet ?_ ?_ _); rotate_left; (simp <;> omega)) | with_reducible refine Ext.pDrew ?_ | with_reducible refine Ext.pDrewN ?_ _)) Ew2
      have zw2 : w1.heap.size ≤ w2.heap.size := by have := Ew2.size; (try simp at this); omega
      have B_t' : Bx w2 w.heap.size [.slice ua d.1.length uc, .slice va d.2.length vc, .slice ua' d'.1.length uc', .slice va' d'.2.length vc'] := Bx.ext (by repeat (first | with_reducible assumption | with_reducible exact Bx.new _ _ _ _ rfl | ((with_reducible refine Bx.new _ _ _ _ ?_); simp; done) | with_reducible refine Bx.pAlloc ?_ _ | with_reducible refine Bx.pDrew ?_ | with_reducible refine Bx.pDrewN ?_ _ | with_reducible apply Bx.set10 | with_reducible apply Bx.set20 | with_reducible apply Bx.set21 | with_reducible apply Bx.set30 | with_reducible apply Bx.set31 | with_reducible apply Bx.set32 | with_reducible apply Bx.set40 | with_reducible apply Bx.set41 | with_reducible apply Bx.set42 | with_reducible apply Bx.set43 | ((with_reducible refine Bx.set_other ?_ ?_ _); rotate_left; (simp <;> omega)))) Ew2
      clear c_t_0 c_t_1 c_t_2 c_t_3 n_t
      clear B_t
      have B_t := B_t'; clear B_t'
      clear Ew2 Xw1
      have c_t_0 := B_t.cell 0 _ rfl
      have c_t_1 := B_t.cell 1 _ rfl
      have c_t_2 := B_t.cell 2 _ rfl
      have c_t_3 := B_t.cell 3 _ rfl
      have n_t := B_t.lt
      go_wp2
      go_ret
      exact ⟨retB (by simp [twoOk, H1.out, H2.out]), by repeat (first | with_reducible exact Ext.refl _ | with_reducible assumption | with_reducible refine Ext.pAlloc ?_ _ | ((with_reducible refine Ext.pSet ?_ ?_ _); rotate_left; (simp <;> omega)) | with_reducible refine Ext.pDrew ?_ | with_reducible refine Ext.pDrewN ?_ _)⟩
    · have H1 := Lib.hid h1; have H2 := Lib.hid h2; clear h1 h2
      go_enter Try.func36, Try.ntmps36
      go_wp2_with fail
      refine (specDiskOk_c _ d _ (diskC.vext H.out.1 (by repeat (first | with_reducible exact Ext.refl _ | with_reducible assumption | with_reducible refine Ext.pAlloc ?_ _ | ((with_reducible refine Ext.pSet ?_ ?_ _); rotate_left; (simp <;> omega)) | with_reducible refine Ext.pDrew ?_ | with_reducible refine Ext.pDrewN ?_ _)))).mono ?_
      rw [H1.out]
      rintro e w1 ⟨rfl, Ew1⟩
      have Xw1 : Ext w w1 := Ext.trans (by repeat (first | with_reducible exact Ext.refl _ | with_reducible assumption | with_reducible refine Ext.pAlloc ?_ _ | ((with_reducible refine Ext.pSet ?_ ?_ _); rotate_left; (simp <;> omega)) | with_reducible refine Ext.pDrew ?_ | with_reducible refine Ext.pDrewN ?_ _)) Ew1
      have zw1 : w.heap.size + 1 ≤ w1.heap.size := by have := Ew1.size; (try simp at this); omega
      have B_t' : Bx w1 w.heap.size [.slice ua d.1.length uc, .slice va d.2.length vc, .slice ua' d'.1.length uc', .slice va' d'.2.length vc'] := Bx.ext (by repeat (first | with_reducible assumption | with_reducible exact Bx.new _ _ _ _ rfl | ((with_reducible refine Bx.new _ _ _ _ ?_); simp; done) | with_reducible refine Bx.pAlloc ?_ _ | with_reducible refine Bx.pDrew ?_ | with_reducible refine Bx.pDrewN ?_ _ | with_reducible apply Bx.set10 | with_reducible apply Bx.set20 | with_reducible apply Bx.set21 | with_reducible apply Bx.set30 | with_reducible apply Bx.set31 | with_reducible apply Bx.set32 | with_reducible apply Bx.set40 | with_reducible apply Bx.set41 | with_reducible apply Bx.set42 | with_reducible apply Bx.set43 | ((with_reducible refine Bx.set_other ?_ ?_ _); rotate_left; (simp <;> omega)))) Ew1
      have B_t := B_t'; clear B_t'
      clear Ew1
      have c_t_0 := B_t.cell 0 _ rfl
      have c_t_1 := B_t.cell 1 _ rfl
      have c_t_2 := B_t.cell 2 _ rfl
      have c_t_3 := B_t.cell 3 _ rfl
      have n_t := B_t.lt
      go_wp2_with fail
      refine (specDiskOk_c _ d' _ (diskC.vext H.out.2 (by repeat (first | with_reducible exact Ext.refl _ | with_reducible assumption | with_reducible refine Ext.pAlloc ?_ _ | ((with_reducible refine Ext.pSet ?_ ?_ _); rotate_left; (simp <;> omega)) | with_reducible refine Ext.pDrew ?_ | with_reducible refine Ext.pDrewN ?_ _)))).mono ?_
      rw [H2.out]
      rintro e w2 ⟨rfl, Ew2⟩
      have Xw2 : Ext w w2 := Ext.trans (by repeat (first | with_reducible exact Ext.refl _ | with_reducible assumption | with_reducible refine Ext.pAlloc ?_ _ | ((with_reducible refine Ext.pSet ?_ ?_ _); rotate_left; (simp <;> omega)) | with_reducible refine Ext.pDrew ?_ | with_reducible refine Ext.pDrewN ?_ _)) Ew2
      have zw2 : w1.heap.size ≤ w2.heap.size := by have := Ew2.size; (try simp at this); omega
      have B_t' : Bx w2 w.heap.size [.slice ua d.1.length uc, .slice va d.2.length vc, .slice ua' d'.1.length uc', .slice va' d'.2.length vc'] := Bx.ext (by repeat (first | with_reducible assumption | with_reducible exact Bx.new _ _ _ _ rfl | ((with_reducible refine Bx.new _ _ _ _ ?_); simp; done) | with_reducible refine Bx.pAlloc ?_ _ | with_reducible refine Bx.pDrew ?_ | with_reducible refine Bx.pDrewN ?_ _ | with_reducible apply Bx.set10 | with_reducible apply Bx.set20 | with_reducible apply Bx.set21 | with_reducible apply Bx.set30 | with_reducible apply Bx.set31 | with_reducible apply Bx.set32 | with_reducible apply Bx.set40 | with_reducible apply Bx.set41 | with_reducible apply Bx.set42 | with_reducible apply Bx.set43 | ((with_reducible refine Bx.set_other ?_ ?_ _); rotate_left; (simp <;> omega)))) Ew2
      clear c_t_0 c_t_1 c_t_2 c_t_3 n_t
      clear B_t
      have B_t := B_t'; clear B_t'
      clear Ew2 Xw1
      have c_t_0 := B_t.cell 0 _ rfl
      have c_t_1 := B_t.cell 1 _ rfl
      have c_t_2 := B_t.cell 2 _ rfl
      have c_t_3 := B_t.cell 3 _ rfl
      have n_t := B_t.lt
      go_wp2
      go_ret
      exact ⟨retB (by rw [Bool.eq_iff_iff]; simp [twoOk, H1.out, H2.out]; omega), by repeat (first | with_reducible exact Ext.refl _ | with_reducible assumption | with_reducible refine Ext.pAlloc ?_ _ | ((with_reducible refine Ext.pSet ?_ ?_ _); rotate_left; (simp <;> omega)) | with_reducible refine Ext.pDrew ?_ | with_reducible refine Ext.pDrewN ?_ _)⟩

set_option maxHeartbeats 1600000 in
theorem implNewTwo_c (n : Int) (w : World) :
    Calls Try.prog 40 #[.int .i64 n] w fun e w' => ∃ u v u' v', e = .returned (.agg #[u, v, u', v']) ∧ Ext w w' ∧ twoC.own w.heap.size w'.heap.size w' [u, v, u', v'] (newTwo n) := by
  go_enter Try.func40, Try.ntmps40
  go_wp2_with fail
  refine (implNewDisk_c _ _).mono ?_
  rintro e w1 ⟨u_x, v_x, rfl, Ew1, O_x⟩
  obtain ⟨⟨a_x, c_x, rfl⟩, b_x, e_x, rfl⟩ := disk_forms O_x.view
  have Xw1 : Ext w w1 := Ext.trans (by repeat (first | with_reducible exact Ext.refl _ | with_reducible assumption | with_reducible refine Ext.pAlloc ?_ _ | ((with_reducible refine Ext.pSet ?_ ?_ _); rotate_left; (simp <;> omega)) | with_reducible refine Ext.pDrew ?_ | with_reducible refine Ext.pDrewN ?_ _)) Ew1
  have zw1 : w.heap.size + 1 ≤ w1.heap.size := by have := Ew1.size; (try simp at this); omega
  have B_r' : Bx w1 w.heap.size [.slice none 0 0, .slice none 0 0, .slice none 0 0, .slice none 0 0] := Bx.ext (by repeat (first | with_reducible assumption | with_reducible exact Bx.new _ _ _ _ rfl | ((with_reducible refine Bx.new _ _ _ _ ?_); simp; done) | with_reducible refine Bx.pAlloc ?_ _ | with_reducible refine Bx.pDrew ?_ | with_reducible refine Bx.pDrewN ?_ _ | with_reducible apply Bx.set10 | with_reducible apply Bx.set20 | with_reducible apply Bx.set21 | with_reducible apply Bx.set30 | with_reducible apply Bx.set31 | with_reducible apply Bx.set32 | with_reducible apply Bx.set40 | with_reducible apply Bx.set41 | with_reducible apply Bx.set42 | with_reducible apply Bx.set43 | ((with_reducible refine Bx.set_other ?_ ?_ _); rotate_left; (simp <;> omega)))) Ew1
  have B_r := B_r'; clear B_r'
  replace O_x := O_x.wide (lo' := w.heap.size + 1) (hi' := w1.heap.size) (by first | omega | (simp <;> omega)) (Nat.le_refl _)
  clear Ew1
  have c_r_0 := B_r.cell 0 _ rfl
  have c_r_1 := B_r.cell 1 _ rfl
  have c_r_2 := B_r.cell 2 _ rfl
  have c_r_3 := B_r.cell 3 _ rfl
  have n_r := B_r.lt
  have f_r := B_r.fr
  go_wp2_with fail
  refine (implNewDisk_c _ _).mono ?_
  rintro e w2 ⟨u_y, v_y, rfl, Ew2, O_y⟩
  obtain ⟨⟨a_y, c_y, rfl⟩, b_y, e_y, rfl⟩ := disk_forms O_y.view
  have Xw2 : Ext w w2 := Ext.trans (by repeat (first | with_reducible exact Ext.refl _ | with_reducible assumption | with_reducible refine Ext.pAlloc ?_ _ | ((with_reducible refine Ext.pSet ?_ ?_ _); rotate_left; (simp <;> omega)) | with_reducible refine Ext.pDrew ?_ | with_reducible refine Ext.pDrewN ?_ _)) Ew2
  have zw2 : w1.heap.size ≤ w2.heap.size := by have := Ew2.size; (try simp at this); omega
  have B_r' : Bx w2 w.heap.size [.slice none 0 0, .slice none 0 0, .slice none 0 0, .slice none 0 0] := Bx.ext (by repeat (first | with_reducible assumption | with_reducible exact Bx.new _ _ _ _ rfl | ((with_reducible refine Bx.new _ _ _ _ ?_); simp; done) | with_reducible refine Bx.pAlloc ?_ _ | with_reducible refine Bx.pDrew ?_ | with_reducible refine Bx.pDrewN ?_ _ | with_reducible apply Bx.set10 | with_reducible apply Bx.set20 | with_reducible apply Bx.set21 | with_reducible apply Bx.set30 | with_reducible apply Bx.set31 | with_reducible apply Bx.set32 | with_reducible apply Bx.set40 | with_reducible apply Bx.set41 | with_reducible apply Bx.set42 | with_reducible apply Bx.set43 | ((with_reducible refine Bx.set_other ?_ ?_ _); rotate_left; (simp <;> omega)))) Ew2
  have O_x' : (diskC).own (w.heap.size + 1) (w1.heap.size) w2 [.slice a_x (newDisk n).1.length c_x, .slice b_x (newDisk n).2.length e_x] (newDisk n) := Cd.own.ext (by repeat (first | with_reducible assumption | with_reducible refine Cd.own.pAlloc ?_ _ | with_reducible refine Cd.own.pDrew ?_ | with_reducible refine Cd.own.pDrewN ?_ _ | ((with_reducible refine Cd.own.pSet ?_ ?_ _); rotate_left; (simp <;> omega)))) Ew2
  clear c_r_0 c_r_1 c_r_2 c_r_3 n_r f_r
  clear B_r
  have B_r := B_r'; clear B_r'
  clear O_x; have O_x := O_x'; clear O_x'
  replace O_y := O_y.wide (lo' := w1.heap.size) (hi' := w2.heap.size) (by first | omega | (simp <;> omega)) (Nat.le_refl _)
  clear Ew2 Xw1
  have c_r_0 := B_r.cell 0 _ rfl
  have c_r_1 := B_r.cell 1 _ rfl
  have c_r_2 := B_r.cell 2 _ rfl
  have c_r_3 := B_r.cell 3 _ rfl
  have n_r := B_r.lt
  have f_r := B_r.fr
  go_wp2
  refine bodyPost_ret (v := .agg #[.slice a_x (newDisk n).1.length c_x, .slice b_x (newDisk n).2.length e_x, .slice a_y (newDisk n).1.length c_y, .slice b_y (newDisk n).2.length e_y]) (by simp [results, Try.results40, go_sem, c_r_0, c_r_1, c_r_2, c_r_3]) rfl ⟨_, _, _, _, rfl, ?_, ?_⟩
  · repeat (first | with_reducible exact Ext.refl _ | with_reducible assumption | with_reducible refine Ext.pAlloc ?_ _ | ((with_reducible refine Ext.pSet ?_ ?_ _); rotate_left; (simp <;> omega)) | with_reducible refine Ext.pDrew ?_ | with_reducible refine Ext.pDrewN ?_ _)
  · exact Cd.own.wide (prod_own (c := [_, _]) (d := [_, _]) (mid := w1.heap.size) (lo := w.heap.size + 1) (hi := w2.heap.size) (by repeat (first | with_reducible assumption | with_reducible refine Cd.own.pAlloc ?_ _ | with_reducible refine Cd.own.pDrew ?_ | with_reducible refine Cd.own.pDrewN ?_ _ | ((with_reducible refine Cd.own.pSet ?_ ?_ _); rotate_left; (simp <;> omega)))) (by repeat (first | with_reducible assumption | with_reducible refine Cd.own.pAlloc ?_ _ | with_reducible refine Cd.own.pDrew ?_ | with_reducible refine Cd.own.pDrewN ?_ _ | ((with_reducible refine Cd.own.pSet ?_ ?_ _); rotate_left; (simp <;> omega)))) (by omega) (by omega)) (by omega) (by simp [World.setCell])


end Go.Proofs.Ytbapomhoipdanaa

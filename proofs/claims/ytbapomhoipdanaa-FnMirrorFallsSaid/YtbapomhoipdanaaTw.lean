/- Two disks: how they read, the laws' helpers on them; right, new. -/
import Derived.Test.YtbapomhoipdanaaApd
import Derived.Test.YtbapomhoipdanaaDk3
set_option linter.unusedVariables false
set_option linter.unusedSimpArgs false
namespace Go.Proofs.Ytbapomhoipdanaa
open Go.RowKit Go.Sl

abbrev TwoD := DiskD × DiskD
abbrev twoC : Cd TwoD := prodC diskC diskC
theorem two_V {w : World} {cs : List Value} {m : TwoD} : twoC.V w cs m ↔ ∃ u v u' v', cs = [u, v, u', v'] ∧ diskC.V w [u, v] m.1 ∧ diskC.V w [u', v'] m.2 := by
  constructor
  · rintro ⟨c, d, rfl, h1, h2⟩
    obtain ⟨u, v, rfl, _⟩ := disk_V.1 h1
    obtain ⟨u', v', rfl, _⟩ := disk_V.1 h2
    exact ⟨u, v, u', v', rfl, h1, h2⟩
  · rintro ⟨u, v, u', v', rfl, h1, h2⟩
    exact ⟨[u, v], [u', v'], rfl, h1, h2⟩
theorem two_O {w : World} {cs : List Value} {m : TwoD} {fp : List Nat} : twoC.O w cs m fp ↔ ∃ u v u' v' f g, cs = [u, v, u', v'] ∧ fp = f ++ g ∧ diskC.O w [u, v] m.1 f ∧ diskC.O w [u', v'] m.2 g := by
  constructor
  · rintro ⟨c, d, f, g, rfl, rfl, h1, h2⟩
    obtain ⟨u, v, rfl, _⟩ := disk_V.1 (diskC.view h1)
    obtain ⟨u', v', rfl, _⟩ := disk_V.1 (diskC.view h2)
    exact ⟨u, v, u', v', f, g, rfl, rfl, h1, h2⟩
  · rintro ⟨u, v, u', v', f, g, rfl, rfl, h1, h2⟩
    exact ⟨[u, v], [u', v'], f, g, rfl, rfl, h1, h2⟩
theorem disk_forms {w : World} {u v : Value} {d : DiskD} (h : diskC.V w [u, v] d) : (∃ a c, u = .slice a d.1.length c) ∧ ∃ a c, v = .slice a d.2.length c := by
  obtain ⟨u', v', e, hu, hv⟩ := disk_V.1 h
  cases e
  exact ⟨sl_form hu, sl_form hv⟩
def tcnt (d : TwoD) : Nat := dcnt d.1 + dcnt d.2
def tmk (q : Int) (d : TwoD) : TwoD := (dmk q d.1, dmk (q + dcnt d.1) d.2)
def tsz (d : TwoD) : Nat := dsz d.1 + dsz d.2
def tsmall (d : TwoD) : Prop := dsmall d.1 ∧ dsmall d.2
def twoOk (t : TwoD) : Bool := diskOk t.1 && diskOk t.2 && decide (t.1.1.length = t.2.1.length)
def newTwo (n : Int) : TwoD := (newDisk n, newDisk n)






set_option maxHeartbeats 1600000 in
theorem implTwoOk_c (cs : List Value) (m : TwoD) (w : World) (h : twoC.V w cs m) :
    Calls Try.prog 38 #[.agg cs.toArray] w fun e w' => e = .returned (.bool (twoOk m)) ∧ Ext w w' := by
  obtain ⟨u, v, u', v', rfl, hu, hv⟩ := two_V.1 h
  obtain ⟨d, d'⟩ := m
  simp only at hu hv
  obtain ⟨⟨ua, uc, rfl⟩, va, vc, rfl⟩ := disk_forms hu
  obtain ⟨⟨ua', uc', rfl⟩, va', vc', rfl⟩ := disk_forms hv
  have H := Lib.hid (And.intro hu hv); clear hu hv h
  cases h1 : diskOk d
  · have H1 := Lib.hid h1; clear h1
    go_enter Try.func38, Try.ntmps38
    go_wp2_with fail
    refine (implDiskOk_c _ d _ (diskC.vext H.out.1 (by repeat (first | with_reducible exact Ext.refl _ | with_reducible assumption | with_reducible refine Ext.pAlloc ?_ _ | ((with_reducible refine Ext.pSet ?_ ?_ _); rotate_left; (simp <;> omega)) | with_reducible refine Ext.pDrew ?_ | with_reducible refine Ext.pDrewN ?_ _)))).mono ?_
    rw [H1.out]
    rintro e w1 ⟨rfl, Ew1⟩
    have Xw1 : Ext w w1 := Ext.trans (by repeat (first | with_reducible exact Ext.refl _ | with_reducible assumption | with_reducible refine Ext.pAlloc ?_ _ | ((with_reducible refine Ext.pSet ?_ ?_ _); rotate_left; (simp <;> omega)) | with_reducible refine Ext.pDrew ?_ | with_reducible refine Ext.pDrewN ?_ _)) Ew1
    have zw1 : w.heap.size + 1 ≤ w1.heap.size := by have := Ew1.size; (try simp at this); omega
    have B_t' : Bx w1 w.heap.size [.slice ua d.1.length uc, .slice va d.2.length vc, .slice ua' d'.1.length uc', .slice va' d'.2.length vc'] := Bx.ext (by repeat (first | with_reducible assumption | with_reducible exact Bx.new _ _ _ _ rfl | ((with_reducible refine Bx.new _ _ _ _ ?_); simp; done) | with_reducible refine Bx.pAlloc ?_ _ | with_reducible refine Bx.pDrew ?_ | with_reducible refine Bx.pDrewN ?_ _ | with_reducible apply Bx.set10 | with_reducible apply Bx.set20 | with_reducible apply Bx.set21 | with_reducible apply Bx.set30 | with_reducible apply Bx.set31 | with_reducible apply Bx.set32 | with_reducible apply Bx.set40 | with_reducible apply Bx.set41 | with_reducible apply Bx.set42 | with_reducible apply Bx.set43 | ((with_reducible refine Bx.set_other ?_ ?_ _); rotate_left; (simp <;> omega)))) Ew1
    have B_t := B_t'; clear B_t'
    clear Ew1
    have c_t_0 := B_t.cell 0 _ rfl
    have c_t_1 := B_t.cell 1 _ rfl
    have c_t_2 := B_t.cell 2 _ rfl
    have c_t_3 := B_t.cell 3 _ rfl
    have n_t := B_t.lt
    go_wp2
    go_ret
    exact ⟨retB (by simp [twoOk, H1.out]), by repeat (first | with_reducible exact Ext.refl _ | with_reducible assumption | with_reducible refine Ext.pAlloc ?_ _ | ((with_reducible refine Ext.pSet ?_ ?_ _); rotate_left; (simp <;> omega)) | with_reducible refine Ext.pDrew ?_ | with_reducible refine Ext.pDrewN ?_ _)⟩
  · cases h2 : diskOk d'
    · have H1 := Lib.hid h1; have H2 := Lib.hid h2; clear h1 h2
      go_enter Try.func38, Try.ntmps38
      go_wp2_with fail
      refine (implDiskOk_c _ d _ (diskC.vext H.out.1 (by repeat (first | with_reducible exact Ext.refl _ | with_reducible assumption | with_reducible refine Ext.pAlloc ?_ _ | ((with_reducible refine Ext.pSet ?_ ?_ _); rotate_left; (simp <;> omega)) | with_reducible refine Ext.pDrew ?_ | with_reducible refine Ext.pDrewN ?_ _)))).mono ?_
      rw [H1.out]
      rintro e w1 ⟨rfl, Ew1⟩
      have Xw1 : Ext w w1 := Ext.trans (by repeat (first | with_reducible exact Ext.refl _ | with_reducible assumption | with_reducible refine Ext.pAlloc ?_ _ | ((with_reducible refine Ext.pSet ?_ ?_ _); rotate_left; (simp <;> omega)) | with_reducible refine Ext.pDrew ?_ | with_reducible refine Ext.pDrewN ?_ _)) Ew1
      have zw1 : w.heap.size + 1 ≤ w1.heap.size := by have := Ew1.size; (try simp at this); omega
      have B_t' : Bx w1 w.heap.size [.slice ua d.1.length uc, .slice va d.2.length vc, .slice ua' d'.1.length uc', .slice va' d'.2.length vc'] := Bx.ext (by repeat (first | with_reducible assumption | with_reducible exact Bx.new _ _ _ _ rfl | ((with_reducible refine Bx.new _ _ _ _ ?_); simp; done) | with_reducible refine Bx.pAlloc ?_ _ | with_reducible refine Bx.pDrew ?_ | with_reducible refine Bx.pDrewN ?_ _ | with_reducible apply Bx.set10 | with_reducible apply Bx.set20 | with_reducible apply Bx.set21 | with_reducible apply Bx.set30 | with_reducible apply Bx.set31 | with_reducible apply Bx.set32 | with_reducible apply Bx.set40 | with_reducible apply Bx.set41 | with_reducible apply Bx.set42 | with_reducible apply Bx.set43 | ((with_reducible refine Bx.set_other ?_ ?_ _); rotate_left; (simp <;> omega)))) Ew1
      have B_t := B_t'; clear B_t'
      clear Ew1
      have c_t_0 := B_t.cell 0 _ rfl
      have c_t_1 := B_t.cell 1 _ rfl
      have c_t_2 := B_t.cell 2 _ rfl
      have c_t_3 := B_t.cell 3 _ rfl
      have n_t := B_t.lt
      go_wp2_with fail
      refine (implDiskOk_c _ d' _ (diskC.vext H.out.2 (by repeat (first | with_reducible exact Ext.refl _ | with_reducible assumption | with_reducible refine Ext.pAlloc ?_ _ | ((with_reducible refine Ext.pSet ?_ ?_ _); rotate_left; (simp <;> omega)) | with_reducible refine Ext.pDrew ?_ | with_reducible refine Ext.pDrewN ?_ _)))).mono ?_
      rw [H2.out]
      rintro e w2 ⟨rfl, Ew2⟩
      have Xw2 : Ext w w2 := Ext.trans (by repeat (first | with_reducible exact Ext.refl _ | with_reducible assumption | with_reducible refine Ext.pAlloc ?_ _ | ((with_reducible refine Ext.pSet ?_ ?_ _); rotate_left; (simp <;> omega)) | with_reducible refine Ext.pDrew ?_ | with_reducible refine Ext.pDrewN ?_ _)) Ew2
      have zw2 : w1.heap.size ≤ w2.heap.size := by have := Ew2.size; (try simp at this); omega
      have B_t' : Bx w2 w.heap.size [.slice ua d.1.length uc, .slice va d.2.length vc, .slice ua' d'.1.length uc', .slice va' d'.2.length vc'] := Bx.ext (by repeat (first | with_reducible assumption | with_reducible exact Bx.new _ _ _ _ rfl | ((with_reducible refine Bx.new _ _ _ _ ?_); simp; done) | with_reducible refine Bx.pAlloc ?_ _ | with_reducible refine Bx.pDrew ?_ | with_reducible refine Bx.pDrewN ?_ _ | with_reducible apply Bx.set10 | with_reducible apply Bx.set20 | with_reducible apply Bx.set21 | with_reducible apply Bx.set30 | with_reducible apply Bx.set31 | with_reducible apply Bx.set32 | with_reducible apply Bx.set40 | with_reducible apply Bx.set41 | with_reducible apply Bx.set42 | with_reducible apply Bx.set43 | ((with_reducible refine Bx.set_other ?_ ?_ _); rotate_left; (simp <;> omega)))) Ew2
      clear c_t_0 c_t_1 c_t_2 c_t_3 n_t
      clear B_t
      have B_t := B_t'; clear B_t'
      clear Ew2 Xw1
      have c_t_0 := B_t.cell 0 _ rfl
      have c_t_1 := B_t.cell 1 _ rfl
      have c_t_2 := B_t.cell 2 _ rfl
      have c_t_3 := B_t.cell 3 _ rfl
      have n_t := B_t.lt
      go_wp2
      go_ret
      exact ⟨retB (by simp [twoOk, H1.out, H2.out]), by repeat (first | with_reducible exact Ext.refl _ | with_reducible assumption | with_reducible refine Ext.pAlloc ?_ _ | ((with_reducible refine Ext.pSet ?_ ?_ _); rotate_left; (simp <;> omega)) | with_reducible refine Ext.pDrew ?_ | with_reducible refine Ext.pDrewN ?_ _)⟩
    · have H1 := Lib.hid h1; have H2 := Lib.hid h2; clear h1 h2
      go_enter Try.func38, Try.ntmps38
      go_wp2_with fail
      refine (implDiskOk_c _ d _ (diskC.vext H.out.1 (by repeat (first | with_reducible exact Ext.refl _ | with_reducible assumption | with_reducible refine Ext.pAlloc ?_ _ | ((with_reducible refine Ext.pSet ?_ ?_ _); rotate_left; (simp <;> omega)) | with_reducible refine Ext.pDrew ?_ | with_reducible refine Ext.pDrewN ?_ _)))).mono ?_
      rw [H1.out]
      rintro e w1 ⟨rfl, Ew1⟩
      have Xw1 : Ext w w1 := Ext.trans (by repeat (first | with_reducible exact Ext.refl _ | with_reducible assumption | with_reducible refine Ext.pAlloc ?_ _ | ((with_reducible refine Ext.pSet ?_ ?_ _); rotate_left; (simp <;> omega)) | with_reducible refine Ext.pDrew ?_ | with_reducible refine Ext.pDrewN ?_ _)) Ew1
      have zw1 : w.heap.size + 1 ≤ w1.heap.size := by have := Ew1.size; (try simp at this); omega
      have B_t' : Bx w1 w.heap.size [.slice ua d.1.length uc, .slice va d.2.length vc, .slice ua' d'.1.length uc', .slice va' d'.2.length vc'] := Bx.ext (by repeat (first | with_reducible assumption | with_reducible exact Bx.new _ _ _ _ rfl | ((with_reducible refine Bx.new _ _ _ _ ?_); simp; done) | with_reducible refine Bx.pAlloc ?_ _ | with_reducible refine Bx.pDrew ?_ | with_reducible refine Bx.pDrewN ?_ _ | with_reducible apply Bx.set10 | with_reducible apply Bx.set20 | with_reducible apply Bx.set21 | with_reducible apply Bx.set30 | with_reducible apply Bx.set31 | with_reducible apply Bx.set32 | with_reducible apply Bx.set40 | with_reducible apply Bx.set41 | with_reducible apply Bx.set42 | with_reducible apply Bx.set43 | ((with_reducible refine Bx.set_other ?_ ?_ _); rotate_left; (simp <;> omega)))) Ew1
      have B_t := B_t'; clear B_t'
      clear Ew1
      have c_t_0 := B_t.cell 0 _ rfl
      have c_t_1 := B_t.cell 1 _ rfl
      have c_t_2 := B_t.cell 2 _ rfl
      have c_t_3 := B_t.cell 3 _ rfl
      have n_t := B_t.lt
      go_wp2_with fail
      refine (implDiskOk_c _ d' _ (diskC.vext H.out.2 (by repeat (first | with_reducible exact Ext.refl _ | with_reducible assumption | with_reducible refine Ext.pAlloc ?_ _ | ((with_reducible refine Ext.pSet ?_ ?_ _); rotate_left; (simp <;> omega)) | with_reducible refine Ext.pDrew ?_ | with_reducible refine Ext.pDrewN ?_ _)))).mono ?_
      rw [H2.out]
      rintro e w2 ⟨rfl, Ew2⟩
      have Xw2 : Ext w w2 := Ext.trans (by repeat (first | with_reducible exact Ext.refl _ | with_reducible assumption | with_reducible refine Ext.pAlloc ?_ _ | ((with_reducible refine Ext.pSet ?_ ?_ _); rotate_left; (simp <;> omega)) | with_reducible refine Ext.pDrew ?_ | with_reducible refine Ext.pDrewN ?_ _)) Ew2
      have zw2 : w1.heap.size ≤ w2.heap.size := by have := Ew2.size; (try simp at this); omega
      have B_t' : Bx w2 w.heap.size [.slice ua d.1.length uc, .slice va d.2.length vc, .slice ua' d'.1.length uc', .slice va' d'.2.length vc'] := Bx.ext (by repeat (first | with_reducible assumption | with_reducible exact Bx.new _ _ _ _ rfl | ((with_reducible refine Bx.new _ _ _ _ ?_); simp; done) | with_reducible refine Bx.pAlloc ?_ _ | with_reducible refine Bx.pDrew ?_ | with_reducible refine Bx.pDrewN ?_ _ | with_reducible apply Bx.set10 | with_reducible apply Bx.set20 | with_reducible apply Bx.set21 | with_reducible apply Bx.set30 | with_reducible apply Bx.set31 | with_reducible apply Bx.set32 | with_reducible apply Bx.set40 | with_reducible apply Bx.set41 | with_reducible apply Bx.set42 | with_reducible apply Bx.set43 | ((with_reducible refine Bx.set_other ?_ ?_ _); rotate_left; (simp <;> omega)))) Ew2
      clear c_t_0 c_t_1 c_t_2 c_t_3 n_t
      clear B_t
      have B_t := B_t'; clear B_t'
      clear Ew2 Xw1
      have c_t_0 := B_t.cell 0 _ rfl
      have c_t_1 := B_t.cell 1 _ rfl
      have c_t_2 := B_t.cell 2 _ rfl
      have c_t_3 := B_t.cell 3 _ rfl
      have n_t := B_t.lt
      go_wp2
      go_ret
      exact ⟨retB (by rw [Bool.eq_iff_iff]; simp [twoOk, H1.out, H2.out]; omega), by repeat (first | with_reducible exact Ext.refl _ | with_reducible assumption | with_reducible refine Ext.pAlloc ?_ _ | ((with_reducible refine Ext.pSet ?_ ?_ _); rotate_left; (simp <;> omega)) | with_reducible refine Ext.pDrew ?_ | with_reducible refine Ext.pDrewN ?_ _)⟩

set_option maxHeartbeats 1600000 in
theorem specTwoOk_c (cs : List Value) (m : TwoD) (w : World) (h : twoC.V w cs m) :
    Calls Try.prog 36 #[.agg cs.toArray] w fun e w' => e = .returned (.bool (twoOk m)) ∧ Ext w w' := by
  obtain ⟨u, v, u', v', rfl, hu, hv⟩ := two_V.1 h
  obtain ⟨d, d'⟩ := m
  simp only at hu hv
  obtain ⟨⟨ua, uc, rfl⟩, va, vc, rfl⟩ := disk_forms hu
  obtain ⟨⟨ua', uc', rfl⟩, va', vc', rfl⟩ := disk_forms hv
  have H := Lib.hid (And.intro hu hv); clear hu hv h
  cases h1 : diskOk d
  · have H1 := Lib.hid h1; clear h1
    go_enter Try.func36, Try.ntmps36
    go_wp2_with fail
    refine (specDiskOk_c _ d _ (diskC.vext H.out.1 (by repeat (first | with_reducible exact Ext.refl _ | with_reducible assumption | with_reducible refine Ext.pAlloc ?_ _ | ((with_reducible refine Ext.pSet ?_ ?_ _); rotate_left; (simp <;> omega)) | with_reducible refine Ext.pDrew ?_ | with_reducible refine Ext.pDrewN ?_ _)))).mono ?_
    rw [H1.out]
    rintro e w1 ⟨rfl, Ew1⟩
    have Xw1 : Ext w w1 := Ext.trans (by repeat (first | with_reducible exact Ext.refl _ | with_reducible assumption | with_reducible refine Ext.pAlloc ?_ _ | ((with_reducible refine Ext.pSet ?_ ?_ _); rotate_left; (simp <;> omega)) | with_reducible refine Ext.pDrew ?_ | with_reducible refine Ext.pDrewN ?_ _)) Ew1
    have zw1 : w.heap.size + 1 ≤ w1.heap.size := by have := Ew1.size; (try simp at this); omega
    have B_t' : Bx w1 w.heap.size [.slice ua d.1.length uc, .slice va d.2.length vc, .slice ua' d'.1.length uc', .slice va' d'.2.length vc'] := Bx.ext (by repeat (first | with_reducible assumption | with_reducible exact Bx.new _ _ _ _ rfl | ((with_reducible refine Bx.new _ _ _ _ ?_); simp; done) | with_reducible refine Bx.pAlloc ?_ _ | with_reducible refine Bx.pDrew ?_ | with_reducible refine Bx.pDrewN ?_ _ | with_reducible apply Bx.set10 | with_reducible apply Bx.set20 | with_reducible apply Bx.set21 | with_reducible apply Bx.set30 | with_reducible apply Bx.set31 | with_reducible apply Bx.set32 | with_reducible apply Bx.set40 | with_reducible apply Bx.set41 | with_reducible apply Bx.set42 | with_reducible apply Bx.set43 | ((with_reducible refine Bx.set_other ?_ ?_ _); rotate_left; (simp <;> omega)))) Ew1
    have B_t := B_t'; clear B_t'
    clear Ew1
    have c_t_0 := B_t.cell 0 _ rfl
    have c_t_1 := B_t.cell 1 _ rfl
    have c_t_2 := B_t.cell 2 _ rfl
    have c_t_3 := B_t.cell 3 _ rfl
    have n_t := B_t.lt
    go_wp2
    go_ret
    exact ⟨retB (by simp [twoOk, H1.out]), by repeat (first | with_reducible exact Ext.refl _ | with_reducible assumption | with_reducible refine Ext.pAlloc ?_ _ | ((with_reducible refine Ext.pSet ?_ ?_ _); rotate_left; (simp <;> omega)) | with_reducible refine Ext.pDrew ?_ | with_reducible refine Ext.pDrewN ?_ _)⟩
  · cases h2 : diskOk d'
    · have H1 := Lib.hid h1; have H2 := Lib.hid h2; clear h1 h2
      go_enter Try.func36, Try.ntmps36
      go_wp2_with fail
      refine (specDiskOk_c _ d _ (diskC.vext H.out.1 (by repeat (first | with_reducible exact Ext.refl _ | with_reducible assumption | with_reducible refine Ext.pAlloc ?_ _ | ((with_reducible refine Ext.pSet ?_ ?_ _); rotate_left; (simp <;> omega)) | with_reducible refine Ext.pDrew ?_ | with_reducible refine Ext.pDrewN ?_ _)))).mono ?_
      rw [H1.out]
      rintro e w1 ⟨rfl, Ew1⟩
      have Xw1 : Ext w w1 := Ext.trans (by repeat (first | with_reducible exact Ext.refl _ | with_reducible assumption | with_reducible refine Ext.pAlloc ?_ _ | ((with_reducible refine Ext.pSet ?_ ?_ _); rotate_left; (simp <;> omega)) | with_reducible refine Ext.pDrew ?_ | with_reducible refine Ext.pDrewN ?_ _)) Ew1
      have zw1 : w.heap.size + 1 ≤ w1.heap.size := by have := Ew1.size; (try simp at this); omega
      have B_t' : Bx w1 w.heap.size [.slice ua d.1.length uc, .slice va d.2.length vc, .slice ua' d'.1.length uc', .slice va' d'.2.length vc'] := Bx.ext (by repeat (first | with_reducible assumption | with_reducible exact Bx.new _ _ _ _ rfl | ((with_reducible refine Bx.new _ _ _ _ ?_); simp; done) | with_reducible refine Bx.pAlloc ?_ _ | with_reducible refine Bx.pDrew ?_ | with_reducible refine Bx.pDrewN ?_ _ | with_reducible apply Bx.set10 | with_reducible apply Bx.set20 | with_reducible apply Bx.set21 | with_reducible apply Bx.set30 | with_reducible apply Bx.set31 | with_reducible apply Bx.set32 | with_reducible apply Bx.set40 | with_reducible apply Bx.set41 | with_reducible apply Bx.set42 | with_reducible apply Bx.set43 | ((with_reducible refine Bx.set_other ?_ ?_ _); rotate_left; (simp <;> omega)))) Ew1
      have B_t := B_t'; clear B_t'
      clear Ew1
      have c_t_0 := B_t.cell 0 _ rfl
      have c_t_1 := B_t.cell 1 _ rfl
      have c_t_2 := B_t.cell 2 _ rfl
      have c_t_3 := B_t.cell 3 _ rfl
      have n_t := B_t.lt
      go_wp2_with fail
      refine (specDiskOk_c _ d' _ (diskC.vext H.out.2 (by repeat (first | with_reducible exact Ext.refl _ | with_reducible assumption | with_reducible refine Ext.pAlloc ?_ _ | ((with_reducible refine Ext.pSet ?_ ?_ _); rotate_left; (simp <;> omega)) | with_reducible refine Ext.pDrew ?_ | with_reducible refine Ext.pDrewN ?_ _)))).mono ?_
      rw [H2.out]
      rintro e w2 ⟨rfl, Ew2⟩
      have Xw2 : Ext w w2 := Ext.trans (by repeat (first | with_reducible exact Ext.refl _ | with_reducible assumption | with_reducible refine Ext.pAlloc ?_ _ | ((with_reducible refine Ext.pSet ?_ ?_ _); rotate_left; (simp <;> omega)) | with_reducible refine Ext.pDrew ?_ | with_reducible refine Ext.pDrewN ?_ _)) Ew2
      have zw2 : w1.heap.size ≤ w2.heap.size := by have := Ew2.size; (try simp at this); omega
      have B_t' : Bx w2 w.heap.size [.slice ua d.1.length uc, .slice va d.2.length vc, .slice ua' d'.1.length uc', .slice va' d'.2.length vc'] := Bx.ext (by repeat (first | with_reducible assumption | with_reducible exact Bx.new _ _ _ _ rfl | ((with_reducible refine Bx.new _ _ _ _ ?_); simp; done) | with_reducible refine Bx.pAlloc ?_ _ | with_reducible refine Bx.pDrew ?_ | with_reducible refine Bx.pDrewN ?_ _ | with_reducible apply Bx.set10 | with_reducible apply Bx.set20 | with_reducible apply Bx.set21 | with_reducible apply Bx.set30 | with_reducible apply Bx.set31 | with_reducible apply Bx.set32 | with_reducible apply Bx.set40 | with_reducible apply Bx.set41 | with_reducible apply Bx.set42 | with_reducible apply Bx.set43 | ((with_reducible refine Bx.set_other ?_ ?_ _); rotate_left; (simp <;> omega)))) Ew2
      clear c_t_0 c_t_1 c_t_2 c_t_3 n_t
      clear B_t
      have B_t := B_t'; clear B_t'
      clear Ew2 Xw1
      have c_t_0 := B_t.cell 0 _ rfl
      have c_t_1 := B_t.cell 1 _ rfl
      have c_t_2 := B_t.cell 2 _ rfl
      have c_t_3 := B_t.cell 3 _ rfl
      have n_t := B_t.lt
      go_wp2
      go_ret
      exact ⟨retB (by simp [twoOk, H1.out, H2.out]), by repeat (first | with_reducible exact Ext.refl _ | with_reducible assumption | with_reducible refine Ext.pAlloc ?_ _ | ((with_reducible refine Ext.pSet ?_ ?_ _); rotate_left; (simp <;> omega)) | with_reducible refine Ext.pDrew ?_ | with_reducible refine Ext.pDrewN ?_ _)⟩
    · have H1 := Lib.hid h1; have H2 := Lib.hid h2; clear h1 h2
      go_enter Try.func36, Try.ntmps36
      go_wp2_with fail
      refine (specDiskOk_c _ d _ (diskC.vext H.out.1 (by repeat (first | with_reducible exact Ext.refl _ | with_reducible assumption | with_reducible refine Ext.pAlloc ?_ _ | ((with_reducible refine Ext.pSet ?_ ?_ _); rotate_left; (simp <;> omega)) | with_reducible refine Ext.pDrew ?_ | with_reducible refine Ext.pDrewN ?_ _)))).mono ?_
      rw [H1.out]
      rintro e w1 ⟨rfl, Ew1⟩
      have Xw1 : Ext w w1 := Ext.trans (by repeat (first | with_reducible exact Ext.refl _ | with_reducible assumption | with_reducible refine Ext.pAlloc ?_ _ | ((with_reducible refine Ext.pSet ?_ ?_ _); rotate_left; (simp <;> omega)) | with_reducible refine Ext.pDrew ?_ | with_reducible refine Ext.pDrewN ?_ _)) Ew1
      have zw1 : w.heap.size + 1 ≤ w1.heap.size := by have := Ew1.size; (try simp at this); omega
      have B_t' : Bx w1 w.heap.size [.slice ua d.1.length uc, .slice va d.2.length vc, .slice ua' d'.1.length uc', .slice va' d'.2.length vc'] := Bx.ext (by repeat (first | with_reducible assumption | with_reducible exact Bx.new _ _ _ _ rfl | ((with_reducible refine Bx.new _ _ _ _ ?_); simp; done) | with_reducible refine Bx.pAlloc ?_ _ | with_reducible refine Bx.pDrew ?_ | with_reducible refine Bx.pDrewN ?_ _ | with_reducible apply Bx.set10 | with_reducible apply Bx.set20 | with_reducible apply Bx.set21 | with_reducible apply Bx.set30 | with_reducible apply Bx.set31 | with_reducible apply Bx.set32 | with_reducible apply Bx.set40 | with_reducible apply Bx.set41 | with_reducible apply Bx.set42 | with_reducible apply Bx.set43 | ((with_reducible refine Bx.set_other ?_ ?_ _); rotate_left; (simp <;> omega)))) Ew1
      have B_t := B_t'; clear B_t'
      clear Ew1
      have c_t_0 := B_t.cell 0 _ rfl
      have c_t_1 := B_t.cell 1 _ rfl
      have c_t_2 := B_t.cell 2 _ rfl
      have c_t_3 := B_t.cell 3 _ rfl
      have n_t := B_t.lt
      go_wp2_with fail
      refine (specDiskOk_c _ d' _ (diskC.vext H.out.2 (by repeat (first | with_reducible exact Ext.refl _ | with_reducible assumption | with_reducible refine Ext.pAlloc ?_ _ | ((with_reducible refine Ext.pSet ?_ ?_ _); rotate_left; (simp <;> omega)) | with_reducible refine Ext.pDrew ?_ | with_reducible refine Ext.pDrewN ?_ _)))).mono ?_
      rw [H2.out]
      rintro e w2 ⟨rfl, Ew2⟩
      have Xw2 : Ext w w2 := Ext.trans (by repeat (first | with_reducible exact Ext.refl _ | with_reducible assumption | with_reducible refine Ext.pAlloc ?_ _ | ((with_reducible refine Ext.pSet ?_ ?_ _); rotate_left; (simp <;> omega)) | with_reducible refine Ext.pDrew ?_ | with_reducible refine Ext.pDrewN ?_ _)) Ew2
      have zw2 : w1.heap.size ≤ w2.heap.size := by have := Ew2.size; (try simp at this); omega
      have B_t' : Bx w2 w.heap.size [.slice ua d.1.length uc, .slice va d.2.length vc, .slice ua' d'.1.length uc', .slice va' d'.2.length vc'] := Bx.ext (by repeat (first | with_reducible assumption | with_reducible exact Bx.new _ _ _ _ rfl | ((with_reducible refine Bx.new _ _ _ _ ?_); simp; done) | with_reducible refine Bx.pAlloc ?_ _ | with_reducible refine Bx.pDrew ?_ | with_reducible refine Bx.pDrewN ?_ _ | with_reducible apply Bx.set10 | with_reducible apply Bx.set20 | with_reducible apply Bx.set21 | with_reducible apply Bx.set30 | with_reducible apply Bx.set31 | with_reducible apply Bx.set32 | with_reducible apply Bx.set40 | with_reducible apply Bx.set41 | with_reducible apply Bx.set42 | with_reducible apply Bx.set43 | ((with_reducible refine Bx.set_other ?_ ?_ _); rotate_left; (simp <;> omega)))) Ew2
      clear c_t_0 c_t_1 c_t_2 c_t_3 n_t
      clear B_t
      have B_t := B_t'; clear B_t'
      clear Ew2 Xw1
      have c_t_0 := B_t.cell 0 _ rfl
      have c_t_1 := B_t.cell 1 _ rfl
      have c_t_2 := B_t.cell 2 _ rfl
      have c_t_3 := B_t.cell 3 _ rfl
      have n_t := B_t.lt
      go_wp2
      go_ret
      exact ⟨retB (by rw [Bool.eq_iff_iff]; simp [twoOk, H1.out, H2.out]; omega), by repeat (first | with_reducible exact Ext.refl _ | with_reducible assumption | with_reducible refine Ext.pAlloc ?_ _ | ((with_reducible refine Ext.pSet ?_ ?_ _); rotate_left; (simp <;> omega)) | with_reducible refine Ext.pDrew ?_ | with_reducible refine Ext.pDrewN ?_ _)⟩


set_option maxHeartbeats 1600000 in
theorem specNewTwo_c (n : Int) (w : World) :
    Calls Try.prog 110 #[.int .i64 n] w fun e w' => ∃ u v u' v', e = .returned (.agg #[u, v, u', v']) ∧ Ext w w' ∧ twoC.own w.heap.size w'.heap.size w' [u, v, u', v'] (newTwo n) := by
  go_enter Try.func110, Try.ntmps110
  go_wp2_with fail
  refine (specNewDisk_c _ _).mono ?_
  rintro e w1 ⟨u_x, v_x, rfl, Ew1, O_x⟩
  obtain ⟨⟨a_x, c_x, rfl⟩, b_x, e_x, rfl⟩ := disk_forms O_x.view
  have Xw1 : Ext w w1 := Ext.trans (by repeat (first | with_reducible exact Ext.refl _ | with_reducible assumption | with_reducible refine Ext.pAlloc ?_ _ | ((with_reducible refine Ext.pSet ?_ ?_ _); rotate_left; (simp <;> omega)) | with_reducible refine Ext.pDrew ?_ | with_reducible refine Ext.pDrewN ?_ _)) Ew1
  have zw1 : w.heap.size + 1 ≤ w1.heap.size := by have := Ew1.size; (try simp at this); omega
  have B_r' : Bx w1 w.heap.size [.slice none 0 0, .slice none 0 0, .slice none 0 0, .slice none 0 0] := Bx.ext (by repeat (first | with_reducible assumption | with_reducible exact Bx.new _ _ _ _ rfl | ((with_reducible refine Bx.new _ _ _ _ ?_); simp; done) | with_reducible refine Bx.pAlloc ?_ _ | with_reducible refine Bx.pDrew ?_ | with_reducible refine Bx.pDrewN ?_ _ | with_reducible apply Bx.set10 | with_reducible apply Bx.set20 | with_reducible apply Bx.set21 | with_reducible apply Bx.set30 | with_reducible apply Bx.set31 | with_reducible apply Bx.set32 | with_reducible apply Bx.set40 | with_reducible apply Bx.set41 | with_reducible apply Bx.set42 | with_reducible apply Bx.set43 | ((with_reducible refine Bx.set_other ?_ ?_ _); rotate_left; (simp <;> omega)))) Ew1
  have B_r := B_r'; clear B_r'
  replace O_x := O_x.wide (lo' := w.heap.size + 1) (hi' := w1.heap.size) (by first | omega | (simp <;> omega)) (Nat.le_refl _)
  clear Ew1
  have c_r_0 := B_r.cell 0 _ rfl
  have c_r_1 := B_r.cell 1 _ rfl
  have c_r_2 := B_r.cell 2 _ rfl
  have c_r_3 := B_r.cell 3 _ rfl
  have n_r := B_r.lt
  have f_r := B_r.fr
  go_wp2_with fail
  refine (specNewDisk_c _ _).mono ?_
  rintro e w2 ⟨u_y, v_y, rfl, Ew2, O_y⟩
  obtain ⟨⟨a_y, c_y, rfl⟩, b_y, e_y, rfl⟩ := disk_forms O_y.view
  have Xw2 : Ext w w2 := Ext.trans (by repeat (first | with_reducible exact Ext.refl _ | with_reducible assumption | with_reducible refine Ext.pAlloc ?_ _ | ((with_reducible refine Ext.pSet ?_ ?_ _); rotate_left; (simp <;> omega)) | with_reducible refine Ext.pDrew ?_ | with_reducible refine Ext.pDrewN ?_ _)) Ew2
  have zw2 : w1.heap.size ≤ w2.heap.size := by have := Ew2.size; (try simp at this); omega
  have B_r' : Bx w2 w.heap.size [.slice none 0 0, .slice none 0 0, .slice none 0 0, .slice none 0 0] := Bx.ext (by repeat (first | with_reducible assumption | with_reducible exact Bx.new _ _ _ _ rfl | ((with_reducible refine Bx.new _ _ _ _ ?_); simp; done) | with_reducible refine Bx.pAlloc ?_ _ | with_reducible refine Bx.pDrew ?_ | with_reducible refine Bx.pDrewN ?_ _ | with_reducible apply Bx.set10 | with_reducible apply Bx.set20 | with_reducible apply Bx.set21 | with_reducible apply Bx.set30 | with_reducible apply Bx.set31 | with_reducible apply Bx.set32 | with_reducible apply Bx.set40 | with_reducible apply Bx.set41 | with_reducible apply Bx.set42 | with_reducible apply Bx.set43 | ((with_reducible refine Bx.set_other ?_ ?_ _); rotate_left; (simp <;> omega)))) Ew2
  have O_x' : (diskC).own (w.heap.size + 1) (w1.heap.size) w2 [.slice a_x (newDisk n).1.length c_x, .slice b_x (newDisk n).2.length e_x] (newDisk n) := Cd.own.ext (by repeat (first | with_reducible assumption | with_reducible refine Cd.own.pAlloc ?_ _ | with_reducible refine Cd.own.pDrew ?_ | with_reducible refine Cd.own.pDrewN ?_ _ | ((with_reducible refine Cd.own.pSet ?_ ?_ _); rotate_left; (simp <;> omega)))) Ew2
  clear c_r_0 c_r_1 c_r_2 c_r_3 n_r f_r
  clear B_r
  have B_r := B_r'; clear B_r'
  clear O_x; have O_x := O_x'; clear O_x'
  replace O_y := O_y.wide (lo' := w1.heap.size) (hi' := w2.heap.size) (by first | omega | (simp <;> omega)) (Nat.le_refl _)
  clear Ew2 Xw1
  have c_r_0 := B_r.cell 0 _ rfl
  have c_r_1 := B_r.cell 1 _ rfl
  have c_r_2 := B_r.cell 2 _ rfl
  have c_r_3 := B_r.cell 3 _ rfl
  have n_r := B_r.lt
  have f_r := B_r.fr
  go_wp2
  refine bodyPost_ret (v := .agg #[.slice a_x (newDisk n).1.length c_x, .slice b_x (newDisk n).2.length e_x, .slice a_y (newDisk n).1.length c_y, .slice b_y (newDisk n).2.length e_y]) (by simp [results, Try.results110, go_sem, c_r_0, c_r_1, c_r_2, c_r_3]) rfl ⟨_, _, _, _, rfl, ?_, ?_⟩
  · repeat (first | with_reducible exact Ext.refl _ | with_reducible assumption | with_reducible refine Ext.pAlloc ?_ _ | ((with_reducible refine Ext.pSet ?_ ?_ _); rotate_left; (simp <;> omega)) | with_reducible refine Ext.pDrew ?_ | with_reducible refine Ext.pDrewN ?_ _)
  · exact Cd.own.wide (prod_own (c := [_, _]) (d := [_, _]) (mid := w1.heap.size) (lo := w.heap.size + 1) (hi := w2.heap.size) (by repeat (first | with_reducible assumption | with_reducible refine Cd.own.pAlloc ?_ _ | with_reducible refine Cd.own.pDrew ?_ | with_reducible refine Cd.own.pDrewN ?_ _ | ((with_reducible refine Cd.own.pSet ?_ ?_ _); rotate_left; (simp <;> omega)))) (by repeat (first | with_reducible assumption | with_reducible refine Cd.own.pAlloc ?_ _ | with_reducible refine Cd.own.pDrew ?_ | with_reducible refine Cd.own.pDrewN ?_ _ | ((with_reducible refine Cd.own.pSet ?_ ?_ _); rotate_left; (simp <;> omega)))) (by omega) (by omega)) (by omega) (by simp [World.setCell])

end Go.Proofs.Ytbapomhoipdanaa

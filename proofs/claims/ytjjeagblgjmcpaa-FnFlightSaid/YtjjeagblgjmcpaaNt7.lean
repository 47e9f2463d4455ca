/- A letter sent. -/
import Derived.Test.YtjjeagblgjmcpaaNt6
set_option linter.unusedVariables false
set_option linter.unusedSimpArgs false
namespace Go.Proofs.Ytjjeagblgjmcpaa
open Go.RowKit Go.Sl

/-- The network with a letter more. -/
def sent (d : NetD) (m : MsgD) : NetD × Bool :=
  if netOk d = true ∧ msgOk m = true then (if d.1.length = 60 then (d, false) else ((d.1 ++ [m], d.2), true)) else (([], []), false)
def thereAt (d : NetD) (n : Int) : Bool := inB n 0 ((d.1.length : Int) - 1)
/-- The network without a letter. -/
def lost (d : NetD) (n : Int) : NetD × Bool :=
  if netOk d = true then (if thereAt d n = true then ((d.1.eraseIdx n.toNat, d.2), true) else (d, false)) else (([], []), false)
/-- The network with a letter twice. -/
def doubled (d : NetD) (n : Int) : NetD × Bool :=
  if netOk d = true then (if thereAt d n = true ∧ d.1.length ≠ 60 then ((d.1 ++ [d.1.getD n.toNat (0, 0, [])], d.2), true) else (d, false)) else (([], []), false)
theorem net_join {lo hi a1 b1 a2 b2 : Nat} {w : World} {u v : Value} {m : List MsgD} {l : List LinkD} (h1 : msgsC.own a1 b1 w [u] m) (h2 : linksC.own a2 b2 w [v] l) (hd : b1 ≤ a2 ∨ b2 ≤ a1) (hb : lo ≤ a1 ∧ b1 ≤ hi ∧ lo ≤ a2 ∧ b2 ≤ hi) : netC.own lo hi w [u, v] (m, l) := by
  obtain ⟨f, hf, nf, bf⟩ := h1
  obtain ⟨g, hg, ng, bg⟩ := h2
  refine ⟨f ++ g, net_O.2 ⟨u, v, f, g, rfl, rfl, hf, hg⟩, List.nodup_append.2 ⟨nf, ng, fun x hx y hy e => ?_⟩, fun x hx => ?_⟩
  · have := bf x hx; have := bg y hy; omega
  · rcases List.mem_append.1 hx with hx | hx
    · have := bf x hx; omega
    · have := bg x hx; omega
theorem net_nil (lo hi : Nat) (w : World) : netC.own lo hi w [.slice none 0 0, .slice none 0 0] ([], []) :=
  ⟨[], net_O.2 ⟨_, _, [], [], rfl, rfl, nilN_O w, nilN_O w⟩, List.nodup_nil, by simp⟩
theorem there_nat {d : NetD} {n : Int} (h : thereAt d n = true) : ∃ k : Nat, n = k ∧ k < d.1.length := by
  obtain ⟨h1, h2⟩ := inB_bd h
  exact ⟨n.toNat, by omega, by omega⟩

set_option maxHeartbeats 400000 in
theorem letterOk_c (cs : List Value) (d : NetD) (at_ : Int) (w : World) (h : netC.V w cs d) :
    Calls Try.prog 29 #[.agg cs.toArray, .int .i64 at_] w fun e w' => e = .returned (.bool (thereAt d at_)) ∧ Ext w w' := by
  obtain ⟨u, v, rfl, hu, hv⟩ := net_V.1 h
  obtain ⟨rs, ws⟩ := d
  obtain ⟨a, cap, rfl, h1, h2, _⟩ := slice_open (R := msgC) (by decide) hu
  clear hu hv h
  unfold thereAt
  simp only at h1 ⊢
  go_enter Try.func29, Try.ntmps29
  go_wp2_with (go_at_call 37; refine (between_c _ _ _ _).mono ?_; rintro e w' ⟨rfl, rfl⟩)
  go_ret
  exact ⟨rfl, Ext.alloc _ _⟩


set_option maxHeartbeats 8000000 in
set_option maxRecDepth 20000 in
theorem implSent_c (cs cm : List Value) (d : NetD) (m : MsgD) (w : World) (h : netC.V w cs d) (hm : msgC.V w cm m) :
    Calls Try.prog 18 #[.agg cs.toArray, .agg cm.toArray] w fun e w' => ∃ u v, e = .returned (.tuple #[.agg #[u, v], .bool (sent d m).2]) ∧ Ext w w' ∧ netC.own w.heap.size w'.heap.size w' [u, v] (sent d m).1 := by
  have HD := Lib.hid h
  obtain ⟨u, v, rfl, hu, hv⟩ := net_V.1 h
  obtain ⟨ms, ls⟩ := d
  simp only at hu hv
  obtain ⟨a, cap, rfl⟩ := sl_form hu
  obtain ⟨va, vc, rfl⟩ := sl_form hv
  clear hu hv h
  have HM := Lib.hid hm
  obtain ⟨y, rfl, hmy⟩ := msg_V.1 hm
  obtain ⟨f, t, row⟩ := m
  obtain ⟨ya, yc, rfl⟩ := u_slice hmy
  clear hm hmy
  simp only at HM ⊢
  have Hinf := Lib.hid Try.infoM
  cases hd : netOk (ms, ls)
  · have hr : sent (ms, ls) (f, t, row) = (([], []), false) := by unfold sent; rw [if_neg (by rw [hd]; simp)]
    rw [hr]
    have Hd := Lib.hid hd; clear hd hr
    go_enter Try.func18, Try.ntmps18
    go_wp2_with fail
    refine (implNetOk_c _ (ms, ls) _ (netC.vext HD.out (by repeat (first | with_reducible exact Ext.refl _ | with_reducible assumption | with_reducible refine Ext.pAlloc ?_ _ | ((with_reducible refine Ext.pSet ?_ ?_ _); rotate_left; (simp <;> omega)) | with_reducible refine Ext.pDrew ?_ | with_reducible refine Ext.pDrewN ?_ _)))).mono ?_
    rw [Hd.out]
    rintro e w1 ⟨rfl, Ew1⟩
    have Xw1 : Ext w w1 := Ext.trans (by repeat (first | with_reducible exact Ext.refl _ | with_reducible assumption | with_reducible refine Ext.pAlloc ?_ _ | ((with_reducible refine Ext.pSet ?_ ?_ _); rotate_left; (simp <;> omega)) | with_reducible refine Ext.pDrew ?_ | with_reducible refine Ext.pDrewN ?_ _)) Ew1
    have zw1 : w.heap.size + 1 + 1 + 1 ≤ w1.heap.size := by have := Ew1.size; (try simp at this); omega
    have B_d' : Bx w1 w.heap.size [.slice a ms.length cap, .slice va ls.length vc] := Bx.ext (by repeat (first | with_reducible assumption | with_reducible exact Bx.new _ _ _ _ rfl | ((with_reducible refine Bx.new _ _ _ _ ?_); simp; done) | with_reducible refine Bx.pAlloc ?_ _ | with_reducible refine Bx.pDrew ?_ | with_reducible refine Bx.pDrewN ?_ _ | with_reducible apply Bx.set10 | with_reducible apply Bx.set20 | with_reducible apply Bx.set21 | with_reducible apply Bx.set30 | with_reducible apply Bx.set31 | with_reducible apply Bx.set32 | with_reducible apply Bx.set40 | with_reducible apply Bx.set41 | with_reducible apply Bx.set42 | with_reducible apply Bx.set43 | ((with_reducible refine Bx.set_other ?_ ?_ _); rotate_left; (simp <;> omega)))) Ew1
    have B_m' : Bx w1 (w.heap.size + 1) [.int .i64 f, .int .i64 t, .slice ya row.length yc] := Bx.ext (by repeat (first | with_reducible assumption | with_reducible exact Bx.new _ _ _ _ rfl | ((with_reducible refine Bx.new _ _ _ _ ?_); simp; done) | with_reducible refine Bx.pAlloc ?_ _ | with_reducible refine Bx.pDrew ?_ | with_reducible refine Bx.pDrewN ?_ _ | with_reducible apply Bx.set10 | with_reducible apply Bx.set20 | with_reducible apply Bx.set21 | with_reducible apply Bx.set30 | with_reducible apply Bx.set31 | with_reducible apply Bx.set32 | with_reducible apply Bx.set40 | with_reducible apply Bx.set41 | with_reducible apply Bx.set42 | with_reducible apply Bx.set43 | ((with_reducible refine Bx.set_other ?_ ?_ _); rotate_left; (simp <;> omega)))) Ew1
    have B_r' : Bx w1 (w.heap.size + 1 + 1) [.slice none 0 0, .slice none 0 0] := Bx.ext (by repeat (first | with_reducible assumption | with_reducible exact Bx.new _ _ _ _ rfl | ((with_reducible refine Bx.new _ _ _ _ ?_); simp; done) | with_reducible refine Bx.pAlloc ?_ _ | with_reducible refine Bx.pDrew ?_ | with_reducible refine Bx.pDrewN ?_ _ | with_reducible apply Bx.set10 | with_reducible apply Bx.set20 | with_reducible apply Bx.set21 | with_reducible apply Bx.set30 | with_reducible apply Bx.set31 | with_reducible apply Bx.set32 | with_reducible apply Bx.set40 | with_reducible apply Bx.set41 | with_reducible apply Bx.set42 | with_reducible apply Bx.set43 | ((with_reducible refine Bx.set_other ?_ ?_ _); rotate_left; (simp <;> omega)))) Ew1
    have B_d := B_d'; clear B_d'
    have B_m := B_m'; clear B_m'
    have B_r := B_r'; clear B_r'
    clear Ew1
    have c_d_0 := B_d.cell 0 _ rfl
    have c_d_1 := B_d.cell 1 _ rfl
    have n_d := B_d.lt
    have c_m_0 := B_m.cell 0 _ rfl
    have c_m_1 := B_m.cell 1 _ rfl
    have c_m_2 := B_m.cell 2 _ rfl
    have n_m := B_m.lt
    have c_r_0 := B_r.cell 0 _ rfl
    have c_r_1 := B_r.cell 1 _ rfl
    have n_r := B_r.lt
    have f_r := B_r.fr
    go_wp2
    refine bodyPost_ret (v := .tuple #[.agg #[.slice none 0 0, .slice none 0 0], .bool false]) (by simp [results, Try.results18, go_sem, c_r_0, c_r_1, n_r]) rfl ⟨_, _, rfl, ?_, ?_⟩
    · repeat (first | with_reducible exact Ext.refl _ | with_reducible assumption | with_reducible refine Ext.pAlloc ?_ _ | ((with_reducible refine Ext.pSet ?_ ?_ _); rotate_left; (simp <;> omega)) | with_reducible refine Ext.pDrew ?_ | with_reducible refine Ext.pDrewN ?_ _)
    · exact net_nil _ _ _
  · cases hmo : msgOk (f, t, row)
    · have hr : sent (ms, ls) (f, t, row) = (([], []), false) := by unfold sent; rw [if_neg (by rw [hmo]; simp)]
      rw [hr]
      have Hd := Lib.hid hd; have Hm := Lib.hid hmo; clear hd hmo hr
      go_enter Try.func18, Try.ntmps18
      go_wp2_with fail
      refine (implNetOk_c _ (ms, ls) _ (netC.vext HD.out (by repeat (first | with_reducible exact Ext.refl _ | with_reducible assumption | with_reducible refine Ext.pAlloc ?_ _ | ((with_reducible refine Ext.pSet ?_ ?_ _); rotate_left; (simp <;> omega)) | with_reducible refine Ext.pDrew ?_ | with_reducible refine Ext.pDrewN ?_ _)))).mono ?_
      rw [Hd.out]
      rintro e w1 ⟨rfl, Ew1⟩
      have Xw1 : Ext w w1 := Ext.trans (by repeat (first | with_reducible exact Ext.refl _ | with_reducible assumption | with_reducible refine Ext.pAlloc ?_ _ | ((with_reducible refine Ext.pSet ?_ ?_ _); rotate_left; (simp <;> omega)) | with_reducible refine Ext.pDrew ?_ | with_reducible refine Ext.pDrewN ?_ _)) Ew1
      have zw1 : w.heap.size + 1 + 1 + 1 ≤ w1.heap.size := by have := Ew1.size; (try simp at this); omega
      have B_d' : Bx w1 w.heap.size [.slice a ms.length cap, .slice va ls.length vc] := Bx.ext (by repeat (first | with_reducible assumption | with_reducible exact Bx.new _ _ _ _ rfl | ((with_reducible refine Bx.new _ _ _ _ ?_); simp; done) | with_reducible refine Bx.pAlloc ?_ _ | with_reducible refine Bx.pDrew ?_ | with_reducible refine Bx.pDrewN ?_ _ | with_reducible apply Bx.set10 | with_reducible apply Bx.set20 | with_reducible apply Bx.set21 | with_reducible apply Bx.set30 | with_reducible apply Bx.set31 | with_reducible apply Bx.set32 | with_reducible apply Bx.set40 | with_reducible apply Bx.set41 | with_reducible apply Bx.set42 | with_reducible apply Bx.set43 | ((with_reducible refine Bx.set_other ?_ ?_ _); rotate_left; (simp <;> omega)))) Ew1
      have B_m' : Bx w1 (w.heap.size + 1) [.int .i64 f, .int .i64 t, .slice ya row.length yc] := Bx.ext (by repeat (first | with_reducible assumption | with_reducible exact Bx.new _ _ _ _ rfl | ((with_reducible refine Bx.new _ _ _ _ ?_); simp; done) | with_reducible refine Bx.pAlloc ?_ _ | with_reducible refine Bx.pDrew ?_ | with_reducible refine Bx.pDrewN ?_ _ | with_reducible apply Bx.set10 | with_reducible apply Bx.set20 | with_reducible apply Bx.set21 | with_reducible apply Bx.set30 | with_reducible apply Bx.set31 | with_reducible apply Bx.set32 | with_reducible apply Bx.set40 | with_reducible apply Bx.set41 | with_reducible apply Bx.set42 | with_reducible apply Bx.set43 | ((with_reducible refine Bx.set_other ?_ ?_ _); rotate_left; (simp <;> omega)))) Ew1
      have B_r' : Bx w1 (w.heap.size + 1 + 1) [.slice none 0 0, .slice none 0 0] := Bx.ext (by repeat (first | with_reducible assumption | with_reducible exact Bx.new _ _ _ _ rfl | ((with_reducible refine Bx.new _ _ _ _ ?_); simp; done) | with_reducible refine Bx.pAlloc ?_ _ | with_reducible refine Bx.pDrew ?_ | with_reducible refine Bx.pDrewN ?_ _ | with_reducible apply Bx.set10 | with_reducible apply Bx.set20 | with_reducible apply Bx.set21 | with_reducible apply Bx.set30 | with_reducible apply Bx.set31 | with_reducible apply Bx.set32 | with_reducible apply Bx.set40 | with_reducible apply Bx.set41 | with_reducible apply Bx.set42 | with_reducible apply Bx.set43 | ((with_reducible refine Bx.set_other ?_ ?_ _); rotate_left; (simp <;> omega)))) Ew1
      have B_d := B_d'; clear B_d'
      have B_m := B_m'; clear B_m'
      have B_r := B_r'; clear B_r'
      clear Ew1
      have c_d_0 := B_d.cell 0 _ rfl
      have c_d_1 := B_d.cell 1 _ rfl
      have n_d := B_d.lt
      have c_m_0 := B_m.cell 0 _ rfl
      have c_m_1 := B_m.cell 1 _ rfl
      have c_m_2 := B_m.cell 2 _ rfl
      have n_m := B_m.lt
      have c_r_0 := B_r.cell 0 _ rfl
      have c_r_1 := B_r.cell 1 _ rfl
      have n_r := B_r.lt
      have f_r := B_r.fr
      go_wp2_with fail
      refine (implMsgOk_c _ (f, t, row) _ (msgC.vext HM.out (by repeat (first | with_reducible exact Ext.refl _ | with_reducible assumption | with_reducible refine Ext.pAlloc ?_ _ | ((with_reducible refine Ext.pSet ?_ ?_ _); rotate_left; (simp <;> omega)) | with_reducible refine Ext.pDrew ?_ | with_reducible refine Ext.pDrewN ?_ _)))).mono ?_
      rw [Hm.out]
      rintro e w2 ⟨rfl, Ew2⟩
      have Xw2 : Ext w w2 := Ext.trans (by repeat (first | with_reducible exact Ext.refl _ | with_reducible assumption | with_reducible refine Ext.pAlloc ?_ _ | ((with_reducible refine Ext.pSet ?_ ?_ _); rotate_left; (simp <;> omega)) | with_reducible refine Ext.pDrew ?_ | with_reducible refine Ext.pDrewN ?_ _)) Ew2
      have zw2 : w1.heap.size ≤ w2.heap.size := by have := Ew2.size; (try simp at this); omega
      have B_d' : Bx w2 w.heap.size [.slice a ms.length cap, .slice va ls.length vc] := Bx.ext (by repeat (first | with_reducible assumption | with_reducible exact Bx.new _ _ _ _ rfl | ((with_reducible refine Bx.new _ _ _ _ ?_); simp; done) | with_reducible refine Bx.pAlloc ?_ _ | with_reducible refine Bx.pDrew ?_ | with_reducible refine Bx.pDrewN ?_ _ | with_reducible apply Bx.set10 | with_reducible apply Bx.set20 | with_reducible apply Bx.set21 | with_reducible apply Bx.set30 | with_reducible apply Bx.set31 | with_reducible apply Bx.set32 | with_reducible apply Bx.set40 | with_reducible apply Bx.set41 | with_reducible apply Bx.set42 | with_reducible apply Bx.set43 | ((with_reducible refine Bx.set_other ?_ ?_ _); rotate_left; (simp <;> omega)))) Ew2
      have B_m' : Bx w2 (w.heap.size + 1) [.int .i64 f, .int .i64 t, .slice ya row.length yc] := Bx.ext (by repeat (first | with_reducible assumption | with_reducible exact Bx.new _ _ _ _ rfl | ((with_reducible refine Bx.new _ _ _ _ ?_); simp; done) | with_reducible refine Bx.pAlloc ?_ _ | with_reducible refine Bx.pDrew ?_ | with_reducible refine Bx.pDrewN ?_ _ | with_reducible apply Bx.set10 | with_reducible apply Bx.set20 | with_reducible apply Bx.set21 | with_reducible apply Bx.set30 | with_reducible apply Bx.set31 | with_reducible apply Bx.set32 | with_reducible apply Bx.set40 | with_reducible apply Bx.set41 | with_reducible apply Bx.set42 | with_reducible apply Bx.set43 | ((with_reducible refine Bx.set_other ?_ ?_ _); rotate_left; (simp <;> omega)))) Ew2
      have B_r' : Bx w2 (w.heap.size + 1 + 1) [.slice none 0 0, .slice none 0 0] := Bx.ext (by repeat (first | with_reducible assumption | with_reducible exact Bx.new _ _ _ _ rfl | ((with_reducible refine Bx.new _ _ _ _ ?_); simp; done) | with_reducible refine Bx.pAlloc ?_ _ | with_reducible refine Bx.pDrew ?_ | with_reducible refine Bx.pDrewN ?_ _ | with_reducible apply Bx.set10 | with_reducible apply Bx.set20 | with_reducible apply Bx.set21 | with_reducible apply Bx.set30 | with_reducible apply Bx.set31 | with_reducible apply Bx.set32 | with_reducible apply Bx.set40 | with_reducible apply Bx.set41 | with_reducible apply Bx.set42 | with_reducible apply Bx.set43 | ((with_reducible refine Bx.set_other ?_ ?_ _); rotate_left; (simp <;> omega)))) Ew2
      clear c_d_0 c_d_1 n_d c_m_0 c_m_1 c_m_2 n_m c_r_0 c_r_1 n_r f_r
      clear B_d
      have B_d := B_d'; clear B_d'
      clear B_m
      have B_m := B_m'; clear B_m'
      clear B_r
      have B_r := B_r'; clear B_r'
      clear Ew2 Xw1
      have c_d_0 := B_d.cell 0 _ rfl
      have c_d_1 := B_d.cell 1 _ rfl
      have n_d := B_d.lt
      have c_m_0 := B_m.cell 0 _ rfl
      have c_m_1 := B_m.cell 1 _ rfl
      have c_m_2 := B_m.cell 2 _ rfl
      have n_m := B_m.lt
      have c_r_0 := B_r.cell 0 _ rfl
      have c_r_1 := B_r.cell 1 _ rfl
      have n_r := B_r.lt
      have f_r := B_r.fr
      go_wp2
      refine bodyPost_ret (v := .tuple #[.agg #[.slice none 0 0, .slice none 0 0], .bool false]) (by simp [results, Try.results18, go_sem, c_r_0, c_r_1, n_r]) rfl ⟨_, _, rfl, ?_, ?_⟩
      · repeat (first | with_reducible exact Ext.refl _ | with_reducible assumption | with_reducible refine Ext.pAlloc ?_ _ | ((with_reducible refine Ext.pSet ?_ ?_ _); rotate_left; (simp <;> omega)) | with_reducible refine Ext.pDrew ?_ | with_reducible refine Ext.pDrewN ?_ _)
      · exact net_nil _ _ _
    · by_cases hf : ms.length = 60
      · have hr : sent (ms, ls) (f, t, row) = ((ms, ls), false) := by unfold sent; rw [if_pos ⟨hd, hmo⟩, if_pos hf]
        rw [hr]
        have hlq : ((ms.length : Int) == 60) = true := by rw [beq_iff_eq]; omega
        have Hd := Lib.hid hd; have Hm := Lib.hid hmo; clear hd hmo hr hf
        go_enter Try.func18, Try.ntmps18
        go_wp2_with fail
        refine (implNetOk_c _ (ms, ls) _ (netC.vext HD.out (by repeat (first | with_reducible exact Ext.refl _ | with_reducible assumption | with_reducible refine Ext.pAlloc ?_ _ | ((with_reducible refine Ext.pSet ?_ ?_ _); rotate_left; (simp <;> omega)) | with_reducible refine Ext.pDrew ?_ | with_reducible refine Ext.pDrewN ?_ _)))).mono ?_
        rw [Hd.out]
        rintro e w1 ⟨rfl, Ew1⟩
        have Xw1 : Ext w w1 := Ext.trans (by repeat (first | with_reducible exact Ext.refl _ | with_reducible assumption | with_reducible refine Ext.pAlloc ?_ _ | ((with_reducible refine Ext.pSet ?_ ?_ _); rotate_left; (simp <;> omega)) | with_reducible refine Ext.pDrew ?_ | with_reducible refine Ext.pDrewN ?_ _)) Ew1
        have zw1 : w.heap.size + 1 + 1 + 1 ≤ w1.heap.size := by have := Ew1.size; (try simp at this); omega
        have B_d' : Bx w1 w.heap.size [.slice a ms.length cap, .slice va ls.length vc] := Bx.ext (by repeat (first | with_reducible assumption | with_reducible exact Bx.new _ _ _ _ rfl | ((with_reducible refine Bx.new _ _ _ _ ?_); simp; done) | with_reducible refine Bx.pAlloc ?_ _ | with_reducible refine Bx.pDrew ?_ | with_reducible refine Bx.pDrewN ?_ _ | with_reducible apply Bx.set10 | with_reducible apply Bx.set20 | with_reducible apply Bx.set21 | with_reducible apply Bx.set30 | with_reducible apply Bx.set31 | with_reducible apply Bx.set32 | with_reducible apply Bx.set40 | with_reducible apply Bx.set41 | with_reducible apply Bx.set42 | with_reducible apply Bx.set43 | ((with_reducible refine Bx.set_other ?_ ?_ _); rotate_left; (simp <;> omega)))) Ew1
        have B_m' : Bx w1 (w.heap.size + 1) [.int .i64 f, .int .i64 t, .slice ya row.length yc] := Bx.ext (by repeat (first | with_reducible assumption | with_reducible exact Bx.new _ _ _ _ rfl | ((with_reducible refine Bx.new _ _ _ _ ?_); simp; done) | with_reducible refine Bx.pAlloc ?_ _ | with_reducible refine Bx.pDrew ?_ | with_reducible refine Bx.pDrewN ?_ _ | with_reducible apply Bx.set10 | with_reducible apply Bx.set20 | with_reducible apply Bx.set21 | with_reducible apply Bx.set30 | with_reducible apply Bx.set31 | with_reducible apply Bx.set32 | with_reducible apply Bx.set40 | with_reducible apply Bx.set41 | with_reducible apply Bx.set42 | with_reducible apply Bx.set43 | ((with_reducible refine Bx.set_other ?_ ?_ _); rotate_left; (simp <;> omega)))) Ew1
        have B_r' : Bx w1 (w.heap.size + 1 + 1) [.slice none 0 0, .slice none 0 0] := Bx.ext (by repeat (first | with_reducible assumption | with_reducible exact Bx.new _ _ _ _ rfl | ((with_reducible refine Bx.new _ _ _ _ ?_); simp; done) | with_reducible refine Bx.pAlloc ?_ _ | with_reducible refine Bx.pDrew ?_ | with_reducible refine Bx.pDrewN ?_ _ | with_reducible apply Bx.set10 | with_reducible apply Bx.set20 | with_reducible apply Bx.set21 | with_reducible apply Bx.set30 | with_reducible apply Bx.set31 | with_reducible apply Bx.set32 | with_reducible apply Bx.set40 | with_reducible apply Bx.set41 | with_reducible apply Bx.set42 | with_reducible apply Bx.set43 | ((with_reducible refine Bx.set_other ?_ ?_ _); rotate_left; (simp <;> omega)))) Ew1
        have B_d := B_d'; clear B_d'
        have B_m := B_m'; clear B_m'
        have B_r := B_r'; clear B_r'
        clear Ew1
        have c_d_0 := B_d.cell 0 _ rfl
        have c_d_1 := B_d.cell 1 _ rfl
        have n_d := B_d.lt
        have c_m_0 := B_m.cell 0 _ rfl
        have c_m_1 := B_m.cell 1 _ rfl
        have c_m_2 := B_m.cell 2 _ rfl
        have n_m := B_m.lt
        have c_r_0 := B_r.cell 0 _ rfl
        have c_r_1 := B_r.cell 1 _ rfl
        have n_r := B_r.lt
        have f_r := B_r.fr
        go_wp2_with fail
        refine (implMsgOk_c _ (f, t, row) _ (msgC.vext HM.out (by repeat (first | with_reducible exact Ext.refl _ | with_reducible assumption | with_reducible refine Ext.pAlloc ?_ _ | ((with_reducible refine Ext.pSet ?_ ?_ _); rotate_left; (simp <;> omega)) | with_reducible refine Ext.pDrew ?_ | with_reducible refine Ext.pDrewN ?_ _)))).mono ?_
        rw [Hm.out]
        rintro e w2 ⟨rfl, Ew2⟩
        have Xw2 : Ext w w2 := Ext.trans (by repeat (first | with_reducible exact Ext.refl _ | with_reducible assumption | with_reducible refine Ext.pAlloc ?_ _ | ((with_reducible refine Ext.pSet ?_ ?_ _); rotate_left; (simp <;> omega)) | with_reducible refine Ext.pDrew ?_ | with_reducible refine Ext.pDrewN ?_ _)) Ew2
        have zw2 : w1.heap.size ≤ w2.heap.size := by have := Ew2.size; (try simp at this); omega
        have B_d' : Bx w2 w.heap.size [.slice a ms.length cap, .slice va ls.length vc] := Bx.ext (by repeat (first | with_reducible assumption | with_reducible exact Bx.new _ _ _ _ rfl | ((with_reducible refine Bx.new _ _ _ _ ?_); simp; done) | with_reducible refine Bx.pAlloc ?_ _ | with_reducible refine Bx.pDrew ?_ | with_reducible refine Bx.pDrewN ?_ _ | with_reducible apply Bx.set10 | with_reducible apply Bx.set20 | with_reducible apply Bx.set21 | with_reducible apply Bx.set30 | with_reducible apply Bx.set31 | with_reducible apply Bx.set32 | with_reducible apply Bx.set40 | with_reducible apply Bx.set41 | with_reducible apply Bx.set42 | with_reducible apply Bx.set43 | ((with_reducible refine Bx.set_other ?_ ?_ _); rotate_left; (simp <;> omega)))) Ew2
        have B_m' : Bx w2 (w.heap.size + 1) [.int .i64 f, .int .i64 t, .slice ya row.length yc] := Bx.ext (by repeat (first | with_reducible assumption | with_reducible exact Bx.new _ _ _ _ rfl | ((with_reducible refine Bx.new _ _ _ _ ?_); simp; done) | with_reducible refine Bx.pAlloc ?_ _ | with_reducible refine Bx.pDrew ?_ | with_reducible refine Bx.pDrewN ?_ _ | with_reducible apply Bx.set10 | with_reducible apply Bx.set20 | with_reducible apply Bx.set21 | with_reducible apply Bx.set30 | with_reducible apply Bx.set31 | with_reducible apply Bx.set32 | with_reducible apply Bx.set40 | with_reducible apply Bx.set41 | with_reducible apply Bx.set42 | with_reducible apply Bx.set43 | ((with_reducible refine Bx.set_other ?_ ?_ _); rotate_left; (simp <;> omega)))) Ew2
        have B_r' : Bx w2 (w.heap.size + 1 + 1) [.slice none 0 0, .slice none 0 0] := Bx.ext (by repeat (first | with_reducible assumption | with_reducible exact Bx.new _ _ _ _ rfl | ((with_reducible refine Bx.new _ _ _ _ ?_); simp; done) | with_reducible refine Bx.pAlloc ?_ _ | with_reducible refine Bx.pDrew ?_ | with_reducible refine Bx.pDrewN ?_ _ | with_reducible apply Bx.set10 | with_reducible apply Bx.set20 | with_reducible apply Bx.set21 | with_reducible apply Bx.set30 | with_reducible apply Bx.set31 | with_reducible apply Bx.set32 | with_reducible apply Bx.set40 | with_reducible apply Bx.set41 | with_reducible apply Bx.set42 | with_reducible apply Bx.set43 | ((with_reducible refine Bx.set_other ?_ ?_ _); rotate_left; (simp <;> omega)))) Ew2
        clear c_d_0 c_d_1 n_d c_m_0 c_m_1 c_m_2 n_m c_r_0 c_r_1 n_r f_r
        clear B_d
        have B_d := B_d'; clear B_d'
        clear B_m
        have B_m := B_m'; clear B_m'
        clear B_r
        have B_r := B_r'; clear B_r'
        clear Ew2 Xw1
        have c_d_0 := B_d.cell 0 _ rfl
        have c_d_1 := B_d.cell 1 _ rfl
        have n_d := B_d.lt
        have c_m_0 := B_m.cell 0 _ rfl
        have c_m_1 := B_m.cell 1 _ rfl
        have c_m_2 := B_m.cell 2 _ rfl
        have n_m := B_m.lt
        have c_r_0 := B_r.cell 0 _ rfl
        have c_r_1 := B_r.cell 1 _ rfl
        have n_r := B_r.lt
        have f_r := B_r.fr
        go_wp2_with fail
        refine (copyNet_c _ (ms, ls) _ (netC.vext HD.out (by repeat (first | with_reducible exact Ext.refl _ | with_reducible assumption | with_reducible refine Ext.pAlloc ?_ _ | ((with_reducible refine Ext.pSet ?_ ?_ _); rotate_left; (simp <;> omega)) | with_reducible refine Ext.pDrew ?_ | with_reducible refine Ext.pDrewN ?_ _))) Hd.out).mono ?_
        rintro e w3 ⟨u1, v1, rfl, Ew3, a1, b1, a2, b2, p1, p2, p3, p4, p5, p6, p7, O_cm, O_cl⟩
        simp only at O_cm O_cl
        obtain ⟨ka, kc, rfl⟩ := sl_form O_cm.view
        obtain ⟨la, lc, rfl⟩ := sl_form O_cl.view
        replace p1 : w2.heap.size ≤ a1 := by have h9 := p1; (try simp at h9); omega
        replace p4 : w2.heap.size ≤ a2 := by have h9 := p4; (try simp at h9); omega
        have Xw3 : Ext w w3 := Ext.trans (by repeat (first | with_reducible exact Ext.refl _ | with_reducible assumption | with_reducible refine Ext.pAlloc ?_ _ | ((with_reducible refine Ext.pSet ?_ ?_ _); rotate_left; (simp <;> omega)) | with_reducible refine Ext.pDrew ?_ | with_reducible refine Ext.pDrewN ?_ _)) Ew3
        have zw3 : w2.heap.size ≤ w3.heap.size := by have := Ew3.size; (try simp at this); omega
        have B_d' : Bx w3 w.heap.size [.slice a ms.length cap, .slice va ls.length vc] := Bx.ext (by repeat (first | with_reducible assumption | with_reducible exact Bx.new _ _ _ _ rfl | ((with_reducible refine Bx.new _ _ _ _ ?_); simp; done) | with_reducible refine Bx.pAlloc ?_ _ | with_reducible refine Bx.pDrew ?_ | with_reducible refine Bx.pDrewN ?_ _ | with_reducible apply Bx.set10 | with_reducible apply Bx.set20 | with_reducible apply Bx.set21 | with_reducible apply Bx.set30 | with_reducible apply Bx.set31 | with_reducible apply Bx.set32 | with_reducible apply Bx.set40 | with_reducible apply Bx.set41 | with_reducible apply Bx.set42 | with_reducible apply Bx.set43 | ((with_reducible refine Bx.set_other ?_ ?_ _); rotate_left; (simp <;> omega)))) Ew3
        have B_m' : Bx w3 (w.heap.size + 1) [.int .i64 f, .int .i64 t, .slice ya row.length yc] := Bx.ext (by repeat (first | with_reducible assumption | with_reducible exact Bx.new _ _ _ _ rfl | ((with_reducible refine Bx.new _ _ _ _ ?_); simp; done) | with_reducible refine Bx.pAlloc ?_ _ | with_reducible refine Bx.pDrew ?_ | with_reducible refine Bx.pDrewN ?_ _ | with_reducible apply Bx.set10 | with_reducible apply Bx.set20 | with_reducible apply Bx.set21 | with_reducible apply Bx.set30 | with_reducible apply Bx.set31 | with_reducible apply Bx.set32 | with_reducible apply Bx.set40 | with_reducible apply Bx.set41 | with_reducible apply Bx.set42 | with_reducible apply Bx.set43 | ((with_reducible refine Bx.set_other ?_ ?_ _); rotate_left; (simp <;> omega)))) Ew3
        have B_r' : Bx w3 (w.heap.size + 1 + 1) [.slice none 0 0, .slice none 0 0] := Bx.ext (by repeat (first | with_reducible assumption | with_reducible exact Bx.new _ _ _ _ rfl | ((with_reducible refine Bx.new _ _ _ _ ?_); simp; done) | with_reducible refine Bx.pAlloc ?_ _ | with_reducible refine Bx.pDrew ?_ | with_reducible refine Bx.pDrewN ?_ _ | with_reducible apply Bx.set10 | with_reducible apply Bx.set20 | with_reducible apply Bx.set21 | with_reducible apply Bx.set30 | with_reducible apply Bx.set31 | with_reducible apply Bx.set32 | with_reducible apply Bx.set40 | with_reducible apply Bx.set41 | with_reducible apply Bx.set42 | with_reducible apply Bx.set43 | ((with_reducible refine Bx.set_other ?_ ?_ _); rotate_left; (simp <;> omega)))) Ew3
        clear c_d_0 c_d_1 n_d c_m_0 c_m_1 c_m_2 n_m c_r_0 c_r_1 n_r f_r
        clear B_d
        have B_d := B_d'; clear B_d'
        clear B_m
        have B_m := B_m'; clear B_m'
        clear B_r
        have B_r := B_r'; clear B_r'
        clear Ew3 Xw2
        have c_d_0 := B_d.cell 0 _ rfl
        have c_d_1 := B_d.cell 1 _ rfl
        have n_d := B_d.lt
        have c_m_0 := B_m.cell 0 _ rfl
        have c_m_1 := B_m.cell 1 _ rfl
        have c_m_2 := B_m.cell 2 _ rfl
        have n_m := B_m.lt
        have c_r_0 := B_r.cell 0 _ rfl
        have c_r_1 := B_r.cell 1 _ rfl
        have n_r := B_r.lt
        have f_r := B_r.fr
        go_wp2
        refine bodyPost_ret (v := .tuple #[.agg #[.slice ka ms.length kc, .slice la ls.length lc], .bool false]) (by simp [results, Try.results18, go_sem, c_r_0, c_r_1, n_r]) rfl ⟨_, _, rfl, ?_, ?_⟩
        · repeat (first | with_reducible exact Ext.refl _ | with_reducible assumption | with_reducible refine Ext.pAlloc ?_ _ | ((with_reducible refine Ext.pSet ?_ ?_ _); rotate_left; (simp <;> omega)) | with_reducible refine Ext.pDrew ?_ | with_reducible refine Ext.pDrewN ?_ _)
        · exact net_join (by repeat (first | with_reducible assumption | with_reducible refine Cd.own.pAlloc ?_ _ | with_reducible refine Cd.own.pDrew ?_ | with_reducible refine Cd.own.pDrewN ?_ _ | ((with_reducible refine Cd.own.pSet ?_ ?_ _); rotate_left; (simp <;> omega)))) (by repeat (first | with_reducible assumption | with_reducible refine Cd.own.pAlloc ?_ _ | with_reducible refine Cd.own.pDrew ?_ | with_reducible refine Cd.own.pDrewN ?_ _ | ((with_reducible refine Cd.own.pSet ?_ ?_ _); rotate_left; (simp <;> omega)))) p7 ⟨(by first | omega | (simp <;> omega)), (by first | (simp [World.setCell]; done) | (simp [World.setCell]; omega) | omega), (by first | omega | (simp <;> omega)), (by first | (simp [World.setCell]; done) | (simp [World.setCell]; omega) | omega)⟩
      · have hr : sent (ms, ls) (f, t, row) = ((ms ++ [(f, t, row)], ls), true) := by unfold sent; rw [if_pos ⟨hd, hmo⟩, if_neg hf]
        rw [hr]
        have hlq : ((ms.length : Int) == 60) = false := by rw [beq_eq_false_iff_ne]; omega
        have hlen := (netOk_lens hd).1
        have hrl := msgOk_len hmo
        simp only at hlen hrl
        have Hd := Lib.hid hd; have Hm := Lib.hid hmo; clear hd hmo hr hf
        go_enter Try.func18, Try.ntmps18
        go_wp2_with fail
        refine (implNetOk_c _ (ms, ls) _ (netC.vext HD.out (by repeat (first | with_reducible exact Ext.refl _ | with_reducible assumption | with_reducible refine Ext.pAlloc ?_ _ | ((with_reducible refine Ext.pSet ?_ ?_ _); rotate_left; (simp <;> omega)) | with_reducible refine Ext.pDrew ?_ | with_reducible refine Ext.pDrewN ?_ _)))).mono ?_
        rw [Hd.out]
        rintro e w1 ⟨rfl, Ew1⟩
        have Xw1 : Ext w w1 := Ext.trans (by repeat (first | with_reducible exact Ext.refl _ | with_reducible assumption | with_reducible refine Ext.pAlloc ?_ _ | ((with_reducible refine Ext.pSet ?_ ?_ _); rotate_left; (simp <;> omega)) | with_reducible refine Ext.pDrew ?_ | with_reducible refine Ext.pDrewN ?_ _)) Ew1
        have zw1 : w.heap.size + 1 + 1 + 1 ≤ w1.heap.size := by have := Ew1.size; (try simp at this); omega
        have B_d' : Bx w1 w.heap.size [.slice a ms.length cap, .slice va ls.length vc] := Bx.ext (by repeat (first | with_reducible assumption | with_reducible exact Bx.new _ _ _ _ rfl | ((with_reducible refine Bx.new _ _ _ _ ?_); simp; done) | with_reducible refine Bx.pAlloc ?_ _ | with_reducible refine Bx.pDrew ?_ | with_reducible refine Bx.pDrewN ?_ _ | with_reducible apply Bx.set10 | with_reducible apply Bx.set20 | with_reducible apply Bx.set21 | with_reducible apply Bx.set30 | with_reducible apply Bx.set31 | with_reducible apply Bx.set32 | with_reducible apply Bx.set40 | with_reducible apply Bx.set41 | with_reducible apply Bx.set42 | with_reducible apply Bx.set43 | ((with_reducible refine Bx.set_other ?_ ?_ _); rotate_left; (simp <;> omega)))) Ew1
        have B_m' : Bx w1 (w.heap.size + 1) [.int .i64 f, .int .i64 t, .slice ya row.length yc] := Bx.ext (by repeat (first | with_reducible assumption | with_reducible exact Bx.new _ _ _ _ rfl | ((with_reducible refine Bx.new _ _ _ _ ?_); simp; done) | with_reducible refine Bx.pAlloc ?_ _ | with_reducible refine Bx.pDrew ?_ | with_reducible refine Bx.pDrewN ?_ _ | with_reducible apply Bx.set10 | with_reducible apply Bx.set20 | with_reducible apply Bx.set21 | with_reducible apply Bx.set30 | with_reducible apply Bx.set31 | with_reducible apply Bx.set32 | with_reducible apply Bx.set40 | with_reducible apply Bx.set41 | with_reducible apply Bx.set42 | with_reducible apply Bx.set43 | ((with_reducible refine Bx.set_other ?_ ?_ _); rotate_left; (simp <;> omega)))) Ew1
        have B_r' : Bx w1 (w.heap.size + 1 + 1) [.slice none 0 0, .slice none 0 0] := Bx.ext (by repeat (first | with_reducible assumption | with_reducible exact Bx.new _ _ _ _ rfl | ((with_reducible refine Bx.new _ _ _ _ ?_); simp; done) | with_reducible refine Bx.pAlloc ?_ _ | with_reducible refine Bx.pDrew ?_ | with_reducible refine Bx.pDrewN ?_ _ | with_reducible apply Bx.set10 | with_reducible apply Bx.set20 | with_reducible apply Bx.set21 | with_reducible apply Bx.set30 | with_reducible apply Bx.set31 | with_reducible apply Bx.set32 | with_reducible apply Bx.set40 | with_reducible apply Bx.set41 | with_reducible apply Bx.set42 | with_reducible apply Bx.set43 | ((with_reducible refine Bx.set_other ?_ ?_ _); rotate_left; (simp <;> omega)))) Ew1
        have B_d := B_d'; clear B_d'
        have B_m := B_m'; clear B_m'
        have B_r := B_r'; clear B_r'
        clear Ew1
        have c_d_0 := B_d.cell 0 _ rfl
        have c_d_1 := B_d.cell 1 _ rfl
        have n_d := B_d.lt
        have c_m_0 := B_m.cell 0 _ rfl
        have c_m_1 := B_m.cell 1 _ rfl
        have c_m_2 := B_m.cell 2 _ rfl
        have n_m := B_m.lt
        have c_r_0 := B_r.cell 0 _ rfl
        have c_r_1 := B_r.cell 1 _ rfl
        have n_r := B_r.lt
        have f_r := B_r.fr
        go_wp2_with fail
        refine (implMsgOk_c _ (f, t, row) _ (msgC.vext HM.out (by repeat (first | with_reducible exact Ext.refl _ | with_reducible assumption | with_reducible refine Ext.pAlloc ?_ _ | ((with_reducible refine Ext.pSet ?_ ?_ _); rotate_left; (simp <;> omega)) | with_reducible refine Ext.pDrew ?_ | with_reducible refine Ext.pDrewN ?_ _)))).mono ?_
        rw [Hm.out]
        rintro e w2 ⟨rfl, Ew2⟩
        have Xw2 : Ext w w2 := Ext.trans (by repeat (first | with_reducible exact Ext.refl _ | with_reducible assumption | with_reducible refine Ext.pAlloc ?_ _ | ((with_reducible refine Ext.pSet ?_ ?_ _); rotate_left; (simp <;> omega)) | with_reducible refine Ext.pDrew ?_ | with_reducible refine Ext.pDrewN ?_ _)) Ew2
        have zw2 : w1.heap.size ≤ w2.heap.size := by have := Ew2.size; (try simp at this); omega
        have B_d' : Bx w2 w.heap.size [.slice a ms.length cap, .slice va ls.length vc] := Bx.ext (by repeat (first | with_reducible assumption | with_reducible exact Bx.new _ _ _ _ rfl | ((with_reducible refine Bx.new _ _ _ _ ?_); simp; done) | with_reducible refine Bx.pAlloc ?_ _ | with_reducible refine Bx.pDrew ?_ | with_reducible refine Bx.pDrewN ?_ _ | with_reducible apply Bx.set10 | with_reducible apply Bx.set20 | with_reducible apply Bx.set21 | with_reducible apply Bx.set30 | with_reducible apply Bx.set31 | with_reducible apply Bx.set32 | with_reducible apply Bx.set40 | with_reducible apply Bx.set41 | with_reducible apply Bx.set42 | with_reducible apply Bx.set43 | ((with_reducible refine Bx.set_other ?_ ?_ _); rotate_left; (simp <;> omega)))) Ew2
        have B_m' : Bx w2 (w.heap.size + 1) [.int .i64 f, .int .i64 t, .slice ya row.length yc] := Bx.ext (by repeat (first | with_reducible assumption | with_reducible exact Bx.new _ _ _ _ rfl | ((with_reducible refine Bx.new _ _ _ _ ?_); simp; done) | with_reducible refine Bx.pAlloc ?_ _ | with_reducible refine Bx.pDrew ?_ | with_reducible refine Bx.pDrewN ?_ _ | with_reducible apply Bx.set10 | with_reducible apply Bx.set20 | with_reducible apply Bx.set21 | with_reducible apply Bx.set30 | with_reducible apply Bx.set31 | with_reducible apply Bx.set32 | with_reducible apply Bx.set40 | with_reducible apply Bx.set41 | with_reducible apply Bx.set42 | with_reducible apply Bx.set43 | ((with_reducible refine Bx.set_other ?_ ?_ _); rotate_left; (simp <;> omega)))) Ew2
        have B_r' : Bx w2 (w.heap.size + 1 + 1) [.slice none 0 0, .slice none 0 0] := Bx.ext (by repeat (first | with_reducible assumption | with_reducible exact Bx.new _ _ _ _ rfl | ((with_reducible refine Bx.new _ _ _ _ ?_); simp; done) | with_reducible refine Bx.pAlloc ?_ _ | with_reducible refine Bx.pDrew ?_ | with_reducible refine Bx.pDrewN ?_ _ | with_reducible apply Bx.set10 | with_reducible apply Bx.set20 | with_reducible apply Bx.set21 | with_reducible apply Bx.set30 | with_reducible apply Bx.set31 | with_reducible apply Bx.set32 | with_reducible apply Bx.set40 | with_reducible apply Bx.set41 | with_reducible apply Bx.set42 | with_reducible apply Bx.set43 | ((with_reducible refine Bx.set_other ?_ ?_ _); rotate_left; (simp <;> omega)))) Ew2
        clear c_d_0 c_d_1 n_d c_m_0 c_m_1 c_m_2 n_m c_r_0 c_r_1 n_r f_r
        clear B_d
        have B_d := B_d'; clear B_d'
        clear B_m
        have B_m := B_m'; clear B_m'
        clear B_r
        have B_r := B_r'; clear B_r'
        clear Ew2 Xw1
        have c_d_0 := B_d.cell 0 _ rfl
        have c_d_1 := B_d.cell 1 _ rfl
        have n_d := B_d.lt
        have c_m_0 := B_m.cell 0 _ rfl
        have c_m_1 := B_m.cell 1 _ rfl
        have c_m_2 := B_m.cell 2 _ rfl
        have n_m := B_m.lt
        have c_r_0 := B_r.cell 0 _ rfl
        have c_r_1 := B_r.cell 1 _ rfl
        have n_r := B_r.lt
        have f_r := B_r.fr
        go_wp2_with fail
        refine (copyNet_c _ (ms, ls) _ (netC.vext HD.out (by repeat (first | with_reducible exact Ext.refl _ | with_reducible assumption | with_reducible refine Ext.pAlloc ?_ _ | ((with_reducible refine Ext.pSet ?_ ?_ _); rotate_left; (simp <;> omega)) | with_reducible refine Ext.pDrew ?_ | with_reducible refine Ext.pDrewN ?_ _))) Hd.out).mono ?_
        rintro e w3 ⟨u1, v1, rfl, Ew3, a1, b1, a2, b2, p1, p2, p3, p4, p5, p6, p7, O_cm, O_cl⟩
        simp only at O_cm O_cl
        obtain ⟨ka, kc, rfl⟩ := sl_form O_cm.view
        obtain ⟨la, lc, rfl⟩ := sl_form O_cl.view
        replace p1 : w2.heap.size ≤ a1 := by have h9 := p1; (try simp at h9); omega
        replace p4 : w2.heap.size ≤ a2 := by have h9 := p4; (try simp at h9); omega
        have Xw3 : Ext w w3 := Ext.trans (by repeat (first | with_reducible exact Ext.refl _ | with_reducible assumption | with_reducible refine Ext.pAlloc ?_ _ | ((with_reducible refine Ext.pSet ?_ ?_ _); rotate_left; (simp <;> omega)) | with_reducible refine Ext.pDrew ?_ | with_reducible refine Ext.pDrewN ?_ _)) Ew3
        have zw3 : w2.heap.size ≤ w3.heap.size := by have := Ew3.size; (try simp at this); omega
        have B_d' : Bx w3 w.heap.size [.slice a ms.length cap, .slice va ls.length vc] := Bx.ext (by repeat (first | with_reducible assumption | with_reducible exact Bx.new _ _ _ _ rfl | ((with_reducible refine Bx.new _ _ _ _ ?_); simp; done) | with_reducible refine Bx.pAlloc ?_ _ | with_reducible refine Bx.pDrew ?_ | with_reducible refine Bx.pDrewN ?_ _ | with_reducible apply Bx.set10 | with_reducible apply Bx.set20 | with_reducible apply Bx.set21 | with_reducible apply Bx.set30 | with_reducible apply Bx.set31 | with_reducible apply Bx.set32 | with_reducible apply Bx.set40 | with_reducible apply Bx.set41 | with_reducible apply Bx.set42 | with_reducible apply Bx.set43 | ((with_reducible refine Bx.set_other ?_ ?_ _); rotate_left; (simp <;> omega)))) Ew3
        have B_m' : Bx w3 (w.heap.size + 1) [.int .i64 f, .int .i64 t, .slice ya row.length yc] := Bx.ext (by repeat (first | with_reducible assumption | with_reducible exact Bx.new _ _ _ _ rfl | ((with_reducible refine Bx.new _ _ _ _ ?_); simp; done) | with_reducible refine Bx.pAlloc ?_ _ | with_reducible refine Bx.pDrew ?_ | with_reducible refine Bx.pDrewN ?_ _ | with_reducible apply Bx.set10 | with_reducible apply Bx.set20 | with_reducible apply Bx.set21 | with_reducible apply Bx.set30 | with_reducible apply Bx.set31 | with_reducible apply Bx.set32 | with_reducible apply Bx.set40 | with_reducible apply Bx.set41 | with_reducible apply Bx.set42 | with_reducible apply Bx.set43 | ((with_reducible refine Bx.set_other ?_ ?_ _); rotate_left; (simp <;> omega)))) Ew3
        have B_r' : Bx w3 (w.heap.size + 1 + 1) [.slice none 0 0, .slice none 0 0] := Bx.ext (by repeat (first | with_reducible assumption | with_reducible exact Bx.new _ _ _ _ rfl | ((with_reducible refine Bx.new _ _ _ _ ?_); simp; done) | with_reducible refine Bx.pAlloc ?_ _ | with_reducible refine Bx.pDrew ?_ | with_reducible refine Bx.pDrewN ?_ _ | with_reducible apply Bx.set10 | with_reducible apply Bx.set20 | with_reducible apply Bx.set21 | with_reducible apply Bx.set30 | with_reducible apply Bx.set31 | with_reducible apply Bx.set32 | with_reducible apply Bx.set40 | with_reducible apply Bx.set41 | with_reducible apply Bx.set42 | with_reducible apply Bx.set43 | ((with_reducible refine Bx.set_other ?_ ?_ _); rotate_left; (simp <;> omega)))) Ew3
        clear c_d_0 c_d_1 n_d c_m_0 c_m_1 c_m_2 n_m c_r_0 c_r_1 n_r f_r
        clear B_d
        have B_d := B_d'; clear B_d'
        clear B_m
        have B_m := B_m'; clear B_m'
        clear B_r
        have B_r := B_r'; clear B_r'
        clear Ew3 Xw2
        have c_d_0 := B_d.cell 0 _ rfl
        have c_d_1 := B_d.cell 1 _ rfl
        have n_d := B_d.lt
        have c_m_0 := B_m.cell 0 _ rfl
        have c_m_1 := B_m.cell 1 _ rfl
        have c_m_2 := B_m.cell 2 _ rfl
        have n_m := B_m.lt
        have c_r_0 := B_r.cell 0 _ rfl
        have c_r_1 := B_r.cell 1 _ rfl
        have n_r := B_r.lt
        have f_r := B_r.fr
        go_wp2
        refine wp_region_T (S := fun ω => ω.cell? ⟨w3.heap.size, 0, none⟩ = some (.slice ka ms.length kc) ∧ ω.cell? ⟨w.heap.size + 1, 0, none⟩ = some (.int .i64 f) ∧ ω.cell? ⟨w.heap.size + 1, 1, none⟩ = some (.int .i64 t) ∧ ω.cell? ⟨w.heap.size + 1, 2, none⟩ = some (.slice ya row.length yc) ∧ Bx ω (w.heap.size + 1 + 1) [.slice none 0 0, .slice none 0 0] ∧ Bx ω (w3.heap.size) [.slice ka ms.length kc, .slice la ls.length lc] ∧ Ext w ω) 7 (by kernel_rfl) ?_ (fun hHeld => ?_) (by decide)
        · (try dsimp only); (refine ⟨?_, ?_, ?_, ?_, ?_, ?_, ?_⟩ <;> first | (simp [go_sem]; done) | (simp [*, go_sem]; done) | ((repeat (first | with_reducible assumption | with_reducible exact Bx.new _ _ _ _ rfl | ((with_reducible refine Bx.new _ _ _ _ ?_); simp; done) | with_reducible refine Bx.pAlloc ?_ _ | with_reducible refine Bx.pDrew ?_ | with_reducible refine Bx.pDrewN ?_ _ | with_reducible apply Bx.set10 | with_reducible apply Bx.set20 | with_reducible apply Bx.set21 | with_reducible apply Bx.set30 | with_reducible apply Bx.set31 | with_reducible apply Bx.set32 | with_reducible apply Bx.set40 | with_reducible apply Bx.set41 | with_reducible apply Bx.set42 | with_reducible apply Bx.set43 | ((with_reducible refine Bx.set_other ?_ ?_ _); rotate_left; (simp <;> omega)))); done) | ((repeat (first | with_reducible exact Ext.refl _ | with_reducible assumption | with_reducible refine Ext.pAlloc ?_ _ | ((with_reducible refine Ext.pSet ?_ ?_ _); rotate_left; (simp <;> omega)) | with_reducible refine Ext.pDrew ?_ | with_reducible refine Ext.pDrewN ?_ _)); done))
        refine wpT_take (i := 0) (v := ?_) rfl (by kernel_rfl) (by decide) (by kernel_rfl) (by kernel_rfl) (by kernel_rfl) (fun _ _ _ h => h) (Or.inl ⟨by rfl, ?_⟩) (by assumption) ?_
        rotate_left
        · intro w9 hSw; (try dsimp only at hSw); go_simp; (first | done | with_reducible rfl)
        (try simp only [List.getElem_toArray, List.getElem_cons_succ, List.getElem_cons_zero, Act.put, List.setIfInBounds_toArray, List.set_cons_zero, List.set_cons_succ])
        refine wpT_take (i := 1) (v := ?_) rfl (by kernel_rfl) (by decide) (by kernel_rfl) (by kernel_rfl) (by kernel_rfl) (fun _ _ _ h => h) (Or.inl ⟨by rfl, ?_⟩) (by assumption) ?_
        rotate_left
        · intro w9 hSw; (try dsimp only at hSw); go_simp; (first | done | with_reducible rfl)
        (try simp only [List.getElem_toArray, List.getElem_cons_succ, List.getElem_cons_zero, Act.put, List.setIfInBounds_toArray, List.set_cons_zero, List.set_cons_succ])
        refine wpT_take (i := 2) (v := ?_) rfl (by kernel_rfl) (by decide) (by kernel_rfl) (by kernel_rfl) (by kernel_rfl) (fun _ _ _ h => h) (Or.inl ⟨by rfl, ?_⟩) (by assumption) ?_
        rotate_left
        · intro w9 hSw; (try dsimp only at hSw); go_simp; (first | done | with_reducible rfl)
        (try simp only [List.getElem_toArray, List.getElem_cons_succ, List.getElem_cons_zero, Act.put, List.setIfInBounds_toArray, List.set_cons_zero, List.set_cons_succ])
        refine wpT_step (i := 3) (by kernel_rfl) (by decide) rfl (fun K hK => ?_)
        go_simp
        refine (copyMsg_c _ (f, t, row) _ (msgC.vext HM.out hHeld.2.2.2.2.2.2) (by show row.length ≤ 2097152; omega)).mono ?_
        rintro e w12 ⟨u2, rfl, hE2, hO2⟩
        have hEw : Ext w3 w12 := Ext.trans (by repeat (first | with_reducible exact Ext.refl _ | with_reducible assumption | with_reducible refine Ext.pAlloc ?_ _ | ((with_reducible refine Ext.pSet ?_ ?_ _); rotate_left; (simp <;> omega)) | with_reducible refine Ext.pDrew ?_ | with_reducible refine Ext.pDrewN ?_ _)) hE2
        obtain ⟨u3, e3, hO2r⟩ := msg_own.1 hO2
        cases e3
        obtain ⟨ua2, uc2, rfl⟩ := u_slice hO2r.view
        clear hO2r
        have hz2 : w3.heap.size + 1 ≤ w12.heap.size := by have := hE2.size; (try simp at this); omega
        replace hO2 := hO2.wide (lo' := w3.heap.size + 1) (by first | omega | (simp <;> omega)) (Nat.le_refl _)
        (try go_wp2_with fail)
        refine hK.out _ _ ?_ (fun hHeld2 => ?_)
        · (try dsimp only); (obtain ⟨s0, s1, s2, s3, s4, s5, s6⟩ := hHeld; exact ⟨cell_ext s0 hE2, cell_ext s1 hE2, cell_ext s2 hE2, cell_ext s3 hE2, Bx.ext s4 hE2, Bx.ext s5 hE2, s6.trans hE2⟩)
        clear hK K hHeld
        rename _ => hHeld
        (try simp only [List.getElem_toArray, List.getElem_cons_succ, List.getElem_cons_zero, Act.put, List.setIfInBounds_toArray, List.set_cons_zero, List.set_cons_succ])
        refine wpT_step (i := 4) (by kernel_rfl) (by decide) rfl (fun K hK => ?_)
        go_simp
        refine hK.out _ _ ?_ (fun hHeld2 => ?_)
        · (try dsimp only); (obtain ⟨s0, s1, s2, s3, s4, s5, s6⟩ := hHeld; exact ⟨cell_ext s0 (Ext.alloc _ _), cell_ext s1 (Ext.alloc _ _), cell_ext s2 (Ext.alloc _ _), cell_ext s3 (Ext.alloc _ _), Bx.ext s4 (Ext.alloc _ _), Bx.ext s5 (Ext.alloc _ _), s6.trans (Ext.alloc _ _)⟩)
        clear hK K hHeld
        rename _ => hHeld
        (try simp only [List.getElem_toArray, List.getElem_cons_succ, List.getElem_cons_zero, Act.put, List.setIfInBounds_toArray, List.set_cons_zero, List.set_cons_succ])
        refine wpT_step (i := 5) (by kernel_rfl) (by decide) rfl (fun K hK => ?_)
        rw [if_pos (by rfl)]
        refine opwp_snoc2 (R := msgC) (y := (f, t, row)) (lo' := w3.heap.size + 1) (hi' := w12.heap.size) _ _ _ (by rfl) 40 _ 40 Try.underlying27 Hinf.out (by rfl) (O_cm.ext (hEw.trans (Ext.alloc _ _))) (by rfl) (hO2.ext (Ext.alloc _ _)) (by first | omega | (simp <;> omega)) (by first | omega | (simp <;> omega)) _ _ (by rfl) (CellsAt.lit _ _ _) (by omega) ?_
        rintro v4 w4 ⟨a4, c4, rfl⟩ hO4 hC4
        have O_cl4 := (O_cl.ext (hEw.trans (Ext.alloc _ _))).chg hC4 (by omega)
        have z4 : w12.heap.size + 1 ≤ w4.heap.size := by have := hC4.size; (try simp at this); omega
        refine hK.out _ _ ?_ (fun hHeld2 => ?_)
        · (try dsimp only); (obtain ⟨s0, s1, s2, s3, s4, s5, s6⟩ := hHeld; exact ⟨cell_chg s0 hC4 (by omega), cell_chg s1 hC4 (by omega), cell_chg s2 hC4 (by omega), cell_chg s3 hC4 (by omega), Bx.chg s4 hC4 (by omega), Bx.chg s5 hC4 (by omega), Chg.ext s6 hC4 (by omega)⟩)
        clear hK K hHeld
        rename _ => hHeld
        (try simp only [List.getElem_toArray, List.getElem_cons_succ, List.getElem_cons_zero, Act.put, List.setIfInBounds_toArray, List.set_cons_zero, List.set_cons_succ])
        refine wpT_take (i := 6) (v := ?_) rfl (by kernel_rfl) (by decide) (by kernel_rfl) (by kernel_rfl) (by kernel_rfl) (fun _ _ _ h => h) (Or.inl ⟨by rfl, ?_⟩) (by assumption) ?_
        rotate_left
        · intro w9 hSw; (try dsimp only at hSw); go_simp; (first | done | with_reducible rfl)
        (try simp only [List.getElem_toArray, List.getElem_cons_succ, List.getElem_cons_zero, Act.put, List.setIfInBounds_toArray, List.set_cons_zero, List.set_cons_succ])
        refine wpT_last (by kernel_rfl) (by kernel_rfl) rfl (fun K hK => ?_)
        obtain ⟨e0, e1, e2, e3, e4, e5, e6⟩ := hHeld
        clear c_d_0 c_d_1 n_d c_m_0 c_m_1 c_m_2 n_m c_r_0 c_r_1 n_r f_r e0 e1 e2 e3
        have c0 := e5.cell 0 _ rfl; have c1 := e5.cell 1 _ rfl; have f1 := e5.fr; have n3 := e5.lt; have c_r_0 := e4.cell 0 _ rfl; have c_r_1 := e4.cell 1 _ rfl; have f_r := e4.fr; have n_r := e4.lt
        go_simp
        refine hK.out _ _ ?_
        clear hK K
        go_wp2
        refine bodyPost_ret (v := .tuple #[.agg #[.slice a4 (ms.length + 1) c4, .slice la ls.length lc], .bool true]) (by simp [results, Try.results18, go_sem, c_r_0, c_r_1, n_r]) rfl ⟨_, _, rfl, ?_, ?_⟩
        · repeat (first | with_reducible exact Ext.refl _ | with_reducible assumption | with_reducible refine Ext.pAlloc ?_ _ | ((with_reducible refine Ext.pSet ?_ ?_ _); rotate_left; (simp <;> omega)) | with_reducible refine Ext.pDrew ?_ | with_reducible refine Ext.pDrewN ?_ _)
        · exact net_own2 (a1 := a1) (b1 := b1) (c1 := w3.heap.size + 1) (d1 := w4.heap.size) (by repeat (first | with_reducible assumption | ((with_reducible refine Cd.own2.set ?_ ?_ _); rotate_left; (simp <;> omega)))) (by repeat (first | with_reducible assumption | with_reducible refine Cd.own.pAlloc ?_ _ | with_reducible refine Cd.own.pDrew ?_ | with_reducible refine Cd.own.pDrewN ?_ _ | ((with_reducible refine Cd.own.pSet ?_ ?_ _); rotate_left; (simp <;> omega)))) ⟨p7, by omega⟩ ⟨⟨(by first | omega | (simp <;> omega)), (by first | (simp [World.setCell]; done) | (simp [World.setCell]; omega) | omega)⟩, ⟨(by first | omega | (simp <;> omega)), (by first | (simp [World.setCell]; done) | (simp [World.setCell]; omega) | omega)⟩, (by first | omega | (simp <;> omega)), (by first | (simp [World.setCell]; done) | (simp [World.setCell]; omega) | omega)⟩


end Go.Proofs.Ytjjeagblgjmcpaa

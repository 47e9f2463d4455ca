/- A letter handed over. -/
import Derived.Test.YtjjeagblgjmcpaaNt7b
set_option linter.unusedVariables false
set_option linter.unusedSimpArgs false
namespace Go.Proofs.Ytjjeagblgjmcpaa
open Go.RowKit Go.Sl

def msgAt (d : NetD) (n : Int) : MsgD := d.1.getD n.toNat (0, 0, [])
/-- A letter handed over. -/
def handed (d : NetD) (n : Int) : NetD × MsgD × Bool :=
  if netOk d = true then
    (if thereAt d n = true then
      (if linkOf (msgAt d n).1 (msgAt d n).2.1 ∈ d.2 then ((d.1.eraseIdx n.toNat, d.2), (0, 0, []), false) else ((d.1.eraseIdx n.toNat, d.2), msgAt d n, true))
    else (d, (0, 0, []), false))
  else (([], []), (0, 0, []), false)
/-- A network and a letter that are owned, apart from each other. -/
def nmOwn (lo hi : Nat) (w : World) (u v r : Value) (d : NetD) (m : MsgD) : Prop := ∃ p q, netC.O w [u, v] d p ∧ msgC.O w [.int .i64 m.1, .int .i64 m.2.1, r] m q ∧ (p ++ q).Nodup ∧ ∀ b ∈ p ++ q, lo ≤ b ∧ b < hi
theorem nm_of {lo hi a1 b1 a2 b2 : Nat} {w : World} {u v r : Value} {d : NetD} {m : MsgD} (h1 : netC.own a1 b1 w [u, v] d) (h2 : msgC.own a2 b2 w [.int .i64 m.1, .int .i64 m.2.1, r] m) (hd : b1 ≤ a2 ∨ b2 ≤ a1) (hb : (lo ≤ a1 ∧ b1 ≤ hi) ∧ lo ≤ a2 ∧ b2 ≤ hi) : nmOwn lo hi w u v r d m := by
  obtain ⟨f, hf, nf, bf⟩ := h1
  obtain ⟨g, hg, ng, bg⟩ := h2
  refine ⟨f, g, hf, hg, List.nodup_append.2 ⟨nf, ng, fun x hx y hy e => ?_⟩, fun x hx => ?_⟩
  · have := bf x hx; have := bg y hy; omega
  · rcases List.mem_append.1 hx with hx | hx
    · have := bf x hx; omega
    · have := bg x hx; omega
theorem nm_zero {lo hi : Nat} {w : World} {u v : Value} {d : NetD} (h : netC.own lo hi w [u, v] d) : nmOwn lo hi w u v (.slice none 0 0) d (0, 0, []) := by
  obtain ⟨f, hf, nf, bf⟩ := h
  exact ⟨f, [], hf, msg_O.2 ⟨_, rfl, nilN_O w⟩, by simpa using nf, by simpa using bf⟩
theorem nmOwn.wide {lo hi lo' hi' : Nat} {w : World} {u v r : Value} {d : NetD} {m : MsgD} (h : nmOwn lo hi w u v r d m) (hl : lo' ≤ lo) (hh : hi ≤ hi') : nmOwn lo' hi' w u v r d m := by
  obtain ⟨p, q, h1, h2, h3, h4⟩ := h
  exact ⟨p, q, h1, h2, h3, fun b hb => by have := h4 b hb; omega⟩
theorem nmOwn.ext {lo hi : Nat} {w w' : World} {u v r : Value} {d : NetD} {m : MsgD} (h : nmOwn lo hi w u v r d m) (he : Ext w w') : nmOwn lo hi w' u v r d m := by
  obtain ⟨p, q, h1, h2, h3, h4⟩ := h
  exact ⟨p, q, netC.O_ext h1 he, msgC.O_ext h2 he, h3, h4⟩
theorem nmOwn.chg {lo hi l h : Nat} {w w' : World} {u v r : Value} {d : NetD} {m : MsgD} (ho : nmOwn lo hi w u v r d m) (hc : Chg l h w w') (hd : hi ≤ l ∨ h ≤ lo) : nmOwn lo hi w' u v r d m := by
  obtain ⟨p, q, h1, h2, h3, h4⟩ := ho
  exact ⟨p, q, netC.frame h1 (fun b hb => hc.block b (netC.lt h1 b hb) (by have := h4 b (List.mem_append_left _ hb); omega)), msgC.frame h2 (fun b hb => hc.block b (msgC.lt h2 b hb) (by have := h4 b (List.mem_append_right _ hb); omega)), h3, h4⟩
theorem nmOwn.net {lo hi : Nat} {w : World} {u v r : Value} {d : NetD} {m : MsgD} (h : nmOwn lo hi w u v r d m) : netC.V w [u, v] d := let ⟨_, _, h1, _⟩ := h; netC.view h1
theorem nmOwn.msg {lo hi : Nat} {w : World} {u v r : Value} {d : NetD} {m : MsgD} (h : nmOwn lo hi w u v r d m) : msgC.V w [.int .i64 m.1, .int .i64 m.2.1, r] m := let ⟨_, _, _, h2, _⟩ := h; msgC.view h2
theorem nmOwn.set {lo hi : Nat} {w : World} {u v r : Value} {d : NetD} {m : MsgD} (h : nmOwn lo hi w u v r d m) {a : Addr} (ha : a.block < lo ∨ hi ≤ a.block) (x : Value) : nmOwn lo hi (w.setCell a x) u v r d m :=
  h.chg (Chg.setCell w a x (lo := a.block) (hi := a.block + 1) (Nat.le_refl _) (Nat.lt_succ_self _)) (by omega)
theorem nmOwn.pAlloc {lo hi : Nat} {w : World} {u v r : Value} {d : NetD} {m : MsgD} (h : nmOwn lo hi w u v r d m) (o : Obj) : nmOwn lo hi (w.alloc o) u v r d m := h.ext (Ext.alloc _ _)
theorem nmOwn.pDrew {lo hi : Nat} {w : World} {u v r : Value} {d : NetD} {m : MsgD} (h : nmOwn lo hi w u v r d m) : nmOwn lo hi w.drew u v r d m := h.ext (Ext.drew _)
/-- Letters and one letter more, apart from each other, in two stretches. -/
def mm2 (lo hi lo2 hi2 : Nat) (w : World) (v r : Value) (l : List MsgD) (m : MsgD) : Prop := ∃ p q, msgsC.O w [v] l p ∧ msgC.O w [.int .i64 m.1, .int .i64 m.2.1, r] m q ∧ (p ++ q).Nodup ∧ ∀ b ∈ p ++ q, (lo ≤ b ∧ b < hi) ∨ (lo2 ≤ b ∧ b < hi2)
theorem mm2.set {lo hi lo2 hi2 : Nat} {w : World} {v r : Value} {l : List MsgD} {m : MsgD} (h : mm2 lo hi lo2 hi2 w v r l m) {a : Addr} (ha : ¬ (lo ≤ a.block ∧ a.block < hi) ∧ ¬ (lo2 ≤ a.block ∧ a.block < hi2)) (x : Value) : mm2 lo hi lo2 hi2 (w.setCell a x) v r l m := by
  obtain ⟨p, q, h1, h2, h3, h4⟩ := h
  exact ⟨p, q, msgsC.frame h1 (fun b hb => Below.heap_setCell _ _ _ _ (fun e => by have := h4 b (List.mem_append_left _ hb); omega)), msgC.frame h2 (fun b hb => Below.heap_setCell _ _ _ _ (fun e => by have := h4 b (List.mem_append_right _ hb); omega)), h3, h4⟩
theorem mm2.ext {lo hi lo2 hi2 : Nat} {w w' : World} {v r : Value} {l : List MsgD} {m : MsgD} (h : mm2 lo hi lo2 hi2 w v r l m) (he : Ext w w') : mm2 lo hi lo2 hi2 w' v r l m := by
  obtain ⟨p, q, h1, h2, h3, h4⟩ := h
  exact ⟨p, q, msgsC.O_ext h1 he, msgC.O_ext h2 he, h3, h4⟩
theorem mm2.pDrew {lo hi lo2 hi2 : Nat} {w : World} {v r : Value} {l : List MsgD} {m : MsgD} (h : mm2 lo hi lo2 hi2 w v r l m) : mm2 lo hi lo2 hi2 w.drew v r l m := h.ext (Ext.drew _)
theorem mm2.own2 {lo hi lo2 hi2 : Nat} {w : World} {v r : Value} {l : List MsgD} {m : MsgD} (h : mm2 lo hi lo2 hi2 w v r l m) : msgsC.own2 lo hi lo2 hi2 w [v] l := by
  obtain ⟨p, q, h1, h2, h3, h4⟩ := h
  exact ⟨p, h1, (List.nodup_append.1 h3).1, fun b hb => h4 b (List.mem_append_left _ hb)⟩
theorem cell_drew {w : World} {a : Addr} {v : Value} (h : w.cell? a = some v) : w.drew.cell? a = some v := h
theorem cell_undrew {w : World} {a : Addr} {v : Value} (h : w.drew.cell? a = some v) : w.cell? a = some v := h
theorem nm_join {lo hi a1 b1 c1 d1 a2 b2 : Nat} {w : World} {u v r : Value} {m : MsgD} {ml : List MsgD} {l : List LinkD} (h1 : mm2 a1 b1 c1 d1 w u r ml m) (h2 : linksC.own a2 b2 w [v] l)
    (hd : (b1 ≤ a2 ∨ b2 ≤ a1) ∧ (d1 ≤ a2 ∨ b2 ≤ c1)) (hb : (lo ≤ a1 ∧ b1 ≤ hi) ∧ (lo ≤ c1 ∧ d1 ≤ hi) ∧ lo ≤ a2 ∧ b2 ≤ hi) : nmOwn lo hi w u v r (ml, l) m := by
  obtain ⟨p, q, hp, hq, hn, hbb⟩ := h1
  obtain ⟨g, hg, ng, bg⟩ := h2
  obtain ⟨n1, n2, n3⟩ := List.nodup_append.1 hn
  refine ⟨p ++ g, q, net_O.2 ⟨u, v, p, g, rfl, rfl, hp, hg⟩, hq, ?_, fun x hx => ?_⟩
  · rw [List.nodup_append]
    refine ⟨List.nodup_append.2 ⟨n1, ng, fun x hx y hy e => ?_⟩, n2, fun x hx y hy e => ?_⟩
    · have := hbb x (List.mem_append_left _ hx); have := bg y hy; omega
    · subst e
      rcases List.mem_append.1 hx with hx | hx
      · exact n3 x hx x hy rfl
      · have := hbb x (List.mem_append_right _ hy); have := bg x hx; omega
  · rcases List.mem_append.1 hx with hx | hx
    · rcases List.mem_append.1 hx with hx | hx
      · have := hbb x (List.mem_append_left _ hx); omega
      · have := bg x hx; omega
    · have := hbb x (List.mem_append_right _ hx); omega

set_option maxHeartbeats 8000000 in
set_option maxRecDepth 20000 in
theorem implHanded_c (cs : List Value) (d : NetD) (n : Int) (w : World) (h : netC.V w cs d) :
    Calls Try.prog 13 #[.agg cs.toArray, .int .i64 n] w fun e w' => ∃ u v r, e = .returned (.tuple #[.agg #[u, v], .agg #[.int .i64 (handed d n).2.1.1, .int .i64 (handed d n).2.1.2.1, r], .bool (handed d n).2.2]) ∧ Ext w w' ∧ nmOwn w.heap.size w'.heap.size w' u v r (handed d n).1 (handed d n).2.1 := by
  have HD := Lib.hid h
  obtain ⟨u, v, rfl, hu, hv⟩ := net_V.1 h
  obtain ⟨ms, ls⟩ := d
  simp only at hu hv
  obtain ⟨a, cap, rfl, h1, h2, hc⟩ := slice_open (R := msgC) (by decide) hu
  obtain ⟨va, vc, rfl⟩ := sl_form hv
  clear hu hv h
  try simp only at h1 hc
  cases hd : netOk (ms, ls)
  · have hr : handed (ms, ls) n = (([], []), (0, 0, []), false) := by unfold handed; rw [if_neg (by rw [hd]; simp)]
    rw [hr]
    have Hd := Lib.hid hd; clear hd hr hc
    go_enter Try.func13, Try.ntmps13
    go_wp2_with fail
    refine (implNetOk_c _ (ms, ls) _ (netC.vext HD.out (by repeat (first | with_reducible exact Ext.refl _ | with_reducible assumption | with_reducible refine Ext.pAlloc ?_ _ | ((with_reducible refine Ext.pSet ?_ ?_ _); rotate_left; (simp <;> omega)) | with_reducible refine Ext.pDrew ?_ | with_reducible refine Ext.pDrewN ?_ _)))).mono ?_
    rw [Hd.out]
    rintro e w1 ⟨rfl, Ew1⟩
    have Xw1 : Ext w w1 := Ext.trans (by repeat (first | with_reducible exact Ext.refl _ | with_reducible assumption | with_reducible refine Ext.pAlloc ?_ _ | ((with_reducible refine Ext.pSet ?_ ?_ _); rotate_left; (simp <;> omega)) | with_reducible refine Ext.pDrew ?_ | with_reducible refine Ext.pDrewN ?_ _)) Ew1
    have zw1 : w.heap.size + 1 + 1 + 1 ≤ w1.heap.size := by have := Ew1.size; (try simp at this); omega
    have B_d' : Bx w1 w.heap.size [.slice a ms.length cap, .slice va ls.length vc] := Bx.ext (by repeat (first | with_reducible assumption | with_reducible exact Bx.new _ _ _ _ rfl | ((with_reducible refine Bx.new _ _ _ _ ?_); simp; done) | with_reducible refine Bx.pAlloc ?_ _ | with_reducible refine Bx.pDrew ?_ | with_reducible refine Bx.pDrewN ?_ _ | with_reducible apply Bx.set10 | with_reducible apply Bx.set20 | with_reducible apply Bx.set21 | with_reducible apply Bx.set30 | with_reducible apply Bx.set31 | with_reducible apply Bx.set32 | with_reducible apply Bx.set40 | with_reducible apply Bx.set41 | with_reducible apply Bx.set42 | with_reducible apply Bx.set43 | ((with_reducible refine Bx.set_other ?_ ?_ _); rotate_left; (simp <;> omega)))) Ew1
    have B_r' : Bx w1 (w.heap.size + 1) [.slice none 0 0, .slice none 0 0] := Bx.ext (by repeat (first | with_reducible assumption | with_reducible exact Bx.new _ _ _ _ rfl | ((with_reducible refine Bx.new _ _ _ _ ?_); simp; done) | with_reducible refine Bx.pAlloc ?_ _ | with_reducible refine Bx.pDrew ?_ | with_reducible refine Bx.pDrewN ?_ _ | with_reducible apply Bx.set10 | with_reducible apply Bx.set20 | with_reducible apply Bx.set21 | with_reducible apply Bx.set30 | with_reducible apply Bx.set31 | with_reducible apply Bx.set32 | with_reducible apply Bx.set40 | with_reducible apply Bx.set41 | with_reducible apply Bx.set42 | with_reducible apply Bx.set43 | ((with_reducible refine Bx.set_other ?_ ?_ _); rotate_left; (simp <;> omega)))) Ew1
    have B_q' : Bx w1 (w.heap.size + 1 + 1) [.int .i64 0, .int .i64 0, .slice none 0 0] := Bx.ext (by repeat (first | with_reducible assumption | with_reducible exact Bx.new _ _ _ _ rfl | ((with_reducible refine Bx.new _ _ _ _ ?_); simp; done) | with_reducible refine Bx.pAlloc ?_ _ | with_reducible refine Bx.pDrew ?_ | with_reducible refine Bx.pDrewN ?_ _ | with_reducible apply Bx.set10 | with_reducible apply Bx.set20 | with_reducible apply Bx.set21 | with_reducible apply Bx.set30 | with_reducible apply Bx.set31 | with_reducible apply Bx.set32 | with_reducible apply Bx.set40 | with_reducible apply Bx.set41 | with_reducible apply Bx.set42 | with_reducible apply Bx.set43 | ((with_reducible refine Bx.set_other ?_ ?_ _); rotate_left; (simp <;> omega)))) Ew1
    have B_d := B_d'; clear B_d'
    have B_r := B_r'; clear B_r'
    have B_q := B_q'; clear B_q'
    clear Ew1
    have c_d_0 := B_d.cell 0 _ rfl
    have c_d_1 := B_d.cell 1 _ rfl
    have n_d := B_d.lt
    have c_r_0 := B_r.cell 0 _ rfl
    have c_r_1 := B_r.cell 1 _ rfl
    have n_r := B_r.lt
    have f_r := B_r.fr
    have c_q_0 := B_q.cell 0 _ rfl
    have c_q_1 := B_q.cell 1 _ rfl
    have c_q_2 := B_q.cell 2 _ rfl
    have n_q := B_q.lt
    have f_q := B_q.fr
    go_wp2
    refine bodyPost_ret (v := .tuple #[.agg #[.slice none 0 0, .slice none 0 0], .agg #[.int .i64 0, .int .i64 0, .slice none 0 0], .bool false]) (by simp [results, Try.results13, go_sem, c_r_0, c_r_1, n_r, c_q_0, c_q_1, c_q_2, n_q]) rfl ⟨_, _, _, rfl, ?_, ?_⟩
    · repeat (first | with_reducible exact Ext.refl _ | with_reducible assumption | with_reducible refine Ext.pAlloc ?_ _ | ((with_reducible refine Ext.pSet ?_ ?_ _); rotate_left; (simp <;> omega)) | with_reducible refine Ext.pDrew ?_ | with_reducible refine Ext.pDrewN ?_ _)
    · exact nm_zero (net_nil _ _ _)
  · cases ht : thereAt (ms, ls) n
    · have hr : handed (ms, ls) n = ((ms, ls), (0, 0, []), false) := by unfold handed; rw [if_pos hd, if_neg (by rw [ht]; simp)]
      rw [hr]
      have Hd := Lib.hid hd; have Ht := Lib.hid ht; clear hd ht hr hc
      go_enter Try.func13, Try.ntmps13
      go_wp2_with fail
      refine (implNetOk_c _ (ms, ls) _ (netC.vext HD.out (by repeat (first | with_reducible exact Ext.refl _ | with_reducible assumption | with_reducible refine Ext.pAlloc ?_ _ | ((with_reducible refine Ext.pSet ?_ ?_ _); rotate_left; (simp <;> omega)) | with_reducible refine Ext.pDrew ?_ | with_reducible refine Ext.pDrewN ?_ _)))).mono ?_
      rw [Hd.out]
      rintro e w1 ⟨rfl, Ew1⟩
      have Xw1 : Ext w w1 := Ext.trans (by repeat (first | with_reducible exact Ext.refl _ | with_reducible assumption | with_reducible refine Ext.pAlloc ?_ _ | ((with_reducible refine Ext.pSet ?_ ?_ _); rotate_left; (simp <;> omega)) | with_reducible refine Ext.pDrew ?_ | with_reducible refine Ext.pDrewN ?_ _)) Ew1
      have zw1 : w.heap.size + 1 + 1 + 1 ≤ w1.heap.size := by have := Ew1.size; (try simp at this); omega
      have B_d' : Bx w1 w.heap.size [.slice a ms.length cap, .slice va ls.length vc] := Bx.ext (by repeat (first | with_reducible assumption | with_reducible exact Bx.new _ _ _ _ rfl | ((with_reducible refine Bx.new _ _ _ _ ?_); simp; done) | with_reducible refine Bx.pAlloc ?_ _ | with_reducible refine Bx.pDrew ?_ | with_reducible refine Bx.pDrewN ?_ _ | with_reducible apply Bx.set10 | with_reducible apply Bx.set20 | with_reducible apply Bx.set21 | with_reducible apply Bx.set30 | with_reducible apply Bx.set31 | with_reducible apply Bx.set32 | with_reducible apply Bx.set40 | with_reducible apply Bx.set41 | with_reducible apply Bx.set42 | with_reducible apply Bx.set43 | ((with_reducible refine Bx.set_other ?_ ?_ _); rotate_left; (simp <;> omega)))) Ew1
      have B_r' : Bx w1 (w.heap.size + 1) [.slice none 0 0, .slice none 0 0] := Bx.ext (by repeat (first | with_reducible assumption | with_reducible exact Bx.new _ _ _ _ rfl | ((with_reducible refine Bx.new _ _ _ _ ?_); simp; done) | with_reducible refine Bx.pAlloc ?_ _ | with_reducible refine Bx.pDrew ?_ | with_reducible refine Bx.pDrewN ?_ _ | with_reducible apply Bx.set10 | with_reducible apply Bx.set20 | with_reducible apply Bx.set21 | with_reducible apply Bx.set30 | with_reducible apply Bx.set31 | with_reducible apply Bx.set32 | with_reducible apply Bx.set40 | with_reducible apply Bx.set41 | with_reducible apply Bx.set42 | with_reducible apply Bx.set43 | ((with_reducible refine Bx.set_other ?_ ?_ _); rotate_left; (simp <;> omega)))) Ew1
      have B_q' : Bx w1 (w.heap.size + 1 + 1) [.int .i64 0, .int .i64 0, .slice none 0 0] := Bx.ext (by repeat (first | with_reducible assumption | with_reducible exact Bx.new _ _ _ _ rfl | ((with_reducible refine Bx.new _ _ _ _ ?_); simp; done) | with_reducible refine Bx.pAlloc ?_ _ | with_reducible refine Bx.pDrew ?_ | with_reducible refine Bx.pDrewN ?_ _ | with_reducible apply Bx.set10 | with_reducible apply Bx.set20 | with_reducible apply Bx.set21 | with_reducible apply Bx.set30 | with_reducible apply Bx.set31 | with_reducible apply Bx.set32 | with_reducible apply Bx.set40 | with_reducible apply Bx.set41 | with_reducible apply Bx.set42 | with_reducible apply Bx.set43 | ((with_reducible refine Bx.set_other ?_ ?_ _); rotate_left; (simp <;> omega)))) Ew1
      have B_d := B_d'; clear B_d'
      have B_r := B_r'; clear B_r'
      have B_q := B_q'; clear B_q'
      clear Ew1
      have c_d_0 := B_d.cell 0 _ rfl
      have c_d_1 := B_d.cell 1 _ rfl
      have n_d := B_d.lt
      have c_r_0 := B_r.cell 0 _ rfl
      have c_r_1 := B_r.cell 1 _ rfl
      have n_r := B_r.lt
      have f_r := B_r.fr
      have c_q_0 := B_q.cell 0 _ rfl
      have c_q_1 := B_q.cell 1 _ rfl
      have c_q_2 := B_q.cell 2 _ rfl
      have n_q := B_q.lt
      have f_q := B_q.fr
      go_wp2_with fail
      refine (copyNet_c _ (ms, ls) _ (netC.vext HD.out (by repeat (first | with_reducible exact Ext.refl _ | with_reducible assumption | with_reducible refine Ext.pAlloc ?_ _ | ((with_reducible refine Ext.pSet ?_ ?_ _); rotate_left; (simp <;> omega)) | with_reducible refine Ext.pDrew ?_ | with_reducible refine Ext.pDrewN ?_ _))) Hd.out).mono ?_
      rintro e w2 ⟨u1, v1, rfl, Ew2, a1, b1, a2, b2, p1, p2, p3, p4, p5, p6, p7, O_cm, O_cl⟩
      simp only at O_cm O_cl
      obtain ⟨ka, kc, rfl⟩ := sl_form O_cm.view
      obtain ⟨la, lc, rfl⟩ := sl_form O_cl.view
      replace p1 : w1.heap.size ≤ a1 := by have h9 := p1; (try simp at h9); omega
      replace p4 : w1.heap.size ≤ a2 := by have h9 := p4; (try simp at h9); omega
      have Xw2 : Ext w w2 := Ext.trans (by repeat (first | with_reducible exact Ext.refl _ | with_reducible assumption | with_reducible refine Ext.pAlloc ?_ _ | ((with_reducible refine Ext.pSet ?_ ?_ _); rotate_left; (simp <;> omega)) | with_reducible refine Ext.pDrew ?_ | with_reducible refine Ext.pDrewN ?_ _)) Ew2
      have zw2 : w1.heap.size ≤ w2.heap.size := by have := Ew2.size; (try simp at this); omega
      have B_d' : Bx w2 w.heap.size [.slice a ms.length cap, .slice va ls.length vc] := Bx.ext (by repeat (first | with_reducible assumption | with_reducible exact Bx.new _ _ _ _ rfl | ((with_reducible refine Bx.new _ _ _ _ ?_); simp; done) | with_reducible refine Bx.pAlloc ?_ _ | with_reducible refine Bx.pDrew ?_ | with_reducible refine Bx.pDrewN ?_ _ | with_reducible apply Bx.set10 | with_reducible apply Bx.set20 | with_reducible apply Bx.set21 | with_reducible apply Bx.set30 | with_reducible apply Bx.set31 | with_reducible apply Bx.set32 | with_reducible apply Bx.set40 | with_reducible apply Bx.set41 | with_reducible apply Bx.set42 | with_reducible apply Bx.set43 | ((with_reducible refine Bx.set_other ?_ ?_ _); rotate_left; (simp <;> omega)))) Ew2
      have B_r' : Bx w2 (w.heap.size + 1) [.slice none 0 0, .slice none 0 0] := Bx.ext (by repeat (first | with_reducible assumption | with_reducible exact Bx.new _ _ _ _ rfl | ((with_reducible refine Bx.new _ _ _ _ ?_); simp; done) | with_reducible refine Bx.pAlloc ?_ _ | with_reducible refine Bx.pDrew ?_ | with_reducible refine Bx.pDrewN ?_ _ | with_reducible apply Bx.set10 | with_reducible apply Bx.set20 | with_reducible apply Bx.set21 | with_reducible apply Bx.set30 | with_reducible apply Bx.set31 | with_reducible apply Bx.set32 | with_reducible apply Bx.set40 | with_reducible apply Bx.set41 | with_reducible apply Bx.set42 | with_reducible apply Bx.set43 | ((with_reducible refine Bx.set_other ?_ ?_ _); rotate_left; (simp <;> omega)))) Ew2
      have B_q' : Bx w2 (w.heap.size + 1 + 1) [.int .i64 0, .int .i64 0, .slice none 0 0] := Bx.ext (by repeat (first | with_reducible assumption | with_reducible exact Bx.new _ _ _ _ rfl | ((with_reducible refine Bx.new _ _ _ _ ?_); simp; done) | with_reducible refine Bx.pAlloc ?_ _ | with_reducible refine Bx.pDrew ?_ | with_reducible refine Bx.pDrewN ?_ _ | with_reducible apply Bx.set10 | with_reducible apply Bx.set20 | with_reducible apply Bx.set21 | with_reducible apply Bx.set30 | with_reducible apply Bx.set31 | with_reducible apply Bx.set32 | with_reducible apply Bx.set40 | with_reducible apply Bx.set41 | with_reducible apply Bx.set42 | with_reducible apply Bx.set43 | ((with_reducible refine Bx.set_other ?_ ?_ _); rotate_left; (simp <;> omega)))) Ew2
      clear c_d_0 c_d_1 n_d c_r_0 c_r_1 n_r f_r c_q_0 c_q_1 c_q_2 n_q f_q
      clear B_d
      have B_d := B_d'; clear B_d'
      clear B_r
      have B_r := B_r'; clear B_r'
      clear B_q
      have B_q := B_q'; clear B_q'
      clear Ew2 Xw1
      have c_d_0 := B_d.cell 0 _ rfl
      have c_d_1 := B_d.cell 1 _ rfl
      have n_d := B_d.lt
      have c_r_0 := B_r.cell 0 _ rfl
      have c_r_1 := B_r.cell 1 _ rfl
      have n_r := B_r.lt
      have f_r := B_r.fr
      have c_q_0 := B_q.cell 0 _ rfl
      have c_q_1 := B_q.cell 1 _ rfl
      have c_q_2 := B_q.cell 2 _ rfl
      have n_q := B_q.lt
      have f_q := B_q.fr
      go_wp2_with fail
      refine (letterOk_c _ (ms, ls) _ _ (netC.vext HD.out (by repeat (first | with_reducible exact Ext.refl _ | with_reducible assumption | with_reducible refine Ext.pAlloc ?_ _ | ((with_reducible refine Ext.pSet ?_ ?_ _); rotate_left; (simp <;> omega)) | with_reducible refine Ext.pDrew ?_ | with_reducible refine Ext.pDrewN ?_ _)))).mono ?_
      rw [Ht.out]
      rintro e w3 ⟨rfl, Ew3⟩
      have Xw3 : Ext w w3 := Ext.trans (by repeat (first | with_reducible exact Ext.refl _ | with_reducible assumption | with_reducible refine Ext.pAlloc ?_ _ | ((with_reducible refine Ext.pSet ?_ ?_ _); rotate_left; (simp <;> omega)) | with_reducible refine Ext.pDrew ?_ | with_reducible refine Ext.pDrewN ?_ _)) Ew3
      have zw3 : w2.heap.size + 1 ≤ w3.heap.size := by have := Ew3.size; (try simp at this); omega
      have B_d' : Bx w3 w.heap.size [.slice a ms.length cap, .slice va ls.length vc] := Bx.ext (by repeat (first | with_reducible assumption | with_reducible exact Bx.new _ _ _ _ rfl | ((with_reducible refine Bx.new _ _ _ _ ?_); simp; done) | with_reducible refine Bx.pAlloc ?_ _ | with_reducible refine Bx.pDrew ?_ | with_reducible refine Bx.pDrewN ?_ _ | with_reducible apply Bx.set10 | with_reducible apply Bx.set20 | with_reducible apply Bx.set21 | with_reducible apply Bx.set30 | with_reducible apply Bx.set31 | with_reducible apply Bx.set32 | with_reducible apply Bx.set40 | with_reducible apply Bx.set41 | with_reducible apply Bx.set42 | with_reducible apply Bx.set43 | ((with_reducible refine Bx.set_other ?_ ?_ _); rotate_left; (simp <;> omega)))) Ew3
      have B_r' : Bx w3 (w.heap.size + 1) [.slice none 0 0, .slice none 0 0] := Bx.ext (by repeat (first | with_reducible assumption | with_reducible exact Bx.new _ _ _ _ rfl | ((with_reducible refine Bx.new _ _ _ _ ?_); simp; done) | with_reducible refine Bx.pAlloc ?_ _ | with_reducible refine Bx.pDrew ?_ | with_reducible refine Bx.pDrewN ?_ _ | with_reducible apply Bx.set10 | with_reducible apply Bx.set20 | with_reducible apply Bx.set21 | with_reducible apply Bx.set30 | with_reducible apply Bx.set31 | with_reducible apply Bx.set32 | with_reducible apply Bx.set40 | with_reducible apply Bx.set41 | with_reducible apply Bx.set42 | with_reducible apply Bx.set43 | ((with_reducible refine Bx.set_other ?_ ?_ _); rotate_left; (simp <;> omega)))) Ew3
      have B_q' : Bx w3 (w.heap.size + 1 + 1) [.int .i64 0, .int .i64 0, .slice none 0 0] := Bx.ext (by repeat (first | with_reducible assumption | with_reducible exact Bx.new _ _ _ _ rfl | ((with_reducible refine Bx.new _ _ _ _ ?_); simp; done) | with_reducible refine Bx.pAlloc ?_ _ | with_reducible refine Bx.pDrew ?_ | with_reducible refine Bx.pDrewN ?_ _ | with_reducible apply Bx.set10 | with_reducible apply Bx.set20 | with_reducible apply Bx.set21 | with_reducible apply Bx.set30 | with_reducible apply Bx.set31 | with_reducible apply Bx.set32 | with_reducible apply Bx.set40 | with_reducible apply Bx.set41 | with_reducible apply Bx.set42 | with_reducible apply Bx.set43 | ((with_reducible refine Bx.set_other ?_ ?_ _); rotate_left; (simp <;> omega)))) Ew3
      have B_o' : Bx w3 w2.heap.size [.slice ka ms.length kc, .slice la ls.length lc] := Bx.ext (by repeat (first | with_reducible assumption | with_reducible exact Bx.new _ _ _ _ rfl | ((with_reducible refine Bx.new _ _ _ _ ?_); simp; done) | with_reducible refine Bx.pAlloc ?_ _ | with_reducible refine Bx.pDrew ?_ | with_reducible refine Bx.pDrewN ?_ _ | with_reducible apply Bx.set10 | with_reducible apply Bx.set20 | with_reducible apply Bx.set21 | with_reducible apply Bx.set30 | with_reducible apply Bx.set31 | with_reducible apply Bx.set32 | with_reducible apply Bx.set40 | with_reducible apply Bx.set41 | with_reducible apply Bx.set42 | with_reducible apply Bx.set43 | ((with_reducible refine Bx.set_other ?_ ?_ _); rotate_left; (simp <;> omega)))) Ew3
      have O_cm' : (msgsC).own (a1) (b1) w3 [.slice ka ms.length kc] (ms) := Cd.own.ext (by repeat (first | with_reducible assumption | with_reducible refine Cd.own.pAlloc ?_ _ | with_reducible refine Cd.own.pDrew ?_ | with_reducible refine Cd.own.pDrewN ?_ _ | ((with_reducible refine Cd.own.pSet ?_ ?_ _); rotate_left; (simp <;> omega)))) Ew3
      have O_cl' : (linksC).own (a2) (b2) w3 [.slice la ls.length lc] (ls) := Cd.own.ext (by repeat (first | with_reducible assumption | with_reducible refine Cd.own.pAlloc ?_ _ | with_reducible refine Cd.own.pDrew ?_ | with_reducible refine Cd.own.pDrewN ?_ _ | ((with_reducible refine Cd.own.pSet ?_ ?_ _); rotate_left; (simp <;> omega)))) Ew3
      clear c_d_0 c_d_1 n_d c_r_0 c_r_1 n_r f_r c_q_0 c_q_1 c_q_2 n_q f_q
      clear B_d
      have B_d := B_d'; clear B_d'
      clear B_r
      have B_r := B_r'; clear B_r'
      clear B_q
      have B_q := B_q'; clear B_q'
      have B_o := B_o'; clear B_o'
      clear O_cm; have O_cm := O_cm'; clear O_cm'
      clear O_cl; have O_cl := O_cl'; clear O_cl'
      clear Ew3 Xw2
      have c_d_0 := B_d.cell 0 _ rfl
      have c_d_1 := B_d.cell 1 _ rfl
      have n_d := B_d.lt
      have c_r_0 := B_r.cell 0 _ rfl
      have c_r_1 := B_r.cell 1 _ rfl
      have n_r := B_r.lt
      have f_r := B_r.fr
      have c_q_0 := B_q.cell 0 _ rfl
      have c_q_1 := B_q.cell 1 _ rfl
      have c_q_2 := B_q.cell 2 _ rfl
      have n_q := B_q.lt
      have f_q := B_q.fr
      have c_o_0 := B_o.cell 0 _ rfl
      have c_o_1 := B_o.cell 1 _ rfl
      have n_o := B_o.lt
      have f_o := B_o.fr
      go_wp2
      refine bodyPost_ret (v := .tuple #[.agg #[.slice ka ms.length kc, .slice la ls.length lc], .agg #[.int .i64 0, .int .i64 0, .slice none 0 0], .bool false]) (by simp [results, Try.results13, go_sem, c_r_0, c_r_1, n_r, c_q_0, c_q_1, c_q_2, n_q]) rfl ⟨_, _, _, rfl, ?_, ?_⟩
      · repeat (first | with_reducible exact Ext.refl _ | with_reducible assumption | with_reducible refine Ext.pAlloc ?_ _ | ((with_reducible refine Ext.pSet ?_ ?_ _); rotate_left; (simp <;> omega)) | with_reducible refine Ext.pDrew ?_ | with_reducible refine Ext.pDrewN ?_ _)
      · exact nm_zero (net_join (by repeat (first | with_reducible assumption | with_reducible refine Cd.own.pAlloc ?_ _ | with_reducible refine Cd.own.pDrew ?_ | with_reducible refine Cd.own.pDrewN ?_ _ | ((with_reducible refine Cd.own.pSet ?_ ?_ _); rotate_left; (simp <;> omega)))) (by repeat (first | with_reducible assumption | with_reducible refine Cd.own.pAlloc ?_ _ | with_reducible refine Cd.own.pDrew ?_ | with_reducible refine Cd.own.pDrewN ?_ _ | ((with_reducible refine Cd.own.pSet ?_ ?_ _); rotate_left; (simp <;> omega)))) p7 ⟨(by first | omega | (simp <;> omega)), (by first | (simp [World.setCell]; done) | (simp [World.setCell]; omega) | omega), (by first | omega | (simp <;> omega)), (by first | (simp [World.setCell]; done) | (simp [World.setCell]; omega) | omega)⟩)
    · obtain ⟨k, rfl, hk⟩ := there_nat ht
      simp only at hk
      obtain ⟨x, hxk⟩ : ∃ x, ms[k] = x := ⟨_, rfl⟩
      have hmo : msgOk x = true := hxk ▸ netOk_msgs hd _ (List.getElem_mem hk)
      have hg : msgAt (ms, ls) (k : Int) = x := by unfold msgAt; rw [Int.toNat_natCast, List.getD_eq_getElem?_getD, List.getElem?_eq_getElem hk, hxk]; rfl
      have hap : apart x.1 x.2.1 = true := by unfold msgOk at hmo; simp only [Bool.and_eq_true] at hmo; exact hmo.1.1
      have hrl := msgOk_len hmo
      have HXK := Lib.hid hxk; clear hxk
      have hi1 : (0 : Int) ≤ k := by omega
      have hi2 : (k : Int) < ms.length := by omega
      have hlen := (netOk_lens hd).1
      simp only at hlen
      by_cases hcut : linkOf x.1 x.2.1 ∈ ls
      · have hr : handed (ms, ls) (k : Int) = ((ms.eraseIdx k, ls), (0, 0, []), false) := by unfold handed; rw [if_pos hd, if_pos ht, hg]; simp only [Int.toNat_natCast]; rw [if_pos hcut]
        rw [hr]
        have hps : passesIn (ms, ls) x.1 x.2.1 = false := by unfold passesIn; rw [hd, hap]; simp [hcut]
        have Hps := Lib.hid hps
        have Hd := Lib.hid hd; have Ht := Lib.hid ht; clear hd ht hr hc hmo hg hap hcut hps
        go_enter Try.func13, Try.ntmps13
        go_wp2_with fail
        refine (implNetOk_c _ (ms, ls) _ (netC.vext HD.out (by repeat (first | with_reducible exact Ext.refl _ | with_reducible assumption | with_reducible refine Ext.pAlloc ?_ _ | ((with_reducible refine Ext.pSet ?_ ?_ _); rotate_left; (simp <;> omega)) | with_reducible refine Ext.pDrew ?_ | with_reducible refine Ext.pDrewN ?_ _)))).mono ?_
        rw [Hd.out]
        rintro e w1 ⟨rfl, Ew1⟩
        have Xw1 : Ext w w1 := Ext.trans (by repeat (first | with_reducible exact Ext.refl _ | with_reducible assumption | with_reducible refine Ext.pAlloc ?_ _ | ((with_reducible refine Ext.pSet ?_ ?_ _); rotate_left; (simp <;> omega)) | with_reducible refine Ext.pDrew ?_ | with_reducible refine Ext.pDrewN ?_ _)) Ew1
        have zw1 : w.heap.size + 1 + 1 + 1 ≤ w1.heap.size := by have := Ew1.size; (try simp at this); omega
        have B_d' : Bx w1 w.heap.size [.slice a ms.length cap, .slice va ls.length vc] := Bx.ext (by repeat (first | with_reducible assumption | with_reducible exact Bx.new _ _ _ _ rfl | ((with_reducible refine Bx.new _ _ _ _ ?_); simp; done) | with_reducible refine Bx.pAlloc ?_ _ | with_reducible refine Bx.pDrew ?_ | with_reducible refine Bx.pDrewN ?_ _ | with_reducible apply Bx.set10 | with_reducible apply Bx.set20 | with_reducible apply Bx.set21 | with_reducible apply Bx.set30 | with_reducible apply Bx.set31 | with_reducible apply Bx.set32 | with_reducible apply Bx.set40 | with_reducible apply Bx.set41 | with_reducible apply Bx.set42 | with_reducible apply Bx.set43 | ((with_reducible refine Bx.set_other ?_ ?_ _); rotate_left; (simp <;> omega)))) Ew1
        have B_r' : Bx w1 (w.heap.size + 1) [.slice none 0 0, .slice none 0 0] := Bx.ext (by repeat (first | with_reducible assumption | with_reducible exact Bx.new _ _ _ _ rfl | ((with_reducible refine Bx.new _ _ _ _ ?_); simp; done) | with_reducible refine Bx.pAlloc ?_ _ | with_reducible refine Bx.pDrew ?_ | with_reducible refine Bx.pDrewN ?_ _ | with_reducible apply Bx.set10 | with_reducible apply Bx.set20 | with_reducible apply Bx.set21 | with_reducible apply Bx.set30 | with_reducible apply Bx.set31 | with_reducible apply Bx.set32 | with_reducible apply Bx.set40 | with_reducible apply Bx.set41 | with_reducible apply Bx.set42 | with_reducible apply Bx.set43 | ((with_reducible refine Bx.set_other ?_ ?_ _); rotate_left; (simp <;> omega)))) Ew1
        have B_q' : Bx w1 (w.heap.size + 1 + 1) [.int .i64 0, .int .i64 0, .slice none 0 0] := Bx.ext (by repeat (first | with_reducible assumption | with_reducible exact Bx.new _ _ _ _ rfl | ((with_reducible refine Bx.new _ _ _ _ ?_); simp; done) | with_reducible refine Bx.pAlloc ?_ _ | with_reducible refine Bx.pDrew ?_ | with_reducible refine Bx.pDrewN ?_ _ | with_reducible apply Bx.set10 | with_reducible apply Bx.set20 | with_reducible apply Bx.set21 | with_reducible apply Bx.set30 | with_reducible apply Bx.set31 | with_reducible apply Bx.set32 | with_reducible apply Bx.set40 | with_reducible apply Bx.set41 | with_reducible apply Bx.set42 | with_reducible apply Bx.set43 | ((with_reducible refine Bx.set_other ?_ ?_ _); rotate_left; (simp <;> omega)))) Ew1
        have B_d := B_d'; clear B_d'
        have B_r := B_r'; clear B_r'
        have B_q := B_q'; clear B_q'
        clear Ew1
        have c_d_0 := B_d.cell 0 _ rfl
        have c_d_1 := B_d.cell 1 _ rfl
        have n_d := B_d.lt
        have c_r_0 := B_r.cell 0 _ rfl
        have c_r_1 := B_r.cell 1 _ rfl
        have n_r := B_r.lt
        have f_r := B_r.fr
        have c_q_0 := B_q.cell 0 _ rfl
        have c_q_1 := B_q.cell 1 _ rfl
        have c_q_2 := B_q.cell 2 _ rfl
        have n_q := B_q.lt
        have f_q := B_q.fr
        go_wp2_with fail
        refine (copyNet_c _ (ms, ls) _ (netC.vext HD.out (by repeat (first | with_reducible exact Ext.refl _ | with_reducible assumption | with_reducible refine Ext.pAlloc ?_ _ | ((with_reducible refine Ext.pSet ?_ ?_ _); rotate_left; (simp <;> omega)) | with_reducible refine Ext.pDrew ?_ | with_reducible refine Ext.pDrewN ?_ _))) Hd.out).mono ?_
        rintro e w2 ⟨u1, v1, rfl, Ew2, a1, b1, a2, b2, p1, p2, p3, p4, p5, p6, p7, O_cm, O_cl⟩
        simp only at O_cm O_cl
        obtain ⟨ka, kc, rfl⟩ := sl_form O_cm.view
        obtain ⟨la, lc, rfl⟩ := sl_form O_cl.view
        replace p1 : w1.heap.size ≤ a1 := by have h9 := p1; (try simp at h9); omega
        replace p4 : w1.heap.size ≤ a2 := by have h9 := p4; (try simp at h9); omega
        have Xw2 : Ext w w2 := Ext.trans (by repeat (first | with_reducible exact Ext.refl _ | with_reducible assumption | with_reducible refine Ext.pAlloc ?_ _ | ((with_reducible refine Ext.pSet ?_ ?_ _); rotate_left; (simp <;> omega)) | with_reducible refine Ext.pDrew ?_ | with_reducible refine Ext.pDrewN ?_ _)) Ew2
        have zw2 : w1.heap.size ≤ w2.heap.size := by have := Ew2.size; (try simp at this); omega
        have B_d' : Bx w2 w.heap.size [.slice a ms.length cap, .slice va ls.length vc] := Bx.ext (by repeat (first | with_reducible assumption | with_reducible exact Bx.new _ _ _ _ rfl | ((with_reducible refine Bx.new _ _ _ _ ?_); simp; done) | with_reducible refine Bx.pAlloc ?_ _ | with_reducible refine Bx.pDrew ?_ | with_reducible refine Bx.pDrewN ?_ _ | with_reducible apply Bx.set10 | with_reducible apply Bx.set20 | with_reducible apply Bx.set21 | with_reducible apply Bx.set30 | with_reducible apply Bx.set31 | with_reducible apply Bx.set32 | with_reducible apply Bx.set40 | with_reducible apply Bx.set41 | with_reducible apply Bx.set42 | with_reducible apply Bx.set43 | ((with_reducible refine Bx.set_other ?_ ?_ _); rotate_left; (simp <;> omega)))) Ew2
        have B_r' : Bx w2 (w.heap.size + 1) [.slice none 0 0, .slice none 0 0] := Bx.ext (by repeat (first | with_reducible assumption | with_reducible exact Bx.new _ _ _ _ rfl | ((with_reducible refine Bx.new _ _ _ _ ?_); simp; done) | with_reducible refine Bx.pAlloc ?_ _ | with_reducible refine Bx.pDrew ?_ | with_reducible refine Bx.pDrewN ?_ _ | with_reducible apply Bx.set10 | with_reducible apply Bx.set20 | with_reducible apply Bx.set21 | with_reducible apply Bx.set30 | with_reducible apply Bx.set31 | with_reducible apply Bx.set32 | with_reducible apply Bx.set40 | with_reducible apply Bx.set41 | with_reducible apply Bx.set42 | with_reducible apply Bx.set43 | ((with_reducible refine Bx.set_other ?_ ?_ _); rotate_left; (simp <;> omega)))) Ew2
        have B_q' : Bx w2 (w.heap.size + 1 + 1) [.int .i64 0, .int .i64 0, .slice none 0 0] := Bx.ext (by repeat (first | with_reducible assumption | with_reducible exact Bx.new _ _ _ _ rfl | ((with_reducible refine Bx.new _ _ _ _ ?_); simp; done) | with_reducible refine Bx.pAlloc ?_ _ | with_reducible refine Bx.pDrew ?_ | with_reducible refine Bx.pDrewN ?_ _ | with_reducible apply Bx.set10 | with_reducible apply Bx.set20 | with_reducible apply Bx.set21 | with_reducible apply Bx.set30 | with_reducible apply Bx.set31 | with_reducible apply Bx.set32 | with_reducible apply Bx.set40 | with_reducible apply Bx.set41 | with_reducible apply Bx.set42 | with_reducible apply Bx.set43 | ((with_reducible refine Bx.set_other ?_ ?_ _); rotate_left; (simp <;> omega)))) Ew2
        clear c_d_0 c_d_1 n_d c_r_0 c_r_1 n_r f_r c_q_0 c_q_1 c_q_2 n_q f_q
        clear B_d
        have B_d := B_d'; clear B_d'
        clear B_r
        have B_r := B_r'; clear B_r'
        clear B_q
        have B_q := B_q'; clear B_q'
        clear Ew2 Xw1
        have c_d_0 := B_d.cell 0 _ rfl
        have c_d_1 := B_d.cell 1 _ rfl
        have n_d := B_d.lt
        have c_r_0 := B_r.cell 0 _ rfl
        have c_r_1 := B_r.cell 1 _ rfl
        have n_r := B_r.lt
        have f_r := B_r.fr
        have c_q_0 := B_q.cell 0 _ rfl
        have c_q_1 := B_q.cell 1 _ rfl
        have c_q_2 := B_q.cell 2 _ rfl
        have n_q := B_q.lt
        have f_q := B_q.fr
        go_wp2_with fail
        refine (letterOk_c _ (ms, ls) _ _ (netC.vext HD.out (by repeat (first | with_reducible exact Ext.refl _ | with_reducible assumption | with_reducible refine Ext.pAlloc ?_ _ | ((with_reducible refine Ext.pSet ?_ ?_ _); rotate_left; (simp <;> omega)) | with_reducible refine Ext.pDrew ?_ | with_reducible refine Ext.pDrewN ?_ _)))).mono ?_
        rw [Ht.out]
        rintro e w3 ⟨rfl, Ew3⟩
        have Xw3 : Ext w w3 := Ext.trans (by repeat (first | with_reducible exact Ext.refl _ | with_reducible assumption | with_reducible refine Ext.pAlloc ?_ _ | ((with_reducible refine Ext.pSet ?_ ?_ _); rotate_left; (simp <;> omega)) | with_reducible refine Ext.pDrew ?_ | with_reducible refine Ext.pDrewN ?_ _)) Ew3
        have zw3 : w2.heap.size + 1 ≤ w3.heap.size := by have := Ew3.size; (try simp at this); omega
        have B_d' : Bx w3 w.heap.size [.slice a ms.length cap, .slice va ls.length vc] := Bx.ext (by repeat (first | with_reducible assumption | with_reducible exact Bx.new _ _ _ _ rfl | ((with_reducible refine Bx.new _ _ _ _ ?_); simp; done) | with_reducible refine Bx.pAlloc ?_ _ | with_reducible refine Bx.pDrew ?_ | with_reducible refine Bx.pDrewN ?_ _ | with_reducible apply Bx.set10 | with_reducible apply Bx.set20 | with_reducible apply Bx.set21 | with_reducible apply Bx.set30 | with_reducible apply Bx.set31 | with_reducible apply Bx.set32 | with_reducible apply Bx.set40 | with_reducible apply Bx.set41 | with_reducible apply Bx.set42 | with_reducible apply Bx.set43 | ((with_reducible refine Bx.set_other ?_ ?_ _); rotate_left; (simp <;> omega)))) Ew3
        have B_r' : Bx w3 (w.heap.size + 1) [.slice none 0 0, .slice none 0 0] := Bx.ext (by repeat (first | with_reducible assumption | with_reducible exact Bx.new _ _ _ _ rfl | ((with_reducible refine Bx.new _ _ _ _ ?_); simp; done) | with_reducible refine Bx.pAlloc ?_ _ | with_reducible refine Bx.pDrew ?_ | with_reducible refine Bx.pDrewN ?_ _ | with_reducible apply Bx.set10 | with_reducible apply Bx.set20 | with_reducible apply Bx.set21 | with_reducible apply Bx.set30 | with_reducible apply Bx.set31 | with_reducible apply Bx.set32 | with_reducible apply Bx.set40 | with_reducible apply Bx.set41 | with_reducible apply Bx.set42 | with_reducible apply Bx.set43 | ((with_reducible refine Bx.set_other ?_ ?_ _); rotate_left; (simp <;> omega)))) Ew3
        have B_q' : Bx w3 (w.heap.size + 1 + 1) [.int .i64 0, .int .i64 0, .slice none 0 0] := Bx.ext (by repeat (first | with_reducible assumption | with_reducible exact Bx.new _ _ _ _ rfl | ((with_reducible refine Bx.new _ _ _ _ ?_); simp; done) | with_reducible refine Bx.pAlloc ?_ _ | with_reducible refine Bx.pDrew ?_ | with_reducible refine Bx.pDrewN ?_ _ | with_reducible apply Bx.set10 | with_reducible apply Bx.set20 | with_reducible apply Bx.set21 | with_reducible apply Bx.set30 | with_reducible apply Bx.set31 | with_reducible apply Bx.set32 | with_reducible apply Bx.set40 | with_reducible apply Bx.set41 | with_reducible apply Bx.set42 | with_reducible apply Bx.set43 | ((with_reducible refine Bx.set_other ?_ ?_ _); rotate_left; (simp <;> omega)))) Ew3
        have B_o' : Bx w3 w2.heap.size [.slice ka ms.length kc, .slice la ls.length lc] := Bx.ext (by repeat (first | with_reducible assumption | with_reducible exact Bx.new _ _ _ _ rfl | ((with_reducible refine Bx.new _ _ _ _ ?_); simp; done) | with_reducible refine Bx.pAlloc ?_ _ | with_reducible refine Bx.pDrew ?_ | with_reducible refine Bx.pDrewN ?_ _ | with_reducible apply Bx.set10 | with_reducible apply Bx.set20 | with_reducible apply Bx.set21 | with_reducible apply Bx.set30 | with_reducible apply Bx.set31 | with_reducible apply Bx.set32 | with_reducible apply Bx.set40 | with_reducible apply Bx.set41 | with_reducible apply Bx.set42 | with_reducible apply Bx.set43 | ((with_reducible refine Bx.set_other ?_ ?_ _); rotate_left; (simp <;> omega)))) Ew3
        have O_cm' : (msgsC).own (a1) (b1) w3 [.slice ka ms.length kc] (ms) := Cd.own.ext (by repeat (first | with_reducible assumption | with_reducible refine Cd.own.pAlloc ?_ _ | with_reducible refine Cd.own.pDrew ?_ | with_reducible refine Cd.own.pDrewN ?_ _ | ((with_reducible refine Cd.own.pSet ?_ ?_ _); rotate_left; (simp <;> omega)))) Ew3
        have O_cl' : (linksC).own (a2) (b2) w3 [.slice la ls.length lc] (ls) := Cd.own.ext (by repeat (first | with_reducible assumption | with_reducible refine Cd.own.pAlloc ?_ _ | with_reducible refine Cd.own.pDrew ?_ | with_reducible refine Cd.own.pDrewN ?_ _ | ((with_reducible refine Cd.own.pSet ?_ ?_ _); rotate_left; (simp <;> omega)))) Ew3
        clear c_d_0 c_d_1 n_d c_r_0 c_r_1 n_r f_r c_q_0 c_q_1 c_q_2 n_q f_q
        clear B_d
        have B_d := B_d'; clear B_d'
        clear B_r
        have B_r := B_r'; clear B_r'
        clear B_q
        have B_q := B_q'; clear B_q'
        have B_o := B_o'; clear B_o'
        clear O_cm; have O_cm := O_cm'; clear O_cm'
        clear O_cl; have O_cl := O_cl'; clear O_cl'
        clear Ew3 Xw2
        have c_d_0 := B_d.cell 0 _ rfl
        have c_d_1 := B_d.cell 1 _ rfl
        have n_d := B_d.lt
        have c_r_0 := B_r.cell 0 _ rfl
        have c_r_1 := B_r.cell 1 _ rfl
        have n_r := B_r.lt
        have f_r := B_r.fr
        have c_q_0 := B_q.cell 0 _ rfl
        have c_q_1 := B_q.cell 1 _ rfl
        have c_q_2 := B_q.cell 2 _ rfl
        have n_q := B_q.lt
        have f_q := B_q.fr
        have c_o_0 := B_o.cell 0 _ rfl
        have c_o_1 := B_o.cell 1 _ rfl
        have n_o := B_o.lt
        have f_o := B_o.fr
        obtain ⟨fp, hfO, hfn, hfb⟩ := O_cm
        obtain ⟨qb, qo, qk, x1, cx, x2, f1, fx, f2, qe, q1, q2, hS, he1, hex, he2, hfp, hx1, hcx, hx2⟩ := sl_parts (R := msgC) (by decide) hfO hk hfn
        cases qe
        subst hfp
        rw [HXK.out] at hex
        obtain ⟨y, rfl, hexr⟩ := msg_O.1 hex
        obtain ⟨xa, xc, rfl⟩ := u_slice (rowC.view hexr)
        have hcell : ∀ j u, [Value.int .i64 x.1, .int .i64 x.2.1, .slice xa x.2.2.length xc][j]? = some u → w3.cell? ⟨qb, qo + k * 3 + j, none⟩ = some u := fun j u hj => by
          have hlj : j < 3 := by have := (List.getElem?_eq_some_iff.1 hj).1; simpa using this
          obtain ⟨b7, o7, e7, h7⟩ := hS.cells (k * 3 + j) u (by rw [List.getElem?_append_right (by rw [hx1]; show k * 3 ≤ _; omega), hx1, show k * 3 + j - k * msgC.n = j by (show k * 3 + j - k * 3 = j); omega, List.getElem?_append_left (by simpa using hlj)]; exact hj)
          cases e7
          rw [Nat.add_assoc]; exact h7
        have hcw0 : w3.cell? ⟨qb, qo + k * 3, none⟩ = some (.int .i64 x.1) := hcell 0 _ rfl
        have hcw1 : w3.cell? ⟨qb, qo + k * 3 + 1, none⟩ = some (.int .i64 x.2.1) := hcell 1 _ rfl
        have hcw2 : w3.cell? ⟨qb, qo + k * 3 + 2, none⟩ = some (.slice xa x.2.2.length xc) := hcell 2 _ rfl
        simp only [List.nodup_cons, List.mem_append, List.nodup_append, not_or] at hfn
        have hqb := hfb qb (by simp)
        have hmn : k + 1 + (ms.length - (k + 1)) = ms.length := by omega
        have nqb := World.block_lt_of_cell? _ _ hcw0
        have HS := Lib.hid hS
        have HX := Lib.hid (And.intro hx1 (And.intro hcx hx2))
        have HE := Lib.hid (And.intro he1 (And.intro hex he2))
        have HF := Lib.hid (And.intro hfn hfb)
        clear hS hx1 hcx hx2 he1 hex hexr he2 hfn hfb hfO hcell
        go_wp2_with fail
        have hcw := without_c qb qo kc k (ms.length - (k + 1)) x1 _ x2 (w3.alloc (.cells #[.int .i64 x.1, .int .i64 x.2.1, .slice xa x.2.2.length xc] 40)) (SlAt.ext HS.out (Ext.alloc _ _)) HX.out.1 HX.out.2.1 HX.out.2.2 (elemsO_one HE.out.2.2) (by omega) q2 (by omega)
        rw [hmn] at hcw
        refine hcw.mono ?_
        clear hcw
        rintro e w4 ⟨qa, qc, rfl, hS2, g1, g2, hA⟩
        have hC := hA.chg (lo := a1) (hi := b1) (by simp [ablk]; omega)
        have hEr := Lib.hid (List.eraseIdx_eq_take_drop_succ ms k)
        have hlq : k + (ms.length - (k + 1)) = (ms.take k ++ ms.drop (k + 1)).length := by rw [List.length_append, List.length_take, List.length_drop]; omega
        have O_cm2 : mm2 a1 b1 (w3.heap.size + 1) w4.heap.size w4 (.slice qa (k + (ms.length - (k + 1))) qc) (.slice xa x.2.2.length xc) (ms.take k ++ ms.drop (k + 1)) x := by
          obtain ⟨⟨hn1, hn2⟩, hnb⟩ := HF.out
          have hlt : ∀ b ∈ f1 ++ (fx ++ f2), b < w3.heap.size := fun b hb => by
            have := hnb b (List.mem_cons_of_mem _ hb)
            omega
          have hni : ∀ b ∈ f1 ++ (fx ++ f2), b ≠ qb := fun b hb e => by
            subst e
            simp only [List.mem_append] at hb
            rcases hb with hb | hb | hb
            · exact hn1.1 hb
            · exact hn1.2.1 hb
            · exact hn1.2.2 hb
          have hblk : ∀ b ∈ f1 ++ (fx ++ f2), w4.heap[b]? = w3.heap[b]? := fun b hb => (hA.block b (by have := hlt b hb; simp; omega) (by simp [ablk]; exact hni b hb)).trans ((Ext.alloc _ _).block b (hlt b hb))
          have hsub : ∀ b ∈ f1 ++ f2, b ∈ f1 ++ (fx ++ f2) := fun b hb => by simp only [List.mem_append] at hb ⊢; rcases hb with hb | hb <;> simp [hb]
          have hsx : ∀ b ∈ fx, b ∈ f1 ++ (fx ++ f2) := fun b hb => by simp [hb]
          have ha' : ∀ b ∈ ablk qa, ((a1 ≤ b ∧ b < b1) ∨ (w3.heap.size + 1 ≤ b ∧ b < w4.heap.size)) ∧ b ∉ f1 ++ (fx ++ f2) := fun b hb => by
            rcases hA.mem hb with h' | ⟨h', h2⟩
            · simp [ablk] at h'
              subst h'
              exact ⟨.inl hqb, fun hm => hni _ hm rfl⟩
            · simp at h'
              exact ⟨.inr (by omega), fun hm => by have := hlt b hm; omega⟩
          refine ⟨ablk qa ++ (f1 ++ f2), fx, ⟨qa, qc, x1 ++ x2, f1 ++ f2, by rw [hlq], by rw [← hlq]; exact g1, by simpa [maxLen] using g2, hS2, elemsO_frame msgC (elemsO_join HE.out.1 HE.out.2.2) (fun b hb => hblk b (hsub b hb)), rfl⟩, msgC.frame HE.out.2.1 (fun b hb => hblk b (hsx b hb)), ?_, fun b hb => ?_⟩
          · rw [List.nodup_append]
            refine ⟨List.nodup_append.2 ⟨by cases qa <;> simp [ablk], List.nodup_append.2 ⟨hn2.1, hn2.2.1.2.1, fun x hx y hy e => hn2.2.2 x hx y (Or.inr hy) e⟩, fun b hb c hc e => (ha' b hb).2 (hsub b (e ▸ hc))⟩, hn2.2.1.1, fun b hb c hc e => ?_⟩
            subst e
            rcases List.mem_append.1 hb with hb | hb
            · exact (ha' b hb).2 (hsx b hc)
            · rcases List.mem_append.1 hb with hb | hb
              · exact hn2.2.2 b hb b (Or.inl hc) rfl
              · exact hn2.2.1.2.2 b hc b hb rfl
          · rcases List.mem_append.1 hb with hb | hb
            · rcases List.mem_append.1 hb with hb | hb
              · exact (ha' b hb).1
              · exact .inl (hnb b (List.mem_cons_of_mem _ (hsub b hb)))
            · exact .inl (hnb b (List.mem_cons_of_mem _ (hsx b hb)))
        have HO2 := Lib.hid O_cm2; clear O_cm2 hS2 hA HE HF HS HX hlq hcw0 hcw1 hcw2
        have Xw4 : Ext w w4 := Chg.ext (by repeat (first | with_reducible exact Ext.refl _ | with_reducible assumption | with_reducible refine Ext.pAlloc ?_ _ | ((with_reducible refine Ext.pSet ?_ ?_ _); rotate_left; (simp <;> omega)) | with_reducible refine Ext.pDrew ?_ | with_reducible refine Ext.pDrewN ?_ _)) hC (by omega)
        have zw4 : w3.heap.size + 1 ≤ w4.heap.size := by have := hC.size; (try simp at this); omega
        have B_d' : Bx w4 w.heap.size [.slice a ms.length cap, .slice va ls.length vc] := Bx.chg (by repeat (first | with_reducible assumption | with_reducible exact Bx.new _ _ _ _ rfl | ((with_reducible refine Bx.new _ _ _ _ ?_); simp; done) | with_reducible refine Bx.pAlloc ?_ _ | with_reducible refine Bx.pDrew ?_ | with_reducible refine Bx.pDrewN ?_ _ | with_reducible apply Bx.set10 | with_reducible apply Bx.set20 | with_reducible apply Bx.set21 | with_reducible apply Bx.set30 | with_reducible apply Bx.set31 | with_reducible apply Bx.set32 | with_reducible apply Bx.set40 | with_reducible apply Bx.set41 | with_reducible apply Bx.set42 | with_reducible apply Bx.set43 | ((with_reducible refine Bx.set_other ?_ ?_ _); rotate_left; (simp <;> omega)))) hC (by omega)
        have B_r' : Bx w4 (w.heap.size + 1) [.slice none 0 0, .slice none 0 0] := Bx.chg (by repeat (first | with_reducible assumption | with_reducible exact Bx.new _ _ _ _ rfl | ((with_reducible refine Bx.new _ _ _ _ ?_); simp; done) | with_reducible refine Bx.pAlloc ?_ _ | with_reducible refine Bx.pDrew ?_ | with_reducible refine Bx.pDrewN ?_ _ | with_reducible apply Bx.set10 | with_reducible apply Bx.set20 | with_reducible apply Bx.set21 | with_reducible apply Bx.set30 | with_reducible apply Bx.set31 | with_reducible apply Bx.set32 | with_reducible apply Bx.set40 | with_reducible apply Bx.set41 | with_reducible apply Bx.set42 | with_reducible apply Bx.set43 | ((with_reducible refine Bx.set_other ?_ ?_ _); rotate_left; (simp <;> omega)))) hC (by omega)
        have B_q' : Bx w4 (w.heap.size + 1 + 1) [.int .i64 0, .int .i64 0, .slice none 0 0] := Bx.chg (by repeat (first | with_reducible assumption | with_reducible exact Bx.new _ _ _ _ rfl | ((with_reducible refine Bx.new _ _ _ _ ?_); simp; done) | with_reducible refine Bx.pAlloc ?_ _ | with_reducible refine Bx.pDrew ?_ | with_reducible refine Bx.pDrewN ?_ _ | with_reducible apply Bx.set10 | with_reducible apply Bx.set20 | with_reducible apply Bx.set21 | with_reducible apply Bx.set30 | with_reducible apply Bx.set31 | with_reducible apply Bx.set32 | with_reducible apply Bx.set40 | with_reducible apply Bx.set41 | with_reducible apply Bx.set42 | with_reducible apply Bx.set43 | ((with_reducible refine Bx.set_other ?_ ?_ _); rotate_left; (simp <;> omega)))) hC (by omega)
        have B_o' : Bx w4 w2.heap.size [.slice (some ⟨qb, qo, none⟩) ms.length kc, .slice la ls.length lc] := Bx.chg (by repeat (first | with_reducible assumption | with_reducible exact Bx.new _ _ _ _ rfl | ((with_reducible refine Bx.new _ _ _ _ ?_); simp; done) | with_reducible refine Bx.pAlloc ?_ _ | with_reducible refine Bx.pDrew ?_ | with_reducible refine Bx.pDrewN ?_ _ | with_reducible apply Bx.set10 | with_reducible apply Bx.set20 | with_reducible apply Bx.set21 | with_reducible apply Bx.set30 | with_reducible apply Bx.set31 | with_reducible apply Bx.set32 | with_reducible apply Bx.set40 | with_reducible apply Bx.set41 | with_reducible apply Bx.set42 | with_reducible apply Bx.set43 | ((with_reducible refine Bx.set_other ?_ ?_ _); rotate_left; (simp <;> omega)))) hC (by omega)
        have B_m' : Bx w4 w3.heap.size [.int .i64 x.1, .int .i64 x.2.1, .slice xa x.2.2.length xc] := Bx.chg (by repeat (first | with_reducible assumption | with_reducible exact Bx.new _ _ _ _ rfl | ((with_reducible refine Bx.new _ _ _ _ ?_); simp; done) | with_reducible refine Bx.pAlloc ?_ _ | with_reducible refine Bx.pDrew ?_ | with_reducible refine Bx.pDrewN ?_ _ | with_reducible apply Bx.set10 | with_reducible apply Bx.set20 | with_reducible apply Bx.set21 | with_reducible apply Bx.set30 | with_reducible apply Bx.set31 | with_reducible apply Bx.set32 | with_reducible apply Bx.set40 | with_reducible apply Bx.set41 | with_reducible apply Bx.set42 | with_reducible apply Bx.set43 | ((with_reducible refine Bx.set_other ?_ ?_ _); rotate_left; (simp <;> omega)))) hC (by omega)
        have O_cl' : (linksC).own (a2) (b2) w4 [.slice la ls.length lc] (ls) := Cd.own.chg (by repeat (first | with_reducible assumption | with_reducible refine Cd.own.pAlloc ?_ _ | with_reducible refine Cd.own.pDrew ?_ | with_reducible refine Cd.own.pDrewN ?_ _ | ((with_reducible refine Cd.own.pSet ?_ ?_ _); rotate_left; (simp <;> omega)))) hC (by omega)
        clear c_d_0 c_d_1 n_d c_r_0 c_r_1 n_r f_r c_q_0 c_q_1 c_q_2 n_q f_q c_o_0 c_o_1 n_o f_o
        clear B_d
        have B_d := B_d'; clear B_d'
        clear B_r
        have B_r := B_r'; clear B_r'
        clear B_q
        have B_q := B_q'; clear B_q'
        clear B_o
        have B_o := B_o'; clear B_o'
        have B_m := B_m'; clear B_m'
        clear O_cl; have O_cl := O_cl'; clear O_cl'
        clear hC Xw3
        have c_d_0 := B_d.cell 0 _ rfl
        have c_d_1 := B_d.cell 1 _ rfl
        have n_d := B_d.lt
        have c_r_0 := B_r.cell 0 _ rfl
        have c_r_1 := B_r.cell 1 _ rfl
        have n_r := B_r.lt
        have f_r := B_r.fr
        have c_q_0 := B_q.cell 0 _ rfl
        have c_q_1 := B_q.cell 1 _ rfl
        have c_q_2 := B_q.cell 2 _ rfl
        have n_q := B_q.lt
        have f_q := B_q.fr
        have c_o_0 := B_o.cell 0 _ rfl
        have c_o_1 := B_o.cell 1 _ rfl
        have n_o := B_o.lt
        have f_o := B_o.fr
        have c_m_0 := B_m.cell 0 _ rfl
        have c_m_1 := B_m.cell 1 _ rfl
        have c_m_2 := B_m.cell 2 _ rfl
        have n_m := B_m.lt
        have zc2 := HO2.out
        clear zc2
        go_wp2_with fail
        refine (implPassesIn_c _ (ms, ls) x.1 x.2.1 _ (netC.vext HD.out (by repeat (first | with_reducible exact Ext.refl _ | with_reducible assumption | with_reducible refine Ext.pAlloc ?_ _ | ((with_reducible refine Ext.pSet ?_ ?_ _); rotate_left; (simp <;> omega)) | with_reducible refine Ext.pDrew ?_ | with_reducible refine Ext.pDrewN ?_ _)))).mono ?_
        rw [Hps.out]
        rintro e w5 ⟨rfl, Ew5⟩
        have O_cm3 : mm2 a1 b1 (w3.heap.size + 1) w4.heap.size w5 (.slice qa (k + (ms.length - (k + 1))) qc) (.slice xa x.2.2.length xc) (ms.take k ++ ms.drop (k + 1)) x := mm2.ext (by have h9 := HO2.out; repeat (first | with_reducible assumption | ((with_reducible refine mm2.set ?_ ?_ _); rotate_left; (simp <;> omega)))) Ew5
        have HO3 := Lib.hid O_cm3; clear O_cm3 HO2
        have Xw5 : Ext w w5 := Ext.trans (by repeat (first | with_reducible exact Ext.refl _ | with_reducible assumption | with_reducible refine Ext.pAlloc ?_ _ | ((with_reducible refine Ext.pSet ?_ ?_ _); rotate_left; (simp <;> omega)) | with_reducible refine Ext.pDrew ?_ | with_reducible refine Ext.pDrewN ?_ _)) Ew5
        have zw5 : w4.heap.size ≤ w5.heap.size := by have := Ew5.size; (try simp at this); omega
        have B_d' : Bx w5 w.heap.size [.slice a ms.length cap, .slice va ls.length vc] := Bx.ext (by repeat (first | with_reducible assumption | with_reducible exact Bx.new _ _ _ _ rfl | ((with_reducible refine Bx.new _ _ _ _ ?_); simp; done) | with_reducible refine Bx.pAlloc ?_ _ | with_reducible refine Bx.pDrew ?_ | with_reducible refine Bx.pDrewN ?_ _ | with_reducible apply Bx.set10 | with_reducible apply Bx.set20 | with_reducible apply Bx.set21 | with_reducible apply Bx.set30 | with_reducible apply Bx.set31 | with_reducible apply Bx.set32 | with_reducible apply Bx.set40 | with_reducible apply Bx.set41 | with_reducible apply Bx.set42 | with_reducible apply Bx.set43 | ((with_reducible refine Bx.set_other ?_ ?_ _); rotate_left; (simp <;> omega)))) Ew5
        have B_r' : Bx w5 (w.heap.size + 1) [.slice none 0 0, .slice none 0 0] := Bx.ext (by repeat (first | with_reducible assumption | with_reducible exact Bx.new _ _ _ _ rfl | ((with_reducible refine Bx.new _ _ _ _ ?_); simp; done) | with_reducible refine Bx.pAlloc ?_ _ | with_reducible refine Bx.pDrew ?_ | with_reducible refine Bx.pDrewN ?_ _ | with_reducible apply Bx.set10 | with_reducible apply Bx.set20 | with_reducible apply Bx.set21 | with_reducible apply Bx.set30 | with_reducible apply Bx.set31 | with_reducible apply Bx.set32 | with_reducible apply Bx.set40 | with_reducible apply Bx.set41 | with_reducible apply Bx.set42 | with_reducible apply Bx.set43 | ((with_reducible refine Bx.set_other ?_ ?_ _); rotate_left; (simp <;> omega)))) Ew5
        have B_q' : Bx w5 (w.heap.size + 1 + 1) [.int .i64 0, .int .i64 0, .slice none 0 0] := Bx.ext (by repeat (first | with_reducible assumption | with_reducible exact Bx.new _ _ _ _ rfl | ((with_reducible refine Bx.new _ _ _ _ ?_); simp; done) | with_reducible refine Bx.pAlloc ?_ _ | with_reducible refine Bx.pDrew ?_ | with_reducible refine Bx.pDrewN ?_ _ | with_reducible apply Bx.set10 | with_reducible apply Bx.set20 | with_reducible apply Bx.set21 | with_reducible apply Bx.set30 | with_reducible apply Bx.set31 | with_reducible apply Bx.set32 | with_reducible apply Bx.set40 | with_reducible apply Bx.set41 | with_reducible apply Bx.set42 | with_reducible apply Bx.set43 | ((with_reducible refine Bx.set_other ?_ ?_ _); rotate_left; (simp <;> omega)))) Ew5
        have B_o' : Bx w5 w2.heap.size [.slice qa (k + (ms.length - (k + 1))) qc, .slice la ls.length lc] := Bx.ext (by repeat (first | with_reducible assumption | with_reducible exact Bx.new _ _ _ _ rfl | ((with_reducible refine Bx.new _ _ _ _ ?_); simp; done) | with_reducible refine Bx.pAlloc ?_ _ | with_reducible refine Bx.pDrew ?_ | with_reducible refine Bx.pDrewN ?_ _ | with_reducible apply Bx.set10 | with_reducible apply Bx.set20 | with_reducible apply Bx.set21 | with_reducible apply Bx.set30 | with_reducible apply Bx.set31 | with_reducible apply Bx.set32 | with_reducible apply Bx.set40 | with_reducible apply Bx.set41 | with_reducible apply Bx.set42 | with_reducible apply Bx.set43 | ((with_reducible refine Bx.set_other ?_ ?_ _); rotate_left; (simp <;> omega)))) Ew5
        have B_m' : Bx w5 w3.heap.size [.int .i64 x.1, .int .i64 x.2.1, .slice xa x.2.2.length xc] := Bx.ext (by repeat (first | with_reducible assumption | with_reducible exact Bx.new _ _ _ _ rfl | ((with_reducible refine Bx.new _ _ _ _ ?_); simp; done) | with_reducible refine Bx.pAlloc ?_ _ | with_reducible refine Bx.pDrew ?_ | with_reducible refine Bx.pDrewN ?_ _ | with_reducible apply Bx.set10 | with_reducible apply Bx.set20 | with_reducible apply Bx.set21 | with_reducible apply Bx.set30 | with_reducible apply Bx.set31 | with_reducible apply Bx.set32 | with_reducible apply Bx.set40 | with_reducible apply Bx.set41 | with_reducible apply Bx.set42 | with_reducible apply Bx.set43 | ((with_reducible refine Bx.set_other ?_ ?_ _); rotate_left; (simp <;> omega)))) Ew5
        have O_cl' : (linksC).own (a2) (b2) w5 [.slice la ls.length lc] (ls) := Cd.own.ext (by repeat (first | with_reducible assumption | with_reducible refine Cd.own.pAlloc ?_ _ | with_reducible refine Cd.own.pDrew ?_ | with_reducible refine Cd.own.pDrewN ?_ _ | ((with_reducible refine Cd.own.pSet ?_ ?_ _); rotate_left; (simp <;> omega)))) Ew5
        clear c_d_0 c_d_1 n_d c_r_0 c_r_1 n_r f_r c_q_0 c_q_1 c_q_2 n_q f_q c_o_0 c_o_1 n_o f_o c_m_0 c_m_1 c_m_2 n_m
        clear B_d
        have B_d := B_d'; clear B_d'
        clear B_r
        have B_r := B_r'; clear B_r'
        clear B_q
        have B_q := B_q'; clear B_q'
        clear B_o
        have B_o := B_o'; clear B_o'
        clear B_m
        have B_m := B_m'; clear B_m'
        clear O_cl; have O_cl := O_cl'; clear O_cl'
        clear Ew5 Xw4
        have c_d_0 := B_d.cell 0 _ rfl
        have c_d_1 := B_d.cell 1 _ rfl
        have n_d := B_d.lt
        have c_r_0 := B_r.cell 0 _ rfl
        have c_r_1 := B_r.cell 1 _ rfl
        have n_r := B_r.lt
        have f_r := B_r.fr
        have c_q_0 := B_q.cell 0 _ rfl
        have c_q_1 := B_q.cell 1 _ rfl
        have c_q_2 := B_q.cell 2 _ rfl
        have n_q := B_q.lt
        have f_q := B_q.fr
        have c_o_0 := B_o.cell 0 _ rfl
        have c_o_1 := B_o.cell 1 _ rfl
        have n_o := B_o.lt
        have f_o := B_o.fr
        have c_m_0 := B_m.cell 0 _ rfl
        have c_m_1 := B_m.cell 1 _ rfl
        have c_m_2 := B_m.cell 2 _ rfl
        have n_m := B_m.lt
        have O_cm2 := HO3.out.own2; clear HO3
        go_wp2
        refine bodyPost_ret (v := .tuple #[.agg #[(.slice qa (k + (ms.length - (k + 1))) qc), .slice la ls.length lc], .agg #[.int .i64 0, .int .i64 0, .slice none 0 0], .bool false]) (by simp [results, Try.results13, go_sem, c_r_0, c_r_1, n_r, c_q_0, c_q_1, c_q_2, n_q]) rfl ⟨_, _, _, rfl, ?_, ?_⟩
        · repeat (first | with_reducible exact Ext.refl _ | with_reducible assumption | with_reducible refine Ext.pAlloc ?_ _ | ((with_reducible refine Ext.pSet ?_ ?_ _); rotate_left; (simp <;> omega)) | with_reducible refine Ext.pDrew ?_ | with_reducible refine Ext.pDrewN ?_ _)
        · rw [hEr.out]; exact nm_zero (net_own2 (a1 := a1) (b1 := b1) (c1 := w3.heap.size + 1) (d1 := w4.heap.size) (by repeat (first | with_reducible assumption | ((with_reducible refine Cd.own2.set ?_ ?_ _); rotate_left; (simp <;> omega)))) (by repeat (first | with_reducible assumption | with_reducible refine Cd.own.pAlloc ?_ _ | with_reducible refine Cd.own.pDrew ?_ | with_reducible refine Cd.own.pDrewN ?_ _ | ((with_reducible refine Cd.own.pSet ?_ ?_ _); rotate_left; (simp <;> omega)))) ⟨p7, by omega⟩ ⟨⟨(by first | omega | (simp <;> omega)), (by first | (simp [World.setCell]; done) | (simp [World.setCell]; omega) | omega)⟩, ⟨(by first | omega | (simp <;> omega)), (by first | (simp [World.setCell]; done) | (simp [World.setCell]; omega) | omega)⟩, (by first | omega | (simp <;> omega)), (by first | (simp [World.setCell]; done) | (simp [World.setCell]; omega) | omega)⟩)
      · have hr : handed (ms, ls) (k : Int) = ((ms.eraseIdx k, ls), x, true) := by unfold handed; rw [if_pos hd, if_pos ht, hg]; simp only [Int.toNat_natCast]; rw [if_neg hcut]
        rw [hr]
        have hps : passesIn (ms, ls) x.1 x.2.1 = true := by unfold passesIn; rw [hd, hap]; simp [hcut]
        have Hps := Lib.hid hps
        have Hd := Lib.hid hd; have Ht := Lib.hid ht; clear hd ht hr hc hmo hg hap hcut hps
        go_enter Try.func13, Try.ntmps13
        go_wp2_with fail
        refine (implNetOk_c _ (ms, ls) _ (netC.vext HD.out (by repeat (first | with_reducible exact Ext.refl _ | with_reducible assumption | with_reducible refine Ext.pAlloc ?_ _ | ((with_reducible refine Ext.pSet ?_ ?_ _); rotate_left; (simp <;> omega)) | with_reducible refine Ext.pDrew ?_ | with_reducible refine Ext.pDrewN ?_ _)))).mono ?_
        rw [Hd.out]
        rintro e w1 ⟨rfl, Ew1⟩
        have Xw1 : Ext w w1 := Ext.trans (by repeat (first | with_reducible exact Ext.refl _ | with_reducible assumption | with_reducible refine Ext.pAlloc ?_ _ | ((with_reducible refine Ext.pSet ?_ ?_ _); rotate_left; (simp <;> omega)) | with_reducible refine Ext.pDrew ?_ | with_reducible refine Ext.pDrewN ?_ _)) Ew1
        have zw1 : w.heap.size + 1 + 1 + 1 ≤ w1.heap.size := by have := Ew1.size; (try simp at this); omega
        have B_d' : Bx w1 w.heap.size [.slice a ms.length cap, .slice va ls.length vc] := Bx.ext (by repeat (first | with_reducible assumption | with_reducible exact Bx.new _ _ _ _ rfl | ((with_reducible refine Bx.new _ _ _ _ ?_); simp; done) | with_reducible refine Bx.pAlloc ?_ _ | with_reducible refine Bx.pDrew ?_ | with_reducible refine Bx.pDrewN ?_ _ | with_reducible apply Bx.set10 | with_reducible apply Bx.set20 | with_reducible apply Bx.set21 | with_reducible apply Bx.set30 | with_reducible apply Bx.set31 | with_reducible apply Bx.set32 | with_reducible apply Bx.set40 | with_reducible apply Bx.set41 | with_reducible apply Bx.set42 | with_reducible apply Bx.set43 | ((with_reducible refine Bx.set_other ?_ ?_ _); rotate_left; (simp <;> omega)))) Ew1
        have B_r' : Bx w1 (w.heap.size + 1) [.slice none 0 0, .slice none 0 0] := Bx.ext (by repeat (first | with_reducible assumption | with_reducible exact Bx.new _ _ _ _ rfl | ((with_reducible refine Bx.new _ _ _ _ ?_); simp; done) | with_reducible refine Bx.pAlloc ?_ _ | with_reducible refine Bx.pDrew ?_ | with_reducible refine Bx.pDrewN ?_ _ | with_reducible apply Bx.set10 | with_reducible apply Bx.set20 | with_reducible apply Bx.set21 | with_reducible apply Bx.set30 | with_reducible apply Bx.set31 | with_reducible apply Bx.set32 | with_reducible apply Bx.set40 | with_reducible apply Bx.set41 | with_reducible apply Bx.set42 | with_reducible apply Bx.set43 | ((with_reducible refine Bx.set_other ?_ ?_ _); rotate_left; (simp <;> omega)))) Ew1
        have B_q' : Bx w1 (w.heap.size + 1 + 1) [.int .i64 0, .int .i64 0, .slice none 0 0] := Bx.ext (by repeat (first | with_reducible assumption | with_reducible exact Bx.new _ _ _ _ rfl | ((with_reducible refine Bx.new _ _ _ _ ?_); simp; done) | with_reducible refine Bx.pAlloc ?_ _ | with_reducible refine Bx.pDrew ?_ | with_reducible refine Bx.pDrewN ?_ _ | with_reducible apply Bx.set10 | with_reducible apply Bx.set20 | with_reducible apply Bx.set21 | with_reducible apply Bx.set30 | with_reducible apply Bx.set31 | with_reducible apply Bx.set32 | with_reducible apply Bx.set40 | with_reducible apply Bx.set41 | with_reducible apply Bx.set42 | with_reducible apply Bx.set43 | ((with_reducible refine Bx.set_other ?_ ?_ _); rotate_left; (simp <;> omega)))) Ew1
        have B_d := B_d'; clear B_d'
        have B_r := B_r'; clear B_r'
        have B_q := B_q'; clear B_q'
        clear Ew1
        have c_d_0 := B_d.cell 0 _ rfl
        have c_d_1 := B_d.cell 1 _ rfl
        have n_d := B_d.lt
        have c_r_0 := B_r.cell 0 _ rfl
        have c_r_1 := B_r.cell 1 _ rfl
        have n_r := B_r.lt
        have f_r := B_r.fr
        have c_q_0 := B_q.cell 0 _ rfl
        have c_q_1 := B_q.cell 1 _ rfl
        have c_q_2 := B_q.cell 2 _ rfl
        have n_q := B_q.lt
        have f_q := B_q.fr
        go_wp2_with fail
        refine (copyNet_c _ (ms, ls) _ (netC.vext HD.out (by repeat (first | with_reducible exact Ext.refl _ | with_reducible assumption | with_reducible refine Ext.pAlloc ?_ _ | ((with_reducible refine Ext.pSet ?_ ?_ _); rotate_left; (simp <;> omega)) | with_reducible refine Ext.pDrew ?_ | with_reducible refine Ext.pDrewN ?_ _))) Hd.out).mono ?_
        rintro e w2 ⟨u1, v1, rfl, Ew2, a1, b1, a2, b2, p1, p2, p3, p4, p5, p6, p7, O_cm, O_cl⟩
        simp only at O_cm O_cl
        obtain ⟨ka, kc, rfl⟩ := sl_form O_cm.view
        obtain ⟨la, lc, rfl⟩ := sl_form O_cl.view
        replace p1 : w1.heap.size ≤ a1 := by have h9 := p1; (try simp at h9); omega
        replace p4 : w1.heap.size ≤ a2 := by have h9 := p4; (try simp at h9); omega
        have Xw2 : Ext w w2 := Ext.trans (by repeat (first | with_reducible exact Ext.refl _ | with_reducible assumption | with_reducible refine Ext.pAlloc ?_ _ | ((with_reducible refine Ext.pSet ?_ ?_ _); rotate_left; (simp <;> omega)) | with_reducible refine Ext.pDrew ?_ | with_reducible refine Ext.pDrewN ?_ _)) Ew2
        have zw2 : w1.heap.size ≤ w2.heap.size := by have := Ew2.size; (try simp at this); omega
        have B_d' : Bx w2 w.heap.size [.slice a ms.length cap, .slice va ls.length vc] := Bx.ext (by repeat (first | with_reducible assumption | with_reducible exact Bx.new _ _ _ _ rfl | ((with_reducible refine Bx.new _ _ _ _ ?_); simp; done) | with_reducible refine Bx.pAlloc ?_ _ | with_reducible refine Bx.pDrew ?_ | with_reducible refine Bx.pDrewN ?_ _ | with_reducible apply Bx.set10 | with_reducible apply Bx.set20 | with_reducible apply Bx.set21 | with_reducible apply Bx.set30 | with_reducible apply Bx.set31 | with_reducible apply Bx.set32 | with_reducible apply Bx.set40 | with_reducible apply Bx.set41 | with_reducible apply Bx.set42 | with_reducible apply Bx.set43 | ((with_reducible refine Bx.set_other ?_ ?_ _); rotate_left; (simp <;> omega)))) Ew2
        have B_r' : Bx w2 (w.heap.size + 1) [.slice none 0 0, .slice none 0 0] := Bx.ext (by repeat (first | with_reducible assumption | with_reducible exact Bx.new _ _ _ _ rfl | ((with_reducible refine Bx.new _ _ _ _ ?_); simp; done) | with_reducible refine Bx.pAlloc ?_ _ | with_reducible refine Bx.pDrew ?_ | with_reducible refine Bx.pDrewN ?_ _ | with_reducible apply Bx.set10 | with_reducible apply Bx.set20 | with_reducible apply Bx.set21 | with_reducible apply Bx.set30 | with_reducible apply Bx.set31 | with_reducible apply Bx.set32 | with_reducible apply Bx.set40 | with_reducible apply Bx.set41 | with_reducible apply Bx.set42 | with_reducible apply Bx.set43 | ((with_reducible refine Bx.set_other ?_ ?_ _); rotate_left; (simp <;> omega)))) Ew2
        have B_q' : Bx w2 (w.heap.size + 1 + 1) [.int .i64 0, .int .i64 0, .slice none 0 0] := Bx.ext (by repeat (first | with_reducible assumption | with_reducible exact Bx.new _ _ _ _ rfl | ((with_reducible refine Bx.new _ _ _ _ ?_); simp; done) | with_reducible refine Bx.pAlloc ?_ _ | with_reducible refine Bx.pDrew ?_ | with_reducible refine Bx.pDrewN ?_ _ | with_reducible apply Bx.set10 | with_reducible apply Bx.set20 | with_reducible apply Bx.set21 | with_reducible apply Bx.set30 | with_reducible apply Bx.set31 | with_reducible apply Bx.set32 | with_reducible apply Bx.set40 | with_reducible apply Bx.set41 | with_reducible apply Bx.set42 | with_reducible apply Bx.set43 | ((with_reducible refine Bx.set_other ?_ ?_ _); rotate_left; (simp <;> omega)))) Ew2
        clear c_d_0 c_d_1 n_d c_r_0 c_r_1 n_r f_r c_q_0 c_q_1 c_q_2 n_q f_q
        clear B_d
        have B_d := B_d'; clear B_d'
        clear B_r
        have B_r := B_r'; clear B_r'
        clear B_q
        have B_q := B_q'; clear B_q'
        clear Ew2 Xw1
        have c_d_0 := B_d.cell 0 _ rfl
        have c_d_1 := B_d.cell 1 _ rfl
        have n_d := B_d.lt
        have c_r_0 := B_r.cell 0 _ rfl
        have c_r_1 := B_r.cell 1 _ rfl
        have n_r := B_r.lt
        have f_r := B_r.fr
        have c_q_0 := B_q.cell 0 _ rfl
        have c_q_1 := B_q.cell 1 _ rfl
        have c_q_2 := B_q.cell 2 _ rfl
        have n_q := B_q.lt
        have f_q := B_q.fr
        go_wp2_with fail
        refine (letterOk_c _ (ms, ls) _ _ (netC.vext HD.out (by repeat (first | with_reducible exact Ext.refl _ | with_reducible assumption | with_reducible refine Ext.pAlloc ?_ _ | ((with_reducible refine Ext.pSet ?_ ?_ _); rotate_left; (simp <;> omega)) | with_reducible refine Ext.pDrew ?_ | with_reducible refine Ext.pDrewN ?_ _)))).mono ?_
        rw [Ht.out]
        rintro e w3 ⟨rfl, Ew3⟩
        have Xw3 : Ext w w3 := Ext.trans (by repeat (first | with_reducible exact Ext.refl _ | with_reducible assumption | with_reducible refine Ext.pAlloc ?_ _ | ((with_reducible refine Ext.pSet ?_ ?_ _); rotate_left; (simp <;> omega)) | with_reducible refine Ext.pDrew ?_ | with_reducible refine Ext.pDrewN ?_ _)) Ew3
        have zw3 : w2.heap.size + 1 ≤ w3.heap.size := by have := Ew3.size; (try simp at this); omega
        have B_d' : Bx w3 w.heap.size [.slice a ms.length cap, .slice va ls.length vc] := Bx.ext (by repeat (first | with_reducible assumption | with_reducible exact Bx.new _ _ _ _ rfl | ((with_reducible refine Bx.new _ _ _ _ ?_); simp; done) | with_reducible refine Bx.pAlloc ?_ _ | with_reducible refine Bx.pDrew ?_ | with_reducible refine Bx.pDrewN ?_ _ | with_reducible apply Bx.set10 | with_reducible apply Bx.set20 | with_reducible apply Bx.set21 | with_reducible apply Bx.set30 | with_reducible apply Bx.set31 | with_reducible apply Bx.set32 | with_reducible apply Bx.set40 | with_reducible apply Bx.set41 | with_reducible apply Bx.set42 | with_reducible apply Bx.set43 | ((with_reducible refine Bx.set_other ?_ ?_ _); rotate_left; (simp <;> omega)))) Ew3
        have B_r' : Bx w3 (w.heap.size + 1) [.slice none 0 0, .slice none 0 0] := Bx.ext (by repeat (first | with_reducible assumption | with_reducible exact Bx.new _ _ _ _ rfl | ((with_reducible refine Bx.new _ _ _ _ ?_); simp; done) | with_reducible refine Bx.pAlloc ?_ _ | with_reducible refine Bx.pDrew ?_ | with_reducible refine Bx.pDrewN ?_ _ | with_reducible apply Bx.set10 | with_reducible apply Bx.set20 | with_reducible apply Bx.set21 | with_reducible apply Bx.set30 | with_reducible apply Bx.set31 | with_reducible apply Bx.set32 | with_reducible apply Bx.set40 | with_reducible apply Bx.set41 | with_reducible apply Bx.set42 | with_reducible apply Bx.set43 | ((with_reducible refine Bx.set_other ?_ ?_ _); rotate_left; (simp <;> omega)))) Ew3
        have B_q' : Bx w3 (w.heap.size + 1 + 1) [.int .i64 0, .int .i64 0, .slice none 0 0] := Bx.ext (by repeat (first | with_reducible assumption | with_reducible exact Bx.new _ _ _ _ rfl | ((with_reducible refine Bx.new _ _ _ _ ?_); simp; done) | with_reducible refine Bx.pAlloc ?_ _ | with_reducible refine Bx.pDrew ?_ | with_reducible refine Bx.pDrewN ?_ _ | with_reducible apply Bx.set10 | with_reducible apply Bx.set20 | with_reducible apply Bx.set21 | with_reducible apply Bx.set30 | with_reducible apply Bx.set31 | with_reducible apply Bx.set32 | with_reducible apply Bx.set40 | with_reducible apply Bx.set41 | with_reducible apply Bx.set42 | with_reducible apply Bx.set43 | ((with_reducible refine Bx.set_other ?_ ?_ _); rotate_left; (simp <;> omega)))) Ew3
        have B_o' : Bx w3 w2.heap.size [.slice ka ms.length kc, .slice la ls.length lc] := Bx.ext (by repeat (first | with_reducible assumption | with_reducible exact Bx.new _ _ _ _ rfl | ((with_reducible refine Bx.new _ _ _ _ ?_); simp; done) | with_reducible refine Bx.pAlloc ?_ _ | with_reducible refine Bx.pDrew ?_ | with_reducible refine Bx.pDrewN ?_ _ | with_reducible apply Bx.set10 | with_reducible apply Bx.set20 | with_reducible apply Bx.set21 | with_reducible apply Bx.set30 | with_reducible apply Bx.set31 | with_reducible apply Bx.set32 | with_reducible apply Bx.set40 | with_reducible apply Bx.set41 | with_reducible apply Bx.set42 | with_reducible apply Bx.set43 | ((with_reducible refine Bx.set_other ?_ ?_ _); rotate_left; (simp <;> omega)))) Ew3
        have O_cm' : (msgsC).own (a1) (b1) w3 [.slice ka ms.length kc] (ms) := Cd.own.ext (by repeat (first | with_reducible assumption | with_reducible refine Cd.own.pAlloc ?_ _ | with_reducible refine Cd.own.pDrew ?_ | with_reducible refine Cd.own.pDrewN ?_ _ | ((with_reducible refine Cd.own.pSet ?_ ?_ _); rotate_left; (simp <;> omega)))) Ew3
        have O_cl' : (linksC).own (a2) (b2) w3 [.slice la ls.length lc] (ls) := Cd.own.ext (by repeat (first | with_reducible assumption | with_reducible refine Cd.own.pAlloc ?_ _ | with_reducible refine Cd.own.pDrew ?_ | with_reducible refine Cd.own.pDrewN ?_ _ | ((with_reducible refine Cd.own.pSet ?_ ?_ _); rotate_left; (simp <;> omega)))) Ew3
        clear c_d_0 c_d_1 n_d c_r_0 c_r_1 n_r f_r c_q_0 c_q_1 c_q_2 n_q f_q
        clear B_d
        have B_d := B_d'; clear B_d'
        clear B_r
        have B_r := B_r'; clear B_r'
        clear B_q
        have B_q := B_q'; clear B_q'
        have B_o := B_o'; clear B_o'
        clear O_cm; have O_cm := O_cm'; clear O_cm'
        clear O_cl; have O_cl := O_cl'; clear O_cl'
        clear Ew3 Xw2
        have c_d_0 := B_d.cell 0 _ rfl
        have c_d_1 := B_d.cell 1 _ rfl
        have n_d := B_d.lt
        have c_r_0 := B_r.cell 0 _ rfl
        have c_r_1 := B_r.cell 1 _ rfl
        have n_r := B_r.lt
        have f_r := B_r.fr
        have c_q_0 := B_q.cell 0 _ rfl
        have c_q_1 := B_q.cell 1 _ rfl
        have c_q_2 := B_q.cell 2 _ rfl
        have n_q := B_q.lt
        have f_q := B_q.fr
        have c_o_0 := B_o.cell 0 _ rfl
        have c_o_1 := B_o.cell 1 _ rfl
        have n_o := B_o.lt
        have f_o := B_o.fr
        obtain ⟨fp, hfO, hfn, hfb⟩ := O_cm
        obtain ⟨qb, qo, qk, x1, cx, x2, f1, fx, f2, qe, q1, q2, hS, he1, hex, he2, hfp, hx1, hcx, hx2⟩ := sl_parts (R := msgC) (by decide) hfO hk hfn
        cases qe
        subst hfp
        rw [HXK.out] at hex
        obtain ⟨y, rfl, hexr⟩ := msg_O.1 hex
        obtain ⟨xa, xc, rfl⟩ := u_slice (rowC.view hexr)
        have hcell : ∀ j u, [Value.int .i64 x.1, .int .i64 x.2.1, .slice xa x.2.2.length xc][j]? = some u → w3.cell? ⟨qb, qo + k * 3 + j, none⟩ = some u := fun j u hj => by
          have hlj : j < 3 := by have := (List.getElem?_eq_some_iff.1 hj).1; simpa using this
          obtain ⟨b7, o7, e7, h7⟩ := hS.cells (k * 3 + j) u (by rw [List.getElem?_append_right (by rw [hx1]; show k * 3 ≤ _; omega), hx1, show k * 3 + j - k * msgC.n = j by (show k * 3 + j - k * 3 = j); omega, List.getElem?_append_left (by simpa using hlj)]; exact hj)
          cases e7
          rw [Nat.add_assoc]; exact h7
        have hcw0 : w3.cell? ⟨qb, qo + k * 3, none⟩ = some (.int .i64 x.1) := hcell 0 _ rfl
        have hcw1 : w3.cell? ⟨qb, qo + k * 3 + 1, none⟩ = some (.int .i64 x.2.1) := hcell 1 _ rfl
        have hcw2 : w3.cell? ⟨qb, qo + k * 3 + 2, none⟩ = some (.slice xa x.2.2.length xc) := hcell 2 _ rfl
        simp only [List.nodup_cons, List.mem_append, List.nodup_append, not_or] at hfn
        have hqb := hfb qb (by simp)
        have hmn : k + 1 + (ms.length - (k + 1)) = ms.length := by omega
        have nqb := World.block_lt_of_cell? _ _ hcw0
        have HS := Lib.hid hS
        have HX := Lib.hid (And.intro hx1 (And.intro hcx hx2))
        have HE := Lib.hid (And.intro he1 (And.intro hex he2))
        have HF := Lib.hid (And.intro hfn hfb)
        clear hS hx1 hcx hx2 he1 hex hexr he2 hfn hfb hfO hcell
        go_wp2_with fail
        have hcw := without_c qb qo kc k (ms.length - (k + 1)) x1 _ x2 (w3.alloc (.cells #[.int .i64 x.1, .int .i64 x.2.1, .slice xa x.2.2.length xc] 40)) (SlAt.ext HS.out (Ext.alloc _ _)) HX.out.1 HX.out.2.1 HX.out.2.2 (elemsO_one HE.out.2.2) (by omega) q2 (by omega)
        rw [hmn] at hcw
        refine hcw.mono ?_
        clear hcw
        rintro e w4 ⟨qa, qc, rfl, hS2, g1, g2, hA⟩
        have hC := hA.chg (lo := a1) (hi := b1) (by simp [ablk]; omega)
        have hEr := Lib.hid (List.eraseIdx_eq_take_drop_succ ms k)
        have hlq : k + (ms.length - (k + 1)) = (ms.take k ++ ms.drop (k + 1)).length := by rw [List.length_append, List.length_take, List.length_drop]; omega
        have O_cm2 : mm2 a1 b1 (w3.heap.size + 1) w4.heap.size w4 (.slice qa (k + (ms.length - (k + 1))) qc) (.slice xa x.2.2.length xc) (ms.take k ++ ms.drop (k + 1)) x := by
          obtain ⟨⟨hn1, hn2⟩, hnb⟩ := HF.out
          have hlt : ∀ b ∈ f1 ++ (fx ++ f2), b < w3.heap.size := fun b hb => by
            have := hnb b (List.mem_cons_of_mem _ hb)
            omega
          have hni : ∀ b ∈ f1 ++ (fx ++ f2), b ≠ qb := fun b hb e => by
            subst e
            simp only [List.mem_append] at hb
            rcases hb with hb | hb | hb
            · exact hn1.1 hb
            · exact hn1.2.1 hb
            · exact hn1.2.2 hb
          have hblk : ∀ b ∈ f1 ++ (fx ++ f2), w4.heap[b]? = w3.heap[b]? := fun b hb => (hA.block b (by have := hlt b hb; simp; omega) (by simp [ablk]; exact hni b hb)).trans ((Ext.alloc _ _).block b (hlt b hb))
          have hsub : ∀ b ∈ f1 ++ f2, b ∈ f1 ++ (fx ++ f2) := fun b hb => by simp only [List.mem_append] at hb ⊢; rcases hb with hb | hb <;> simp [hb]
          have hsx : ∀ b ∈ fx, b ∈ f1 ++ (fx ++ f2) := fun b hb => by simp [hb]
          have ha' : ∀ b ∈ ablk qa, ((a1 ≤ b ∧ b < b1) ∨ (w3.heap.size + 1 ≤ b ∧ b < w4.heap.size)) ∧ b ∉ f1 ++ (fx ++ f2) := fun b hb => by
            rcases hA.mem hb with h' | ⟨h', h2⟩
            · simp [ablk] at h'
              subst h'
              exact ⟨.inl hqb, fun hm => hni _ hm rfl⟩
            · simp at h'
              exact ⟨.inr (by omega), fun hm => by have := hlt b hm; omega⟩
          refine ⟨ablk qa ++ (f1 ++ f2), fx, ⟨qa, qc, x1 ++ x2, f1 ++ f2, by rw [hlq], by rw [← hlq]; exact g1, by simpa [maxLen] using g2, hS2, elemsO_frame msgC (elemsO_join HE.out.1 HE.out.2.2) (fun b hb => hblk b (hsub b hb)), rfl⟩, msgC.frame HE.out.2.1 (fun b hb => hblk b (hsx b hb)), ?_, fun b hb => ?_⟩
          · rw [List.nodup_append]
            refine ⟨List.nodup_append.2 ⟨by cases qa <;> simp [ablk], List.nodup_append.2 ⟨hn2.1, hn2.2.1.2.1, fun x hx y hy e => hn2.2.2 x hx y (Or.inr hy) e⟩, fun b hb c hc e => (ha' b hb).2 (hsub b (e ▸ hc))⟩, hn2.2.1.1, fun b hb c hc e => ?_⟩
            subst e
            rcases List.mem_append.1 hb with hb | hb
            · exact (ha' b hb).2 (hsx b hc)
            · rcases List.mem_append.1 hb with hb | hb
              · exact hn2.2.2 b hb b (Or.inl hc) rfl
              · exact hn2.2.1.2.2 b hc b hb rfl
          · rcases List.mem_append.1 hb with hb | hb
            · rcases List.mem_append.1 hb with hb | hb
              · exact (ha' b hb).1
              · exact .inl (hnb b (List.mem_cons_of_mem _ (hsub b hb)))
            · exact .inl (hnb b (List.mem_cons_of_mem _ (hsx b hb)))
        have HO2 := Lib.hid O_cm2; clear O_cm2 hS2 hA HE HF HS HX hlq hcw0 hcw1 hcw2
        have Xw4 : Ext w w4 := Chg.ext (by repeat (first | with_reducible exact Ext.refl _ | with_reducible assumption | with_reducible refine Ext.pAlloc ?_ _ | ((with_reducible refine Ext.pSet ?_ ?_ _); rotate_left; (simp <;> omega)) | with_reducible refine Ext.pDrew ?_ | with_reducible refine Ext.pDrewN ?_ _)) hC (by omega)
        have zw4 : w3.heap.size + 1 ≤ w4.heap.size := by have := hC.size; (try simp at this); omega
        have B_d' : Bx w4 w.heap.size [.slice a ms.length cap, .slice va ls.length vc] := Bx.chg (by repeat (first | with_reducible assumption | with_reducible exact Bx.new _ _ _ _ rfl | ((with_reducible refine Bx.new _ _ _ _ ?_); simp; done) | with_reducible refine Bx.pAlloc ?_ _ | with_reducible refine Bx.pDrew ?_ | with_reducible refine Bx.pDrewN ?_ _ | with_reducible apply Bx.set10 | with_reducible apply Bx.set20 | with_reducible apply Bx.set21 | with_reducible apply Bx.set30 | with_reducible apply Bx.set31 | with_reducible apply Bx.set32 | with_reducible apply Bx.set40 | with_reducible apply Bx.set41 | with_reducible apply Bx.set42 | with_reducible apply Bx.set43 | ((with_reducible refine Bx.set_other ?_ ?_ _); rotate_left; (simp <;> omega)))) hC (by omega)
        have B_r' : Bx w4 (w.heap.size + 1) [.slice none 0 0, .slice none 0 0] := Bx.chg (by repeat (first | with_reducible assumption | with_reducible exact Bx.new _ _ _ _ rfl | ((with_reducible refine Bx.new _ _ _ _ ?_); simp; done) | with_reducible refine Bx.pAlloc ?_ _ | with_reducible refine Bx.pDrew ?_ | with_reducible refine Bx.pDrewN ?_ _ | with_reducible apply Bx.set10 | with_reducible apply Bx.set20 | with_reducible apply Bx.set21 | with_reducible apply Bx.set30 | with_reducible apply Bx.set31 | with_reducible apply Bx.set32 | with_reducible apply Bx.set40 | with_reducible apply Bx.set41 | with_reducible apply Bx.set42 | with_reducible apply Bx.set43 | ((with_reducible refine Bx.set_other ?_ ?_ _); rotate_left; (simp <;> omega)))) hC (by omega)
        have B_q' : Bx w4 (w.heap.size + 1 + 1) [.int .i64 0, .int .i64 0, .slice none 0 0] := Bx.chg (by repeat (first | with_reducible assumption | with_reducible exact Bx.new _ _ _ _ rfl | ((with_reducible refine Bx.new _ _ _ _ ?_); simp; done) | with_reducible refine Bx.pAlloc ?_ _ | with_reducible refine Bx.pDrew ?_ | with_reducible refine Bx.pDrewN ?_ _ | with_reducible apply Bx.set10 | with_reducible apply Bx.set20 | with_reducible apply Bx.set21 | with_reducible apply Bx.set30 | with_reducible apply Bx.set31 | with_reducible apply Bx.set32 | with_reducible apply Bx.set40 | with_reducible apply Bx.set41 | with_reducible apply Bx.set42 | with_reducible apply Bx.set43 | ((with_reducible refine Bx.set_other ?_ ?_ _); rotate_left; (simp <;> omega)))) hC (by omega)
        have B_o' : Bx w4 w2.heap.size [.slice (some ⟨qb, qo, none⟩) ms.length kc, .slice la ls.length lc] := Bx.chg (by repeat (first | with_reducible assumption | with_reducible exact Bx.new _ _ _ _ rfl | ((with_reducible refine Bx.new _ _ _ _ ?_); simp; done) | with_reducible refine Bx.pAlloc ?_ _ | with_reducible refine Bx.pDrew ?_ | with_reducible refine Bx.pDrewN ?_ _ | with_reducible apply Bx.set10 | with_reducible apply Bx.set20 | with_reducible apply Bx.set21 | with_reducible apply Bx.set30 | with_reducible apply Bx.set31 | with_reducible apply Bx.set32 | with_reducible apply Bx.set40 | with_reducible apply Bx.set41 | with_reducible apply Bx.set42 | with_reducible apply Bx.set43 | ((with_reducible refine Bx.set_other ?_ ?_ _); rotate_left; (simp <;> omega)))) hC (by omega)
        have B_m' : Bx w4 w3.heap.size [.int .i64 x.1, .int .i64 x.2.1, .slice xa x.2.2.length xc] := Bx.chg (by repeat (first | with_reducible assumption | with_reducible exact Bx.new _ _ _ _ rfl | ((with_reducible refine Bx.new _ _ _ _ ?_); simp; done) | with_reducible refine Bx.pAlloc ?_ _ | with_reducible refine Bx.pDrew ?_ | with_reducible refine Bx.pDrewN ?_ _ | with_reducible apply Bx.set10 | with_reducible apply Bx.set20 | with_reducible apply Bx.set21 | with_reducible apply Bx.set30 | with_reducible apply Bx.set31 | with_reducible apply Bx.set32 | with_reducible apply Bx.set40 | with_reducible apply Bx.set41 | with_reducible apply Bx.set42 | with_reducible apply Bx.set43 | ((with_reducible refine Bx.set_other ?_ ?_ _); rotate_left; (simp <;> omega)))) hC (by omega)
        have O_cl' : (linksC).own (a2) (b2) w4 [.slice la ls.length lc] (ls) := Cd.own.chg (by repeat (first | with_reducible assumption | with_reducible refine Cd.own.pAlloc ?_ _ | with_reducible refine Cd.own.pDrew ?_ | with_reducible refine Cd.own.pDrewN ?_ _ | ((with_reducible refine Cd.own.pSet ?_ ?_ _); rotate_left; (simp <;> omega)))) hC (by omega)
        clear c_d_0 c_d_1 n_d c_r_0 c_r_1 n_r f_r c_q_0 c_q_1 c_q_2 n_q f_q c_o_0 c_o_1 n_o f_o
        clear B_d
        have B_d := B_d'; clear B_d'
        clear B_r
        have B_r := B_r'; clear B_r'
        clear B_q
        have B_q := B_q'; clear B_q'
        clear B_o
        have B_o := B_o'; clear B_o'
        have B_m := B_m'; clear B_m'
        clear O_cl; have O_cl := O_cl'; clear O_cl'
        clear hC Xw3
        have c_d_0 := B_d.cell 0 _ rfl
        have c_d_1 := B_d.cell 1 _ rfl
        have n_d := B_d.lt
        have c_r_0 := B_r.cell 0 _ rfl
        have c_r_1 := B_r.cell 1 _ rfl
        have n_r := B_r.lt
        have f_r := B_r.fr
        have c_q_0 := B_q.cell 0 _ rfl
        have c_q_1 := B_q.cell 1 _ rfl
        have c_q_2 := B_q.cell 2 _ rfl
        have n_q := B_q.lt
        have f_q := B_q.fr
        have c_o_0 := B_o.cell 0 _ rfl
        have c_o_1 := B_o.cell 1 _ rfl
        have n_o := B_o.lt
        have f_o := B_o.fr
        have c_m_0 := B_m.cell 0 _ rfl
        have c_m_1 := B_m.cell 1 _ rfl
        have c_m_2 := B_m.cell 2 _ rfl
        have n_m := B_m.lt
        have zc2 := HO2.out
        clear zc2
        go_wp2_with fail
        refine (implPassesIn_c _ (ms, ls) x.1 x.2.1 _ (netC.vext HD.out (by repeat (first | with_reducible exact Ext.refl _ | with_reducible assumption | with_reducible refine Ext.pAlloc ?_ _ | ((with_reducible refine Ext.pSet ?_ ?_ _); rotate_left; (simp <;> omega)) | with_reducible refine Ext.pDrew ?_ | with_reducible refine Ext.pDrewN ?_ _)))).mono ?_
        rw [Hps.out]
        rintro e w5 ⟨rfl, Ew5⟩
        have O_cm3 : mm2 a1 b1 (w3.heap.size + 1) w4.heap.size w5 (.slice qa (k + (ms.length - (k + 1))) qc) (.slice xa x.2.2.length xc) (ms.take k ++ ms.drop (k + 1)) x := mm2.ext (by have h9 := HO2.out; repeat (first | with_reducible assumption | ((with_reducible refine mm2.set ?_ ?_ _); rotate_left; (simp <;> omega)))) Ew5
        have HO3 := Lib.hid O_cm3; clear O_cm3 HO2
        have Xw5 : Ext w w5 := Ext.trans (by repeat (first | with_reducible exact Ext.refl _ | with_reducible assumption | with_reducible refine Ext.pAlloc ?_ _ | ((with_reducible refine Ext.pSet ?_ ?_ _); rotate_left; (simp <;> omega)) | with_reducible refine Ext.pDrew ?_ | with_reducible refine Ext.pDrewN ?_ _)) Ew5
        have zw5 : w4.heap.size ≤ w5.heap.size := by have := Ew5.size; (try simp at this); omega
        have B_d' : Bx w5 w.heap.size [.slice a ms.length cap, .slice va ls.length vc] := Bx.ext (by repeat (first | with_reducible assumption | with_reducible exact Bx.new _ _ _ _ rfl | ((with_reducible refine Bx.new _ _ _ _ ?_); simp; done) | with_reducible refine Bx.pAlloc ?_ _ | with_reducible refine Bx.pDrew ?_ | with_reducible refine Bx.pDrewN ?_ _ | with_reducible apply Bx.set10 | with_reducible apply Bx.set20 | with_reducible apply Bx.set21 | with_reducible apply Bx.set30 | with_reducible apply Bx.set31 | with_reducible apply Bx.set32 | with_reducible apply Bx.set40 | with_reducible apply Bx.set41 | with_reducible apply Bx.set42 | with_reducible apply Bx.set43 | ((with_reducible refine Bx.set_other ?_ ?_ _); rotate_left; (simp <;> omega)))) Ew5
        have B_r' : Bx w5 (w.heap.size + 1) [.slice none 0 0, .slice none 0 0] := Bx.ext (by repeat (first | with_reducible assumption | with_reducible exact Bx.new _ _ _ _ rfl | ((with_reducible refine Bx.new _ _ _ _ ?_); simp; done) | with_reducible refine Bx.pAlloc ?_ _ | with_reducible refine Bx.pDrew ?_ | with_reducible refine Bx.pDrewN ?_ _ | with_reducible apply Bx.set10 | with_reducible apply Bx.set20 | with_reducible apply Bx.set21 | with_reducible apply Bx.set30 | with_reducible apply Bx.set31 | with_reducible apply Bx.set32 | with_reducible apply Bx.set40 | with_reducible apply Bx.set41 | with_reducible apply Bx.set42 | with_reducible apply Bx.set43 | ((with_reducible refine Bx.set_other ?_ ?_ _); rotate_left; (simp <;> omega)))) Ew5
        have B_q' : Bx w5 (w.heap.size + 1 + 1) [.int .i64 0, .int .i64 0, .slice none 0 0] := Bx.ext (by repeat (first | with_reducible assumption | with_reducible exact Bx.new _ _ _ _ rfl | ((with_reducible refine Bx.new _ _ _ _ ?_); simp; done) | with_reducible refine Bx.pAlloc ?_ _ | with_reducible refine Bx.pDrew ?_ | with_reducible refine Bx.pDrewN ?_ _ | with_reducible apply Bx.set10 | with_reducible apply Bx.set20 | with_reducible apply Bx.set21 | with_reducible apply Bx.set30 | with_reducible apply Bx.set31 | with_reducible apply Bx.set32 | with_reducible apply Bx.set40 | with_reducible apply Bx.set41 | with_reducible apply Bx.set42 | with_reducible apply Bx.set43 | ((with_reducible refine Bx.set_other ?_ ?_ _); rotate_left; (simp <;> omega)))) Ew5
        have B_o' : Bx w5 w2.heap.size [.slice qa (k + (ms.length - (k + 1))) qc, .slice la ls.length lc] := Bx.ext (by repeat (first | with_reducible assumption | with_reducible exact Bx.new _ _ _ _ rfl | ((with_reducible refine Bx.new _ _ _ _ ?_); simp; done) | with_reducible refine Bx.pAlloc ?_ _ | with_reducible refine Bx.pDrew ?_ | with_reducible refine Bx.pDrewN ?_ _ | with_reducible apply Bx.set10 | with_reducible apply Bx.set20 | with_reducible apply Bx.set21 | with_reducible apply Bx.set30 | with_reducible apply Bx.set31 | with_reducible apply Bx.set32 | with_reducible apply Bx.set40 | with_reducible apply Bx.set41 | with_reducible apply Bx.set42 | with_reducible apply Bx.set43 | ((with_reducible refine Bx.set_other ?_ ?_ _); rotate_left; (simp <;> omega)))) Ew5
        have B_m' : Bx w5 w3.heap.size [.int .i64 x.1, .int .i64 x.2.1, .slice xa x.2.2.length xc] := Bx.ext (by repeat (first | with_reducible assumption | with_reducible exact Bx.new _ _ _ _ rfl | ((with_reducible refine Bx.new _ _ _ _ ?_); simp; done) | with_reducible refine Bx.pAlloc ?_ _ | with_reducible refine Bx.pDrew ?_ | with_reducible refine Bx.pDrewN ?_ _ | with_reducible apply Bx.set10 | with_reducible apply Bx.set20 | with_reducible apply Bx.set21 | with_reducible apply Bx.set30 | with_reducible apply Bx.set31 | with_reducible apply Bx.set32 | with_reducible apply Bx.set40 | with_reducible apply Bx.set41 | with_reducible apply Bx.set42 | with_reducible apply Bx.set43 | ((with_reducible refine Bx.set_other ?_ ?_ _); rotate_left; (simp <;> omega)))) Ew5
        have O_cl' : (linksC).own (a2) (b2) w5 [.slice la ls.length lc] (ls) := Cd.own.ext (by repeat (first | with_reducible assumption | with_reducible refine Cd.own.pAlloc ?_ _ | with_reducible refine Cd.own.pDrew ?_ | with_reducible refine Cd.own.pDrewN ?_ _ | ((with_reducible refine Cd.own.pSet ?_ ?_ _); rotate_left; (simp <;> omega)))) Ew5
        clear c_d_0 c_d_1 n_d c_r_0 c_r_1 n_r f_r c_q_0 c_q_1 c_q_2 n_q f_q c_o_0 c_o_1 n_o f_o c_m_0 c_m_1 c_m_2 n_m
        clear B_d
        have B_d := B_d'; clear B_d'
        clear B_r
        have B_r := B_r'; clear B_r'
        clear B_q
        have B_q := B_q'; clear B_q'
        clear B_o
        have B_o := B_o'; clear B_o'
        clear B_m
        have B_m := B_m'; clear B_m'
        clear O_cl; have O_cl := O_cl'; clear O_cl'
        clear Ew5 Xw4
        have c_d_0 := B_d.cell 0 _ rfl
        have c_d_1 := B_d.cell 1 _ rfl
        have n_d := B_d.lt
        have c_r_0 := B_r.cell 0 _ rfl
        have c_r_1 := B_r.cell 1 _ rfl
        have n_r := B_r.lt
        have f_r := B_r.fr
        have c_q_0 := B_q.cell 0 _ rfl
        have c_q_1 := B_q.cell 1 _ rfl
        have c_q_2 := B_q.cell 2 _ rfl
        have n_q := B_q.lt
        have f_q := B_q.fr
        have c_o_0 := B_o.cell 0 _ rfl
        have c_o_1 := B_o.cell 1 _ rfl
        have n_o := B_o.lt
        have f_o := B_o.fr
        have c_m_0 := B_m.cell 0 _ rfl
        have c_m_1 := B_m.cell 1 _ rfl
        have c_m_2 := B_m.cell 2 _ rfl
        have n_m := B_m.lt
        have O_cm2 := HO3.out; clear HO3
        go_wp2
        refine wp_region_held_drew (S := (fun ω => ω.cell? ⟨w2.heap.size, 0, none⟩ = some (.slice qa (k + (ms.length - (k + 1))) qc) ∧ ω.cell? ⟨w2.heap.size, 1, none⟩ = some (.slice la ls.length lc) ∧ ω.cell? ⟨w3.heap.size, 0, none⟩ = some (.int .i64 x.1) ∧ ω.cell? ⟨w3.heap.size, 1, none⟩ = some (.int .i64 x.2.1) ∧ ω.cell? ⟨w3.heap.size, 2, none⟩ = some (.slice xa x.2.2.length xc) ∧ Ext w ω)) (by kernel_rfl) ?_ (fun hHeld => ?_)
        · (try dsimp only); (refine ⟨?_, ?_, ?_, ?_, ?_, ?_⟩ <;> first | (simp [go_sem]; done) | (simp [*, go_sem]; done) | ((repeat (first | with_reducible assumption | with_reducible exact Bx.new _ _ _ _ rfl | ((with_reducible refine Bx.new _ _ _ _ ?_); simp; done) | with_reducible refine Bx.pAlloc ?_ _ | with_reducible refine Bx.pDrew ?_ | with_reducible refine Bx.pDrewN ?_ _ | with_reducible apply Bx.set10 | with_reducible apply Bx.set20 | with_reducible apply Bx.set21 | with_reducible apply Bx.set30 | with_reducible apply Bx.set31 | with_reducible apply Bx.set32 | with_reducible apply Bx.set40 | with_reducible apply Bx.set41 | with_reducible apply Bx.set42 | with_reducible apply Bx.set43 | ((with_reducible refine Bx.set_other ?_ ?_ _); rotate_left; (simp <;> omega)))); done) | ((repeat (first | with_reducible exact Ext.refl _ | with_reducible assumption | with_reducible refine Ext.pAlloc ?_ _ | ((with_reducible refine Ext.pSet ?_ ?_ _); rotate_left; (simp <;> omega)) | with_reducible refine Ext.pDrew ?_ | with_reducible refine Ext.pDrewN ?_ _)); done))
        refine wpAnyH_take (i := 0) (v := ?_) rfl (by kernel_rfl) (by kernel_rfl) (by kernel_rfl) (fun _ _ _ h => h) (Or.inl ⟨by rfl, ?_⟩) (by assumption) ?_
        rotate_left
        · intro w9 hSw; (try dsimp only at hSw); go_simp; (first | done | with_reducible rfl)
        (try simp only [List.getElem_toArray, List.getElem_cons_succ, List.getElem_cons_zero, Act.put, List.setIfInBounds_toArray, List.set_cons_zero, List.set_cons_succ])
        refine wpAnyH_take (i := 1) (v := ?_) rfl (by kernel_rfl) (by kernel_rfl) (by kernel_rfl) (fun _ _ _ h => h) (Or.inl ⟨by rfl, ?_⟩) (by assumption) ?_
        rotate_left
        · intro w9 hSw; (try dsimp only at hSw); go_simp; (first | done | with_reducible rfl)
        (try simp only [List.getElem_toArray, List.getElem_cons_succ, List.getElem_cons_zero, Act.put, List.setIfInBounds_toArray, List.set_cons_zero, List.set_cons_succ])
        refine wpAnyH_ready (rs := [2]) (by kernel_rfl) (by simp) ?_
        refine AllReadyH.cons rfl (fun K hK => ?_) AllReadyH.nil
        go_simp
        (try go_wp2_with fail)
        refine hK.out _ _ ?_ (fun hHeld2 => ?_)
        · (try dsimp only); (obtain ⟨s0, s1, s2, s3, s4, s5⟩ := hHeld; exact ⟨cell_drew (by rw [World.cell?_setCell_other _ _ _ _ (by intro e9; (try simp at e9); (try omega))]; rw [World.cell?_setCell_other _ _ _ _ (by intro e9; (try simp at e9); (try omega))]; exact cell_undrew s0), cell_drew (by rw [World.cell?_setCell_other _ _ _ _ (by intro e9; (try simp at e9); (try omega))]; rw [World.cell?_setCell_other _ _ _ _ (by intro e9; (try simp at e9); (try omega))]; exact cell_undrew s1), cell_drew (by rw [World.cell?_setCell_other _ _ _ _ (by intro e9; (try simp at e9); (try omega))]; rw [World.cell?_setCell_other _ _ _ _ (by intro e9; (try simp at e9); (try omega))]; exact cell_undrew s2), cell_drew (by rw [World.cell?_setCell_other _ _ _ _ (by intro e9; (try simp at e9); (try omega))]; rw [World.cell?_setCell_other _ _ _ _ (by intro e9; (try simp at e9); (try omega))]; exact cell_undrew s3), cell_drew (by rw [World.cell?_setCell_other _ _ _ _ (by intro e9; (try simp at e9); (try omega))]; rw [World.cell?_setCell_other _ _ _ _ (by intro e9; (try simp at e9); (try omega))]; exact cell_undrew s4), by have s9 := s5; repeat (first | with_reducible exact Ext.refl _ | with_reducible assumption | with_reducible refine Ext.pAlloc ?_ _ | ((with_reducible refine Ext.pSet ?_ ?_ _); rotate_left; (simp <;> omega)) | with_reducible refine Ext.pDrew ?_ | with_reducible refine Ext.pDrewN ?_ _)⟩)
        clear hK K hHeld
        rename _ => hHeld
        (try simp only [List.getElem_toArray, List.getElem_cons_succ, List.getElem_cons_zero, Act.put, List.setIfInBounds_toArray, List.set_cons_zero, List.set_cons_succ])
        refine wpAnyH_ready (rs := [3]) (by kernel_rfl) (by simp) ?_
        refine AllReadyH.cons rfl (fun K hK => ?_) AllReadyH.nil
        go_simp
        (try go_wp2_with fail)
        refine hK.out _ _ ?_ (fun hHeld2 => ?_)
        · (try dsimp only); (obtain ⟨s0, s1, s2, s3, s4, s5⟩ := hHeld; exact ⟨cell_drew (by rw [World.cell?_setCell_other _ _ _ _ (by intro e9; (try simp at e9); (try omega))]; rw [World.cell?_setCell_other _ _ _ _ (by intro e9; (try simp at e9); (try omega))]; rw [World.cell?_setCell_other _ _ _ _ (by intro e9; (try simp at e9); (try omega))]; exact cell_undrew s0), cell_drew (by rw [World.cell?_setCell_other _ _ _ _ (by intro e9; (try simp at e9); (try omega))]; rw [World.cell?_setCell_other _ _ _ _ (by intro e9; (try simp at e9); (try omega))]; rw [World.cell?_setCell_other _ _ _ _ (by intro e9; (try simp at e9); (try omega))]; exact cell_undrew s1), cell_drew (by rw [World.cell?_setCell_other _ _ _ _ (by intro e9; (try simp at e9); (try omega))]; rw [World.cell?_setCell_other _ _ _ _ (by intro e9; (try simp at e9); (try omega))]; rw [World.cell?_setCell_other _ _ _ _ (by intro e9; (try simp at e9); (try omega))]; exact cell_undrew s2), cell_drew (by rw [World.cell?_setCell_other _ _ _ _ (by intro e9; (try simp at e9); (try omega))]; rw [World.cell?_setCell_other _ _ _ _ (by intro e9; (try simp at e9); (try omega))]; rw [World.cell?_setCell_other _ _ _ _ (by intro e9; (try simp at e9); (try omega))]; exact cell_undrew s3), cell_drew (by rw [World.cell?_setCell_other _ _ _ _ (by intro e9; (try simp at e9); (try omega))]; rw [World.cell?_setCell_other _ _ _ _ (by intro e9; (try simp at e9); (try omega))]; rw [World.cell?_setCell_other _ _ _ _ (by intro e9; (try simp at e9); (try omega))]; exact cell_undrew s4), by have s9 := s5; repeat (first | with_reducible exact Ext.refl _ | with_reducible assumption | with_reducible refine Ext.pAlloc ?_ _ | ((with_reducible refine Ext.pSet ?_ ?_ _); rotate_left; (simp <;> omega)) | with_reducible refine Ext.pDrew ?_ | with_reducible refine Ext.pDrewN ?_ _)⟩)
        clear hK K hHeld
        rename _ => hHeld
        (try simp only [List.getElem_toArray, List.getElem_cons_succ, List.getElem_cons_zero, Act.put, List.setIfInBounds_toArray, List.set_cons_zero, List.set_cons_succ])
        refine wpAnyH_take (i := 4) (v := ?_) rfl (by kernel_rfl) (by kernel_rfl) (by kernel_rfl) (fun _ _ _ h => h) (Or.inl ⟨by rfl, ?_⟩) (by assumption) ?_
        rotate_left
        · intro w9 hSw; (try dsimp only at hSw); go_simp; (first | done | with_reducible rfl)
        (try simp only [List.getElem_toArray, List.getElem_cons_succ, List.getElem_cons_zero, Act.put, List.setIfInBounds_toArray, List.set_cons_zero, List.set_cons_succ])
        refine wpAnyH_done (by kernel_rfl) ?_ _
        clear hHeld
        go_wp2
        refine bodyPost_ret (v := .tuple #[.agg #[(.slice qa (k + (ms.length - (k + 1))) qc), .slice la ls.length lc], .agg #[.int .i64 x.1, .int .i64 x.2.1, .slice xa x.2.2.length xc], .bool true]) (by simp [results, Try.results13, go_sem, c_r_0, c_r_1, n_r, c_q_0, c_q_1, c_q_2, n_q]) rfl ⟨_, _, _, rfl, ?_, ?_⟩
        · repeat (first | with_reducible exact Ext.refl _ | with_reducible assumption | with_reducible refine Ext.pAlloc ?_ _ | ((with_reducible refine Ext.pSet ?_ ?_ _); rotate_left; (simp <;> omega)) | with_reducible refine Ext.pDrew ?_ | with_reducible refine Ext.pDrewN ?_ _)
        · rw [hEr.out]; exact nm_join (a1 := a1) (b1 := b1) (c1 := w3.heap.size + 1) (d1 := w4.heap.size) (by repeat (first | with_reducible assumption | with_reducible refine mm2.pDrew ?_ | ((with_reducible refine mm2.set ?_ ?_ _); rotate_left; (simp <;> omega)))) (by repeat (first | with_reducible assumption | with_reducible refine Cd.own.pAlloc ?_ _ | with_reducible refine Cd.own.pDrew ?_ | with_reducible refine Cd.own.pDrewN ?_ _ | ((with_reducible refine Cd.own.pSet ?_ ?_ _); rotate_left; (simp <;> omega)))) ⟨p7, by omega⟩ ⟨⟨(by first | omega | (simp <;> omega)), (by first | (simp [World.setCell]; done) | (simp [World.setCell]; omega) | omega)⟩, ⟨(by first | omega | (simp <;> omega)), (by first | (simp [World.setCell]; done) | (simp [World.setCell]; omega) | omega)⟩, (by first | omega | (simp <;> omega)), (by first | (simp [World.setCell]; done) | (simp [World.setCell]; omega) | omega)⟩

end Go.Proofs.Ytjjeagblgjmcpaa

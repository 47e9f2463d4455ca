/- Letters in flight: two letters alike, two lists of them, the law's own list, and the plain law. -/
import Derived.Test.YtjjeagblgjmcpaaLet
import Derived.Test.YtjjeagblgjmcpaaNn
import Derived.Test.YtjjeagblgjmcpaaLnk
import Derived.Test.YtjjeagblgjmcpaaNt9
import Derived.Test.YtjjeagblgjmcpaaNt8
set_option linter.unusedVariables false
set_option linter.unusedSimpArgs false
namespace Go.Proofs.Ytjjeagblgjmcpaa
open Go.RowKit Go.Sl

set_option maxHeartbeats 400000 in
theorem w9SameLetter_c (cs ds : List Value) (m n : MsgD) (w : World) (h0 : msgC.V w cs m) (h0' : msgC.V w ds n) :
    Calls Try.prog 14 #[.agg cs.toArray, .agg ds.toArray] w fun e w' => e = .returned (.bool (decide (m = n))) ∧ Ext w w' := by
  obtain ⟨v1, rfl, h⟩ := msg_V.1 h0
  obtain ⟨v2, rfl, h'⟩ := msg_V.1 h0'
  clear h0 h0'
  obtain ⟨f, t, l⟩ := m
  obtain ⟨f', t', l'⟩ := n
  simp only at h h' ⊢
  have H := Lib.hid (And.intro h h')
  obtain ⟨a, cap, rfl, h1, h2, hc⟩ := row_open h
  obtain ⟨a', cap', rfl, h1', h2', hc'⟩ := row_open h'
  clear h h' hc hc'
  by_cases hf : f = f'
  · have hn : decide (f = f') = true := by rw [decide_eq_true_iff]; exact hf
    have Hf := Lib.hid hf; clear hf
    by_cases ht : t = t'
    · have hn2 : decide (t = t') = true := by rw [decide_eq_true_iff]; exact ht
      have Ht := Lib.hid ht; clear ht
      cases hl : decide (l = l')
      all_goals
        go_enter Try.func14, Try.ntmps14
        go_wp2_with (go_at_call 31; refine (likeInts_c _ _ l l' _ (rowC.vext H.out.1 (by repeat (first | with_reducible exact Ext.refl _ | with_reducible assumption | with_reducible refine Ext.pAlloc ?_ _ | ((with_reducible refine Ext.pSet ?_ ?_ _); rotate_left; (simp <;> omega)) | with_reducible refine Ext.pDrew ?_ | with_reducible refine Ext.pDrewN ?_ _ | with_reducible refine Ext.trans ?_ (by with_reducible assumption)))) (rowC.vext H.out.2 (by repeat (first | with_reducible exact Ext.refl _ | with_reducible assumption | with_reducible refine Ext.pAlloc ?_ _ | ((with_reducible refine Ext.pSet ?_ ?_ _); rotate_left; (simp <;> omega)) | with_reducible refine Ext.pDrew ?_ | with_reducible refine Ext.pDrewN ?_ _ | with_reducible refine Ext.trans ?_ (by with_reducible assumption))))).mono ?_; rw [hl]; rintro e w1 ⟨rfl, hE⟩)
        go_ret
        exact ⟨retB (by have := Hf.out; have := Ht.out; simp_all), by repeat (first | with_reducible exact Ext.refl _ | with_reducible assumption | with_reducible refine Ext.pAlloc ?_ _ | ((with_reducible refine Ext.pSet ?_ ?_ _); rotate_left; (simp <;> omega)) | with_reducible refine Ext.pDrew ?_ | with_reducible refine Ext.pDrewN ?_ _ | with_reducible refine Ext.trans ?_ (by with_reducible assumption))⟩
    · have hn2 : decide (t = t') = false := by rw [decide_eq_false_iff_not]; exact ht
      have Ht := Lib.hid ht; clear ht
      go_enter Try.func14, Try.ntmps14
      go_wp2
      go_ret
      exact ⟨retB (by simp [Ht.out]), by repeat (first | with_reducible exact Ext.refl _ | with_reducible assumption | with_reducible refine Ext.pAlloc ?_ _ | ((with_reducible refine Ext.pSet ?_ ?_ _); rotate_left; (simp <;> omega)) | with_reducible refine Ext.pDrew ?_ | with_reducible refine Ext.pDrewN ?_ _ | with_reducible refine Ext.trans ?_ (by with_reducible assumption))⟩
  · have hn : decide (f = f') = false := by rw [decide_eq_false_iff_not]; exact hf
    have Hf := Lib.hid hf; clear hf
    go_enter Try.func14, Try.ntmps14
    go_wp2
    go_ret
    exact ⟨retB (by simp [Hf.out]), by repeat (first | with_reducible exact Ext.refl _ | with_reducible assumption | with_reducible refine Ext.pAlloc ?_ _ | ((with_reducible refine Ext.pSet ?_ ?_ _); rotate_left; (simp <;> omega)) | with_reducible refine Ext.pDrew ?_ | with_reducible refine Ext.pDrewN ?_ _ | with_reducible refine Ext.trans ?_ (by with_reducible assumption))⟩

set_option maxRecDepth 20000 in
set_option maxHeartbeats 1600000 in
set_option maxRecDepth 20000 in
theorem w9SameLetters_c (v1 v2 : Value) (l m : List MsgD) (w : World) (h : msgsC.V w [v1] l) (hm : msgsC.V w [v2] m) :
    Calls Try.prog 19 #[v1, v2] w fun e w' => e = .returned (.bool (decide (l = m))) ∧ Ext w w' := by
  obtain ⟨a, cap, rfl, h1, h2, hc⟩ := slice_open (R := msgC) (by decide) h
  obtain ⟨a', cap', rfl, h1', h2', hc'⟩ := slice_open (R := msgC) (by decide) hm
  clear h hm
  by_cases hl : l.length = m.length
  · have hl' : ((l.length : Int) != (m.length : Int)) = false := by rw [bne_eq_false_iff_eq]; omega
    have Hl := Lib.hid hl; clear hl
    go_enter Try.func19, Try.ntmps19
    go_wp2
    go_loopw [5] (fun i wr => ∃ k : Nat, k ≤ l.length ∧ i = .int .i64 k ∧ Hid (l.take k = m.take k) ∧ Ext w wr) (fun i _ => l.length - (intOf i).toNat)
    case atStart => exact ⟨0, Nat.zero_le _, rfl, rfl, Ext.refl _⟩
    case round =>
      obtain ⟨k, hk, rfl, hp, hE⟩ := hrel
      by_cases hlt : k < l.length
      · obtain ⟨b, off, x, c, rfl, hx, hv, hcell⟩ := hc k hlt
        obtain ⟨b', off', y, c', rfl, hy, hv', hcell'⟩ := hc' k (by rw [← Hl.out]; exact hlt)
        clear hc hc'
        have HV := Lib.hid (And.intro (msgC.vext hv hE) (msgC.vext hv' hE))
        obtain ⟨u, rfl, _⟩ := msg_V.1 hv
        obtain ⟨u', rfl, _⟩ := msg_V.1 hv'
        have hc0 : wr.cell? ⟨b, off + k * 3, none⟩ = some (.int .i64 x.1) := cell_ext (hcell 0 _ rfl) hE
        have hc1 : wr.cell? ⟨b, off + k * 3 + 1, none⟩ = some (.int .i64 x.2.1) := cell_ext (hcell 1 _ rfl) hE
        have hc2 : wr.cell? ⟨b, off + k * 3 + 2, none⟩ = some u := cell_ext (hcell 2 _ rfl) hE
        have hd0 : wr.cell? ⟨b', off' + k * 3, none⟩ = some (.int .i64 y.1) := cell_ext (hcell' 0 _ rfl) hE
        have hd1 : wr.cell? ⟨b', off' + k * 3 + 1, none⟩ = some (.int .i64 y.2.1) := cell_ext (hcell' 1 _ rfl) hE
        have hd2 : wr.cell? ⟨b', off' + k * 3 + 2, none⟩ = some u' := cell_ext (hcell' 2 _ rfl) hE
        clear hcell hcell' hv hv'
        have hi1 : (0 : Int) ≤ k := by omega
        have hi2 : (k : Int) < l.length := by omega
        have hi3 : (k : Int) < m.length := by have := Hl.out; omega
        by_cases hxy : x = y
        · have hd : decide (x = y) = true := by simp [hxy]
          have Hxy := Lib.hid (And.intro hxy hd); clear hxy hd
          go_wp2
          go_still_tail 8, (by kernel_rfl)
          change wpList _ _ _ _ _ wr.drew
          go_wp2_with fail
          refine (w9SameLetter_c _ _ x y _ (msgC.vext HV.out.1 (Ext.drew _)) (msgC.vext HV.out.2 (Ext.drew _))).mono ?_
          rw [Hxy.out.2]
          rintro e w1 ⟨rfl, hE1⟩
          go_wp2
          go_roundw
          case rel => exact ⟨k + 1, by omega, by go_num, Lib.hid (by rw [take_snoc hx, take_snoc hy, hp.out, Hxy.out.1]), hE.trans ((Ext.drew _).trans hE1)⟩
          case measure => simp [intOf]; omega
        · have hd : decide (x = y) = false := by simp [hxy]
          have Hxy := Lib.hid (And.intro hxy hd); clear hxy hd
          go_wp2
          go_still_tail 8, (by kernel_rfl)
          change wpList _ _ _ _ _ wr.drew
          go_wp2_with fail
          refine (w9SameLetter_c _ _ x y _ (msgC.vext HV.out.1 (Ext.drew _)) (msgC.vext HV.out.2 (Ext.drew _))).mono ?_
          rw [Hxy.out.2]
          rintro e w1 ⟨rfl, hE1⟩
          go_wp2
          go_ret
          exact ⟨retB (by symm; rw [decide_eq_false_iff_not]; rintro rfl; exact Hxy.out.1 (Option.some.inj (hx.out.symm.trans hy.out))), hE.trans ((Ext.drew _).trans hE1)⟩
      · have he : k = l.length := by omega
        have He := Lib.hid he; clear he
        go_wp2
        go_ret
        exact ⟨retB (by symm; rw [decide_eq_true_iff]; exact take_all hp.out He.out Hl.out), hE⟩
  · have hl' : ((l.length : Int) != (m.length : Int)) = true := by rw [bne_iff_ne]; omega
    go_enter Try.func19, Try.ntmps19
    go_wp2
    go_ret
    exact ⟨retB (by symm; rw [decide_eq_false_iff_not]; intro e; exact hl (by rw [e])), Ext.refl _⟩

/-- A list of letters that the law keeps: its array lies behind nb, and no letter's row lies in the array. -/
def MO (w : World) (nb : Nat) (a : Option Addr) (cap : Nat) (l : List MsgD) : Prop :=
  ∃ xs fps, l.length ≤ cap ∧ cap ≤ 9223372036854775807 ∧ SlAt w 3 a cap xs ∧ elemsO (msgC.O w) xs l fps ∧ (∀ b ∈ fps, nb < b ∧ b ∉ ablk a) ∧ ∀ b ∈ ablk a, nb < b
theorem MO.nil (w : World) (nb : Nat) (hn : nb < w.heap.size) (E : TypeId) (g : Nat) (hg : g = w.heap.size) : MO (w.alloc (.cells #[] E)) nb (some ⟨g, 0, none⟩) 0 [] := by
  subst hg
  exact ⟨[], [], Nat.le_refl _, by omega, SlAt.litAt w E 3 _ rfl, ⟨rfl, rfl⟩, by simp, by simpa [ablk] using hn⟩
theorem MO.view {w : World} {nb : Nat} {a : Option Addr} {cap : Nat} {l : List MsgD} (h : MO w nb a cap l) : msgsC.V w [.slice a l.length cap] l := by
  obtain ⟨xs, fps, h1, h2, h3, h4, -, -⟩ := h
  exact ⟨a, cap, xs, rfl, h1, by simpa [maxLen] using h2, h3.cells, elemsO_view msgC h4⟩
theorem MO.frame {w w' : World} {nb : Nat} {a : Option Addr} {cap : Nat} {l : List MsgD} (h : MO w nb a cap l) (hf : ∀ b, nb < b → b < w.heap.size → w'.heap[b]? = w.heap[b]?) : MO w' nb a cap l := by
  obtain ⟨xs, fps, h1, h2, h3, h4, h5, h6⟩ := h
  exact ⟨xs, fps, h1, h2, h3.frame (fun b hb => hf b (h6 b hb) (h3.lt b hb)), elemsO_frame msgC h4 (fun b hb => hf b (h5 b hb).1 (elemsO_lt msgC h4 b hb)), h5, h6⟩
theorem MO.ext {w w' : World} {nb : Nat} {a : Option Addr} {cap : Nat} {l : List MsgD} (h : MO w nb a cap l) (he : Ext w w') : MO w' nb a cap l := h.frame (fun b _ hb => he.block b hb)
theorem MO.chg {w w' : World} {nb lo hi : Nat} {a : Option Addr} {cap : Nat} {l : List MsgD} (h : MO w nb a cap l) (hC : Chg lo hi w w') (hd : hi ≤ nb + 1) : MO w' nb a cap l := h.frame (fun b h1 h2 => hC.block b h2 (by omega))
/-- One of its letters. -/
theorem MO.parts {w : World} {nb : Nat} {a : Option Addr} {cap k : Nat} {l : List MsgD} {m : MsgD} (h : MO w nb a cap l) (hm : l[k]? = some m) :
    ∃ b off x1 r x2 f1 fx f2, a = some ⟨b, off, none⟩ ∧ SlAt w 3 (some ⟨b, off, none⟩) cap (x1 ++ ([.int .i64 m.1, .int .i64 m.2.1, r] ++ x2)) ∧ elemsO (msgC.O w) x1 (l.take k) f1 ∧ msgC.O w [.int .i64 m.1, .int .i64 m.2.1, r] m fx ∧ elemsO (msgC.O w) x2 (l.drop (k + 1)) f2 ∧
      x1.length = k * 3 ∧ x2.length = (l.length - (k + 1)) * 3 ∧ (∀ z, z ∈ f1 ∨ z ∈ fx ∨ z ∈ f2 → nb < z ∧ z ≠ b) ∧ nb < b := by
  obtain ⟨hk, rfl⟩ := List.getElem?_eq_some_iff.1 hm
  obtain ⟨xs, fps, h1, h2, h3, h4, h5, h6⟩ := h
  have hsp : l = l.take k ++ l[k] :: l.drop (k + 1) := by rw [← List.drop_eq_getElem_cons hk, List.take_append_drop]
  rw [hsp] at h4
  obtain ⟨x1, y, f1, fy, rfl, rfl, he1, c, x2, fx, f2, rfl, rfl, hc, he2⟩ := (elemsO_append msgC).1 h4
  have hlx1 : x1.length = k * 3 := by rw [elemsV_len msgC (elemsO_view msgC he1), List.length_take, Nat.min_eq_left (by omega)]; rfl
  have hlx2 : x2.length = (l.length - (k + 1)) * 3 := by rw [elemsV_len msgC (elemsO_view msgC he2), List.length_drop]; rfl
  have hlc : c.length = 3 := msgC.len (msgC.view hc)
  obtain ⟨r, rfl, -⟩ := msg_V.1 (msgC.view hc)
  obtain ⟨b, off, rfl⟩ := SlAt.some h3 (by rw [List.length_append, List.length_append]; omega)
  refine ⟨b, off, x1, r, x2, f1, fx, f2, rfl, h3, he1, hc, he2, hlx1, hlx2, fun z hz => ?_, h6 b (by simp [ablk])⟩
  have := h5 z (by rcases hz with hz | hz | hz <;> simp [hz])
  exact ⟨this.1, fun e => this.2 (by simp [ablk, e])⟩
/-- A list with letters behind it. -/
theorem MO.of_app {w0 w' : World} {nb n : Nat} {a' : Option Addr} {cap' : Nat} {xs : List Value} {l : List MsgD} {f : List Nat} (hs : SlAt w' 3 a' cap' xs) (he : elemsO (msgC.O w0) xs l f) (hf : ∀ b ∈ f, w'.heap[b]? = w0.heap[b]?) (hn : n = l.length) (hc : n ≤ cap') (hm : cap' ≤ 9223372036854775807)
    (h1 : ∀ b ∈ f, nb < b ∧ b ∉ ablk a') (h2 : ∀ b ∈ ablk a', nb < b) : MO w' nb a' cap' l :=
  ⟨xs, f, by omega, hm, hs, elemsO_frame msgC he hf, h1, h2⟩
theorem opwp_MO {P : Program} {w : World} {o : Oper} {ac : Act} {K : Act → World → Prop} {Q : Exit → Act → World → Prop} (s x : Operand) (t : TypeId)
    (ho : o.op = .call { callee := .builtin .append, args := #[s, x], argTypes := #[t, t] })
    (e : TypeId) (z : Value) (bytes : Nat) (ht : P.underlying t = some (.slice e)) (hinfo : (P.info? e).map (fun i => (i.zero, i.size, i.bytes)) = some (some z, 3, bytes)) (hzs : z.cells.size = 3)
    {nb cap : Nat} {a : Option Addr} {l : List MsgD} {m : MsgD} {fm : List Nat} {ms : List Value} (hO : MO w nb a cap l) (hs : ac.eval s = .slice a l.length cap)
    (ax : Option Addr) (c : Nat) (hx : ac.eval x = .slice ax 1 c) (hxc : CellsAt w ax ms) (hxm : msgC.O w ms m fm) (hfm : ∀ b ∈ fm, nb < b ∧ b ∉ ablk a) (hnw : nb < w.heap.size)
    (hbytes : (l.length + 1) * bytes ≤ 140737488355328 ∧ l.length + 1 ≤ 9223372036854775807)
    (h : ∀ a' cap' w', MO w' nb a' cap' (l ++ [m]) → AppW w w' a a' → (∀ b ∈ ablk a', b < w'.heap.size) → K (ac.put o.dst (.slice a' (l.length + 1) cap')) w') : Oper.wp P o ac w K Q := by
  obtain ⟨xs, fps, h1, h2, h3, h4, h5, h6⟩ := hO
  have hml : ms.length = 3 := msgC.len (msgC.view hxm)
  have hE1 : elemsO (msgC.O w) ms [m] fm := ⟨ms, [], fm, [], by simp, by simp, hxm, ⟨rfl, rfl⟩⟩
  refine opwp_append_sl s x t ho e z 3 bytes ht hinfo hzs a l.length cap xs hs (elemsV_len msgC (elemsO_view msgC h4)) h3 h1 h2 ax 1 c ms hx (by omega) hxc (elemsO_one hE1) hbytes ?_
  intro a' cap' w' hs' hle hm hA
  have hnf : ∀ b ∈ fps ++ fm, nb < b ∧ b ∉ ablk a ∧ b < w.heap.size := fun b hb => by
    rcases List.mem_append.1 hb with h9 | h9
    · exact ⟨(h5 b h9).1, (h5 b h9).2, elemsO_lt msgC h4 b h9⟩
    · exact ⟨(hfm b h9).1, (hfm b h9).2, msgC.lt hxm b h9⟩
  refine h a' cap' w' (MO.of_app (n := l.length + 1) hs' (elemsO_join h4 hE1) (fun b hb => hA.block b (hnf b hb).2.2 (hnf b hb).2.1) (by simp) hle hm (fun b hb => ⟨(hnf b hb).1, fun h9 => ?_⟩) (fun b hb => ?_)) hA (fun b hb => hs'.lt b hb)
  · rcases hA.mem h9 with h8 | ⟨h8, _⟩
    · exact (hnf b hb).2.1 h8
    · have := (hnf b hb).2.2; omega
  · rcases hA.mem hb with h8 | ⟨h8, _⟩
    · exact h6 b h8
    · omega
theorem wpList_MO {P : Program} {w : World} {ops : Array Oper} {rest : List Oper} {o : Oper} {ac : Act} {Q : Exit → Act → World → Prop} (hgd : o.guard = none) (s x : Operand) (t : TypeId)
    (ho : o.op = .call { callee := .builtin .append, args := #[s, x], argTypes := #[t, t] })
    (e : TypeId) (z : Value) (bytes : Nat) (ht : P.underlying t = some (.slice e)) (hinfo : (P.info? e).map (fun i => (i.zero, i.size, i.bytes)) = some (some z, 3, bytes)) (hzs : z.cells.size = 3)
    {nb cap : Nat} {a : Option Addr} {l : List MsgD} {m : MsgD} {fm : List Nat} {ms : List Value} (hO : MO w nb a cap l) (hs : ac.eval s = .slice a l.length cap)
    (ax : Option Addr) (c : Nat) (hx : ac.eval x = .slice ax 1 c) (hxc : CellsAt w ax ms) (hxm : msgC.O w ms m fm) (hfm : ∀ b ∈ fm, nb < b ∧ b ∉ ablk a) (hnw : nb < w.heap.size)
    (hbytes : (l.length + 1) * bytes ≤ 140737488355328 ∧ l.length + 1 ≤ 9223372036854775807)
    (h : ∀ a' cap' w', MO w' nb a' cap' (l ++ [m]) → AppW w w' a a' → (∀ b ∈ ablk a', b < w'.heap.size) → wpList P ops Q rest (ac.put o.dst (.slice a' (l.length + 1) cap')) w') : wpList P ops Q (o :: rest) ac w := by
  refine wpList_plain hgd fun K hK => ?_
  exact opwp_MO s x t ho e z bytes ht hinfo hzs hO hs ax c hx hxc hxm hfm hnw hbytes (fun a' cap' w' h1 h2 h3 => hK _ _ (h a' cap' w' h1 h2 h3))

/-! The plain law: what is in flight over one cut link. -/
theorem fl_ok {l : List MsgD} {ks : List LinkD} (hk : LinksIn ks) (hm : ∀ m ∈ l, msgOk m = true) (hl : l.length ≤ 60) : netOk (l, ks) = true := netOk_iff.2 ⟨⟨hl, List.all_eq_true.2 hm⟩, hk⟩
theorem fl_at {l : List MsgD} {ks : List LinkD} {k : Nat} (hk : k < l.length) : thereAt (l, ks) k = true := by
  simp only [thereAt, inB, Bool.and_eq_true, decide_eq_true_eq]; omega
theorem fl_nat {l : List MsgD} {ks : List LinkD} : thereAt (l, ks) l.length = false := by
  rw [Bool.eq_false_iff]
  simp only [thereAt, inB, ne_eq, Bool.and_eq_true, decide_eq_true_eq]; omega
theorem fl_msg {l : List MsgD} {ks : List LinkD} {k : Nat} (hk : k < l.length) : msgAt (l, ks) k = l[k] := by
  simp [msgAt, List.getD_eq_getElem?_getD, List.getElem?_eq_getElem hk]
theorem fl_lost {l : List MsgD} {ks : List LinkD} (hd : netOk (l, ks) = true) {k : Nat} (hk : k < l.length) : lost (l, ks) k = ((l.eraseIdx k, ks), true) := by
  unfold lost; rw [if_pos hd, if_pos (fl_at hk)]; simp
theorem fl_lost0 {l : List MsgD} {ks : List LinkD} (hd : netOk (l, ks) = true) : lost (l, ks) l.length = ((l, ks), false) := by
  unfold lost; rw [if_pos hd, if_neg (by rw [fl_nat]; simp)]
theorem fl_doubled {l : List MsgD} {ks : List LinkD} (hd : netOk (l, ks) = true) (h60 : l.length < 60) {k : Nat} {m : MsgD} (hm : l[k]? = some m) : doubled (l, ks) k = ((l ++ [m], ks), true) := by
  obtain ⟨hk, rfl⟩ := List.getElem?_eq_some_iff.1 hm
  unfold doubled; rw [if_pos hd, if_pos ⟨fl_at hk, by show l.length ≠ 60; omega⟩]
  simp [List.getD_eq_getElem?_getD, List.getElem?_eq_getElem hk]
theorem fl_doubled0 {l : List MsgD} {ks : List LinkD} (hd : netOk (l, ks) = true) : doubled (l, ks) l.length = ((l, ks), false) := by
  unfold doubled; rw [if_pos hd, if_neg (by rw [fl_nat]; simp)]
theorem fl_sent {l : List MsgD} {ks : List LinkD} (hd : netOk (l, ks) = true) (h60 : l.length < 60) {m : MsgD} (hm : msgOk m = true) : sent (l, ks) m = ((l ++ [m], ks), true) := by
  unfold sent; rw [if_pos ⟨hd, hm⟩, if_neg (by show ¬ l.length = 60; omega)]
/-- A letter runs over the cut link. -/
def shutB (a b : Int) (m : MsgD) : Bool := (decide (m.1 = a) && decide (m.2.1 = b)) || (decide (m.1 = b) && decide (m.2.1 = a))
theorem shut_mem {a b : Int} {m : MsgD} (hab : a ≠ b) : (linkOf m.1 m.2.1 ∈ [linkOf a b]) ↔ shutB a b m = true := by
  rw [List.mem_singleton]
  simp only [shutB, linkOf, Bool.or_eq_true, Bool.and_eq_true, decide_eq_true_eq]
  constructor
  · intro h
    split at h <;> split at h <;> simp only [Prod.mk.injEq] at h <;> omega
  · rintro (⟨h1, h2⟩ | ⟨h1, h2⟩)
    · rw [h1, h2]
    · rw [h1, h2]
      split <;> split <;> first | rfl | (exfalso; omega) | (simp only [Prod.mk.injEq]; omega)
theorem fl_handedS {l : List MsgD} {a b : Int} (hab : a ≠ b) (hd : netOk (l, [linkOf a b]) = true) {k : Nat} {m : MsgD} (hm : l[k]? = some m) (h : shutB a b m = true) :
    handed (l, [linkOf a b]) k = ((l.eraseIdx k, [linkOf a b]), (0, 0, []), false) := by
  obtain ⟨hk, rfl⟩ := List.getElem?_eq_some_iff.1 hm
  unfold handed
  rw [if_pos hd, if_pos (fl_at hk), fl_msg hk, if_pos ((shut_mem hab).2 h)]; simp
theorem fl_handedM {l : List MsgD} {a b : Int} (hab : a ≠ b) (hd : netOk (l, [linkOf a b]) = true) {k : Nat} {m : MsgD} (hm : l[k]? = some m) (h : shutB a b m = false) :
    handed (l, [linkOf a b]) k = ((l.eraseIdx k, [linkOf a b]), m, true) := by
  obtain ⟨hk, rfl⟩ := List.getElem?_eq_some_iff.1 hm
  unfold handed
  rw [if_pos hd, if_pos (fl_at hk), fl_msg hk, if_neg (fun h9 => by rw [(shut_mem hab).1 h9] at h; cases h)]; simp
theorem fl_handed0 {l : List MsgD} {ks : List LinkD} (hd : netOk (l, ks) = true) : handed (l, ks) l.length = ((l, ks), (0, 0, []), false) := by
  unfold handed; rw [if_pos hd, if_neg (by rw [fl_nat]; simp)]
theorem nmOwn.netO {lo hi : Nat} {w : World} {u v r : Value} {d : NetD} {m : MsgD} (h : nmOwn lo hi w u v r d m) : netC.own lo hi w [u, v] d := by
  obtain ⟨p, q, h1, h2, h3, h4⟩ := h
  exact ⟨p, h1, (List.nodup_append.1 h3).1, fun b hb => h4 b (List.mem_append_left _ hb)⟩
theorem MO.lt {w : World} {nb : Nat} {a : Option Addr} {cap : Nat} {l : List MsgD} (h : MO w nb a cap l) : ∀ b ∈ ablk a, nb < b ∧ b < w.heap.size := by
  obtain ⟨xs, fps, h1, h2, h3, h4, h5, h6⟩ := h
  exact fun b hb => ⟨h6 b hb, h3.lt b hb⟩
theorem MO.cells {w : World} {nb b off cap k : Nat} {l : List MsgD} {m : MsgD} (h : MO w nb (some ⟨b, off, none⟩) cap l) (hm : l[k]? = some m) :
    ∃ r, w.cell? ⟨b, off + k * 3, none⟩ = some (.int .i64 m.1) ∧ w.cell? ⟨b, off + k * 3 + 1, none⟩ = some (.int .i64 m.2.1) ∧ w.cell? ⟨b, off + k * 3 + 2, none⟩ = some r ∧ ∃ fx, msgC.O w [.int .i64 m.1, .int .i64 m.2.1, r] m fx ∧ ∀ z ∈ fx, nb < z ∧ z ∉ ablk (some ⟨b, off, none⟩) := by
  obtain ⟨b', off', x1, r, x2, f1, fx, f2, e, hS, he1, hc, he2, hx1, hx2, hf, hb⟩ := h.parts hm
  cases e
  have hh : ∀ (j : Nat) (u : Value), ([.int .i64 m.1, .int .i64 m.2.1, r] : List Value)[j]? = some u → w.cell? ⟨b, off + (k * 3 + j), none⟩ = some u := fun j u hj => by
    obtain ⟨b1, o1, e1, hc1⟩ := hS.cells (k * 3 + j) u (by
      rw [List.getElem?_append_right (by omega), hx1, Nat.add_sub_cancel_left, List.getElem?_append_left (by have := (List.getElem?_eq_some_iff.1 hj).1; exact this)]; exact hj)
    cases e1
    exact hc1
  exact ⟨r, hh 0 _ rfl, hh 1 _ rfl, hh 2 _ rfl, fx, hc, fun z hz => ⟨(hf z (.inr (.inl hz))).1, by simpa [ablk] using (hf z (.inr (.inl hz))).2⟩⟩
/-- A net that is new: apart from the law's boxes and its list. -/
def NN (w : World) (nb : Nat) (oa : Option Addr) (u v : Value) (d : NetD) : Prop := ∃ fp, netC.O w [u, v] d fp ∧ ∀ b ∈ fp, nb < b ∧ b ∉ ablk oa
theorem NN.ext {w w' : World} {nb : Nat} {oa : Option Addr} {u v : Value} {d : NetD} (h : NN w nb oa u v d) (he : Ext w w') : NN w' nb oa u v d := let ⟨fp, h1, h2⟩ := h; ⟨fp, netC.O_ext h1 he, h2⟩
theorem NN.of {lo hi : Nat} {w w0 : World} {nb oc : Nat} {oa : Option Addr} {u v : Value} {d : NetD} {l : List MsgD} (h : netC.own lo hi w [u, v] d) (hM : MO w0 nb oa oc l) (h1 : w0.heap.size ≤ lo) (h2 : nb < lo) : NN w nb oa u v d := by
  obtain ⟨fp, h3, -, h4⟩ := h
  exact ⟨fp, h3, fun b hb => ⟨by have := h4 b hb; omega, fun h9 => by have := hM.lt b h9; have := h4 b hb; omega⟩⟩
/-- The memory of the law: the dice, the net's box, the list. -/
structure FL (W : World) (a : Option Addr) (n cc db nb : Nat) (w : World) (u v : Value) (d : NetD) (oa : Option Addr) (oc : Nat) (l : List MsgD) : Prop where
  dd : Dd W a n cc db w
  net : Bx w nb [u, v]
  no : NN w nb oa u v d
  mo : MO w nb oa oc l
  lt : db < nb
section
variable {W w w' : World} {a oa : Option Addr} {n cc db nb lo hi oc : Nat} {u v : Value} {d : NetD} {l : List MsgD}
theorem FL.view (h : FL W a n cc db nb w u v d oa oc l) : netC.V w [u, v] d := let ⟨_, hO, _⟩ := h.no; netC.view hO
theorem FL.size (h : FL W a n cc db nb w u v d oa oc l) : nb < w.heap.size := h.net.lt
theorem FL.grow (h : FL W a n cc db nb w u v d oa oc l) (he : Ext w w') : FL W a n cc db nb w' u v d oa oc l := ⟨h.dd.grow he, h.net.ext he, h.no.ext he, h.mo.ext he, h.lt⟩
theorem NN.frame (h : NN w nb oa u v d) (hf : ∀ b, nb < b → b < w.heap.size → b ∉ ablk oa → w'.heap[b]? = w.heap[b]?) : NN w' nb oa u v d :=
  let ⟨fp, h1, h2⟩ := h; ⟨fp, netC.frame h1 (fun b hb => hf b (h2 b hb).1 (netC.lt h1 b hb) (h2 b hb).2), h2⟩
theorem FL.dice (h : FL W a n cc db nb w u v d oa oc l) (hC : Chg db (db + 1) w w') (hD : Dd W a n cc db w') : FL W a n cc db nb w' u v d oa oc l := by
  have := h.lt
  exact ⟨hD, h.net.chg hC (by omega), h.no.frame (fun b h1 h2 _ => hC.block b h2 (by omega)), h.mo.chg hC (by omega), h.lt⟩
theorem FL.put (h : FL W a n cc db nb w u v d oa oc l) {u' v' : Value} {d' : NetD} (hO : NN w nb oa u' v' d') : FL W a n cc db nb ((w.setCell ⟨nb, 0, none⟩ u').setCell ⟨nb, 1, none⟩ v') u' v' d' oa oc l := by
  have hC : Chg nb (nb + 1) w ((w.setCell ⟨nb, 0, none⟩ u').setCell ⟨nb, 1, none⟩ v') := (Chg.setCell w ⟨nb, 0, none⟩ u' (Nat.le_refl _) (Nat.lt_succ_self _)).trans (Chg.setCell _ ⟨nb, 1, none⟩ v' (Nat.le_refl _) (Nat.lt_succ_self _))
  have := h.lt
  exact ⟨h.dd.chg hC (by omega), Bx.set21 (Bx.set20 h.net u') v', hO.frame (fun b h1 h2 _ => hC.block b h2 (by omega)), h.mo.chg hC (by omega), h.lt⟩
theorem FL.app (h : FL W a n cc db nb w u v d oa oc l) {a' : Option Addr} {c' : Nat} {l' : List MsgD} (hA : AppW w w' oa a') (hM : MO w' nb a' c' l') : FL W a n cc db nb w' u v d a' c' l' := by
  have hC : Chg (nb + 1) w.heap.size w w' := hA.chg (fun b hb => h.mo.lt b hb)
  have := h.lt
  obtain ⟨fp, h1, h2⟩ := h.no
  refine ⟨h.dd.chg hC (by omega), h.net.chg hC (by omega), ⟨fp, netC.frame h1 (fun b hb => hA.block b (netC.lt h1 b hb) (h2 b hb).2), fun b hb => ⟨(h2 b hb).1, fun h9 => ?_⟩⟩, hM, h.lt⟩
  rcases hA.mem h9 with h8 | ⟨h8, _⟩
  · exact (h2 b hb).2 h8
  · have := netC.lt h1 b hb; omega
theorem FL.fresh (h : FL W a n cc db nb w u v d oa oc l) {a' : Option Addr} {c' : Nat} {l' : List MsgD} (he : Ext w w') (hM : MO w' nb a' c' l') (ha : ∀ b ∈ ablk a', w.heap.size ≤ b) : FL W a n cc db nb w' u v d a' c' l' := by
  obtain ⟨fp, h1, h2⟩ := h.no
  exact ⟨h.dd.grow he, h.net.ext he, ⟨fp, netC.O_ext h1 he, fun b hb => ⟨(h2 b hb).1, fun h9 => by have := ha b h9; have := netC.lt h1 b hb; omega⟩⟩, hM, h.lt⟩
end
theorem fl_cut {a b : Int} (h : apart a b = true) : cutOff ([], []) a b = (([], [linkOf a b]), true) := by
  have h0 : netOk ([], []) = true := by rfl
  unfold cutOff
  rw [if_pos h0, if_pos ⟨h, by simp⟩]; simp [cutPos]
theorem fl_links {a b : Int} (h : apart a b = true) : LinksIn [linkOf a b] := by
  simp only [apart, nodeOk, inB, Bool.and_eq_true, Bool.not_eq_true', decide_eq_true_eq, decide_eq_false_iff_not] at h
  refine ⟨fun x hx => ?_, List.pairwise_singleton _ _⟩
  rw [List.mem_singleton.1 hx]
  exact linkOf_ok ⟨by omega, by omega⟩ ⟨by omega, by omega⟩ h.2
end Go.Proofs.Ytjjeagblgjmcpaa

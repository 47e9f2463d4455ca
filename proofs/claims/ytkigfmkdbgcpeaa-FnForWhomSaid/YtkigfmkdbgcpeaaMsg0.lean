/- Messages: how they read. -/
import Derived.Test.YtkigfmkdbgcpeaaRow3
set_option linter.unusedVariables false
set_option linter.unusedSimpArgs false
namespace Go.Sl
open Go.RowKit

/-- One cell. -/
theorem one_cell {cs : List Value} (h : cs.length = 1) : ∃ v, cs = [v] := by
  match cs, h with
  | [v], _ => exact ⟨v, rfl⟩

def msgC : Cd (Int × Int × List Int) := prodC intC (prodC intC rowC)

theorem msg_V {w : World} {cs : List Value} {m : Int × Int × List Int} : msgC.V w cs m ↔ ∃ v, cs = [.int .i64 m.1, .int .i64 m.2.1, v] ∧ rowC.V w [v] m.2.2 := by
  constructor
  · rintro ⟨c, d, rfl, rfl, c', d', rfl, rfl, h⟩
    obtain ⟨v, rfl⟩ := one_cell (rowC.len h)
    exact ⟨v, rfl, h⟩
  · rintro ⟨v, rfl, h⟩
    exact ⟨[_], [_, v], rfl, rfl, [_], [v], rfl, rfl, h⟩

theorem msg_own {lo hi : Nat} {w : World} {cs : List Value} {m : Int × Int × List Int} : msgC.own lo hi w cs m ↔ ∃ v, cs = [.int .i64 m.1, .int .i64 m.2.1, v] ∧ rowC.own lo hi w [v] m.2.2 := by
  constructor
  · rintro ⟨fp, ⟨c, d, f, g, rfl, rfl, ⟨rfl, rfl⟩, c', d', f', g', rfl, rfl, ⟨rfl, rfl⟩, h⟩, hn, hb⟩
    obtain ⟨v, rfl⟩ := one_cell (rowC.len (rowC.view h))
    exact ⟨v, rfl, _, h, by simpa using hn, by simpa using hb⟩
  · rintro ⟨v, rfl, fp, h, hn, hb⟩
    exact ⟨fp, ⟨[_], [_, v], [], fp, rfl, rfl, ⟨rfl, rfl⟩, [_], [v], [], fp, rfl, rfl, ⟨rfl, rfl⟩, h⟩, hn, hb⟩

end Go.Sl
namespace Go.Proofs.Ytkigfmkdbgcpeaa
open Go.RowKit Go.Sl

abbrev MsgD := Int × Int × List Int
def msgOk (m : MsgD) : Bool := apart m.1 m.2.1 && decide (0 < m.2.2.length) && rowOk m.2.2

set_option maxHeartbeats 800000 in
theorem implMsgOk_c (cs : List Value) (m : MsgD) (w : World) (h : msgC.V w cs m) :
    Calls Try.prog 60 #[.agg cs.toArray] w fun e w' => e = .returned (.bool (msgOk m)) ∧ Ext w w' := by
  obtain ⟨v, rfl, hr⟩ := msg_V.1 h
  clear h; have h := hr; clear hr
  obtain ⟨f, t, l⟩ := m
  simp only at h
  have H := Lib.hid h
  obtain ⟨a, cap, rfl, h1, h2, hc⟩ := row_open h
  clear h hc
  cases ha : apart f t
  · go_enter Try.func60, Try.ntmps60
    go_wp2_with (go_at_call 61; refine (apart_c _ _ _).mono ?_; rintro e w' ⟨rfl, rfl⟩)
    go_ret
    exact ⟨retB (by simp [msgOk, ha]), Ext.alloc _ _⟩
  · by_cases hl : 0 < l.length
    · go_enter Try.func60, Try.ntmps60
      go_wp2_with (first
        | (go_at_call 61; refine (apart_c _ _ _).mono ?_; rintro e w' ⟨rfl, rfl⟩)
        | (go_at_call 94; refine (implRowOk_c _ l _ (rowC.vext H.out (Ext.alloc _ _))).mono ?_; rintro e w' ⟨rfl, rfl⟩))
      go_ret
      exact ⟨retB (by simp [msgOk, ha, hl]), Ext.alloc _ _⟩
    · go_enter Try.func60, Try.ntmps60
      go_wp2_with (first
        | (go_at_call 61; refine (apart_c _ _ _).mono ?_; rintro e w' ⟨rfl, rfl⟩))
      go_ret
      exact ⟨retB (by simp [msgOk, ha, hl]), Ext.alloc _ _⟩

set_option maxHeartbeats 800000 in
theorem specMsgOk_c (cs : List Value) (m : MsgD) (w : World) (h : msgC.V w cs m) :
    Calls Try.prog 55 #[.agg cs.toArray] w fun e w' => e = .returned (.bool (msgOk m)) ∧ Ext w w' := by
  obtain ⟨v, rfl, hr⟩ := msg_V.1 h
  clear h; have h := hr; clear hr
  obtain ⟨f, t, l⟩ := m
  simp only at h
  have H := Lib.hid h
  obtain ⟨a, cap, rfl, h1, h2, hc⟩ := row_open h
  clear h hc
  cases hf : nodeOk f
  · go_enter Try.func55, Try.ntmps55
    go_wp2_with (go_at_call 56; refine (l5Node_c _ _).mono ?_; rintro e w' ⟨rfl, rfl⟩)
    go_ret
    exact ⟨retB (by simp [msgOk, apart, hf]), Ext.alloc _ _⟩
  · cases ht : nodeOk t
    · go_enter Try.func55, Try.ntmps55
      go_wp2_with (go_at_call 56; refine (l5Node_c _ _).mono ?_; rintro e w' ⟨rfl, rfl⟩)
      go_ret
      exact ⟨retB (by simp [msgOk, apart, ht]), Ext.alloc _ _⟩
    · by_cases hft : f = t
      · have hn : (f != t) = false := by rw [bne_eq_false_iff_eq]; exact hft
        have Hft := Lib.hid hft; clear hft
        go_enter Try.func55, Try.ntmps55
        go_wp2_with (go_at_call 56; refine (l5Node_c _ _).mono ?_; rintro e w' ⟨rfl, rfl⟩)
        go_ret
        exact ⟨retB (by simp [msgOk, apart, Hft.out]), Ext.alloc _ _⟩
      · have hn : (f != t) = true := by rw [bne_iff_ne]; exact hft
        have Hft := Lib.hid hft; clear hft
        by_cases hl : 0 < l.length
        · go_enter Try.func55, Try.ntmps55
          go_wp2_with (first
            | (go_at_call 56; refine (l5Node_c _ _).mono ?_; rintro e w' ⟨rfl, rfl⟩)
            | (go_at_call 91; refine (specRowOk_c _ l _ (rowC.vext H.out (Ext.alloc _ _))).mono ?_; rintro e w' ⟨rfl, rfl⟩))
          go_ret
          exact ⟨retB (by simp [msgOk, apart, hf, ht, Hft.out, hl]), Ext.alloc _ _⟩
        · go_enter Try.func55, Try.ntmps55
          go_wp2_with (first
            | (go_at_call 56; refine (l5Node_c _ _).mono ?_; rintro e w' ⟨rfl, rfl⟩))
          go_ret
          exact ⟨retB (by simp [msgOk, apart, hf, ht, Hft.out, hl]), Ext.alloc _ _⟩

set_option maxHeartbeats 400000 in
theorem szMsg_c (cs : List Value) (m : MsgD) (q : Int) (w : World) (h : msgC.V w cs m) (h0 : -1 ≤ q) (h1 : q ≤ 1048576) :
    Calls Try.prog 30 #[.agg cs.toArray, .int .i64 q] w fun e w' => e = .returned (.int .i64 (szI m.2.2.length q)) ∧ Ext w w' := by
  obtain ⟨v, rfl, hr⟩ := msg_V.1 h
  clear h; have h := hr; clear hr
  obtain ⟨f, t, l⟩ := m
  simp only at h ⊢
  have H := Lib.hid h; clear h
  go_enter Try.func30, Try.ntmps30
  by_cases hn : q - l.length < 0
  · have hs : szI l.length q = -1 := by simp [szI, hn]
    rw [hs]; have Hs := Lib.hid hs; clear hs
    go_wp2_with (go_at_call 75; refine (szInt64S_c _ l _ _ (rowC.vext H.out (Ext.alloc _ _)) (by omega) (by omega)).mono ?_; rw [Hs.out]; rintro e w' ⟨rfl, rfl⟩)
    go_ret
    exact ⟨rfl, Ext.alloc _ _⟩
  · have hs : szI l.length q = q - l.length := by simp [szI, hn]
    rw [hs]; have Hs := Lib.hid hs; clear hs
    go_wp2_with (go_at_call 75; refine (szInt64S_c _ l _ _ (rowC.vext H.out (Ext.alloc _ _)) (by omega) (by omega)).mono ?_; rw [Hs.out]; rintro e w' ⟨rfl, rfl⟩)
    go_ret
    exact ⟨rfl, Ext.alloc _ _⟩

set_option maxHeartbeats 400000 in
theorem toMsg_c (cs : List Value) (m : MsgD) (w : World) (h : msgC.V w cs m) (hs : m.2.2.length ≤ 2097152) :
    Calls Try.prog 32 #[.agg cs.toArray] w fun e w' => ∃ v, e = .returned (.agg #[.int .i64 m.1, .int .i64 m.2.1, v]) ∧ Ext w w' ∧ msgC.own w.heap.size w'.heap.size w' [.int .i64 m.1, .int .i64 m.2.1, v] m := by
  obtain ⟨v, rfl, hr⟩ := msg_V.1 h
  clear h; have h := hr; clear hr
  obtain ⟨f, t, l⟩ := m
  simp only at h hs ⊢
  have H := Lib.hid h
  obtain ⟨a, cap, rfl, h1, h2, hc⟩ := row_open h
  clear h hc
  go_enter Try.func32, Try.ntmps32
  go_wp2_with (go_at_call 78; refine (toInt64S_c _ l _ (rowC.vext H.out (by repeat (first | with_reducible exact Ext.refl _ | with_reducible assumption | with_reducible refine Ext.pAlloc ?_ _ | ((with_reducible refine Ext.pSet ?_ ?_ _); rotate_left; (simp <;> omega)) | with_reducible refine Ext.pDrew ?_ | with_reducible refine Ext.pDrewN ?_ _ | with_reducible refine Ext.trans ?_ (by with_reducible assumption)))) hs).mono ?_; rintro e w1 ⟨v', rfl, hE, hO⟩; obtain ⟨a', cap', rfl, hh⟩ := row_take hO; clear hh; have HO := Lib.hid hO; clear hO; obtain ⟨hc, hf, hz⟩ := hE.rules)
  refine bodyPost_ret (v := .agg #[.int .i64 f, .int .i64 t, .slice a' l.length cap']) (by simp [results, Try.results32, go_sem, hc]) rfl ⟨_, rfl, ?_, ?_⟩
  · repeat (first | with_reducible exact Ext.refl _ | with_reducible assumption | with_reducible refine Ext.pAlloc ?_ _ | ((with_reducible refine Ext.pSet ?_ ?_ _); rotate_left; (simp <;> omega)) | with_reducible refine Ext.pDrew ?_ | with_reducible refine Ext.pDrewN ?_ _ | with_reducible refine Ext.trans ?_ (by with_reducible assumption))
  · refine msg_own.2 ⟨_, rfl, ?_⟩
    refine Cd.own.wide (lo := w.heap.size + 3) (hi := w1.heap.size) ?_ (by omega) (by simp)
    repeat (refine own_set ?_ (by simp <;> omega) _)
    exact HO.out.wide (by simp) (Nat.le_refl _)

set_option maxHeartbeats 400000 in
theorem eqMsg_c (cs ds : List Value) (m n : MsgD) (w : World) (h0 : msgC.V w cs m) (h0' : msgC.V w ds n) :
    Calls Try.prog 34 #[.agg cs.toArray, .agg ds.toArray] w fun e w' => e = .returned (.bool (decide (m = n))) ∧ Ext w w' := by
  obtain ⟨v1, rfl, h⟩ := msg_V.1 h0
  obtain ⟨v2, rfl, h'⟩ := msg_V.1 h0'
  clear h0 h0'
  obtain ⟨f, t, l⟩ := m
  obtain ⟨f', t', l'⟩ := n
  simp only at h h' ⊢
  have H := Lib.hid (And.intro h h')
  obtain ⟨a, cap, rfl, h1, h2, hc⟩ := row_open h
  obtain ⟨a', cap', rfl, h1', h2', hc'⟩ := row_open h'
  clear h h' hc hc'
  by_cases hf : f = f'
  · have hn : (f != f') = false := by rw [bne_eq_false_iff_eq]; exact hf
    have Hf := Lib.hid hf; clear hf
    by_cases ht : t = t'
    · have hn2 : (t != t') = false := by rw [bne_eq_false_iff_eq]; exact ht
      have Ht := Lib.hid ht; clear ht
      cases hl : decide (l = l')
      all_goals
        go_enter Try.func34, Try.ntmps34
        go_wp2_with (go_at_call 26; refine (eqInt64S_c _ _ l l' _ (rowC.vext H.out.1 (by repeat (first | with_reducible exact Ext.refl _ | with_reducible assumption | with_reducible refine Ext.pAlloc ?_ _ | ((with_reducible refine Ext.pSet ?_ ?_ _); rotate_left; (simp <;> omega)) | with_reducible refine Ext.pDrew ?_ | with_reducible refine Ext.pDrewN ?_ _ | with_reducible refine Ext.trans ?_ (by with_reducible assumption)))) (rowC.vext H.out.2 (by repeat (first | with_reducible exact Ext.refl _ | with_reducible assumption | with_reducible refine Ext.pAlloc ?_ _ | ((with_reducible refine Ext.pSet ?_ ?_ _); rotate_left; (simp <;> omega)) | with_reducible refine Ext.pDrew ?_ | with_reducible refine Ext.pDrewN ?_ _ | with_reducible refine Ext.trans ?_ (by with_reducible assumption))))).mono ?_; rw [hl]; rintro e w1 ⟨rfl, hE⟩)
        go_ret
        exact ⟨retB (by have := Hf.out; have := Ht.out; simp_all), by repeat (first | with_reducible exact Ext.refl _ | with_reducible assumption | with_reducible refine Ext.pAlloc ?_ _ | ((with_reducible refine Ext.pSet ?_ ?_ _); rotate_left; (simp <;> omega)) | with_reducible refine Ext.pDrew ?_ | with_reducible refine Ext.pDrewN ?_ _ | with_reducible refine Ext.trans ?_ (by with_reducible assumption))⟩
    · have hn2 : (t != t') = true := by rw [bne_iff_ne]; exact ht
      have Ht := Lib.hid ht; clear ht
      go_enter Try.func34, Try.ntmps34
      go_wp2
      go_ret
      exact ⟨retB (by simp [Ht.out]), by repeat (first | with_reducible exact Ext.refl _ | with_reducible assumption | with_reducible refine Ext.pAlloc ?_ _ | ((with_reducible refine Ext.pSet ?_ ?_ _); rotate_left; (simp <;> omega)) | with_reducible refine Ext.pDrew ?_ | with_reducible refine Ext.pDrewN ?_ _ | with_reducible refine Ext.trans ?_ (by with_reducible assumption))⟩
  · have hn : (f != f') = true := by rw [bne_iff_ne]; exact hf
    have Hf := Lib.hid hf; clear hf
    go_enter Try.func34, Try.ntmps34
    go_wp2
    go_ret
    exact ⟨retB (by simp [Hf.out]), by repeat (first | with_reducible exact Ext.refl _ | with_reducible assumption | with_reducible refine Ext.pAlloc ?_ _ | ((with_reducible refine Ext.pSet ?_ ?_ _); rotate_left; (simp <;> omega)) | with_reducible refine Ext.pDrew ?_ | with_reducible refine Ext.pDrewN ?_ _ | with_reducible refine Ext.trans ?_ (by with_reducible assumption))⟩

end Go.Proofs.Ytkigfmkdbgcpeaa

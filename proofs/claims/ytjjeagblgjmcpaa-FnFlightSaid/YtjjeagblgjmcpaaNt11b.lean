/- A link cut: the program. -/
import Derived.Test.YtjjeagblgjmcpaaNt11i
import Derived.Test.YtjjeagblgjmcpaaNt10
set_option linter.unusedVariables false
set_option linter.unusedSimpArgs false
namespace Go.Proofs.Ytjjeagblgjmcpaa
open Go.RowKit Go.Sl

/-- Where a link goes: behind all that come before it. -/
def cutPos : List LinkD → LinkD → Nat
  | [], _ => 0
  | y :: l, x => if linkLess y x = true then cutPos l x + 1 else 0
/-- The network with a link cut. -/
def cutOff (d : NetD) (a b : Int) : NetD × Bool :=
  if netOk d = true then (if apart a b = true ∧ ¬ linkOf a b ∈ d.2 then ((d.1, d.2.take (cutPos d.2 (linkOf a b)) ++ linkOf a b :: d.2.drop (cutPos d.2 (linkOf a b))), true) else (d, false)) else (([], []), false)
theorem cutPos_le : ∀ (l : List LinkD) (x : LinkD), cutPos l x ≤ l.length
  | [], _ => Nat.le_refl _
  | y :: l, x => by
    unfold cutPos
    split
    · have := cutPos_le l x; simp; omega
    · simp
theorem cutPos_lt : ∀ {l : List LinkD} {x y : LinkD} {k : Nat}, k < cutPos l x → l[k]? = some y → linkLess y x = true
  | [], _, _, _, h, _ => by simp [cutPos] at h
  | z :: l, x, y, k, h, hy => by
    unfold cutPos at h
    split at h
    · rename_i hz
      cases k with
      | zero => simp at hy; rw [← hy]; exact hz
      | succ k => exact cutPos_lt (l := l) (k := k) (by omega) (by simpa using hy)
    · omega
theorem cutPos_at : ∀ {l : List LinkD} {x y : LinkD}, l[cutPos l x]? = some y → linkLess y x = false
  | [], _, _, h => by simp at h
  | z :: l, x, y, h => by
    unfold cutPos at h
    split at h
    · exact cutPos_at (l := l) (by simpa using h)
    · rename_i hz
      simp at h
      rw [← h]; simpa using hz
theorem links_at {a2 b2 n : Nat} {w0 w w' : World} {a a' : Option Addr} {cap' : Nat} {l : List LinkD} {xs : List Value} (hs : SlAt w' 2 a' cap' xs) (he : elemsV (linkC.V w0) xs l) (hn : n = l.length) (hc : n ≤ cap') (hm : cap' ≤ 9223372036854775807) (hw : AppW w w' a a') (ha : ∀ b ∈ ablk a, a2 ≤ b ∧ b < b2) :
    ∃ r1 r2, linksC.own r1 r2 w' [.slice a' n cap'] l ∧ (r1 = a2 ∧ r2 = b2 ∨ w.heap.size ≤ r1 ∧ r2 = w'.heap.size) := by
  subst hn
  rcases hw.at_ with e | ⟨e, hlt⟩
  · subst e
    exact ⟨a2, b2, ⟨ablk a', ⟨a', cap', xs, [], rfl, hc, by simpa [maxLen] using hm, hs, elems_links he, by simp⟩, by cases a' <;> simp [ablk], ha⟩, .inl ⟨rfl, rfl⟩⟩
  · subst e
    exact ⟨w.heap.size, w'.heap.size, ⟨[w.heap.size], ⟨_, cap', xs, [], rfl, hc, by simpa [maxLen] using hm, hs, elems_links he, by simp [ablk]⟩, by simp, by simp; exact hlt⟩, .inr ⟨Nat.le_refl _, rfl⟩⟩
theorem links_split {w : World} {xs : List Value} {l : List LinkD} {k : Nat} (h : elemsV (linkC.V w) xs l) (hk : k ≤ l.length) :
    ∃ x1 x2, xs = x1 ++ x2 ∧ x1.length = k * 2 ∧ x2.length = (l.length - k) * 2 ∧ elemsV (linkC.V w) x1 (l.take k) ∧ elemsV (linkC.V w) x2 (l.drop k) := by
  have h5 := h
  rw [← List.take_append_drop k l] at h5
  obtain ⟨x1, x2, rfl, e1, e2⟩ := (elemsV_append linkC).1 h5
  refine ⟨x1, x2, rfl, ?_, ?_, e1, e2⟩
  · rw [elemsV_len linkC e1, List.length_take, Nat.min_eq_left hk]; rfl
  · rw [elemsV_len linkC e2, List.length_drop]; rfl
theorem links_one {w : World} (f t : Int) : elemsV (linkC.V w) [.int .i64 f, .int .i64 t] [(f, t)] := ⟨[.int .i64 f, .int .i64 t], [], by simp, link_V.2 rfl, rfl⟩
theorem links_join {w : World} {x1 x2 : List Value} {l1 l2 : List LinkD} (h1 : elemsV (linkC.V w) x1 l1) (h2 : elemsV (linkC.V w) x2 l2) : elemsV (linkC.V w) (x1 ++ x2) (l1 ++ l2) := (elemsV_append linkC).2 ⟨x1, x2, rfl, h1, h2⟩
theorem linkInsert_c (a : Option Addr) (n cap k g : Nat) (x1 x2 c : List Value) (w : World) (hs : SlAt w 2 a cap (x1 ++ x2)) (h1 : x1.length = k * 2) (h2 : x2.length = (n - k) * 2) (hk : k ≤ n) (hn : n ≤ cap) (hcap : cap ≤ 9223372036854775807) (h60 : n ≤ 60)
    (hc : c.length = 2) (ho1 : ∀ u ∈ c, u.oneCell' = true) (ho2 : ∀ u ∈ x2, u.oneCell' = true) (hg : Bx w g c) (hne : g ∉ ablk a) :
    Calls Try.prog 23 #[.slice a n cap, .int .i64 k, .slice (some ⟨g, 0, none⟩) 1 1] w fun e w' => ∃ a' cap', e = .returned (.slice a' (n + 1) cap') ∧ SlAt w' 2 a' cap' (x1 ++ (c ++ x2)) ∧ n + 1 ≤ cap' ∧ cap' ≤ 9223372036854775807 ∧ AppW w w' a a' := by
  have hgc : CellsAt w (some ⟨g, 0, none⟩) c := fun j u hj => ⟨g, 0, rfl, by rw [Nat.zero_add]; exact hg.cell j u hj⟩
  by_cases hkn : k = n
  · subst hkn
    have hx2 : x2 = [] := List.eq_nil_of_length_eq_zero (by rw [h2, Nat.sub_self, Nat.zero_mul])
    subst hx2
    rw [List.append_nil] at hs ⊢
    exact linkInsert_end a k cap g x1 c w hs h1 hn hcap h60 hc ho1 hgc
  · have hk' : k < n := by omega
    have ha : ∃ b off, a = some ⟨b, off, none⟩ := by
      rcases hs with ⟨_, h, _⟩ | ⟨b, off, C, E, h, _⟩
      · omega
      · exact ⟨b, off, h⟩
    obtain ⟨b, off, rfl⟩ := ha
    by_cases hr : n + 1 ≤ cap
    · refine (linkInsert_shift b off n cap k g x1 x2 c w hs h1 h2 hk' hr hcap h60 hc ho1 ho2 hg (by simpa [ablk] using hne)).mono ?_
      rintro e w' ⟨rfl, hs', hC⟩
      exact ⟨_, _, rfl, hs', hr, hcap, ⟨hC.os, hC.tape, hC.output, hC.size, fun j hj hn => hC.block j hj (by simp [ablk] at hn; omega), .inl rfl⟩⟩
    · refine (linkInsert_grow b off n cap k g x1 x2 c w hs h1 h2 hk' hn (by omega) h60 hc ho1 ho2 hgc).mono ?_
      rintro e w' ⟨G, rfl, hs', hG1, hG2, hE, hlt⟩
      exact ⟨_, _, rfl, hs', hG1, hG2, ⟨hE.os, hE.tape, hE.output, hE.size, fun j hj _ => hE.block j hj, .inr ⟨rfl, hlt⟩⟩⟩
set_option maxHeartbeats 8000000 in
set_option maxRecDepth 20000 in
theorem implCutOff_c (cs : List Value) (d : NetD) (p q : Int) (w : World) (h : netC.V w cs d) :
    Calls Try.prog 9 #[.agg cs.toArray, .int .i64 p, .int .i64 q] w fun e w' => ∃ u v, e = .returned (.tuple #[.agg #[u, v], .bool (cutOff d p q).2]) ∧ Ext w w' ∧ netC.own w.heap.size w'.heap.size w' [u, v] (cutOff d p q).1 := by
  have HD := Lib.hid h
  obtain ⟨u, v, rfl, hu, hv⟩ := net_V.1 h
  obtain ⟨ms, ls⟩ := d
  simp only at hu hv
  obtain ⟨a, cap, rfl⟩ := sl_form hu
  obtain ⟨va, vc, rfl⟩ := sl_form hv
  clear hu hv h
  cases hd : netOk (ms, ls)
  · have hr : cutOff (ms, ls) p q = (([], []), false) := by unfold cutOff; rw [if_neg (by rw [hd]; simp)]
    rw [hr]
    have Hd := Lib.hid hd; clear hd hr
    go_enter Try.func9, Try.ntmps9
    go_wp2_with fail
    refine (implNetOk_c _ (ms, ls) _ (netC.vext HD.out (by repeat (first | with_reducible exact Ext.refl _ | with_reducible assumption | with_reducible refine Ext.pAlloc ?_ _ | ((with_reducible refine Ext.pSet ?_ ?_ _); rotate_left; (simp <;> omega)) | with_reducible refine Ext.pDrew ?_ | with_reducible refine Ext.pDrewN ?_ _)))).mono ?_
    rw [Hd.out]
    rintro e w1 ⟨rfl, Ew1⟩
    have Xw1 : Ext w w1 := Ext.trans (by repeat (first | with_reducible exact Ext.refl _ | with_reducible assumption | with_reducible refine Ext.pAlloc ?_ _ | ((with_reducible refine Ext.pSet ?_ ?_ _); rotate_left; (simp <;> omega)) | with_reducible refine Ext.pDrew ?_ | with_reducible refine Ext.pDrewN ?_ _)) Ew1
    have zw1 : w.heap.size + 1 + 1 ≤ w1.heap.size := by have := Ew1.size; (try simp at this); omega
    have B_d' : Bx w1 w.heap.size [.slice a ms.length cap, .slice va ls.length vc] := Bx.ext (by repeat (first | with_reducible assumption | with_reducible exact Bx.new _ _ _ _ rfl | ((with_reducible refine Bx.new _ _ _ _ ?_); simp; done) | with_reducible refine Bx.pAlloc ?_ _ | with_reducible refine Bx.pDrew ?_ | ((with_reducible refine Bx.set_other ?_ ?_ _); rotate_left; (simp <;> omega)))) Ew1
    have B_r' : Bx w1 (w.heap.size + 1) [.slice none 0 0, .slice none 0 0] := Bx.ext (by repeat (first | with_reducible assumption | with_reducible exact Bx.new _ _ _ _ rfl | ((with_reducible refine Bx.new _ _ _ _ ?_); simp; done) | with_reducible refine Bx.pAlloc ?_ _ | with_reducible refine Bx.pDrew ?_ | ((with_reducible refine Bx.set_other ?_ ?_ _); rotate_left; (simp <;> omega)))) Ew1
    have B_d := B_d'; clear B_d'
    have B_r := B_r'; clear B_r'
    clear Ew1
    have c_d_0 := B_d.cell 0 _ rfl
    have c_d_1 := B_d.cell 1 _ rfl
    have n_d := B_d.lt
    have c_r_0 := B_r.cell 0 _ rfl
    have c_r_1 := B_r.cell 1 _ rfl
    have n_r := B_r.lt
    have f_r := B_r.fr
    go_wp2
    refine bodyPost_ret (v := .tuple #[.agg #[.slice none 0 0, .slice none 0 0], .bool false]) (by simp [results, Try.results9, go_sem, c_r_0, c_r_1, n_r]) rfl ⟨_, _, rfl, ?_, ?_⟩
    · repeat (first | with_reducible exact Ext.refl _ | with_reducible assumption | with_reducible refine Ext.pAlloc ?_ _ | ((with_reducible refine Ext.pSet ?_ ?_ _); rotate_left; (simp <;> omega)) | with_reducible refine Ext.pDrew ?_ | with_reducible refine Ext.pDrewN ?_ _)
    · exact net_nil _ _ _
  · by_cases ht : apart p q = true ∧ ¬ linkOf p q ∈ ls
    · have hr : cutOff (ms, ls) p q = ((ms, ls.take (cutPos ls (linkOf p q)) ++ linkOf p q :: ls.drop (cutPos ls (linkOf p q))), true) := by unfold cutOff; rw [if_pos hd, if_pos ht]
      rw [hr]
      have Hp : Hid (passesIn (ms, ls) p q = true) := by show passesIn (ms, ls) p q = true; unfold passesIn; rw [hd, ht.1]; simp [ht.2]
      have hlen := (netOk_lens hd).2
      simp only at hlen
      have hple := cutPos_le ls (linkOf p q)
      have hlt0 : ∀ k y, k < cutPos ls (linkOf p q) → ls[k]? = some y → linkLess y (linkOf p q) = true := fun k y h1 h2 => cutPos_lt h1 h2
      have hat0 : ∀ y, ls[cutPos ls (linkOf p q)]? = some y → linkLess y (linkOf p q) = false := fun y h => cutPos_at h
      generalize hpos : cutPos ls (linkOf p q) = pos at *
      clear hpos
      generalize hq : linkOf p q = x at *
      obtain ⟨lf, lt⟩ := x
      have HL : Hid (linkOf p q = (lf, lt)) := Lib.hid hq
      have HLT := Lib.hid hlt0; have HAT := Lib.hid hat0
      clear hq hlt0 hat0
      have Hd := Lib.hid hd; clear hd ht hr
      go_enter Try.func9, Try.ntmps9
      go_wp2_with fail
      refine (implNetOk_c _ (ms, ls) _ (netC.vext HD.out (by repeat (first | with_reducible exact Ext.refl _ | with_reducible assumption | with_reducible refine Ext.pAlloc ?_ _ | ((with_reducible refine Ext.pSet ?_ ?_ _); rotate_left; (simp <;> omega)) | with_reducible refine Ext.pDrew ?_ | with_reducible refine Ext.pDrewN ?_ _)))).mono ?_
      rw [Hd.out]
      rintro e w1 ⟨rfl, Ew1⟩
      have Xw1 : Ext w w1 := Ext.trans (by repeat (first | with_reducible exact Ext.refl _ | with_reducible assumption | with_reducible refine Ext.pAlloc ?_ _ | ((with_reducible refine Ext.pSet ?_ ?_ _); rotate_left; (simp <;> omega)) | with_reducible refine Ext.pDrew ?_ | with_reducible refine Ext.pDrewN ?_ _)) Ew1
      have zw1 : w.heap.size + 1 + 1 ≤ w1.heap.size := by have := Ew1.size; (try simp at this); omega
      have B_d' : Bx w1 w.heap.size [.slice a ms.length cap, .slice va ls.length vc] := Bx.ext (by repeat (first | with_reducible assumption | with_reducible exact Bx.new _ _ _ _ rfl | ((with_reducible refine Bx.new _ _ _ _ ?_); simp; done) | with_reducible refine Bx.pAlloc ?_ _ | with_reducible refine Bx.pDrew ?_ | ((with_reducible refine Bx.set_other ?_ ?_ _); rotate_left; (simp <;> omega)))) Ew1
      have B_r' : Bx w1 (w.heap.size + 1) [.slice none 0 0, .slice none 0 0] := Bx.ext (by repeat (first | with_reducible assumption | with_reducible exact Bx.new _ _ _ _ rfl | ((with_reducible refine Bx.new _ _ _ _ ?_); simp; done) | with_reducible refine Bx.pAlloc ?_ _ | with_reducible refine Bx.pDrew ?_ | ((with_reducible refine Bx.set_other ?_ ?_ _); rotate_left; (simp <;> omega)))) Ew1
      have B_d := B_d'; clear B_d'
      have B_r := B_r'; clear B_r'
      clear Ew1
      have c_d_0 := B_d.cell 0 _ rfl
      have c_d_1 := B_d.cell 1 _ rfl
      have n_d := B_d.lt
      have c_r_0 := B_r.cell 0 _ rfl
      have c_r_1 := B_r.cell 1 _ rfl
      have n_r := B_r.lt
      have f_r := B_r.fr
      go_wp2_with fail
      refine (copyNet_c _ (ms, ls) _ (netC.vext HD.out (by repeat (first | with_reducible exact Ext.refl _ | with_reducible assumption | with_reducible refine Ext.pAlloc ?_ _ | ((with_reducible refine Ext.pSet ?_ ?_ _); rotate_left; (simp <;> omega)) | with_reducible refine Ext.pDrew ?_ | with_reducible refine Ext.pDrewN ?_ _))) Hd.out).mono ?_
      rintro e w2 ⟨u1, v1, rfl, Ew2, a1, b1, a2, b2, p1, p2, p3, p4, p5, p6, p7, O_cm, O_cl⟩
      simp only at O_cm O_cl
      obtain ⟨ka, kc, rfl⟩ := sl_form O_cm.view
      obtain ⟨la, lc, rfl⟩ := sl_form O_cl.view
      replace p1 : w1.heap.size ≤ a1 := by have h9 := p1; (try simp at h9); omega
      replace p4 : w1.heap.size ≤ a2 := by have h9 := p4; (try simp at h9); omega
      have Xw2 : Ext w w2 := Ext.trans (by repeat (first | with_reducible exact Ext.refl _ | with_reducible assumption | with_reducible refine Ext.pAlloc ?_ _ | ((with_reducible refine Ext.pSet ?_ ?_ _); rotate_left; (simp <;> omega)) | with_reducible refine Ext.pDrew ?_ | with_reducible refine Ext.pDrewN ?_ _)) Ew2
      have zw2 : w1.heap.size ≤ w2.heap.size := by have := Ew2.size; (try simp at this); omega
      have B_d' : Bx w2 w.heap.size [.slice a ms.length cap, .slice va ls.length vc] := Bx.ext (by repeat (first | with_reducible assumption | with_reducible exact Bx.new _ _ _ _ rfl | ((with_reducible refine Bx.new _ _ _ _ ?_); simp; done) | with_reducible refine Bx.pAlloc ?_ _ | with_reducible refine Bx.pDrew ?_ | ((with_reducible refine Bx.set_other ?_ ?_ _); rotate_left; (simp <;> omega)))) Ew2
      have B_r' : Bx w2 (w.heap.size + 1) [.slice none 0 0, .slice none 0 0] := Bx.ext (by repeat (first | with_reducible assumption | with_reducible exact Bx.new _ _ _ _ rfl | ((with_reducible refine Bx.new _ _ _ _ ?_); simp; done) | with_reducible refine Bx.pAlloc ?_ _ | with_reducible refine Bx.pDrew ?_ | ((with_reducible refine Bx.set_other ?_ ?_ _); rotate_left; (simp <;> omega)))) Ew2
      clear c_d_0 c_d_1 n_d c_r_0 c_r_1 n_r f_r
      clear B_d
      have B_d := B_d'; clear B_d'
      clear B_r
      have B_r := B_r'; clear B_r'
      clear Ew2 Xw1
      have c_d_0 := B_d.cell 0 _ rfl
      have c_d_1 := B_d.cell 1 _ rfl
      have n_d := B_d.lt
      have c_r_0 := B_r.cell 0 _ rfl
      have c_r_1 := B_r.cell 1 _ rfl
      have n_r := B_r.lt
      have f_r := B_r.fr
      go_wp2_with fail
      refine (implPassesIn_c _ (ms, ls) p q _ (netC.vext HD.out (by repeat (first | with_reducible exact Ext.refl _ | with_reducible assumption | with_reducible refine Ext.pAlloc ?_ _ | ((with_reducible refine Ext.pSet ?_ ?_ _); rotate_left; (simp <;> omega)) | with_reducible refine Ext.pDrew ?_ | with_reducible refine Ext.pDrewN ?_ _)))).mono ?_
      rw [Hp.out]
      rintro e w3 ⟨rfl, Ew3⟩
      have Xw3 : Ext w w3 := Ext.trans (by repeat (first | with_reducible exact Ext.refl _ | with_reducible assumption | with_reducible refine Ext.pAlloc ?_ _ | ((with_reducible refine Ext.pSet ?_ ?_ _); rotate_left; (simp <;> omega)) | with_reducible refine Ext.pDrew ?_ | with_reducible refine Ext.pDrewN ?_ _)) Ew3
      have zw3 : w2.heap.size + 1 ≤ w3.heap.size := by have := Ew3.size; (try simp at this); omega
      have B_d' : Bx w3 w.heap.size [.slice a ms.length cap, .slice va ls.length vc] := Bx.ext (by repeat (first | with_reducible assumption | with_reducible exact Bx.new _ _ _ _ rfl | ((with_reducible refine Bx.new _ _ _ _ ?_); simp; done) | with_reducible refine Bx.pAlloc ?_ _ | with_reducible refine Bx.pDrew ?_ | ((with_reducible refine Bx.set_other ?_ ?_ _); rotate_left; (simp <;> omega)))) Ew3
      have B_r' : Bx w3 (w.heap.size + 1) [.slice none 0 0, .slice none 0 0] := Bx.ext (by repeat (first | with_reducible assumption | with_reducible exact Bx.new _ _ _ _ rfl | ((with_reducible refine Bx.new _ _ _ _ ?_); simp; done) | with_reducible refine Bx.pAlloc ?_ _ | with_reducible refine Bx.pDrew ?_ | ((with_reducible refine Bx.set_other ?_ ?_ _); rotate_left; (simp <;> omega)))) Ew3
      have B_o' : Bx w3 w2.heap.size [.slice ka ms.length kc, .slice la ls.length lc] := Bx.ext (by repeat (first | with_reducible assumption | with_reducible exact Bx.new _ _ _ _ rfl | ((with_reducible refine Bx.new _ _ _ _ ?_); simp; done) | with_reducible refine Bx.pAlloc ?_ _ | with_reducible refine Bx.pDrew ?_ | ((with_reducible refine Bx.set_other ?_ ?_ _); rotate_left; (simp <;> omega)))) Ew3
      have O_cm' : (msgsC).own (a1) (b1) w3 [.slice ka ms.length kc] (ms) := Cd.own.ext (by repeat (first | with_reducible assumption | with_reducible refine Cd.own.pAlloc ?_ _ | with_reducible refine Cd.own.pDrew ?_ | with_reducible refine Cd.own.pDrewN ?_ _ | ((with_reducible refine Cd.own.pSet ?_ ?_ _); rotate_left; (simp <;> omega)))) Ew3
      have O_cl' : (linksC).own (a2) (b2) w3 [.slice la ls.length lc] (ls) := Cd.own.ext (by repeat (first | with_reducible assumption | with_reducible refine Cd.own.pAlloc ?_ _ | with_reducible refine Cd.own.pDrew ?_ | with_reducible refine Cd.own.pDrewN ?_ _ | ((with_reducible refine Cd.own.pSet ?_ ?_ _); rotate_left; (simp <;> omega)))) Ew3
      clear c_d_0 c_d_1 n_d c_r_0 c_r_1 n_r f_r
      clear B_d
      have B_d := B_d'; clear B_d'
      clear B_r
      have B_r := B_r'; clear B_r'
      have B_o := B_o'; clear B_o'
      clear O_cm; have O_cm := O_cm'; clear O_cm'
      clear O_cl; have O_cl := O_cl'; clear O_cl'
      clear Ew3 Xw2
      have c_d_0 := B_d.cell 0 _ rfl
      have c_d_1 := B_d.cell 1 _ rfl
      have n_d := B_d.lt
      have c_r_0 := B_r.cell 0 _ rfl
      have c_r_1 := B_r.cell 1 _ rfl
      have n_r := B_r.lt
      have f_r := B_r.fr
      have c_o_0 := B_o.cell 0 _ rfl
      have c_o_1 := B_o.cell 1 _ rfl
      have n_o := B_o.lt
      have f_o := B_o.fr
      go_wp2_with fail
      refine (linkOf_c p q _).mono ?_
      rw [HL.out]
      rintro e w4 ⟨rfl, Ew4⟩
      have Xw4 : Ext w w4 := Ext.trans (by repeat (first | with_reducible exact Ext.refl _ | with_reducible assumption | with_reducible refine Ext.pAlloc ?_ _ | ((with_reducible refine Ext.pSet ?_ ?_ _); rotate_left; (simp <;> omega)) | with_reducible refine Ext.pDrew ?_ | with_reducible refine Ext.pDrewN ?_ _)) Ew4
      have zw4 : w3.heap.size ≤ w4.heap.size := by have := Ew4.size; (try simp at this); omega
      have B_d' : Bx w4 w.heap.size [.slice a ms.length cap, .slice va ls.length vc] := Bx.ext (by repeat (first | with_reducible assumption | with_reducible exact Bx.new _ _ _ _ rfl | ((with_reducible refine Bx.new _ _ _ _ ?_); simp; done) | with_reducible refine Bx.pAlloc ?_ _ | with_reducible refine Bx.pDrew ?_ | ((with_reducible refine Bx.set_other ?_ ?_ _); rotate_left; (simp <;> omega)))) Ew4
      have B_r' : Bx w4 (w.heap.size + 1) [.slice none 0 0, .slice none 0 0] := Bx.ext (by repeat (first | with_reducible assumption | with_reducible exact Bx.new _ _ _ _ rfl | ((with_reducible refine Bx.new _ _ _ _ ?_); simp; done) | with_reducible refine Bx.pAlloc ?_ _ | with_reducible refine Bx.pDrew ?_ | ((with_reducible refine Bx.set_other ?_ ?_ _); rotate_left; (simp <;> omega)))) Ew4
      have B_o' : Bx w4 w2.heap.size [.slice ka ms.length kc, .slice la ls.length lc] := Bx.ext (by repeat (first | with_reducible assumption | with_reducible exact Bx.new _ _ _ _ rfl | ((with_reducible refine Bx.new _ _ _ _ ?_); simp; done) | with_reducible refine Bx.pAlloc ?_ _ | with_reducible refine Bx.pDrew ?_ | ((with_reducible refine Bx.set_other ?_ ?_ _); rotate_left; (simp <;> omega)))) Ew4
      have O_cm' : (msgsC).own (a1) (b1) w4 [.slice ka ms.length kc] (ms) := Cd.own.ext (by repeat (first | with_reducible assumption | with_reducible refine Cd.own.pAlloc ?_ _ | with_reducible refine Cd.own.pDrew ?_ | with_reducible refine Cd.own.pDrewN ?_ _ | ((with_reducible refine Cd.own.pSet ?_ ?_ _); rotate_left; (simp <;> omega)))) Ew4
      have O_cl' : (linksC).own (a2) (b2) w4 [.slice la ls.length lc] (ls) := Cd.own.ext (by repeat (first | with_reducible assumption | with_reducible refine Cd.own.pAlloc ?_ _ | with_reducible refine Cd.own.pDrew ?_ | with_reducible refine Cd.own.pDrewN ?_ _ | ((with_reducible refine Cd.own.pSet ?_ ?_ _); rotate_left; (simp <;> omega)))) Ew4
      clear c_d_0 c_d_1 n_d c_r_0 c_r_1 n_r f_r c_o_0 c_o_1 n_o f_o
      clear B_d
      have B_d := B_d'; clear B_d'
      clear B_r
      have B_r := B_r'; clear B_r'
      clear B_o
      have B_o := B_o'; clear B_o'
      clear O_cm; have O_cm := O_cm'; clear O_cm'
      clear O_cl; have O_cl := O_cl'; clear O_cl'
      clear Ew4 Xw3
      have c_d_0 := B_d.cell 0 _ rfl
      have c_d_1 := B_d.cell 1 _ rfl
      have n_d := B_d.lt
      have c_r_0 := B_r.cell 0 _ rfl
      have c_r_1 := B_r.cell 1 _ rfl
      have n_r := B_r.lt
      have f_r := B_r.fr
      have c_o_0 := B_o.cell 0 _ rfl
      have c_o_1 := B_o.cell 1 _ rfl
      have n_o := B_o.lt
      have f_o := B_o.fr
      have hcl : ∀ k, k < ls.length → ∃ b off x c, la = some ⟨b, off, none⟩ ∧ Hid (ls[k]? = some x) ∧ linkC.V w4 c x ∧ ∀ j u, c[j]? = some u → w4.cell? ⟨b, off + k * 2 + j, none⟩ = some u := by
        obtain ⟨a9, c9, e9, -, -, h9⟩ := slice_open (R := linkC) (by decide) O_cl.view
        cases e9
        exact h9
      have HCL := Lib.hid hcl; clear hcl
      go_wp2
      go_loopw [10] (fun v10 wr => ∃ k : Nat, k ≤ pos ∧ v10 = .int .i64 k ∧ Hid (Ext w4 wr) ∧ Hid (Bx wr w4.heap.size [.int .i64 lf, .int .i64 lt])) (fun v10 _ => pos - (intOf v10).toNat)
      case atStart => exact ⟨0, Nat.zero_le _, rfl, Lib.hid (by repeat (first | with_reducible exact Ext.refl _ | with_reducible assumption | with_reducible refine Ext.pAlloc ?_ _ | ((with_reducible refine Ext.pSet ?_ ?_ _); rotate_left; (simp <;> omega)) | with_reducible refine Ext.pDrew ?_ | with_reducible refine Ext.pDrewN ?_ _)), Lib.hid (by repeat (first | with_reducible assumption | with_reducible exact Bx.new _ _ _ _ rfl | ((with_reducible refine Bx.new _ _ _ _ ?_); simp; done) | with_reducible refine Bx.pAlloc ?_ _ | with_reducible refine Bx.pDrew ?_ | ((with_reducible refine Bx.set_other ?_ ?_ _); rotate_left; (simp <;> omega))))⟩
      case round =>
        obtain ⟨k, hk, rfl, hE, hBl⟩ := hrel
        have BO := B_o.ext hE.out
        have co1 := BO.cell 1 _ rfl
        have cl0 := hBl.out.cell 0 _ rfl; have cl1 := hBl.out.cell 1 _ rfl
        have zr := hE.out.size
        clear c_d_0 c_d_1 n_d c_r_0 c_r_1 n_r f_r c_o_0 c_o_1 n_o f_o
        have hi1 : (0 : Int) ≤ k := by omega
        by_cases hlt : k < pos
        · have hll : k < ls.length := by omega
          obtain ⟨b, off, y, c, rfl, hx, hvx, hcell⟩ := HCL.out k hll
          obtain rfl := link_V.1 hvx
          clear hvx
          obtain ⟨g, r⟩ := y
          have hc0 : wr.cell? ⟨b, off + k * 2, none⟩ = some (.int .i64 g) := cell_ext (hcell 0 _ rfl) hE.out
          have hc1 : wr.cell? ⟨b, off + k * 2 + 1, none⟩ = some (.int .i64 r) := cell_ext (hcell 1 _ rfl) hE.out
          clear hcell
          have hi2 : (k : Int) < ls.length := by omega
          have Hls := Lib.hid (HLT.out k (g, r) hlt hx.out)
          clear hx
          go_wp2
          refine wp_region_held_drew (S := fun ω => ω.cell? ⟨w2.heap.size, 1, none⟩ = some (.slice (some ⟨b, off, none⟩) ls.length lc) ∧ ω.cell? ⟨b, off + k * 2, none⟩ = some (.int .i64 g) ∧ ω.cell? ⟨b, off + k * 2 + 1, none⟩ = some (.int .i64 r) ∧ ω.cell? ⟨w4.heap.size, 0, none⟩ = some (.int .i64 lf) ∧ ω.cell? ⟨w4.heap.size, 1, none⟩ = some (.int .i64 lt) ∧ Ext wr ω) (by kernel_rfl) ?_ (fun hHeld => ?_)
          · (try dsimp only); (refine ⟨?_, ?_, ?_, ?_, ?_, ?_⟩ <;> first | (simp [go_sem]; done) | (simp [*, go_sem]; done) | ((repeat (first | with_reducible assumption | with_reducible exact Bx.new _ _ _ _ rfl | ((with_reducible refine Bx.new _ _ _ _ ?_); simp; done) | with_reducible refine Bx.pAlloc ?_ _ | with_reducible refine Bx.pDrew ?_ | ((with_reducible refine Bx.set_other ?_ ?_ _); rotate_left; (simp <;> omega)))); done) | ((repeat (first | with_reducible exact Ext.refl _ | with_reducible assumption | with_reducible refine Ext.pAlloc ?_ _ | ((with_reducible refine Ext.pSet ?_ ?_ _); rotate_left; (simp <;> omega)) | with_reducible refine Ext.pDrew ?_ | with_reducible refine Ext.pDrewN ?_ _)); done))
          refine wpAnyH_take (i := 0) (v := ?_) rfl (by kernel_rfl) (by kernel_rfl) (by kernel_rfl) (fun _ _ _ h => h) (Or.inl ⟨by rfl, ?_⟩) (by assumption) ?_
          rotate_left
          · intro w9 hSw; (try dsimp only at hSw); go_simp; (first | done | with_reducible rfl)
          (try simp only [List.getElem_toArray, List.getElem_cons_succ, List.getElem_cons_zero, Act.put, List.setIfInBounds_toArray, List.set_cons_zero, List.set_cons_succ])
          refine wpAnyH_take (i := 1) (v := ?_) rfl (by kernel_rfl) (by kernel_rfl) (by kernel_rfl) (fun _ _ _ h => h) (Or.inl ⟨by rfl, ?_⟩) (by assumption) ?_
          rotate_left
          · intro w9 hSw; (try dsimp only at hSw); go_simp; (first | done | with_reducible rfl)
          (try simp only [List.getElem_toArray, List.getElem_cons_succ, List.getElem_cons_zero, Act.put, List.setIfInBounds_toArray, List.set_cons_zero, List.set_cons_succ])
          refine wpAnyH_take (i := 2) (v := ?_) rfl (by kernel_rfl) (by kernel_rfl) (by kernel_rfl) (fun _ _ _ h => h) (Or.inl ⟨by rfl, ?_⟩) (by assumption) ?_
          rotate_left
          · intro w9 hSw; (try dsimp only at hSw); go_simp; (first | done | with_reducible rfl)
          (try simp only [List.getElem_toArray, List.getElem_cons_succ, List.getElem_cons_zero, Act.put, List.setIfInBounds_toArray, List.set_cons_zero, List.set_cons_succ])
          refine wpAnyH_take (i := 3) (v := ?_) rfl (by kernel_rfl) (by kernel_rfl) (by kernel_rfl) (fun _ _ _ h => h) (Or.inl ⟨by rfl, ?_⟩) (by assumption) ?_
          rotate_left
          · intro w9 hSw; (try dsimp only at hSw); go_simp; (first | done | with_reducible rfl)
          (try simp only [List.getElem_toArray, List.getElem_cons_succ, List.getElem_cons_zero, Act.put, List.setIfInBounds_toArray, List.set_cons_zero, List.set_cons_succ])
          refine wpAnyH_take (i := 4) (v := ?_) rfl (by kernel_rfl) (by kernel_rfl) (by kernel_rfl) (fun _ _ _ h => h) (Or.inl ⟨by rfl, ?_⟩) (by assumption) ?_
          rotate_left
          · intro w9 hSw; (try dsimp only at hSw); go_simp; (first | done | with_reducible rfl)
          (try simp only [List.getElem_toArray, List.getElem_cons_succ, List.getElem_cons_zero, Act.put, List.setIfInBounds_toArray, List.set_cons_zero, List.set_cons_succ])
          refine wpAnyH_take (i := 5) (v := ?_) rfl (by kernel_rfl) (by kernel_rfl) (by kernel_rfl) (fun _ _ _ h => h) (Or.inl ⟨by rfl, ?_⟩) (by assumption) ?_
          rotate_left
          · intro w9 hSw; (try dsimp only at hSw); go_simp; (first | done | with_reducible rfl)
          (try simp only [List.getElem_toArray, List.getElem_cons_succ, List.getElem_cons_zero, Act.put, List.setIfInBounds_toArray, List.set_cons_zero, List.set_cons_succ])
          refine wpAnyH_take (i := 6) (v := ?_) rfl (by kernel_rfl) (by kernel_rfl) (by kernel_rfl) (fun _ _ _ h => h) (Or.inl ⟨by rfl, ?_⟩) (by assumption) ?_
          rotate_left
          · intro w9 hSw; (try dsimp only at hSw); go_simp; (first | done | with_reducible rfl)
          (try simp only [List.getElem_toArray, List.getElem_cons_succ, List.getElem_cons_zero, Act.put, List.setIfInBounds_toArray, List.set_cons_zero, List.set_cons_succ])
          refine wpAnyH_take (i := 7) (v := ?_) rfl (by kernel_rfl) (by kernel_rfl) (by kernel_rfl) (fun _ _ _ h => h) (Or.inl ⟨by rfl, ?_⟩) (by assumption) ?_
          rotate_left
          · intro w9 hSw; (try dsimp only at hSw); go_simp; (first | done | with_reducible rfl)
          (try simp only [List.getElem_toArray, List.getElem_cons_succ, List.getElem_cons_zero, Act.put, List.setIfInBounds_toArray, List.set_cons_zero, List.set_cons_succ])
          refine wpAnyH_take (i := 8) (v := ?_) rfl (by kernel_rfl) (by kernel_rfl) (by kernel_rfl) (fun _ _ _ h => h) (Or.inl ⟨by rfl, ?_⟩) (by assumption) ?_
          rotate_left
          · intro w9 hSw; (try dsimp only at hSw); go_simp; (first | done | with_reducible rfl)
          (try simp only [List.getElem_toArray, List.getElem_cons_succ, List.getElem_cons_zero, Act.put, List.setIfInBounds_toArray, List.set_cons_zero, List.set_cons_succ])
          refine wpAnyH_take (i := 9) (v := ?_) rfl (by kernel_rfl) (by kernel_rfl) (by kernel_rfl) (fun _ _ _ h => h) (Or.inl ⟨by rfl, ?_⟩) (by assumption) ?_
          rotate_left
          · intro w9 hSw; (try dsimp only at hSw); go_simp; (first | done | with_reducible rfl)
          (try simp only [List.getElem_toArray, List.getElem_cons_succ, List.getElem_cons_zero, Act.put, List.setIfInBounds_toArray, List.set_cons_zero, List.set_cons_succ])
          refine wpAnyH_take (i := 10) (v := ?_) rfl (by kernel_rfl) (by kernel_rfl) (by kernel_rfl) (fun _ _ _ h => h) (Or.inl ⟨by rfl, ?_⟩) (by assumption) ?_
          rotate_left
          · intro w9 hSw; (try dsimp only at hSw); go_simp; (first | done | with_reducible rfl)
          (try simp only [List.getElem_toArray, List.getElem_cons_succ, List.getElem_cons_zero, Act.put, List.setIfInBounds_toArray, List.set_cons_zero, List.set_cons_succ])
          refine wpAnyH_take (i := 11) (v := ?_) rfl (by kernel_rfl) (by kernel_rfl) (by kernel_rfl) (fun _ _ _ h => h) (Or.inl ⟨by rfl, ?_⟩) (by assumption) ?_
          rotate_left
          · intro w9 hSw; (try dsimp only at hSw); go_simp; (first | done | with_reducible rfl)
          (try simp only [List.getElem_toArray, List.getElem_cons_succ, List.getElem_cons_zero, Act.put, List.setIfInBounds_toArray, List.set_cons_zero, List.set_cons_succ])
          refine wpAnyH_ready (rs := [12]) (by kernel_rfl) (by simp) ?_
          refine AllReadyH.cons rfl (fun K hK => ?_) AllReadyH.nil
          go_simp
          refine (implLess_c [.int .i64 g, .int .i64 r] [.int .i64 lf, .int .i64 lt] (g, r) (lf, lt) _ (link_V.2 rfl) (link_V.2 rfl)).mono ?_; rw [Hls.out]; rintro e w8 ⟨rfl, hE1⟩
          (try go_wp2_with fail)
          refine hK.out _ _ ?_ (fun hHeld2 => ?_)
          · (try dsimp only); (obtain ⟨s0, s1, s2, s3, s4, s5⟩ := hHeld; exact ⟨cell_ext s0 hE1, cell_ext s1 hE1, cell_ext s2 hE1, cell_ext s3 hE1, cell_ext s4 hE1, s5.trans hE1⟩)
          clear hK K hHeld
          rename _ => hHeld
          (try simp only [List.getElem_toArray, List.getElem_cons_succ, List.getElem_cons_zero, Act.put, List.setIfInBounds_toArray, List.set_cons_zero, List.set_cons_succ])
          refine wpAnyH_take (i := 13) (v := ?_) rfl (by kernel_rfl) (by kernel_rfl) (by kernel_rfl) (fun _ _ _ h => h) (Or.inl ⟨by rfl, ?_⟩) (by assumption) ?_
          rotate_left
          · intro w9 hSw; (try dsimp only at hSw); go_simp; (first | done | with_reducible rfl)
          (try simp only [List.getElem_toArray, List.getElem_cons_succ, List.getElem_cons_zero, Act.put, List.setIfInBounds_toArray, List.set_cons_zero, List.set_cons_succ])
          refine wpAnyH_done (by kernel_rfl) ?_ _
          have hX := hHeld.2.2.2.2.2
          clear hHeld hE1
          go_wp2
          go_roundw
          case rel => exact ⟨k + 1, by omega, by go_num, Lib.hid (hE.out.trans hX), Lib.hid (hBl.out.ext hX)⟩
          case measure => simp [intOf]; omega
        · have he : k = pos := by omega
          subst he
          by_cases hkl : k < ls.length
          · have hll : k < ls.length := by omega
            obtain ⟨b, off, y, c, rfl, hx, hvx, hcell⟩ := HCL.out k hll
            obtain rfl := link_V.1 hvx
            clear hvx
            obtain ⟨g, r⟩ := y
            have hc0 : wr.cell? ⟨b, off + k * 2, none⟩ = some (.int .i64 g) := cell_ext (hcell 0 _ rfl) hE.out
            have hc1 : wr.cell? ⟨b, off + k * 2 + 1, none⟩ = some (.int .i64 r) := cell_ext (hcell 1 _ rfl) hE.out
            clear hcell
            have hi2 : (k : Int) < ls.length := by omega
            have Hls := Lib.hid (HAT.out (g, r) hx.out)
            clear hx
            go_wp2
            refine wp_region_held_drew (S := fun ω => ω.cell? ⟨w2.heap.size, 1, none⟩ = some (.slice (some ⟨b, off, none⟩) ls.length lc) ∧ ω.cell? ⟨b, off + k * 2, none⟩ = some (.int .i64 g) ∧ ω.cell? ⟨b, off + k * 2 + 1, none⟩ = some (.int .i64 r) ∧ ω.cell? ⟨w4.heap.size, 0, none⟩ = some (.int .i64 lf) ∧ ω.cell? ⟨w4.heap.size, 1, none⟩ = some (.int .i64 lt) ∧ Ext wr ω) (by kernel_rfl) ?_ (fun hHeld => ?_)
            · (try dsimp only); (refine ⟨?_, ?_, ?_, ?_, ?_, ?_⟩ <;> first | (simp [go_sem]; done) | (simp [*, go_sem]; done) | ((repeat (first | with_reducible assumption | with_reducible exact Bx.new _ _ _ _ rfl | ((with_reducible refine Bx.new _ _ _ _ ?_); simp; done) | with_reducible refine Bx.pAlloc ?_ _ | with_reducible refine Bx.pDrew ?_ | ((with_reducible refine Bx.set_other ?_ ?_ _); rotate_left; (simp <;> omega)))); done) | ((repeat (first | with_reducible exact Ext.refl _ | with_reducible assumption | with_reducible refine Ext.pAlloc ?_ _ | ((with_reducible refine Ext.pSet ?_ ?_ _); rotate_left; (simp <;> omega)) | with_reducible refine Ext.pDrew ?_ | with_reducible refine Ext.pDrewN ?_ _)); done))
            refine wpAnyH_take (i := 0) (v := ?_) rfl (by kernel_rfl) (by kernel_rfl) (by kernel_rfl) (fun _ _ _ h => h) (Or.inl ⟨by rfl, ?_⟩) (by assumption) ?_
            rotate_left
            · intro w9 hSw; (try dsimp only at hSw); go_simp; (first | done | with_reducible rfl)
            (try simp only [List.getElem_toArray, List.getElem_cons_succ, List.getElem_cons_zero, Act.put, List.setIfInBounds_toArray, List.set_cons_zero, List.set_cons_succ])
            refine wpAnyH_take (i := 1) (v := ?_) rfl (by kernel_rfl) (by kernel_rfl) (by kernel_rfl) (fun _ _ _ h => h) (Or.inl ⟨by rfl, ?_⟩) (by assumption) ?_
            rotate_left
            · intro w9 hSw; (try dsimp only at hSw); go_simp; (first | done | with_reducible rfl)
            (try simp only [List.getElem_toArray, List.getElem_cons_succ, List.getElem_cons_zero, Act.put, List.setIfInBounds_toArray, List.set_cons_zero, List.set_cons_succ])
            refine wpAnyH_take (i := 2) (v := ?_) rfl (by kernel_rfl) (by kernel_rfl) (by kernel_rfl) (fun _ _ _ h => h) (Or.inl ⟨by rfl, ?_⟩) (by assumption) ?_
            rotate_left
            · intro w9 hSw; (try dsimp only at hSw); go_simp; (first | done | with_reducible rfl)
            (try simp only [List.getElem_toArray, List.getElem_cons_succ, List.getElem_cons_zero, Act.put, List.setIfInBounds_toArray, List.set_cons_zero, List.set_cons_succ])
            refine wpAnyH_take (i := 3) (v := ?_) rfl (by kernel_rfl) (by kernel_rfl) (by kernel_rfl) (fun _ _ _ h => h) (Or.inl ⟨by rfl, ?_⟩) (by assumption) ?_
            rotate_left
            · intro w9 hSw; (try dsimp only at hSw); go_simp; (first | done | with_reducible rfl)
            (try simp only [List.getElem_toArray, List.getElem_cons_succ, List.getElem_cons_zero, Act.put, List.setIfInBounds_toArray, List.set_cons_zero, List.set_cons_succ])
            refine wpAnyH_take (i := 4) (v := ?_) rfl (by kernel_rfl) (by kernel_rfl) (by kernel_rfl) (fun _ _ _ h => h) (Or.inl ⟨by rfl, ?_⟩) (by assumption) ?_
            rotate_left
            · intro w9 hSw; (try dsimp only at hSw); go_simp; (first | done | with_reducible rfl)
            (try simp only [List.getElem_toArray, List.getElem_cons_succ, List.getElem_cons_zero, Act.put, List.setIfInBounds_toArray, List.set_cons_zero, List.set_cons_succ])
            refine wpAnyH_take (i := 5) (v := ?_) rfl (by kernel_rfl) (by kernel_rfl) (by kernel_rfl) (fun _ _ _ h => h) (Or.inl ⟨by rfl, ?_⟩) (by assumption) ?_
            rotate_left
            · intro w9 hSw; (try dsimp only at hSw); go_simp; (first | done | with_reducible rfl)
            (try simp only [List.getElem_toArray, List.getElem_cons_succ, List.getElem_cons_zero, Act.put, List.setIfInBounds_toArray, List.set_cons_zero, List.set_cons_succ])
            refine wpAnyH_take (i := 6) (v := ?_) rfl (by kernel_rfl) (by kernel_rfl) (by kernel_rfl) (fun _ _ _ h => h) (Or.inl ⟨by rfl, ?_⟩) (by assumption) ?_
            rotate_left
            · intro w9 hSw; (try dsimp only at hSw); go_simp; (first | done | with_reducible rfl)
            (try simp only [List.getElem_toArray, List.getElem_cons_succ, List.getElem_cons_zero, Act.put, List.setIfInBounds_toArray, List.set_cons_zero, List.set_cons_succ])
            refine wpAnyH_take (i := 7) (v := ?_) rfl (by kernel_rfl) (by kernel_rfl) (by kernel_rfl) (fun _ _ _ h => h) (Or.inl ⟨by rfl, ?_⟩) (by assumption) ?_
            rotate_left
            · intro w9 hSw; (try dsimp only at hSw); go_simp; (first | done | with_reducible rfl)
            (try simp only [List.getElem_toArray, List.getElem_cons_succ, List.getElem_cons_zero, Act.put, List.setIfInBounds_toArray, List.set_cons_zero, List.set_cons_succ])
            refine wpAnyH_take (i := 8) (v := ?_) rfl (by kernel_rfl) (by kernel_rfl) (by kernel_rfl) (fun _ _ _ h => h) (Or.inl ⟨by rfl, ?_⟩) (by assumption) ?_
            rotate_left
            · intro w9 hSw; (try dsimp only at hSw); go_simp; (first | done | with_reducible rfl)
            (try simp only [List.getElem_toArray, List.getElem_cons_succ, List.getElem_cons_zero, Act.put, List.setIfInBounds_toArray, List.set_cons_zero, List.set_cons_succ])
            refine wpAnyH_take (i := 9) (v := ?_) rfl (by kernel_rfl) (by kernel_rfl) (by kernel_rfl) (fun _ _ _ h => h) (Or.inl ⟨by rfl, ?_⟩) (by assumption) ?_
            rotate_left
            · intro w9 hSw; (try dsimp only at hSw); go_simp; (first | done | with_reducible rfl)
            (try simp only [List.getElem_toArray, List.getElem_cons_succ, List.getElem_cons_zero, Act.put, List.setIfInBounds_toArray, List.set_cons_zero, List.set_cons_succ])
            refine wpAnyH_take (i := 10) (v := ?_) rfl (by kernel_rfl) (by kernel_rfl) (by kernel_rfl) (fun _ _ _ h => h) (Or.inl ⟨by rfl, ?_⟩) (by assumption) ?_
            rotate_left
            · intro w9 hSw; (try dsimp only at hSw); go_simp; (first | done | with_reducible rfl)
            (try simp only [List.getElem_toArray, List.getElem_cons_succ, List.getElem_cons_zero, Act.put, List.setIfInBounds_toArray, List.set_cons_zero, List.set_cons_succ])
            refine wpAnyH_take (i := 11) (v := ?_) rfl (by kernel_rfl) (by kernel_rfl) (by kernel_rfl) (fun _ _ _ h => h) (Or.inl ⟨by rfl, ?_⟩) (by assumption) ?_
            rotate_left
            · intro w9 hSw; (try dsimp only at hSw); go_simp; (first | done | with_reducible rfl)
            (try simp only [List.getElem_toArray, List.getElem_cons_succ, List.getElem_cons_zero, Act.put, List.setIfInBounds_toArray, List.set_cons_zero, List.set_cons_succ])
            refine wpAnyH_ready (rs := [12]) (by kernel_rfl) (by simp) ?_
            refine AllReadyH.cons rfl (fun K hK => ?_) AllReadyH.nil
            go_simp
            refine (implLess_c [.int .i64 g, .int .i64 r] [.int .i64 lf, .int .i64 lt] (g, r) (lf, lt) _ (link_V.2 rfl) (link_V.2 rfl)).mono ?_; rw [Hls.out]; rintro e w8 ⟨rfl, hE1⟩
            (try go_wp2_with fail)
            refine hK.out _ _ ?_ (fun hHeld2 => ?_)
            · (try dsimp only); (obtain ⟨s0, s1, s2, s3, s4, s5⟩ := hHeld; exact ⟨cell_ext s0 hE1, cell_ext s1 hE1, cell_ext s2 hE1, cell_ext s3 hE1, cell_ext s4 hE1, s5.trans hE1⟩)
            clear hK K hHeld
            rename _ => hHeld
            (try simp only [List.getElem_toArray, List.getElem_cons_succ, List.getElem_cons_zero, Act.put, List.setIfInBounds_toArray, List.set_cons_zero, List.set_cons_succ])
            refine wpAnyH_take (i := 13) (v := ?_) rfl (by kernel_rfl) (by kernel_rfl) (by kernel_rfl) (fun _ _ _ h => h) (Or.inl ⟨by rfl, ?_⟩) (by assumption) ?_
            rotate_left
            · intro w9 hSw; (try dsimp only at hSw); go_simp; (first | done | with_reducible rfl)
            (try simp only [List.getElem_toArray, List.getElem_cons_succ, List.getElem_cons_zero, Act.put, List.setIfInBounds_toArray, List.set_cons_zero, List.set_cons_succ])
            refine wpAnyH_done (by kernel_rfl) ?_ _
            have hX := hHeld.2.2.2.2.2
            clear hHeld hE1 hc0 hc1
            have Ew8 := hE.out.trans hX
            have Bl8 := hBl.out.ext hX
            clear hX BO co1 cl0 cl1 hE hBl zr HCL HLT HAT
            have Xw8 : Ext w w8 := Ext.trans (by repeat (first | with_reducible exact Ext.refl _ | with_reducible assumption | with_reducible refine Ext.pAlloc ?_ _ | ((with_reducible refine Ext.pSet ?_ ?_ _); rotate_left; (simp <;> omega)) | with_reducible refine Ext.pDrew ?_ | with_reducible refine Ext.pDrewN ?_ _)) Ew8
            have zw8 : w4.heap.size ≤ w8.heap.size := by have := Ew8.size; (try simp at this); omega
            have B_d' : Bx w8 w.heap.size [.slice a ms.length cap, .slice va ls.length vc] := Bx.ext (by repeat (first | with_reducible assumption | with_reducible exact Bx.new _ _ _ _ rfl | ((with_reducible refine Bx.new _ _ _ _ ?_); simp; done) | with_reducible refine Bx.pAlloc ?_ _ | with_reducible refine Bx.pDrew ?_ | ((with_reducible refine Bx.set_other ?_ ?_ _); rotate_left; (simp <;> omega)))) Ew8
            have B_r' : Bx w8 (w.heap.size + 1) [.slice none 0 0, .slice none 0 0] := Bx.ext (by repeat (first | with_reducible assumption | with_reducible exact Bx.new _ _ _ _ rfl | ((with_reducible refine Bx.new _ _ _ _ ?_); simp; done) | with_reducible refine Bx.pAlloc ?_ _ | with_reducible refine Bx.pDrew ?_ | ((with_reducible refine Bx.set_other ?_ ?_ _); rotate_left; (simp <;> omega)))) Ew8
            have B_o' : Bx w8 w2.heap.size [.slice ka ms.length kc, .slice (some ⟨b, off, none⟩) ls.length lc] := Bx.ext (by repeat (first | with_reducible assumption | with_reducible exact Bx.new _ _ _ _ rfl | ((with_reducible refine Bx.new _ _ _ _ ?_); simp; done) | with_reducible refine Bx.pAlloc ?_ _ | with_reducible refine Bx.pDrew ?_ | ((with_reducible refine Bx.set_other ?_ ?_ _); rotate_left; (simp <;> omega)))) Ew8
            have O_cm' : (msgsC).own (a1) (b1) w8 [.slice ka ms.length kc] (ms) := Cd.own.ext (by repeat (first | with_reducible assumption | with_reducible refine Cd.own.pAlloc ?_ _ | with_reducible refine Cd.own.pDrew ?_ | with_reducible refine Cd.own.pDrewN ?_ _ | ((with_reducible refine Cd.own.pSet ?_ ?_ _); rotate_left; (simp <;> omega)))) Ew8
            have O_cl' : (linksC).own (a2) (b2) w8 [.slice (some ⟨b, off, none⟩) ls.length lc] (ls) := Cd.own.ext (by repeat (first | with_reducible assumption | with_reducible refine Cd.own.pAlloc ?_ _ | with_reducible refine Cd.own.pDrew ?_ | with_reducible refine Cd.own.pDrewN ?_ _ | ((with_reducible refine Cd.own.pSet ?_ ?_ _); rotate_left; (simp <;> omega)))) Ew8
            clear B_d
            have B_d := B_d'; clear B_d'
            clear B_r
            have B_r := B_r'; clear B_r'
            clear B_o
            have B_o := B_o'; clear B_o'
            clear O_cm; have O_cm := O_cm'; clear O_cm'
            clear O_cl; have O_cl := O_cl'; clear O_cl'
            clear Ew8 Xw4
            have c_d_0 := B_d.cell 0 _ rfl
            have c_d_1 := B_d.cell 1 _ rfl
            have n_d := B_d.lt
            have c_r_0 := B_r.cell 0 _ rfl
            have c_r_1 := B_r.cell 1 _ rfl
            have n_r := B_r.lt
            have f_r := B_r.fr
            have c_o_0 := B_o.cell 0 _ rfl
            have c_o_1 := B_o.cell 1 _ rfl
            have n_o := B_o.lt
            have f_o := B_o.fr
            have B_l := Bl8; clear Bl8
            have c_l_0 := B_l.cell 0 _ rfl
            have c_l_1 := B_l.cell 1 _ rfl
            have n_l := B_l.lt
            obtain ⟨fp, ⟨a9, c9, xs, fps, e9, q1, q2, hS, hel, hfp⟩, hfn, hfb⟩ := O_cl
            cases e9
            have hLA : ∀ z9 ∈ ablk (some ⟨b, off, none⟩), a2 ≤ z9 ∧ z9 < b2 := fun z9 hb => hfb z9 (by rw [hfp]; exact List.mem_append_left _ hb)
            obtain ⟨x1, x2, rfl, hx1, hx2, he1, he2⟩ := links_split (elemsO_view linkC hel) hple
            have q2' : lc ≤ 9223372036854775807 := by simpa [maxLen] using q2
            have HX := Lib.hid (And.intro hx1 hx2); have HE := Lib.hid (And.intro he1 he2); have HS := Lib.hid hS; have HLA := Lib.hid hLA
            clear hx1 hx2 he1 he2 hS hel hfp hfn hfb hLA q2
            go_wp2_with fail
            refine (linkInsert_c (some ⟨b, off, none⟩) ls.length lc k w8.heap.size x1 x2 [.int .i64 lf, .int .i64 lt] _ (SlAt.ext HS.out (Ext.alloc _ _)) HX.out.1 HX.out.2 hple q1 q2' (by omega) rfl (by simp [Value.oneCell']) (elemsV_one linkC HE.out.2) (Bx.new _ _ _ _ rfl) (fun hm => by have := (HLA.out _ hm).2; omega)).mono ?_
            rintro e w9 ⟨a9, c9, rfl, hS9, hle9, hm9, hA9⟩
            have HO2 := Lib.hid (links_at (n := ls.length + 1) hS9 (links_join HE.out.1 (links_join (links_one lf lt) HE.out.2)) (by simp; omega) hle9 hm9 hA9 HLA.out)
            have hC9 : Chg a2 b2 (w8.alloc (.cells #[.int .i64 lf, .int .i64 lt] 53)) w9 := hA9.chg HLA.out
            clear hS9 hA9 HE HX HS HLA
            have Xw9 : Ext w w9 := Chg.ext (by repeat (first | with_reducible exact Ext.refl _ | with_reducible assumption | with_reducible refine Ext.pAlloc ?_ _ | ((with_reducible refine Ext.pSet ?_ ?_ _); rotate_left; (simp <;> omega)) | with_reducible refine Ext.pDrew ?_ | with_reducible refine Ext.pDrewN ?_ _)) hC9 (by omega)
            have zw9 : w8.heap.size + 1 ≤ w9.heap.size := by have := hC9.size; (try simp at this); omega
            have B_d' : Bx w9 w.heap.size [.slice a ms.length cap, .slice va ls.length vc] := Bx.chg (by repeat (first | with_reducible assumption | with_reducible exact Bx.new _ _ _ _ rfl | ((with_reducible refine Bx.new _ _ _ _ ?_); simp; done) | with_reducible refine Bx.pAlloc ?_ _ | with_reducible refine Bx.pDrew ?_ | ((with_reducible refine Bx.set_other ?_ ?_ _); rotate_left; (simp <;> omega)))) hC9 (by omega)
            have B_r' : Bx w9 (w.heap.size + 1) [.slice none 0 0, .slice none 0 0] := Bx.chg (by repeat (first | with_reducible assumption | with_reducible exact Bx.new _ _ _ _ rfl | ((with_reducible refine Bx.new _ _ _ _ ?_); simp; done) | with_reducible refine Bx.pAlloc ?_ _ | with_reducible refine Bx.pDrew ?_ | ((with_reducible refine Bx.set_other ?_ ?_ _); rotate_left; (simp <;> omega)))) hC9 (by omega)
            have B_o' : Bx w9 w2.heap.size [.slice ka ms.length kc, .slice (some ⟨b, off, none⟩) ls.length lc] := Bx.chg (by repeat (first | with_reducible assumption | with_reducible exact Bx.new _ _ _ _ rfl | ((with_reducible refine Bx.new _ _ _ _ ?_); simp; done) | with_reducible refine Bx.pAlloc ?_ _ | with_reducible refine Bx.pDrew ?_ | ((with_reducible refine Bx.set_other ?_ ?_ _); rotate_left; (simp <;> omega)))) hC9 (by omega)
            have B_l' : Bx w9 w4.heap.size [.int .i64 lf, .int .i64 lt] := Bx.chg (by repeat (first | with_reducible assumption | with_reducible exact Bx.new _ _ _ _ rfl | ((with_reducible refine Bx.new _ _ _ _ ?_); simp; done) | with_reducible refine Bx.pAlloc ?_ _ | with_reducible refine Bx.pDrew ?_ | ((with_reducible refine Bx.set_other ?_ ?_ _); rotate_left; (simp <;> omega)))) hC9 (by omega)
            have O_cm' : (msgsC).own (a1) (b1) w9 [.slice ka ms.length kc] (ms) := Cd.own.chg (by repeat (first | with_reducible assumption | with_reducible refine Cd.own.pAlloc ?_ _ | with_reducible refine Cd.own.pDrew ?_ | with_reducible refine Cd.own.pDrewN ?_ _ | ((with_reducible refine Cd.own.pSet ?_ ?_ _); rotate_left; (simp <;> omega)))) hC9 (by omega)
            clear c_d_0 c_d_1 n_d c_r_0 c_r_1 n_r f_r c_o_0 c_o_1 n_o f_o c_l_0 c_l_1 n_l
            clear B_d
            have B_d := B_d'; clear B_d'
            clear B_r
            have B_r := B_r'; clear B_r'
            clear B_o
            have B_o := B_o'; clear B_o'
            clear B_l
            have B_l := B_l'; clear B_l'
            clear O_cm; have O_cm := O_cm'; clear O_cm'
            clear hC9 Xw8
            have c_d_0 := B_d.cell 0 _ rfl
            have c_d_1 := B_d.cell 1 _ rfl
            have n_d := B_d.lt
            have c_r_0 := B_r.cell 0 _ rfl
            have c_r_1 := B_r.cell 1 _ rfl
            have n_r := B_r.lt
            have f_r := B_r.fr
            have c_o_0 := B_o.cell 0 _ rfl
            have c_o_1 := B_o.cell 1 _ rfl
            have n_o := B_o.lt
            have f_o := B_o.fr
            have c_l_0 := B_l.cell 0 _ rfl
            have c_l_1 := B_l.cell 1 _ rfl
            have n_l := B_l.lt
            obtain ⟨r1, r2, O_cl, hr⟩ := HO2.out
            clear HO2
            replace hr : r1 = a2 ∧ r2 = b2 ∨ w8.heap.size + 1 ≤ r1 ∧ r2 = w9.heap.size := by have h9 := hr; (try simp at h9); omega
            have HR := Lib.hid hr; clear hr
            replace O_cl : (linksC).own (r1) (r2) w9 [.slice a9 (ls.length + 1) c9] (ls.take k ++ ((lf, lt) :: ls.drop k)) := O_cl
            go_wp2
            refine bodyPost_ret (v := .tuple #[.agg #[.slice ka ms.length kc, (.slice a9 (ls.length + 1) c9)], .bool true]) (by simp [results, Try.results9, go_sem, c_r_0, c_r_1, n_r]) rfl ⟨_, _, rfl, ?_, ?_⟩
            · repeat (first | with_reducible exact Ext.refl _ | with_reducible assumption | with_reducible refine Ext.pAlloc ?_ _ | ((with_reducible refine Ext.pSet ?_ ?_ _); rotate_left; (simp <;> omega)) | with_reducible refine Ext.pDrew ?_ | with_reducible refine Ext.pDrewN ?_ _)
            · have hr := HR.out; exact net_join (a1 := a1) (b1 := b1) (a2 := r1) (b2 := r2) (by repeat (first | with_reducible assumption | with_reducible refine Cd.own.pAlloc ?_ _ | with_reducible refine Cd.own.pDrew ?_ | with_reducible refine Cd.own.pDrewN ?_ _ | ((with_reducible refine Cd.own.pSet ?_ ?_ _); rotate_left; (simp <;> omega)))) (by repeat (first | with_reducible assumption | with_reducible refine Cd.own.pAlloc ?_ _ | with_reducible refine Cd.own.pDrew ?_ | with_reducible refine Cd.own.pDrewN ?_ _ | ((with_reducible refine Cd.own.pSet ?_ ?_ _); rotate_left; (simp <;> omega)))) (by omega) ⟨(by first | omega | (simp <;> omega)), (by first | (simp [World.setCell]; done) | (simp [World.setCell]; omega) | omega), (by omega), (by (first | (simp [World.setCell]; omega) | omega))⟩
          · have hgt : ¬ ((k : Int) < ls.length) := by omega
            go_wp2
            refine wp_region_held_drew (S := fun ω => ω.cell? ⟨w2.heap.size, 1, none⟩ = some (.slice la ls.length lc) ∧ ω.cell? ⟨w4.heap.size, 0, none⟩ = some (.int .i64 lf) ∧ ω.cell? ⟨w4.heap.size, 1, none⟩ = some (.int .i64 lt) ∧ Ext wr ω) (by kernel_rfl) ?_ (fun hHeld => ?_)
            · (try dsimp only); (refine ⟨?_, ?_, ?_, ?_⟩ <;> first | (simp [go_sem]; done) | (simp [*, go_sem]; done) | ((repeat (first | with_reducible assumption | with_reducible exact Bx.new _ _ _ _ rfl | ((with_reducible refine Bx.new _ _ _ _ ?_); simp; done) | with_reducible refine Bx.pAlloc ?_ _ | with_reducible refine Bx.pDrew ?_ | ((with_reducible refine Bx.set_other ?_ ?_ _); rotate_left; (simp <;> omega)))); done) | ((repeat (first | with_reducible exact Ext.refl _ | with_reducible assumption | with_reducible refine Ext.pAlloc ?_ _ | ((with_reducible refine Ext.pSet ?_ ?_ _); rotate_left; (simp <;> omega)) | with_reducible refine Ext.pDrew ?_ | with_reducible refine Ext.pDrewN ?_ _)); done))
            refine wpAnyH_take (i := 0) (v := ?_) rfl (by kernel_rfl) (by kernel_rfl) (by kernel_rfl) (fun _ _ _ h => h) (Or.inl ⟨by rfl, ?_⟩) (by assumption) ?_
            rotate_left
            · intro w9 hSw; (try dsimp only at hSw); go_simp; (first | done | with_reducible rfl)
            (try simp only [List.getElem_toArray, List.getElem_cons_succ, List.getElem_cons_zero, Act.put, List.setIfInBounds_toArray, List.set_cons_zero, List.set_cons_succ])
            refine wpAnyH_take (i := 1) (v := ?_) rfl (by kernel_rfl) (by kernel_rfl) (by kernel_rfl) (fun _ _ _ h => h) (Or.inl ⟨by rfl, ?_⟩) (by assumption) ?_
            rotate_left
            · intro w9 hSw; (try dsimp only at hSw); go_simp; (first | done | with_reducible rfl)
            (try simp only [List.getElem_toArray, List.getElem_cons_succ, List.getElem_cons_zero, Act.put, List.setIfInBounds_toArray, List.set_cons_zero, List.set_cons_succ])
            refine wpAnyH_take (i := 2) (v := ?_) rfl (by kernel_rfl) (by kernel_rfl) (by kernel_rfl) (fun _ _ _ h => h) (Or.inl ⟨by rfl, ?_⟩) (by assumption) ?_
            rotate_left
            · intro w9 hSw; (try dsimp only at hSw); go_simp; (first | done | with_reducible rfl)
            (try simp only [List.getElem_toArray, List.getElem_cons_succ, List.getElem_cons_zero, Act.put, List.setIfInBounds_toArray, List.set_cons_zero, List.set_cons_succ])
            refine wpAnyH_take (i := 3) (v := ?_) rfl (by kernel_rfl) (by kernel_rfl) (by kernel_rfl) (fun _ _ _ h => h) (Or.inl ⟨by rfl, ?_⟩) (by assumption) ?_
            rotate_left
            · intro w9 hSw; (try dsimp only at hSw); go_simp; (first | done | with_reducible rfl)
            (try simp only [List.getElem_toArray, List.getElem_cons_succ, List.getElem_cons_zero, Act.put, List.setIfInBounds_toArray, List.set_cons_zero, List.set_cons_succ])
            refine wpAnyH_take (i := 4) (v := ?_) rfl (by kernel_rfl) (by kernel_rfl) (by kernel_rfl) (fun _ _ _ h => h) (Or.inl ⟨by rfl, ?_⟩) (by assumption) ?_
            rotate_left
            · intro w9 hSw; (try dsimp only at hSw); go_simp; (first | done | with_reducible rfl)
            (try simp only [List.getElem_toArray, List.getElem_cons_succ, List.getElem_cons_zero, Act.put, List.setIfInBounds_toArray, List.set_cons_zero, List.set_cons_succ])
            refine wpAnyH_take (i := 5) (v := ?_) rfl (by kernel_rfl) (by kernel_rfl) (by kernel_rfl) (fun _ _ _ h => h) (Or.inl ⟨by rfl, ?_⟩) (by assumption) ?_
            rotate_left
            · intro w9 hSw; (try dsimp only at hSw); go_simp; (first | done | with_reducible rfl)
            (try simp only [List.getElem_toArray, List.getElem_cons_succ, List.getElem_cons_zero, Act.put, List.setIfInBounds_toArray, List.set_cons_zero, List.set_cons_succ])
            refine wpAnyH_take (i := 6) (v := undef) rfl (by kernel_rfl) (by kernel_rfl) (by kernel_rfl) (fun _ _ _ h => h) (Or.inr ⟨by rfl, rfl⟩) (by assumption) ?_
            (try simp only [List.getElem_toArray, List.getElem_cons_succ, List.getElem_cons_zero, Act.put, List.setIfInBounds_toArray, List.set_cons_zero, List.set_cons_succ])
            refine wpAnyH_take (i := 7) (v := undef) rfl (by kernel_rfl) (by kernel_rfl) (by kernel_rfl) (fun _ _ _ h => h) (Or.inr ⟨by rfl, rfl⟩) (by assumption) ?_
            (try simp only [List.getElem_toArray, List.getElem_cons_succ, List.getElem_cons_zero, Act.put, List.setIfInBounds_toArray, List.set_cons_zero, List.set_cons_succ])
            refine wpAnyH_take (i := 8) (v := undef) rfl (by kernel_rfl) (by kernel_rfl) (by kernel_rfl) (fun _ _ _ h => h) (Or.inr ⟨by rfl, rfl⟩) (by assumption) ?_
            (try simp only [List.getElem_toArray, List.getElem_cons_succ, List.getElem_cons_zero, Act.put, List.setIfInBounds_toArray, List.set_cons_zero, List.set_cons_succ])
            refine wpAnyH_take (i := 9) (v := undef) rfl (by kernel_rfl) (by kernel_rfl) (by kernel_rfl) (fun _ _ _ h => h) (Or.inr ⟨by rfl, rfl⟩) (by assumption) ?_
            (try simp only [List.getElem_toArray, List.getElem_cons_succ, List.getElem_cons_zero, Act.put, List.setIfInBounds_toArray, List.set_cons_zero, List.set_cons_succ])
            refine wpAnyH_take (i := 10) (v := undef) rfl (by kernel_rfl) (by kernel_rfl) (by kernel_rfl) (fun _ _ _ h => h) (Or.inr ⟨by rfl, rfl⟩) (by assumption) ?_
            (try simp only [List.getElem_toArray, List.getElem_cons_succ, List.getElem_cons_zero, Act.put, List.setIfInBounds_toArray, List.set_cons_zero, List.set_cons_succ])
            refine wpAnyH_take (i := 11) (v := undef) rfl (by kernel_rfl) (by kernel_rfl) (by kernel_rfl) (fun _ _ _ h => h) (Or.inr ⟨by rfl, rfl⟩) (by assumption) ?_
            (try simp only [List.getElem_toArray, List.getElem_cons_succ, List.getElem_cons_zero, Act.put, List.setIfInBounds_toArray, List.set_cons_zero, List.set_cons_succ])
            refine wpAnyH_take (i := 12) (v := undef) rfl (by kernel_rfl) (by kernel_rfl) (by kernel_rfl) (fun _ _ _ h => h) (Or.inr ⟨by rfl, rfl⟩) (by assumption) ?_
            (try simp only [List.getElem_toArray, List.getElem_cons_succ, List.getElem_cons_zero, Act.put, List.setIfInBounds_toArray, List.set_cons_zero, List.set_cons_succ])
            refine wpAnyH_take (i := 13) (v := ?_) rfl (by kernel_rfl) (by kernel_rfl) (by kernel_rfl) (fun _ _ _ h => h) (Or.inl ⟨by rfl, ?_⟩) (by assumption) ?_
            rotate_left
            · intro w9 hSw; (try dsimp only at hSw); go_simp; (first | done | with_reducible rfl)
            (try simp only [List.getElem_toArray, List.getElem_cons_succ, List.getElem_cons_zero, Act.put, List.setIfInBounds_toArray, List.set_cons_zero, List.set_cons_succ])
            refine wpAnyH_done (by kernel_rfl) ?_ _
            obtain ⟨w8, hw8⟩ : ∃ w8, w8 = wr.drew := ⟨_, rfl⟩
            rw [← hw8] at hHeld ⊢
            have hX := hHeld.2.2.2
            clear hHeld hw8 hgt
            have Ew8 := hE.out.trans hX
            have Bl8 := hBl.out.ext hX
            clear hX BO co1 cl0 cl1 hE hBl zr HCL HLT HAT
            have Xw8 : Ext w w8 := Ext.trans (by repeat (first | with_reducible exact Ext.refl _ | with_reducible assumption | with_reducible refine Ext.pAlloc ?_ _ | ((with_reducible refine Ext.pSet ?_ ?_ _); rotate_left; (simp <;> omega)) | with_reducible refine Ext.pDrew ?_ | with_reducible refine Ext.pDrewN ?_ _)) Ew8
            have zw8 : w4.heap.size ≤ w8.heap.size := by have := Ew8.size; (try simp at this); omega
            have B_d' : Bx w8 w.heap.size [.slice a ms.length cap, .slice va ls.length vc] := Bx.ext (by repeat (first | with_reducible assumption | with_reducible exact Bx.new _ _ _ _ rfl | ((with_reducible refine Bx.new _ _ _ _ ?_); simp; done) | with_reducible refine Bx.pAlloc ?_ _ | with_reducible refine Bx.pDrew ?_ | ((with_reducible refine Bx.set_other ?_ ?_ _); rotate_left; (simp <;> omega)))) Ew8
            have B_r' : Bx w8 (w.heap.size + 1) [.slice none 0 0, .slice none 0 0] := Bx.ext (by repeat (first | with_reducible assumption | with_reducible exact Bx.new _ _ _ _ rfl | ((with_reducible refine Bx.new _ _ _ _ ?_); simp; done) | with_reducible refine Bx.pAlloc ?_ _ | with_reducible refine Bx.pDrew ?_ | ((with_reducible refine Bx.set_other ?_ ?_ _); rotate_left; (simp <;> omega)))) Ew8
            have B_o' : Bx w8 w2.heap.size [.slice ka ms.length kc, .slice la ls.length lc] := Bx.ext (by repeat (first | with_reducible assumption | with_reducible exact Bx.new _ _ _ _ rfl | ((with_reducible refine Bx.new _ _ _ _ ?_); simp; done) | with_reducible refine Bx.pAlloc ?_ _ | with_reducible refine Bx.pDrew ?_ | ((with_reducible refine Bx.set_other ?_ ?_ _); rotate_left; (simp <;> omega)))) Ew8
            have O_cm' : (msgsC).own (a1) (b1) w8 [.slice ka ms.length kc] (ms) := Cd.own.ext (by repeat (first | with_reducible assumption | with_reducible refine Cd.own.pAlloc ?_ _ | with_reducible refine Cd.own.pDrew ?_ | with_reducible refine Cd.own.pDrewN ?_ _ | ((with_reducible refine Cd.own.pSet ?_ ?_ _); rotate_left; (simp <;> omega)))) Ew8
            have O_cl' : (linksC).own (a2) (b2) w8 [.slice la ls.length lc] (ls) := Cd.own.ext (by repeat (first | with_reducible assumption | with_reducible refine Cd.own.pAlloc ?_ _ | with_reducible refine Cd.own.pDrew ?_ | with_reducible refine Cd.own.pDrewN ?_ _ | ((with_reducible refine Cd.own.pSet ?_ ?_ _); rotate_left; (simp <;> omega)))) Ew8
            clear B_d
            have B_d := B_d'; clear B_d'
            clear B_r
            have B_r := B_r'; clear B_r'
            clear B_o
            have B_o := B_o'; clear B_o'
            clear O_cm; have O_cm := O_cm'; clear O_cm'
            clear O_cl; have O_cl := O_cl'; clear O_cl'
            clear Ew8 Xw4
            have c_d_0 := B_d.cell 0 _ rfl
            have c_d_1 := B_d.cell 1 _ rfl
            have n_d := B_d.lt
            have c_r_0 := B_r.cell 0 _ rfl
            have c_r_1 := B_r.cell 1 _ rfl
            have n_r := B_r.lt
            have f_r := B_r.fr
            have c_o_0 := B_o.cell 0 _ rfl
            have c_o_1 := B_o.cell 1 _ rfl
            have n_o := B_o.lt
            have f_o := B_o.fr
            have B_l := Bl8; clear Bl8
            have c_l_0 := B_l.cell 0 _ rfl
            have c_l_1 := B_l.cell 1 _ rfl
            have n_l := B_l.lt
            obtain ⟨fp, ⟨a9, c9, xs, fps, e9, q1, q2, hS, hel, hfp⟩, hfn, hfb⟩ := O_cl
            cases e9
            have hLA : ∀ z9 ∈ ablk la, a2 ≤ z9 ∧ z9 < b2 := fun z9 hb => hfb z9 (by rw [hfp]; exact List.mem_append_left _ hb)
            obtain ⟨x1, x2, rfl, hx1, hx2, he1, he2⟩ := links_split (elemsO_view linkC hel) hple
            have q2' : lc ≤ 9223372036854775807 := by simpa [maxLen] using q2
            have HX := Lib.hid (And.intro hx1 hx2); have HE := Lib.hid (And.intro he1 he2); have HS := Lib.hid hS; have HLA := Lib.hid hLA
            clear hx1 hx2 he1 he2 hS hel hfp hfn hfb hLA q2
            go_wp2_with fail
            refine (linkInsert_c la ls.length lc k w8.heap.size x1 x2 [.int .i64 lf, .int .i64 lt] _ (SlAt.ext HS.out (Ext.alloc _ _)) HX.out.1 HX.out.2 hple q1 q2' (by omega) rfl (by simp [Value.oneCell']) (elemsV_one linkC HE.out.2) (Bx.new _ _ _ _ rfl) (fun hm => by have := (HLA.out _ hm).2; omega)).mono ?_
            rintro e w9 ⟨a9, c9, rfl, hS9, hle9, hm9, hA9⟩
            have HO2 := Lib.hid (links_at (n := ls.length + 1) hS9 (links_join HE.out.1 (links_join (links_one lf lt) HE.out.2)) (by simp; omega) hle9 hm9 hA9 HLA.out)
            have hC9 : Chg a2 b2 (w8.alloc (.cells #[.int .i64 lf, .int .i64 lt] 53)) w9 := hA9.chg HLA.out
            clear hS9 hA9 HE HX HS HLA
            have Xw9 : Ext w w9 := Chg.ext (by repeat (first | with_reducible exact Ext.refl _ | with_reducible assumption | with_reducible refine Ext.pAlloc ?_ _ | ((with_reducible refine Ext.pSet ?_ ?_ _); rotate_left; (simp <;> omega)) | with_reducible refine Ext.pDrew ?_ | with_reducible refine Ext.pDrewN ?_ _)) hC9 (by omega)
            have zw9 : w8.heap.size + 1 ≤ w9.heap.size := by have := hC9.size; (try simp at this); omega
            have B_d' : Bx w9 w.heap.size [.slice a ms.length cap, .slice va ls.length vc] := Bx.chg (by repeat (first | with_reducible assumption | with_reducible exact Bx.new _ _ _ _ rfl | ((with_reducible refine Bx.new _ _ _ _ ?_); simp; done) | with_reducible refine Bx.pAlloc ?_ _ | with_reducible refine Bx.pDrew ?_ | ((with_reducible refine Bx.set_other ?_ ?_ _); rotate_left; (simp <;> omega)))) hC9 (by omega)
            have B_r' : Bx w9 (w.heap.size + 1) [.slice none 0 0, .slice none 0 0] := Bx.chg (by repeat (first | with_reducible assumption | with_reducible exact Bx.new _ _ _ _ rfl | ((with_reducible refine Bx.new _ _ _ _ ?_); simp; done) | with_reducible refine Bx.pAlloc ?_ _ | with_reducible refine Bx.pDrew ?_ | ((with_reducible refine Bx.set_other ?_ ?_ _); rotate_left; (simp <;> omega)))) hC9 (by omega)
            have B_o' : Bx w9 w2.heap.size [.slice ka ms.length kc, .slice la ls.length lc] := Bx.chg (by repeat (first | with_reducible assumption | with_reducible exact Bx.new _ _ _ _ rfl | ((with_reducible refine Bx.new _ _ _ _ ?_); simp; done) | with_reducible refine Bx.pAlloc ?_ _ | with_reducible refine Bx.pDrew ?_ | ((with_reducible refine Bx.set_other ?_ ?_ _); rotate_left; (simp <;> omega)))) hC9 (by omega)
            have B_l' : Bx w9 w4.heap.size [.int .i64 lf, .int .i64 lt] := Bx.chg (by repeat (first | with_reducible assumption | with_reducible exact Bx.new _ _ _ _ rfl | ((with_reducible refine Bx.new _ _ _ _ ?_); simp; done) | with_reducible refine Bx.pAlloc ?_ _ | with_reducible refine Bx.pDrew ?_ | ((with_reducible refine Bx.set_other ?_ ?_ _); rotate_left; (simp <;> omega)))) hC9 (by omega)
            have O_cm' : (msgsC).own (a1) (b1) w9 [.slice ka ms.length kc] (ms) := Cd.own.chg (by repeat (first | with_reducible assumption | with_reducible refine Cd.own.pAlloc ?_ _ | with_reducible refine Cd.own.pDrew ?_ | with_reducible refine Cd.own.pDrewN ?_ _ | ((with_reducible refine Cd.own.pSet ?_ ?_ _); rotate_left; (simp <;> omega)))) hC9 (by omega)
            clear c_d_0 c_d_1 n_d c_r_0 c_r_1 n_r f_r c_o_0 c_o_1 n_o f_o c_l_0 c_l_1 n_l
            clear B_d
            have B_d := B_d'; clear B_d'
            clear B_r
            have B_r := B_r'; clear B_r'
            clear B_o
            have B_o := B_o'; clear B_o'
            clear B_l
            have B_l := B_l'; clear B_l'
            clear O_cm; have O_cm := O_cm'; clear O_cm'
            clear hC9 Xw8
            have c_d_0 := B_d.cell 0 _ rfl
            have c_d_1 := B_d.cell 1 _ rfl
            have n_d := B_d.lt
            have c_r_0 := B_r.cell 0 _ rfl
            have c_r_1 := B_r.cell 1 _ rfl
            have n_r := B_r.lt
            have f_r := B_r.fr
            have c_o_0 := B_o.cell 0 _ rfl
            have c_o_1 := B_o.cell 1 _ rfl
            have n_o := B_o.lt
            have f_o := B_o.fr
            have c_l_0 := B_l.cell 0 _ rfl
            have c_l_1 := B_l.cell 1 _ rfl
            have n_l := B_l.lt
            obtain ⟨r1, r2, O_cl, hr⟩ := HO2.out
            clear HO2
            replace hr : r1 = a2 ∧ r2 = b2 ∨ w8.heap.size + 1 ≤ r1 ∧ r2 = w9.heap.size := by have h9 := hr; (try simp at h9); omega
            have HR := Lib.hid hr; clear hr
            replace O_cl : (linksC).own (r1) (r2) w9 [.slice a9 (ls.length + 1) c9] (ls.take k ++ ((lf, lt) :: ls.drop k)) := O_cl
            go_wp2
            refine bodyPost_ret (v := .tuple #[.agg #[.slice ka ms.length kc, (.slice a9 (ls.length + 1) c9)], .bool true]) (by simp [results, Try.results9, go_sem, c_r_0, c_r_1, n_r]) rfl ⟨_, _, rfl, ?_, ?_⟩
            · repeat (first | with_reducible exact Ext.refl _ | with_reducible assumption | with_reducible refine Ext.pAlloc ?_ _ | ((with_reducible refine Ext.pSet ?_ ?_ _); rotate_left; (simp <;> omega)) | with_reducible refine Ext.pDrew ?_ | with_reducible refine Ext.pDrewN ?_ _)
            · have hr := HR.out; exact net_join (a1 := a1) (b1 := b1) (a2 := r1) (b2 := r2) (by repeat (first | with_reducible assumption | with_reducible refine Cd.own.pAlloc ?_ _ | with_reducible refine Cd.own.pDrew ?_ | with_reducible refine Cd.own.pDrewN ?_ _ | ((with_reducible refine Cd.own.pSet ?_ ?_ _); rotate_left; (simp <;> omega)))) (by repeat (first | with_reducible assumption | with_reducible refine Cd.own.pAlloc ?_ _ | with_reducible refine Cd.own.pDrew ?_ | with_reducible refine Cd.own.pDrewN ?_ _ | ((with_reducible refine Cd.own.pSet ?_ ?_ _); rotate_left; (simp <;> omega)))) (by omega) ⟨(by first | omega | (simp <;> omega)), (by first | (simp [World.setCell]; done) | (simp [World.setCell]; omega) | omega), (by omega), (by (first | (simp [World.setCell]; omega) | omega))⟩
    · have hr : cutOff (ms, ls) p q = ((ms, ls), false) := by unfold cutOff; rw [if_pos hd, if_neg ht]
      rw [hr]
      have Hp : Hid (passesIn (ms, ls) p q = false) := by show passesIn (ms, ls) p q = false; unfold passesIn; rw [hd]; revert ht; cases apart p q <;> simp
      have Hd := Lib.hid hd; clear hd ht hr
      go_enter Try.func9, Try.ntmps9
      go_wp2_with fail
      refine (implNetOk_c _ (ms, ls) _ (netC.vext HD.out (by repeat (first | with_reducible exact Ext.refl _ | with_reducible assumption | with_reducible refine Ext.pAlloc ?_ _ | ((with_reducible refine Ext.pSet ?_ ?_ _); rotate_left; (simp <;> omega)) | with_reducible refine Ext.pDrew ?_ | with_reducible refine Ext.pDrewN ?_ _)))).mono ?_
      rw [Hd.out]
      rintro e w1 ⟨rfl, Ew1⟩
      have Xw1 : Ext w w1 := Ext.trans (by repeat (first | with_reducible exact Ext.refl _ | with_reducible assumption | with_reducible refine Ext.pAlloc ?_ _ | ((with_reducible refine Ext.pSet ?_ ?_ _); rotate_left; (simp <;> omega)) | with_reducible refine Ext.pDrew ?_ | with_reducible refine Ext.pDrewN ?_ _)) Ew1
      have zw1 : w.heap.size + 1 + 1 ≤ w1.heap.size := by have := Ew1.size; (try simp at this); omega
      have B_d' : Bx w1 w.heap.size [.slice a ms.length cap, .slice va ls.length vc] := Bx.ext (by repeat (first | with_reducible assumption | with_reducible exact Bx.new _ _ _ _ rfl | ((with_reducible refine Bx.new _ _ _ _ ?_); simp; done) | with_reducible refine Bx.pAlloc ?_ _ | with_reducible refine Bx.pDrew ?_ | ((with_reducible refine Bx.set_other ?_ ?_ _); rotate_left; (simp <;> omega)))) Ew1
      have B_r' : Bx w1 (w.heap.size + 1) [.slice none 0 0, .slice none 0 0] := Bx.ext (by repeat (first | with_reducible assumption | with_reducible exact Bx.new _ _ _ _ rfl | ((with_reducible refine Bx.new _ _ _ _ ?_); simp; done) | with_reducible refine Bx.pAlloc ?_ _ | with_reducible refine Bx.pDrew ?_ | ((with_reducible refine Bx.set_other ?_ ?_ _); rotate_left; (simp <;> omega)))) Ew1
      have B_d := B_d'; clear B_d'
      have B_r := B_r'; clear B_r'
      clear Ew1
      have c_d_0 := B_d.cell 0 _ rfl
      have c_d_1 := B_d.cell 1 _ rfl
      have n_d := B_d.lt
      have c_r_0 := B_r.cell 0 _ rfl
      have c_r_1 := B_r.cell 1 _ rfl
      have n_r := B_r.lt
      have f_r := B_r.fr
      go_wp2_with fail
      refine (copyNet_c _ (ms, ls) _ (netC.vext HD.out (by repeat (first | with_reducible exact Ext.refl _ | with_reducible assumption | with_reducible refine Ext.pAlloc ?_ _ | ((with_reducible refine Ext.pSet ?_ ?_ _); rotate_left; (simp <;> omega)) | with_reducible refine Ext.pDrew ?_ | with_reducible refine Ext.pDrewN ?_ _))) Hd.out).mono ?_
      rintro e w2 ⟨u1, v1, rfl, Ew2, a1, b1, a2, b2, p1, p2, p3, p4, p5, p6, p7, O_cm, O_cl⟩
      simp only at O_cm O_cl
      obtain ⟨ka, kc, rfl⟩ := sl_form O_cm.view
      obtain ⟨la, lc, rfl⟩ := sl_form O_cl.view
      replace p1 : w1.heap.size ≤ a1 := by have h9 := p1; (try simp at h9); omega
      replace p4 : w1.heap.size ≤ a2 := by have h9 := p4; (try simp at h9); omega
      have Xw2 : Ext w w2 := Ext.trans (by repeat (first | with_reducible exact Ext.refl _ | with_reducible assumption | with_reducible refine Ext.pAlloc ?_ _ | ((with_reducible refine Ext.pSet ?_ ?_ _); rotate_left; (simp <;> omega)) | with_reducible refine Ext.pDrew ?_ | with_reducible refine Ext.pDrewN ?_ _)) Ew2
      have zw2 : w1.heap.size ≤ w2.heap.size := by have := Ew2.size; (try simp at this); omega
      have B_d' : Bx w2 w.heap.size [.slice a ms.length cap, .slice va ls.length vc] := Bx.ext (by repeat (first | with_reducible assumption | with_reducible exact Bx.new _ _ _ _ rfl | ((with_reducible refine Bx.new _ _ _ _ ?_); simp; done) | with_reducible refine Bx.pAlloc ?_ _ | with_reducible refine Bx.pDrew ?_ | ((with_reducible refine Bx.set_other ?_ ?_ _); rotate_left; (simp <;> omega)))) Ew2
      have B_r' : Bx w2 (w.heap.size + 1) [.slice none 0 0, .slice none 0 0] := Bx.ext (by repeat (first | with_reducible assumption | with_reducible exact Bx.new _ _ _ _ rfl | ((with_reducible refine Bx.new _ _ _ _ ?_); simp; done) | with_reducible refine Bx.pAlloc ?_ _ | with_reducible refine Bx.pDrew ?_ | ((with_reducible refine Bx.set_other ?_ ?_ _); rotate_left; (simp <;> omega)))) Ew2
      clear c_d_0 c_d_1 n_d c_r_0 c_r_1 n_r f_r
      clear B_d
      have B_d := B_d'; clear B_d'
      clear B_r
      have B_r := B_r'; clear B_r'
      clear Ew2 Xw1
      have c_d_0 := B_d.cell 0 _ rfl
      have c_d_1 := B_d.cell 1 _ rfl
      have n_d := B_d.lt
      have c_r_0 := B_r.cell 0 _ rfl
      have c_r_1 := B_r.cell 1 _ rfl
      have n_r := B_r.lt
      have f_r := B_r.fr
      go_wp2_with fail
      refine (implPassesIn_c _ (ms, ls) p q _ (netC.vext HD.out (by repeat (first | with_reducible exact Ext.refl _ | with_reducible assumption | with_reducible refine Ext.pAlloc ?_ _ | ((with_reducible refine Ext.pSet ?_ ?_ _); rotate_left; (simp <;> omega)) | with_reducible refine Ext.pDrew ?_ | with_reducible refine Ext.pDrewN ?_ _)))).mono ?_
      rw [Hp.out]
      rintro e w3 ⟨rfl, Ew3⟩
      have Xw3 : Ext w w3 := Ext.trans (by repeat (first | with_reducible exact Ext.refl _ | with_reducible assumption | with_reducible refine Ext.pAlloc ?_ _ | ((with_reducible refine Ext.pSet ?_ ?_ _); rotate_left; (simp <;> omega)) | with_reducible refine Ext.pDrew ?_ | with_reducible refine Ext.pDrewN ?_ _)) Ew3
      have zw3 : w2.heap.size + 1 ≤ w3.heap.size := by have := Ew3.size; (try simp at this); omega
      have B_d' : Bx w3 w.heap.size [.slice a ms.length cap, .slice va ls.length vc] := Bx.ext (by repeat (first | with_reducible assumption | with_reducible exact Bx.new _ _ _ _ rfl | ((with_reducible refine Bx.new _ _ _ _ ?_); simp; done) | with_reducible refine Bx.pAlloc ?_ _ | with_reducible refine Bx.pDrew ?_ | ((with_reducible refine Bx.set_other ?_ ?_ _); rotate_left; (simp <;> omega)))) Ew3
      have B_r' : Bx w3 (w.heap.size + 1) [.slice none 0 0, .slice none 0 0] := Bx.ext (by repeat (first | with_reducible assumption | with_reducible exact Bx.new _ _ _ _ rfl | ((with_reducible refine Bx.new _ _ _ _ ?_); simp; done) | with_reducible refine Bx.pAlloc ?_ _ | with_reducible refine Bx.pDrew ?_ | ((with_reducible refine Bx.set_other ?_ ?_ _); rotate_left; (simp <;> omega)))) Ew3
      have B_o' : Bx w3 w2.heap.size [.slice ka ms.length kc, .slice la ls.length lc] := Bx.ext (by repeat (first | with_reducible assumption | with_reducible exact Bx.new _ _ _ _ rfl | ((with_reducible refine Bx.new _ _ _ _ ?_); simp; done) | with_reducible refine Bx.pAlloc ?_ _ | with_reducible refine Bx.pDrew ?_ | ((with_reducible refine Bx.set_other ?_ ?_ _); rotate_left; (simp <;> omega)))) Ew3
      have O_cm' : (msgsC).own (a1) (b1) w3 [.slice ka ms.length kc] (ms) := Cd.own.ext (by repeat (first | with_reducible assumption | with_reducible refine Cd.own.pAlloc ?_ _ | with_reducible refine Cd.own.pDrew ?_ | with_reducible refine Cd.own.pDrewN ?_ _ | ((with_reducible refine Cd.own.pSet ?_ ?_ _); rotate_left; (simp <;> omega)))) Ew3
      have O_cl' : (linksC).own (a2) (b2) w3 [.slice la ls.length lc] (ls) := Cd.own.ext (by repeat (first | with_reducible assumption | with_reducible refine Cd.own.pAlloc ?_ _ | with_reducible refine Cd.own.pDrew ?_ | with_reducible refine Cd.own.pDrewN ?_ _ | ((with_reducible refine Cd.own.pSet ?_ ?_ _); rotate_left; (simp <;> omega)))) Ew3
      clear c_d_0 c_d_1 n_d c_r_0 c_r_1 n_r f_r
      clear B_d
      have B_d := B_d'; clear B_d'
      clear B_r
      have B_r := B_r'; clear B_r'
      have B_o := B_o'; clear B_o'
      clear O_cm; have O_cm := O_cm'; clear O_cm'
      clear O_cl; have O_cl := O_cl'; clear O_cl'
      clear Ew3 Xw2
      have c_d_0 := B_d.cell 0 _ rfl
      have c_d_1 := B_d.cell 1 _ rfl
      have n_d := B_d.lt
      have c_r_0 := B_r.cell 0 _ rfl
      have c_r_1 := B_r.cell 1 _ rfl
      have n_r := B_r.lt
      have f_r := B_r.fr
      have c_o_0 := B_o.cell 0 _ rfl
      have c_o_1 := B_o.cell 1 _ rfl
      have n_o := B_o.lt
      have f_o := B_o.fr
      go_wp2
      refine bodyPost_ret (v := .tuple #[.agg #[.slice ka ms.length kc, .slice la ls.length lc], .bool false]) (by simp [results, Try.results9, go_sem, c_r_0, c_r_1, n_r]) rfl ⟨_, _, rfl, ?_, ?_⟩
      · repeat (first | with_reducible exact Ext.refl _ | with_reducible assumption | with_reducible refine Ext.pAlloc ?_ _ | ((with_reducible refine Ext.pSet ?_ ?_ _); rotate_left; (simp <;> omega)) | with_reducible refine Ext.pDrew ?_ | with_reducible refine Ext.pDrewN ?_ _)
      · exact net_join (by repeat (first | with_reducible assumption | with_reducible refine Cd.own.pAlloc ?_ _ | with_reducible refine Cd.own.pDrew ?_ | with_reducible refine Cd.own.pDrewN ?_ _ | ((with_reducible refine Cd.own.pSet ?_ ?_ _); rotate_left; (simp <;> omega)))) (by repeat (first | with_reducible assumption | with_reducible refine Cd.own.pAlloc ?_ _ | with_reducible refine Cd.own.pDrew ?_ | with_reducible refine Cd.own.pDrewN ?_ _ | ((with_reducible refine Cd.own.pSet ?_ ?_ _); rotate_left; (simp <;> omega)))) p7 ⟨(by first | omega | (simp <;> omega)), (by first | (simp [World.setCell]; done) | (simp [World.setCell]; omega) | omega), (by first | omega | (simp <;> omega)), (by first | (simp [World.setCell]; done) | (simp [World.setCell]; omega) | omega)⟩

end Go.Proofs.Ytjjeagblgjmcpaa

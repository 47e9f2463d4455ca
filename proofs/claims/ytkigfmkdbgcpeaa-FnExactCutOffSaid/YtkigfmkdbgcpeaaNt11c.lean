/- A link cut: the reference, where links stand behind it. -/
import Derived.Test.YtkigfmkdbgcpeaaNt11b
set_option linter.unusedVariables false
set_option linter.unusedSimpArgs false
namespace Go.Proofs.Ytkigfmkdbgcpeaa
open Go.RowKit Go.Sl

set_option maxHeartbeats 8000000 in
set_option maxRecDepth 20000 in
theorem specCutOff_1 (cs : List Value) (d : NetD) (p q : Int) (w : World) (h : netC.V w cs d) (hd : netOk d = true) (ha : apart p q = true) (ht : ¬ linkOf p q ∈ d.2) (hpl : cutPos d.2 (linkOf p q) < d.2.length) :
    Calls Try.prog 46 #[.agg cs.toArray, .int .i64 p, .int .i64 q] w fun e w' => ∃ u v, e = .returned (.tuple #[.agg #[u, v], .bool (cutOff d p q).2]) ∧ Ext w w' ∧ netC.own w.heap.size w'.heap.size w' [u, v] (cutOff d p q).1 := by
  have HD := Lib.hid h
  obtain ⟨u, v, rfl, hu, hv⟩ := net_V.1 h
  obtain ⟨ms, ls⟩ := d
  simp only at hu hv
  obtain ⟨a, cap, rfl⟩ := sl_form hu
  have hop := slice_open (R := linkC) (by decide) hv
  obtain ⟨va, vc, xs, rfl, hl1, hl2, hcs, hel⟩ := sl_cells hv
  have hcl : ∀ k, k < ls.length → ∃ b off x c, va = some ⟨b, off, none⟩ ∧ Hid (ls[k]? = some x) ∧ linkC.V w c x ∧ ∀ j u, c[j]? = some u → w.cell? ⟨b, off + k * 2 + j, none⟩ = some u := by
    obtain ⟨a9, c9, e9, -, -, h9⟩ := hop
    cases e9
    exact h9
  have HCL := Lib.hid hcl
  have Hcs := Lib.hid (And.intro hcs hel)
  have Hinf := Lib.hid Try.infoL
  clear hu hv h hcs hel hop hcl
  simp only at ht hpl hd
  have hr : cutOff (ms, ls) p q = ((ms, ls.take (cutPos ls (linkOf p q)) ++ linkOf p q :: ls.drop (cutPos ls (linkOf p q))), true) := by unfold cutOff; rw [if_pos hd, if_pos ⟨ha, ht⟩]
  rw [hr]
  have Ha := Lib.hid ha
  have Hx := Lib.hid (linkIx_out ht)
  have hlen := (netOk_lens hd).2
  simp only at hlen
  have hple := cutPos_le ls (linkOf p q)
  have hlt0 : ∀ k y, k < cutPos ls (linkOf p q) → ls[k]? = some y → linkLess y (linkOf p q) = true := fun k y h1 h2 => cutPos_lt h1 h2
  have hat0 : ∀ y, ls[cutPos ls (linkOf p q)]? = some y → linkLess y (linkOf p q) = false := fun y h => cutPos_at h
  generalize hpos : cutPos ls (linkOf p q) = pos at *
  clear hpos
  generalize hq : linkOf p q = x at *
  obtain ⟨lf, lt⟩ := x
  have HL : Hid (linkOf p q = (lf, lt)) := Lib.hid hq
  have HLT := Lib.hid hlt0; have HAT := Lib.hid hat0
  clear hq hlt0 hat0
  have Hd := Lib.hid hd; clear hd ht ha hr
  obtain ⟨x1, x2, hxx, hx1, hx2, he1, he2⟩ := links_split Hcs.out.2 hple
  have hcs := Hcs.out.1
  rw [hxx] at hcs
  have HP : Hid (CellsAt w va x1) := hcs.pre
  have HE := Lib.hid (And.intro he1 he2)
  have hi1 : (0 : Int) ≤ pos := by omega
  have hi2 : (pos : Int) ≤ ls.length := by omega
  have hi4 : (ls.length : Int) ≤ vc := by omega
  have hi3 : (pos : Int) ≤ vc := by omega
  clear hxx he1 he2 Hcs
  obtain ⟨vb, vo, rfl⟩ : ∃ vb vo, va = some ⟨vb, vo, none⟩ := by
    obtain ⟨b, o, x, c, e, _⟩ := HCL.out pos hpl
    exact ⟨b, o, e⟩
  have HSF : Hid (CellsAt w (some ⟨vb, vo + pos * 2, none⟩) x2) := hcs.suf hx1
  have hne1 : ¬ (vc = pos) := by omega
  clear hcs
  go_enter Try.func46, Try.ntmps46
  go_wp2_with fail
  refine (specNetOk_c _ (ms, ls) _ (netC.vext HD.out (by repeat (first | with_reducible exact Ext.refl _ | with_reducible assumption | with_reducible refine Ext.pAlloc ?_ _ | ((with_reducible refine Ext.pSet ?_ ?_ _); rotate_left; (simp <;> omega)) | with_reducible refine Ext.pDrew ?_ | with_reducible refine Ext.pDrewN ?_ _)))).mono ?_
  rw [Hd.out]
  rintro e w1 ⟨rfl, Ew1⟩
  have Xw1 : Ext w w1 := Ext.trans (by repeat (first | with_reducible exact Ext.refl _ | with_reducible assumption | with_reducible refine Ext.pAlloc ?_ _ | ((with_reducible refine Ext.pSet ?_ ?_ _); rotate_left; (simp <;> omega)) | with_reducible refine Ext.pDrew ?_ | with_reducible refine Ext.pDrewN ?_ _)) Ew1
  have zw1 : w.heap.size + 1 + 1 ≤ w1.heap.size := by have := Ew1.size; (try simp at this); omega
  have B_d' : Bx w1 w.heap.size [.slice a ms.length cap, .slice (some ⟨vb, vo, none⟩) ls.length vc] := Bx.ext (by repeat (first | with_reducible assumption | with_reducible exact Bx.new _ _ _ _ rfl | ((with_reducible refine Bx.new _ _ _ _ ?_); simp; done) | with_reducible refine Bx.pAlloc ?_ _ | with_reducible refine Bx.pDrew ?_ | ((with_reducible refine Bx.set_other ?_ ?_ _); rotate_left; (simp <;> omega)))) Ew1
  have B_r' : Bx w1 (w.heap.size + 1) [.slice none 0 0, .slice none 0 0] := Bx.ext (by repeat (first | with_reducible assumption | with_reducible exact Bx.new _ _ _ _ rfl | ((with_reducible refine Bx.new _ _ _ _ ?_); simp; done) | with_reducible refine Bx.pAlloc ?_ _ | with_reducible refine Bx.pDrew ?_ | ((with_reducible refine Bx.set_other ?_ ?_ _); rotate_left; (simp <;> omega)))) Ew1
  have B_d := B_d'; clear B_d'
  have B_r := B_r'; clear B_r'
  clear Ew1
  have c_d_0 := B_d.cell 0 _ rfl
  have c_d_1 := B_d.cell 1 _ rfl
  have n_d := B_d.lt
  have c_r_0 := B_r.cell 0 _ rfl
  have c_r_1 := B_r.cell 1 _ rfl
  have n_r := B_r.lt
  have f_r := B_r.fr
  go_wp2_with fail
  refine (l5Copy_c _ (ms, ls) _ (netC.vext HD.out (by repeat (first | with_reducible exact Ext.refl _ | with_reducible assumption | with_reducible refine Ext.pAlloc ?_ _ | ((with_reducible refine Ext.pSet ?_ ?_ _); rotate_left; (simp <;> omega)) | with_reducible refine Ext.pDrew ?_ | with_reducible refine Ext.pDrewN ?_ _))) Hd.out).mono ?_
  rintro e w2 ⟨u1, v1, rfl, Ew2, a1, b1, a2, b2, p1, p2, p3, p4, p5, p6, p7, O_cm, O_cl⟩
  simp only at O_cm O_cl
  obtain ⟨ka, kc, rfl⟩ := sl_form O_cm.view
  obtain ⟨la, lc, rfl⟩ := sl_form O_cl.view
  replace p1 : w1.heap.size ≤ a1 := by have h9 := p1; (try simp at h9); omega
  replace p4 : w1.heap.size ≤ a2 := by have h9 := p4; (try simp at h9); omega
  have Xw2 : Ext w w2 := Ext.trans (by repeat (first | with_reducible exact Ext.refl _ | with_reducible assumption | with_reducible refine Ext.pAlloc ?_ _ | ((with_reducible refine Ext.pSet ?_ ?_ _); rotate_left; (simp <;> omega)) | with_reducible refine Ext.pDrew ?_ | with_reducible refine Ext.pDrewN ?_ _)) Ew2
  have zw2 : w1.heap.size ≤ w2.heap.size := by have := Ew2.size; (try simp at this); omega
  have B_d' : Bx w2 w.heap.size [.slice a ms.length cap, .slice (some ⟨vb, vo, none⟩) ls.length vc] := Bx.ext (by repeat (first | with_reducible assumption | with_reducible exact Bx.new _ _ _ _ rfl | ((with_reducible refine Bx.new _ _ _ _ ?_); simp; done) | with_reducible refine Bx.pAlloc ?_ _ | with_reducible refine Bx.pDrew ?_ | ((with_reducible refine Bx.set_other ?_ ?_ _); rotate_left; (simp <;> omega)))) Ew2
  have B_r' : Bx w2 (w.heap.size + 1) [.slice none 0 0, .slice none 0 0] := Bx.ext (by repeat (first | with_reducible assumption | with_reducible exact Bx.new _ _ _ _ rfl | ((with_reducible refine Bx.new _ _ _ _ ?_); simp; done) | with_reducible refine Bx.pAlloc ?_ _ | with_reducible refine Bx.pDrew ?_ | ((with_reducible refine Bx.set_other ?_ ?_ _); rotate_left; (simp <;> omega)))) Ew2
  clear c_d_0 c_d_1 n_d c_r_0 c_r_1 n_r f_r
  clear B_d
  have B_d := B_d'; clear B_d'
  clear B_r
  have B_r := B_r'; clear B_r'
  clear Ew2 Xw1
  have c_d_0 := B_d.cell 0 _ rfl
  have c_d_1 := B_d.cell 1 _ rfl
  have n_d := B_d.lt
  have c_r_0 := B_r.cell 0 _ rfl
  have c_r_1 := B_r.cell 1 _ rfl
  have n_r := B_r.lt
  have f_r := B_r.fr
  go_wp2_with fail
  refine (l5Two_c p q _).mono ?_
  rw [Ha.out]
  rintro e w' ⟨rfl, rfl⟩
  go_wp2_with fail
  refine (l5CutAt_c _ (ms, ls) p q _ (netC.vext HD.out (by repeat (first | with_reducible exact Ext.refl _ | with_reducible assumption | with_reducible refine Ext.pAlloc ?_ _ | ((with_reducible refine Ext.pSet ?_ ?_ _); rotate_left; (simp <;> omega)) | with_reducible refine Ext.pDrew ?_ | with_reducible refine Ext.pDrewN ?_ _)))).mono ?_
  rw [HL.out, Hx.out]
  rintro e w3 ⟨rfl, Ew3⟩
  have Xw3 : Ext w w3 := Ext.trans (by repeat (first | with_reducible exact Ext.refl _ | with_reducible assumption | with_reducible refine Ext.pAlloc ?_ _ | ((with_reducible refine Ext.pSet ?_ ?_ _); rotate_left; (simp <;> omega)) | with_reducible refine Ext.pDrew ?_ | with_reducible refine Ext.pDrewN ?_ _)) Ew3
  have zw3 : w2.heap.size + 1 ≤ w3.heap.size := by have := Ew3.size; (try simp at this); omega
  have B_d' : Bx w3 w.heap.size [.slice a ms.length cap, .slice (some ⟨vb, vo, none⟩) ls.length vc] := Bx.ext (by repeat (first | with_reducible assumption | with_reducible exact Bx.new _ _ _ _ rfl | ((with_reducible refine Bx.new _ _ _ _ ?_); simp; done) | with_reducible refine Bx.pAlloc ?_ _ | with_reducible refine Bx.pDrew ?_ | ((with_reducible refine Bx.set_other ?_ ?_ _); rotate_left; (simp <;> omega)))) Ew3
  have B_r' : Bx w3 (w.heap.size + 1) [.slice none 0 0, .slice none 0 0] := Bx.ext (by repeat (first | with_reducible assumption | with_reducible exact Bx.new _ _ _ _ rfl | ((with_reducible refine Bx.new _ _ _ _ ?_); simp; done) | with_reducible refine Bx.pAlloc ?_ _ | with_reducible refine Bx.pDrew ?_ | ((with_reducible refine Bx.set_other ?_ ?_ _); rotate_left; (simp <;> omega)))) Ew3
  have B_o' : Bx w3 w2.heap.size [.slice ka ms.length kc, .slice la ls.length lc] := Bx.ext (by repeat (first | with_reducible assumption | with_reducible exact Bx.new _ _ _ _ rfl | ((with_reducible refine Bx.new _ _ _ _ ?_); simp; done) | with_reducible refine Bx.pAlloc ?_ _ | with_reducible refine Bx.pDrew ?_ | ((with_reducible refine Bx.set_other ?_ ?_ _); rotate_left; (simp <;> omega)))) Ew3
  have O_cm' : (msgsC).own (a1) (b1) w3 [.slice ka ms.length kc] (ms) := Cd.own.ext (by repeat (first | with_reducible assumption | with_reducible refine Cd.own.pAlloc ?_ _ | with_reducible refine Cd.own.pDrew ?_ | with_reducible refine Cd.own.pDrewN ?_ _ | ((with_reducible refine Cd.own.pSet ?_ ?_ _); rotate_left; (simp <;> omega)))) Ew3
  have O_cl' : (linksC).own (a2) (b2) w3 [.slice la ls.length lc] (ls) := Cd.own.ext (by repeat (first | with_reducible assumption | with_reducible refine Cd.own.pAlloc ?_ _ | with_reducible refine Cd.own.pDrew ?_ | with_reducible refine Cd.own.pDrewN ?_ _ | ((with_reducible refine Cd.own.pSet ?_ ?_ _); rotate_left; (simp <;> omega)))) Ew3
  clear c_d_0 c_d_1 n_d c_r_0 c_r_1 n_r f_r
  clear B_d
  have B_d := B_d'; clear B_d'
  clear B_r
  have B_r := B_r'; clear B_r'
  have B_o := B_o'; clear B_o'
  clear O_cm; have O_cm := O_cm'; clear O_cm'
  clear O_cl; have O_cl := O_cl'; clear O_cl'
  clear Ew3 Xw2
  have c_d_0 := B_d.cell 0 _ rfl
  have c_d_1 := B_d.cell 1 _ rfl
  have n_d := B_d.lt
  have c_r_0 := B_r.cell 0 _ rfl
  have c_r_1 := B_r.cell 1 _ rfl
  have n_r := B_r.lt
  have f_r := B_r.fr
  have c_o_0 := B_o.cell 0 _ rfl
  have c_o_1 := B_o.cell 1 _ rfl
  have n_o := B_o.lt
  have f_o := B_o.fr
  go_wp2_with fail
  refine (l5Link_c p q _).mono ?_
  rw [HL.out]
  rintro e w4 ⟨rfl, Ew4⟩
  have Xw4 : Ext w w4 := Ext.trans (by repeat (first | with_reducible exact Ext.refl _ | with_reducible assumption | with_reducible refine Ext.pAlloc ?_ _ | ((with_reducible refine Ext.pSet ?_ ?_ _); rotate_left; (simp <;> omega)) | with_reducible refine Ext.pDrew ?_ | with_reducible refine Ext.pDrewN ?_ _)) Ew4
  have zw4 : w3.heap.size ≤ w4.heap.size := by have := Ew4.size; (try simp at this); omega
  have B_d' : Bx w4 w.heap.size [.slice a ms.length cap, .slice (some ⟨vb, vo, none⟩) ls.length vc] := Bx.ext (by repeat (first | with_reducible assumption | with_reducible exact Bx.new _ _ _ _ rfl | ((with_reducible refine Bx.new _ _ _ _ ?_); simp; done) | with_reducible refine Bx.pAlloc ?_ _ | with_reducible refine Bx.pDrew ?_ | ((with_reducible refine Bx.set_other ?_ ?_ _); rotate_left; (simp <;> omega)))) Ew4
  have B_r' : Bx w4 (w.heap.size + 1) [.slice none 0 0, .slice none 0 0] := Bx.ext (by repeat (first | with_reducible assumption | with_reducible exact Bx.new _ _ _ _ rfl | ((with_reducible refine Bx.new _ _ _ _ ?_); simp; done) | with_reducible refine Bx.pAlloc ?_ _ | with_reducible refine Bx.pDrew ?_ | ((with_reducible refine Bx.set_other ?_ ?_ _); rotate_left; (simp <;> omega)))) Ew4
  have B_o' : Bx w4 w2.heap.size [.slice ka ms.length kc, .slice la ls.length lc] := Bx.ext (by repeat (first | with_reducible assumption | with_reducible exact Bx.new _ _ _ _ rfl | ((with_reducible refine Bx.new _ _ _ _ ?_); simp; done) | with_reducible refine Bx.pAlloc ?_ _ | with_reducible refine Bx.pDrew ?_ | ((with_reducible refine Bx.set_other ?_ ?_ _); rotate_left; (simp <;> omega)))) Ew4
  have O_cm' : (msgsC).own (a1) (b1) w4 [.slice ka ms.length kc] (ms) := Cd.own.ext (by repeat (first | with_reducible assumption | with_reducible refine Cd.own.pAlloc ?_ _ | with_reducible refine Cd.own.pDrew ?_ | with_reducible refine Cd.own.pDrewN ?_ _ | ((with_reducible refine Cd.own.pSet ?_ ?_ _); rotate_left; (simp <;> omega)))) Ew4
  have O_cl' : (linksC).own (a2) (b2) w4 [.slice la ls.length lc] (ls) := Cd.own.ext (by repeat (first | with_reducible assumption | with_reducible refine Cd.own.pAlloc ?_ _ | with_reducible refine Cd.own.pDrew ?_ | with_reducible refine Cd.own.pDrewN ?_ _ | ((with_reducible refine Cd.own.pSet ?_ ?_ _); rotate_left; (simp <;> omega)))) Ew4
  clear c_d_0 c_d_1 n_d c_r_0 c_r_1 n_r f_r c_o_0 c_o_1 n_o f_o
  clear B_d
  have B_d := B_d'; clear B_d'
  clear B_r
  have B_r := B_r'; clear B_r'
  clear B_o
  have B_o := B_o'; clear B_o'
  clear O_cm; have O_cm := O_cm'; clear O_cm'
  clear O_cl; have O_cl := O_cl'; clear O_cl'
  clear Ew4 Xw3
  have c_d_0 := B_d.cell 0 _ rfl
  have c_d_1 := B_d.cell 1 _ rfl
  have n_d := B_d.lt
  have c_r_0 := B_r.cell 0 _ rfl
  have c_r_1 := B_r.cell 1 _ rfl
  have n_r := B_r.lt
  have f_r := B_r.fr
  have c_o_0 := B_o.cell 0 _ rfl
  have c_o_1 := B_o.cell 1 _ rfl
  have n_o := B_o.lt
  have f_o := B_o.fr
  go_wp2
  go_loopw [10] (fun v10 wr => ∃ k : Nat, k ≤ pos ∧ v10 = .int .i64 k ∧ Hid (Ext w4 wr) ∧ Hid (Bx wr w4.heap.size [.int .i64 lf, .int .i64 lt])) (fun v10 _ => pos - (intOf v10).toNat)
  case atStart => exact ⟨0, Nat.zero_le _, rfl, Lib.hid (by repeat (first | with_reducible exact Ext.refl _ | with_reducible assumption | with_reducible refine Ext.pAlloc ?_ _ | ((with_reducible refine Ext.pSet ?_ ?_ _); rotate_left; (simp <;> omega)) | with_reducible refine Ext.pDrew ?_ | with_reducible refine Ext.pDrewN ?_ _)), Lib.hid (by repeat (first | with_reducible assumption | with_reducible exact Bx.new _ _ _ _ rfl | ((with_reducible refine Bx.new _ _ _ _ ?_); simp; done) | with_reducible refine Bx.pAlloc ?_ _ | with_reducible refine Bx.pDrew ?_ | ((with_reducible refine Bx.set_other ?_ ?_ _); rotate_left; (simp <;> omega))))⟩
  case round =>
    obtain ⟨k, hk, rfl, hE, hBl⟩ := hrel
    have BD := B_d.ext hE.out
    have co1 := BD.cell 1 _ rfl
    have cl0 := hBl.out.cell 0 _ rfl; have cl1 := hBl.out.cell 1 _ rfl
    have zr := hE.out.size
    clear c_d_0 c_d_1 n_d c_r_0 c_r_1 n_r f_r c_o_0 c_o_1 n_o f_o
    have hi0 : (0 : Int) ≤ k := by omega
    by_cases hlt : k < pos
    · have hll : k < ls.length := by omega
      obtain ⟨b9, off9, y, c, e9, hx, hvx, hcell⟩ := HCL.out k hll
      cases e9
      obtain rfl := link_V.1 hvx
      clear hvx
      obtain ⟨g, r⟩ := y
      have hc0 : wr.cell? ⟨vb, vo + k * 2, none⟩ = some (.int .i64 g) := cell_ext (hcell 0 _ rfl) (Ext.trans Xw4 hE.out)
      have hc1 : wr.cell? ⟨vb, vo + k * 2 + 1, none⟩ = some (.int .i64 r) := cell_ext (hcell 1 _ rfl) (Ext.trans Xw4 hE.out)
      clear hcell
      have hi5 : (k : Int) < ls.length := by omega
      have Hls := Lib.hid (HLT.out k (g, r) hlt hx.out)
      clear hx
      go_wp2
      refine wp_region_held_drew (S := fun ω => ω.cell? ⟨w.heap.size, 1, none⟩ = some (.slice (some ⟨vb, vo, none⟩) ls.length vc) ∧ ω.cell? ⟨vb, vo + k * 2, none⟩ = some (.int .i64 g) ∧ ω.cell? ⟨vb, vo + k * 2 + 1, none⟩ = some (.int .i64 r) ∧ ω.cell? ⟨w4.heap.size, 0, none⟩ = some (.int .i64 lf) ∧ ω.cell? ⟨w4.heap.size, 1, none⟩ = some (.int .i64 lt) ∧ Ext wr ω) (by kernel_rfl) ?_ (fun hHeld => ?_)
      · (try dsimp only); (refine ⟨?_, ?_, ?_, ?_, ?_, ?_⟩ <;> first | (simp [go_sem]; done) | (simp [*, go_sem]; done) | ((repeat (first | with_reducible assumption | with_reducible exact Bx.new _ _ _ _ rfl | ((with_reducible refine Bx.new _ _ _ _ ?_); simp; done) | with_reducible refine Bx.pAlloc ?_ _ | with_reducible refine Bx.pDrew ?_ | ((with_reducible refine Bx.set_other ?_ ?_ _); rotate_left; (simp <;> omega)))); done) | ((repeat (first | with_reducible exact Ext.refl _ | with_reducible assumption | with_reducible refine Ext.pAlloc ?_ _ | ((with_reducible refine Ext.pSet ?_ ?_ _); rotate_left; (simp <;> omega)) | with_reducible refine Ext.pDrew ?_ | with_reducible refine Ext.pDrewN ?_ _)); done))
      refine wpAnyH_take (i := 0) (v := ?_) rfl (by kernel_rfl) (by kernel_rfl) (by kernel_rfl) (fun _ _ _ h => h) (Or.inl ⟨by rfl, ?_⟩) (by assumption) ?_
      rotate_left
      · intro w9 hSw; (try dsimp only at hSw); go_simp; (first | done | with_reducible rfl)
      (try simp only [List.getElem_toArray, List.getElem_cons_succ, List.getElem_cons_zero, Act.put, List.setIfInBounds_toArray, List.set_cons_zero, List.set_cons_succ])
      refine wpAnyH_take (i := 1) (v := ?_) rfl (by kernel_rfl) (by kernel_rfl) (by kernel_rfl) (fun _ _ _ h => h) (Or.inl ⟨by rfl, ?_⟩) (by assumption) ?_
      rotate_left
      · intro w9 hSw; (try dsimp only at hSw); go_simp; (first | done | with_reducible rfl)
      (try simp only [List.getElem_toArray, List.getElem_cons_succ, List.getElem_cons_zero, Act.put, List.setIfInBounds_toArray, List.set_cons_zero, List.set_cons_succ])
      refine wpAnyH_take (i := 2) (v := ?_) rfl (by kernel_rfl) (by kernel_rfl) (by kernel_rfl) (fun _ _ _ h => h) (Or.inl ⟨by rfl, ?_⟩) (by assumption) ?_
      rotate_left
      · intro w9 hSw; (try dsimp only at hSw); go_simp; (first | done | with_reducible rfl)
      (try simp only [List.getElem_toArray, List.getElem_cons_succ, List.getElem_cons_zero, Act.put, List.setIfInBounds_toArray, List.set_cons_zero, List.set_cons_succ])
      refine wpAnyH_take (i := 3) (v := ?_) rfl (by kernel_rfl) (by kernel_rfl) (by kernel_rfl) (fun _ _ _ h => h) (Or.inl ⟨by rfl, ?_⟩) (by assumption) ?_
      rotate_left
      · intro w9 hSw; (try dsimp only at hSw); go_simp; (first | done | with_reducible rfl)
      (try simp only [List.getElem_toArray, List.getElem_cons_succ, List.getElem_cons_zero, Act.put, List.setIfInBounds_toArray, List.set_cons_zero, List.set_cons_succ])
      refine wpAnyH_take (i := 4) (v := ?_) rfl (by kernel_rfl) (by kernel_rfl) (by kernel_rfl) (fun _ _ _ h => h) (Or.inl ⟨by rfl, ?_⟩) (by assumption) ?_
      rotate_left
      · intro w9 hSw; (try dsimp only at hSw); go_simp; (first | done | with_reducible rfl)
      (try simp only [List.getElem_toArray, List.getElem_cons_succ, List.getElem_cons_zero, Act.put, List.setIfInBounds_toArray, List.set_cons_zero, List.set_cons_succ])
      refine wpAnyH_take (i := 5) (v := ?_) rfl (by kernel_rfl) (by kernel_rfl) (by kernel_rfl) (fun _ _ _ h => h) (Or.inl ⟨by rfl, ?_⟩) (by assumption) ?_
      rotate_left
      · intro w9 hSw; (try dsimp only at hSw); go_simp; (first | done | with_reducible rfl)
      (try simp only [List.getElem_toArray, List.getElem_cons_succ, List.getElem_cons_zero, Act.put, List.setIfInBounds_toArray, List.set_cons_zero, List.set_cons_succ])
      refine wpAnyH_take (i := 6) (v := ?_) rfl (by kernel_rfl) (by kernel_rfl) (by kernel_rfl) (fun _ _ _ h => h) (Or.inl ⟨by rfl, ?_⟩) (by assumption) ?_
      rotate_left
      · intro w9 hSw; (try dsimp only at hSw); go_simp; (first | done | with_reducible rfl)
      (try simp only [List.getElem_toArray, List.getElem_cons_succ, List.getElem_cons_zero, Act.put, List.setIfInBounds_toArray, List.set_cons_zero, List.set_cons_succ])
      refine wpAnyH_take (i := 7) (v := ?_) rfl (by kernel_rfl) (by kernel_rfl) (by kernel_rfl) (fun _ _ _ h => h) (Or.inl ⟨by rfl, ?_⟩) (by assumption) ?_
      rotate_left
      · intro w9 hSw; (try dsimp only at hSw); go_simp; (first | done | with_reducible rfl)
      (try simp only [List.getElem_toArray, List.getElem_cons_succ, List.getElem_cons_zero, Act.put, List.setIfInBounds_toArray, List.set_cons_zero, List.set_cons_succ])
      refine wpAnyH_take (i := 8) (v := ?_) rfl (by kernel_rfl) (by kernel_rfl) (by kernel_rfl) (fun _ _ _ h => h) (Or.inl ⟨by rfl, ?_⟩) (by assumption) ?_
      rotate_left
      · intro w9 hSw; (try dsimp only at hSw); go_simp; (first | done | with_reducible rfl)
      (try simp only [List.getElem_toArray, List.getElem_cons_succ, List.getElem_cons_zero, Act.put, List.setIfInBounds_toArray, List.set_cons_zero, List.set_cons_succ])
      refine wpAnyH_take (i := 9) (v := ?_) rfl (by kernel_rfl) (by kernel_rfl) (by kernel_rfl) (fun _ _ _ h => h) (Or.inl ⟨by rfl, ?_⟩) (by assumption) ?_
      rotate_left
      · intro w9 hSw; (try dsimp only at hSw); go_simp; (first | done | with_reducible rfl)
      (try simp only [List.getElem_toArray, List.getElem_cons_succ, List.getElem_cons_zero, Act.put, List.setIfInBounds_toArray, List.set_cons_zero, List.set_cons_succ])
      refine wpAnyH_take (i := 10) (v := ?_) rfl (by kernel_rfl) (by kernel_rfl) (by kernel_rfl) (fun _ _ _ h => h) (Or.inl ⟨by rfl, ?_⟩) (by assumption) ?_
      rotate_left
      · intro w9 hSw; (try dsimp only at hSw); go_simp; (first | done | with_reducible rfl)
      (try simp only [List.getElem_toArray, List.getElem_cons_succ, List.getElem_cons_zero, Act.put, List.setIfInBounds_toArray, List.set_cons_zero, List.set_cons_succ])
      refine wpAnyH_take (i := 11) (v := ?_) rfl (by kernel_rfl) (by kernel_rfl) (by kernel_rfl) (fun _ _ _ h => h) (Or.inl ⟨by rfl, ?_⟩) (by assumption) ?_
      rotate_left
      · intro w9 hSw; (try dsimp only at hSw); go_simp; (first | done | with_reducible rfl)
      (try simp only [List.getElem_toArray, List.getElem_cons_succ, List.getElem_cons_zero, Act.put, List.setIfInBounds_toArray, List.set_cons_zero, List.set_cons_succ])
      refine wpAnyH_ready (rs := [12]) (by kernel_rfl) (by simp) ?_
      refine AllReadyH.cons rfl (fun K hK => ?_) AllReadyH.nil
      go_simp
      refine (specLess_c [.int .i64 g, .int .i64 r] [.int .i64 lf, .int .i64 lt] (g, r) (lf, lt) _ (link_V.2 rfl) (link_V.2 rfl)).mono ?_; rw [Hls.out]; rintro e w8 ⟨rfl, hE1⟩
      (try go_wp2_with fail)
      refine hK.out _ _ ?_ (fun hHeld2 => ?_)
      · (try dsimp only); (obtain ⟨s0, s1, s2, s3, s4, s5⟩ := hHeld; exact ⟨cell_ext s0 hE1, cell_ext s1 hE1, cell_ext s2 hE1, cell_ext s3 hE1, cell_ext s4 hE1, s5.trans hE1⟩)
      clear hK K hHeld
      rename _ => hHeld
      (try simp only [List.getElem_toArray, List.getElem_cons_succ, List.getElem_cons_zero, Act.put, List.setIfInBounds_toArray, List.set_cons_zero, List.set_cons_succ])
      refine wpAnyH_take (i := 13) (v := ?_) rfl (by kernel_rfl) (by kernel_rfl) (by kernel_rfl) (fun _ _ _ h => h) (Or.inl ⟨by rfl, ?_⟩) (by assumption) ?_
      rotate_left
      · intro w9 hSw; (try dsimp only at hSw); go_simp; (first | done | with_reducible rfl)
      (try simp only [List.getElem_toArray, List.getElem_cons_succ, List.getElem_cons_zero, Act.put, List.setIfInBounds_toArray, List.set_cons_zero, List.set_cons_succ])
      refine wpAnyH_done (by kernel_rfl) ?_ _
      have hX := hHeld.2.2.2.2.2
      clear hHeld hE1
      go_wp2
      go_roundw
      case rel => exact ⟨k + 1, by omega, by go_num, Lib.hid (hE.out.trans hX), Lib.hid (hBl.out.ext hX)⟩
      case measure => simp [intOf]; omega
    · have he : k = pos := by omega
      subst he
      have hll : k < ls.length := by omega
      obtain ⟨b9, off9, y, c, e9, hx, hvx, hcell⟩ := HCL.out k hll
      cases e9
      obtain rfl := link_V.1 hvx
      clear hvx
      obtain ⟨g, r⟩ := y
      have hc0 : wr.cell? ⟨vb, vo + k * 2, none⟩ = some (.int .i64 g) := cell_ext (hcell 0 _ rfl) (Ext.trans Xw4 hE.out)
      have hc1 : wr.cell? ⟨vb, vo + k * 2 + 1, none⟩ = some (.int .i64 r) := cell_ext (hcell 1 _ rfl) (Ext.trans Xw4 hE.out)
      clear hcell
      have hi5 : (k : Int) < ls.length := by omega
      have Hls := Lib.hid (HAT.out (g, r) hx.out)
      clear hx
      go_wp2
      refine wp_region_held_drew (S := fun ω => ω.cell? ⟨w.heap.size, 1, none⟩ = some (.slice (some ⟨vb, vo, none⟩) ls.length vc) ∧ ω.cell? ⟨vb, vo + k * 2, none⟩ = some (.int .i64 g) ∧ ω.cell? ⟨vb, vo + k * 2 + 1, none⟩ = some (.int .i64 r) ∧ ω.cell? ⟨w4.heap.size, 0, none⟩ = some (.int .i64 lf) ∧ ω.cell? ⟨w4.heap.size, 1, none⟩ = some (.int .i64 lt) ∧ Ext wr ω) (by kernel_rfl) ?_ (fun hHeld => ?_)
      · (try dsimp only); (refine ⟨?_, ?_, ?_, ?_, ?_, ?_⟩ <;> first | (simp [go_sem]; done) | (simp [*, go_sem]; done) | ((repeat (first | with_reducible assumption | with_reducible exact Bx.new _ _ _ _ rfl | ((with_reducible refine Bx.new _ _ _ _ ?_); simp; done) | with_reducible refine Bx.pAlloc ?_ _ | with_reducible refine Bx.pDrew ?_ | ((with_reducible refine Bx.set_other ?_ ?_ _); rotate_left; (simp <;> omega)))); done) | ((repeat (first | with_reducible exact Ext.refl _ | with_reducible assumption | with_reducible refine Ext.pAlloc ?_ _ | ((with_reducible refine Ext.pSet ?_ ?_ _); rotate_left; (simp <;> omega)) | with_reducible refine Ext.pDrew ?_ | with_reducible refine Ext.pDrewN ?_ _)); done))
      refine wpAnyH_take (i := 0) (v := ?_) rfl (by kernel_rfl) (by kernel_rfl) (by kernel_rfl) (fun _ _ _ h => h) (Or.inl ⟨by rfl, ?_⟩) (by assumption) ?_
      rotate_left
      · intro w9 hSw; (try dsimp only at hSw); go_simp; (first | done | with_reducible rfl)
      (try simp only [List.getElem_toArray, List.getElem_cons_succ, List.getElem_cons_zero, Act.put, List.setIfInBounds_toArray, List.set_cons_zero, List.set_cons_succ])
      refine wpAnyH_take (i := 1) (v := ?_) rfl (by kernel_rfl) (by kernel_rfl) (by kernel_rfl) (fun _ _ _ h => h) (Or.inl ⟨by rfl, ?_⟩) (by assumption) ?_
      rotate_left
      · intro w9 hSw; (try dsimp only at hSw); go_simp; (first | done | with_reducible rfl)
      (try simp only [List.getElem_toArray, List.getElem_cons_succ, List.getElem_cons_zero, Act.put, List.setIfInBounds_toArray, List.set_cons_zero, List.set_cons_succ])
      refine wpAnyH_take (i := 2) (v := ?_) rfl (by kernel_rfl) (by kernel_rfl) (by kernel_rfl) (fun _ _ _ h => h) (Or.inl ⟨by rfl, ?_⟩) (by assumption) ?_
      rotate_left
      · intro w9 hSw; (try dsimp only at hSw); go_simp; (first | done | with_reducible rfl)
      (try simp only [List.getElem_toArray, List.getElem_cons_succ, List.getElem_cons_zero, Act.put, List.setIfInBounds_toArray, List.set_cons_zero, List.set_cons_succ])
      refine wpAnyH_take (i := 3) (v := ?_) rfl (by kernel_rfl) (by kernel_rfl) (by kernel_rfl) (fun _ _ _ h => h) (Or.inl ⟨by rfl, ?_⟩) (by assumption) ?_
      rotate_left
      · intro w9 hSw; (try dsimp only at hSw); go_simp; (first | done | with_reducible rfl)
      (try simp only [List.getElem_toArray, List.getElem_cons_succ, List.getElem_cons_zero, Act.put, List.setIfInBounds_toArray, List.set_cons_zero, List.set_cons_succ])
      refine wpAnyH_take (i := 4) (v := ?_) rfl (by kernel_rfl) (by kernel_rfl) (by kernel_rfl) (fun _ _ _ h => h) (Or.inl ⟨by rfl, ?_⟩) (by assumption) ?_
      rotate_left
      · intro w9 hSw; (try dsimp only at hSw); go_simp; (first | done | with_reducible rfl)
      (try simp only [List.getElem_toArray, List.getElem_cons_succ, List.getElem_cons_zero, Act.put, List.setIfInBounds_toArray, List.set_cons_zero, List.set_cons_succ])
      refine wpAnyH_take (i := 5) (v := ?_) rfl (by kernel_rfl) (by kernel_rfl) (by kernel_rfl) (fun _ _ _ h => h) (Or.inl ⟨by rfl, ?_⟩) (by assumption) ?_
      rotate_left
      · intro w9 hSw; (try dsimp only at hSw); go_simp; (first | done | with_reducible rfl)
      (try simp only [List.getElem_toArray, List.getElem_cons_succ, List.getElem_cons_zero, Act.put, List.setIfInBounds_toArray, List.set_cons_zero, List.set_cons_succ])
      refine wpAnyH_take (i := 6) (v := ?_) rfl (by kernel_rfl) (by kernel_rfl) (by kernel_rfl) (fun _ _ _ h => h) (Or.inl ⟨by rfl, ?_⟩) (by assumption) ?_
      rotate_left
      · intro w9 hSw; (try dsimp only at hSw); go_simp; (first | done | with_reducible rfl)
      (try simp only [List.getElem_toArray, List.getElem_cons_succ, List.getElem_cons_zero, Act.put, List.setIfInBounds_toArray, List.set_cons_zero, List.set_cons_succ])
      refine wpAnyH_take (i := 7) (v := ?_) rfl (by kernel_rfl) (by kernel_rfl) (by kernel_rfl) (fun _ _ _ h => h) (Or.inl ⟨by rfl, ?_⟩) (by assumption) ?_
      rotate_left
      · intro w9 hSw; (try dsimp only at hSw); go_simp; (first | done | with_reducible rfl)
      (try simp only [List.getElem_toArray, List.getElem_cons_succ, List.getElem_cons_zero, Act.put, List.setIfInBounds_toArray, List.set_cons_zero, List.set_cons_succ])
      refine wpAnyH_take (i := 8) (v := ?_) rfl (by kernel_rfl) (by kernel_rfl) (by kernel_rfl) (fun _ _ _ h => h) (Or.inl ⟨by rfl, ?_⟩) (by assumption) ?_
      rotate_left
      · intro w9 hSw; (try dsimp only at hSw); go_simp; (first | done | with_reducible rfl)
      (try simp only [List.getElem_toArray, List.getElem_cons_succ, List.getElem_cons_zero, Act.put, List.setIfInBounds_toArray, List.set_cons_zero, List.set_cons_succ])
      refine wpAnyH_take (i := 9) (v := ?_) rfl (by kernel_rfl) (by kernel_rfl) (by kernel_rfl) (fun _ _ _ h => h) (Or.inl ⟨by rfl, ?_⟩) (by assumption) ?_
      rotate_left
      · intro w9 hSw; (try dsimp only at hSw); go_simp; (first | done | with_reducible rfl)
      (try simp only [List.getElem_toArray, List.getElem_cons_succ, List.getElem_cons_zero, Act.put, List.setIfInBounds_toArray, List.set_cons_zero, List.set_cons_succ])
      refine wpAnyH_take (i := 10) (v := ?_) rfl (by kernel_rfl) (by kernel_rfl) (by kernel_rfl) (fun _ _ _ h => h) (Or.inl ⟨by rfl, ?_⟩) (by assumption) ?_
      rotate_left
      · intro w9 hSw; (try dsimp only at hSw); go_simp; (first | done | with_reducible rfl)
      (try simp only [List.getElem_toArray, List.getElem_cons_succ, List.getElem_cons_zero, Act.put, List.setIfInBounds_toArray, List.set_cons_zero, List.set_cons_succ])
      refine wpAnyH_take (i := 11) (v := ?_) rfl (by kernel_rfl) (by kernel_rfl) (by kernel_rfl) (fun _ _ _ h => h) (Or.inl ⟨by rfl, ?_⟩) (by assumption) ?_
      rotate_left
      · intro w9 hSw; (try dsimp only at hSw); go_simp; (first | done | with_reducible rfl)
      (try simp only [List.getElem_toArray, List.getElem_cons_succ, List.getElem_cons_zero, Act.put, List.setIfInBounds_toArray, List.set_cons_zero, List.set_cons_succ])
      refine wpAnyH_ready (rs := [12]) (by kernel_rfl) (by simp) ?_
      refine AllReadyH.cons rfl (fun K hK => ?_) AllReadyH.nil
      go_simp
      refine (specLess_c [.int .i64 g, .int .i64 r] [.int .i64 lf, .int .i64 lt] (g, r) (lf, lt) _ (link_V.2 rfl) (link_V.2 rfl)).mono ?_; rw [Hls.out]; rintro e w8 ⟨rfl, hE1⟩
      (try go_wp2_with fail)
      refine hK.out _ _ ?_ (fun hHeld2 => ?_)
      · (try dsimp only); (obtain ⟨s0, s1, s2, s3, s4, s5⟩ := hHeld; exact ⟨cell_ext s0 hE1, cell_ext s1 hE1, cell_ext s2 hE1, cell_ext s3 hE1, cell_ext s4 hE1, s5.trans hE1⟩)
      clear hK K hHeld
      rename _ => hHeld
      (try simp only [List.getElem_toArray, List.getElem_cons_succ, List.getElem_cons_zero, Act.put, List.setIfInBounds_toArray, List.set_cons_zero, List.set_cons_succ])
      refine wpAnyH_take (i := 13) (v := ?_) rfl (by kernel_rfl) (by kernel_rfl) (by kernel_rfl) (fun _ _ _ h => h) (Or.inl ⟨by rfl, ?_⟩) (by assumption) ?_
      rotate_left
      · intro w9 hSw; (try dsimp only at hSw); go_simp; (first | done | with_reducible rfl)
      (try simp only [List.getElem_toArray, List.getElem_cons_succ, List.getElem_cons_zero, Act.put, List.setIfInBounds_toArray, List.set_cons_zero, List.set_cons_succ])
      refine wpAnyH_done (by kernel_rfl) ?_ _
      have hX := hHeld.2.2.2.2.2
      clear hHeld hE1 hc0 hc1
      have Ew8 := hE.out.trans hX
      have Bl8 := hBl.out.ext hX
      clear hX BD co1 cl0 cl1 hE hBl zr HCL HLT HAT
      have Xw8 : Ext w w8 := Ext.trans (by repeat (first | with_reducible exact Ext.refl _ | with_reducible assumption | with_reducible refine Ext.pAlloc ?_ _ | ((with_reducible refine Ext.pSet ?_ ?_ _); rotate_left; (simp <;> omega)) | with_reducible refine Ext.pDrew ?_ | with_reducible refine Ext.pDrewN ?_ _)) Ew8
      have zw8 : w4.heap.size ≤ w8.heap.size := by have := Ew8.size; (try simp at this); omega
      have B_d' : Bx w8 w.heap.size [.slice a ms.length cap, .slice (some ⟨vb, vo, none⟩) ls.length vc] := Bx.ext (by repeat (first | with_reducible assumption | with_reducible exact Bx.new _ _ _ _ rfl | ((with_reducible refine Bx.new _ _ _ _ ?_); simp; done) | with_reducible refine Bx.pAlloc ?_ _ | with_reducible refine Bx.pDrew ?_ | ((with_reducible refine Bx.set_other ?_ ?_ _); rotate_left; (simp <;> omega)))) Ew8
      have B_r' : Bx w8 (w.heap.size + 1) [.slice none 0 0, .slice none 0 0] := Bx.ext (by repeat (first | with_reducible assumption | with_reducible exact Bx.new _ _ _ _ rfl | ((with_reducible refine Bx.new _ _ _ _ ?_); simp; done) | with_reducible refine Bx.pAlloc ?_ _ | with_reducible refine Bx.pDrew ?_ | ((with_reducible refine Bx.set_other ?_ ?_ _); rotate_left; (simp <;> omega)))) Ew8
      have B_o' : Bx w8 w2.heap.size [.slice ka ms.length kc, .slice la ls.length lc] := Bx.ext (by repeat (first | with_reducible assumption | with_reducible exact Bx.new _ _ _ _ rfl | ((with_reducible refine Bx.new _ _ _ _ ?_); simp; done) | with_reducible refine Bx.pAlloc ?_ _ | with_reducible refine Bx.pDrew ?_ | ((with_reducible refine Bx.set_other ?_ ?_ _); rotate_left; (simp <;> omega)))) Ew8
      have O_cm' : (msgsC).own (a1) (b1) w8 [.slice ka ms.length kc] (ms) := Cd.own.ext (by repeat (first | with_reducible assumption | with_reducible refine Cd.own.pAlloc ?_ _ | with_reducible refine Cd.own.pDrew ?_ | with_reducible refine Cd.own.pDrewN ?_ _ | ((with_reducible refine Cd.own.pSet ?_ ?_ _); rotate_left; (simp <;> omega)))) Ew8
      have O_cl' : (linksC).own (a2) (b2) w8 [.slice la ls.length lc] (ls) := Cd.own.ext (by repeat (first | with_reducible assumption | with_reducible refine Cd.own.pAlloc ?_ _ | with_reducible refine Cd.own.pDrew ?_ | with_reducible refine Cd.own.pDrewN ?_ _ | ((with_reducible refine Cd.own.pSet ?_ ?_ _); rotate_left; (simp <;> omega)))) Ew8
      clear B_d
      have B_d := B_d'; clear B_d'
      clear B_r
      have B_r := B_r'; clear B_r'
      clear B_o
      have B_o := B_o'; clear B_o'
      clear O_cm; have O_cm := O_cm'; clear O_cm'
      clear O_cl; have O_cl := O_cl'; clear O_cl'
      clear Ew8 Xw4
      have c_d_0 := B_d.cell 0 _ rfl
      have c_d_1 := B_d.cell 1 _ rfl
      have n_d := B_d.lt
      have c_r_0 := B_r.cell 0 _ rfl
      have c_r_1 := B_r.cell 1 _ rfl
      have n_r := B_r.lt
      have f_r := B_r.fr
      have c_o_0 := B_o.cell 0 _ rfl
      have c_o_1 := B_o.cell 1 _ rfl
      have n_o := B_o.lt
      have f_o := B_o.fr
      have B_l := Bl8; clear Bl8
      have zl8 := B_l.lt
      have c_l_0 := B_l.cell 0 _ rfl
      have c_l_1 := B_l.cell 1 _ rfl
      have n_l := B_l.lt
      go_wp2
      refine wp_region_T (S := fun ω => ω.cell? ⟨w.heap.size, 1, none⟩ = some (.slice (some ⟨vb, vo, none⟩) ls.length vc) ∧ ω.cell? ⟨w4.heap.size, 0, none⟩ = some (.int .i64 lf) ∧ ω.cell? ⟨w4.heap.size, 1, none⟩ = some (.int .i64 lt) ∧ Ext w ω) 9 (by kernel_rfl) ?_ (fun hHeld => ?_) (by decide)
      · (try dsimp only); (refine ⟨?_, ?_, ?_, ?_⟩ <;> first | (simp [go_sem]; done) | (simp [*, go_sem]; done) | ((repeat (first | with_reducible assumption | with_reducible exact Bx.new _ _ _ _ rfl | ((with_reducible refine Bx.new _ _ _ _ ?_); simp; done) | with_reducible refine Bx.pAlloc ?_ _ | with_reducible refine Bx.pDrew ?_ | ((with_reducible refine Bx.set_other ?_ ?_ _); rotate_left; (simp <;> omega)))); done) | ((repeat (first | with_reducible exact Ext.refl _ | with_reducible assumption | with_reducible refine Ext.pAlloc ?_ _ | ((with_reducible refine Ext.pSet ?_ ?_ _); rotate_left; (simp <;> omega)) | with_reducible refine Ext.pDrew ?_ | with_reducible refine Ext.pDrewN ?_ _)); done))
      refine wpT_take (i := 1) (v := ?_) rfl (by kernel_rfl) (by decide) (by kernel_rfl) (by kernel_rfl) (by kernel_rfl) (fun _ _ _ h => h) (Or.inl ⟨by rfl, ?_⟩) (by assumption) ?_
      rotate_left
      · intro w9 hSw; (try dsimp only at hSw); go_simp; (first | done | with_reducible rfl)
      (try simp only [List.getElem_toArray, List.getElem_cons_succ, List.getElem_cons_zero, Act.put, List.setIfInBounds_toArray, List.set_cons_zero, List.set_cons_succ])
      refine wpT_take (i := 2) (v := ?_) rfl (by kernel_rfl) (by decide) (by kernel_rfl) (by kernel_rfl) (by kernel_rfl) (fun _ _ _ h => h) (Or.inl ⟨by rfl, ?_⟩) (by assumption) ?_
      rotate_left
      · intro w9 hSw; (try dsimp only at hSw); go_simp; (first | done | with_reducible rfl)
      (try simp only [List.getElem_toArray, List.getElem_cons_succ, List.getElem_cons_zero, Act.put, List.setIfInBounds_toArray, List.set_cons_zero, List.set_cons_succ])
      refine wpT_take (i := 3) (v := ?_) rfl (by kernel_rfl) (by decide) (by kernel_rfl) (by kernel_rfl) (by kernel_rfl) (fun _ _ _ h => h) (Or.inl ⟨by rfl, ?_⟩) (by assumption) ?_
      rotate_left
      · intro w9 hSw; (try dsimp only at hSw); go_simp; (first | done | with_reducible rfl)
      (try simp only [List.getElem_toArray, List.getElem_cons_succ, List.getElem_cons_zero, Act.put, List.setIfInBounds_toArray, List.set_cons_zero, List.set_cons_succ])
      refine wpT_take (i := 4) (v := ?_) rfl (by kernel_rfl) (by decide) (by kernel_rfl) (by kernel_rfl) (by kernel_rfl) (fun _ _ _ h => h) (Or.inl ⟨by rfl, ?_⟩) (by assumption) ?_
      rotate_left
      · intro w9 hSw; (try dsimp only at hSw); go_simp; (first | done | with_reducible rfl)
      (try simp only [List.getElem_toArray, List.getElem_cons_succ, List.getElem_cons_zero, Act.put, List.setIfInBounds_toArray, List.set_cons_zero, List.set_cons_succ])
      refine wpT_take (i := 6) (v := ?_) rfl (by kernel_rfl) (by decide) (by kernel_rfl) (by kernel_rfl) (by kernel_rfl) (fun _ _ _ h => h) (Or.inl ⟨by rfl, ?_⟩) (by assumption) ?_
      rotate_left
      · intro w9 hSw; (try dsimp only at hSw); go_simp; (first | done | with_reducible rfl)
      (try simp only [List.getElem_toArray, List.getElem_cons_succ, List.getElem_cons_zero, Act.put, List.setIfInBounds_toArray, List.set_cons_zero, List.set_cons_succ])
      refine wpT_step2 (i := 0) (j := 7) (by kernel_rfl) (by decide) (by decide) rfl rfl (fun K hK => ?_) (fun K hK => ?_)
      · go_simp
        refine hK.out _ _ ?_ (fun hHeld2 => ?_)
        · (try dsimp only); (obtain ⟨s0, s1, s2, s3⟩ := hHeld; exact ⟨cell_ext s0 (Ext.alloc _ _), cell_ext s1 (Ext.alloc _ _), cell_ext s2 (Ext.alloc _ _), s3.trans (Ext.alloc _ _)⟩)
        clear hK K hHeld
        rename _ => hHeld
        (try simp only [List.getElem_toArray, List.getElem_cons_succ, List.getElem_cons_zero, Act.put, List.setIfInBounds_toArray, List.set_cons_zero, List.set_cons_succ])
        refine wpT_step2 (i := 5) (j := 7) (by kernel_rfl) (by decide) (by decide) rfl rfl (fun K hK => ?_) (fun K hK => ?_)
        · rw [if_pos (by rfl)]
          refine opwp_append_sl _ _ _ (by rfl) 70 _ 2 16 Try.underlying29 Hinf.out (by rfl) _ 0 0 [] (by rfl) rfl (SlAt.litAt _ _ _ _ (by first | rfl | simp)) (Nat.le_refl _) (by omega) _ k _ x1 (by rfl) hx1 (HP.out.ext hHeld.2.2.2) (elemsV_one linkC HE.out.1) (by omega) ?_
          intro a4 c4 w16 hs4 hle4 hm4 hA4
          (try simp only [Nat.zero_add, List.nil_append] at hs4 hle4)
          (try simp only [Nat.zero_add])
          have hC4 := hA4.chg (lo := w8.heap.size) (hi := w8.heap.size + 1) (by simp [ablk])
          have hE4 : Ext w8 w16 := Chg.ext ((Ext.drew _).trans (Ext.alloc _ _)) hC4 (by omega)
          have hat4 : ∀ b9 ∈ ablk a4, w8.heap.size ≤ b9 := fun b9 hb => by rcases hA4.mem hb with h9 | ⟨h9, _⟩ <;> (try simp [ablk] at h9) <;> omega
          refine hK.out _ _ ?_ (fun hHeld2 => ?_)
          · (try dsimp only); (obtain ⟨s0, s1, s2, s3⟩ := hHeld; exact ⟨cell_chg s0 hC4 (by omega), cell_chg s1 hC4 (by omega), cell_chg s2 hC4 (by omega), Chg.ext s3 hC4 (by omega)⟩)
          clear hK K hHeld
          rename _ => hHeld
          (try simp only [List.getElem_toArray, List.getElem_cons_succ, List.getElem_cons_zero, Act.put, List.setIfInBounds_toArray, List.set_cons_zero, List.set_cons_succ])
          refine wpT_step (i := 7) (by kernel_rfl) (by decide) rfl (fun K hK => ?_)
          go_simp
          refine hK.out _ _ ?_ (fun hHeld2 => ?_)
          · (try dsimp only); (obtain ⟨s0, s1, s2, s3⟩ := hHeld; exact ⟨cell_ext s0 (Ext.alloc _ _), cell_ext s1 (Ext.alloc _ _), cell_ext s2 (Ext.alloc _ _), s3.trans (Ext.alloc _ _)⟩)
          clear hK K hHeld
          rename _ => hHeld
          (try simp only [List.getElem_toArray, List.getElem_cons_succ, List.getElem_cons_zero, Act.put, List.setIfInBounds_toArray, List.set_cons_zero, List.set_cons_succ])
          refine wpT_step (i := 8) (by kernel_rfl) (by decide) rfl (fun K hK => ?_)
          rw [if_pos (by rfl)]
          refine opwp_append_sl _ _ _ (by rfl) 70 _ 2 16 Try.underlying29 Hinf.out (by rfl) _ k c4 x1 (by rfl) hx1 (SlAt.ext hs4 (Ext.alloc _ _)) hle4 hm4 _ 1 _ [.int .i64 lf, .int .i64 lt] (by rfl) rfl (CellsAt.litAt _ #[.int .i64 lf, .int .i64 lt] _ _ (by first | rfl | simp)) (by simp [Value.oneCell']) (by omega) ?_
          intro a5 c5 w17 hs5 hle5 hm5 hA5
          have hE5 : Ext w8 w17 := Chg.ext (hE4.trans (Ext.alloc _ _)) (hA5.chg (lo := w8.heap.size) (hi := w17.heap.size) (fun b9 hb => ⟨hat4 b9 hb, by have h8 := hs4.lt b9 hb; have h9 := hA5.size; (try simp at h9); omega⟩)) (Nat.le_refl _)
          have hat5 : ∀ b9 ∈ ablk a5, w8.heap.size ≤ b9 := fun b9 hb => by rcases hA5.mem hb with h9 | ⟨h9, _⟩; exact hat4 b9 h9; (have h8 := hE4.size; (try simp at h9); omega)
          refine hK.out _ _ ?_ (fun hHeld2 => ?_)
          · (try dsimp only); (obtain ⟨s0, s1, s2, s3⟩ := hHeld; exact ⟨cell_chg s0 (hA5.chg (lo := w8.heap.size) (hi := w17.heap.size) (fun b9 hb => ⟨hat4 b9 hb, by have h8 := hs4.lt b9 hb; have h9 := hA5.size; (try simp at h9); omega⟩)) (by omega), cell_chg s1 (hA5.chg (lo := w8.heap.size) (hi := w17.heap.size) (fun b9 hb => ⟨hat4 b9 hb, by have h8 := hs4.lt b9 hb; have h9 := hA5.size; (try simp at h9); omega⟩)) (by omega), cell_chg s2 (hA5.chg (lo := w8.heap.size) (hi := w17.heap.size) (fun b9 hb => ⟨hat4 b9 hb, by have h8 := hs4.lt b9 hb; have h9 := hA5.size; (try simp at h9); omega⟩)) (by omega), Chg.ext s3 (hA5.chg (lo := w8.heap.size) (hi := w17.heap.size) (fun b9 hb => ⟨hat4 b9 hb, by have h8 := hs4.lt b9 hb; have h9 := hA5.size; (try simp at h9); omega⟩)) (by omega)⟩)
          clear hK K hHeld
          rename _ => hHeld
          (try simp only [List.getElem_toArray, List.getElem_cons_succ, List.getElem_cons_zero, Act.put, List.setIfInBounds_toArray, List.set_cons_zero, List.set_cons_succ])
          refine wpT_last (by kernel_rfl) (by kernel_rfl) rfl (fun K hK => ?_)
          go_simp
          refine hK.out _ _ ?_
          clear hK K hHeld
          have H5 := Lib.hid (And.intro hs5 hat5)
          clear hs5 hat5 hs4 hA4 hC4 hat4 hA5 hE4
          have Xw17 : Ext w w17 := Ext.trans (by repeat (first | with_reducible exact Ext.refl _ | with_reducible assumption | with_reducible refine Ext.pAlloc ?_ _ | ((with_reducible refine Ext.pSet ?_ ?_ _); rotate_left; (simp <;> omega)) | with_reducible refine Ext.pDrew ?_ | with_reducible refine Ext.pDrewN ?_ _)) hE5
          have zw17 : w8.heap.size ≤ w17.heap.size := by have := hE5.size; (try simp at this); omega
          have B_d' : Bx w17 w.heap.size [.slice a ms.length cap, .slice (some ⟨vb, vo, none⟩) ls.length vc] := Bx.ext (by repeat (first | with_reducible assumption | with_reducible exact Bx.new _ _ _ _ rfl | ((with_reducible refine Bx.new _ _ _ _ ?_); simp; done) | with_reducible refine Bx.pAlloc ?_ _ | with_reducible refine Bx.pDrew ?_ | ((with_reducible refine Bx.set_other ?_ ?_ _); rotate_left; (simp <;> omega)))) hE5
          have B_r' : Bx w17 (w.heap.size + 1) [.slice none 0 0, .slice none 0 0] := Bx.ext (by repeat (first | with_reducible assumption | with_reducible exact Bx.new _ _ _ _ rfl | ((with_reducible refine Bx.new _ _ _ _ ?_); simp; done) | with_reducible refine Bx.pAlloc ?_ _ | with_reducible refine Bx.pDrew ?_ | ((with_reducible refine Bx.set_other ?_ ?_ _); rotate_left; (simp <;> omega)))) hE5
          have B_o' : Bx w17 w2.heap.size [.slice ka ms.length kc, .slice la ls.length lc] := Bx.ext (by repeat (first | with_reducible assumption | with_reducible exact Bx.new _ _ _ _ rfl | ((with_reducible refine Bx.new _ _ _ _ ?_); simp; done) | with_reducible refine Bx.pAlloc ?_ _ | with_reducible refine Bx.pDrew ?_ | ((with_reducible refine Bx.set_other ?_ ?_ _); rotate_left; (simp <;> omega)))) hE5
          have B_l' : Bx w17 w4.heap.size [.int .i64 lf, .int .i64 lt] := Bx.ext (by repeat (first | with_reducible assumption | with_reducible exact Bx.new _ _ _ _ rfl | ((with_reducible refine Bx.new _ _ _ _ ?_); simp; done) | with_reducible refine Bx.pAlloc ?_ _ | with_reducible refine Bx.pDrew ?_ | ((with_reducible refine Bx.set_other ?_ ?_ _); rotate_left; (simp <;> omega)))) hE5
          have O_cm' : (msgsC).own (a1) (b1) w17 [.slice ka ms.length kc] (ms) := Cd.own.ext (by repeat (first | with_reducible assumption | with_reducible refine Cd.own.pAlloc ?_ _ | with_reducible refine Cd.own.pDrew ?_ | with_reducible refine Cd.own.pDrewN ?_ _ | ((with_reducible refine Cd.own.pSet ?_ ?_ _); rotate_left; (simp <;> omega)))) hE5
          have O_cl' : (linksC).own (a2) (b2) w17 [.slice la ls.length lc] (ls) := Cd.own.ext (by repeat (first | with_reducible assumption | with_reducible refine Cd.own.pAlloc ?_ _ | with_reducible refine Cd.own.pDrew ?_ | with_reducible refine Cd.own.pDrewN ?_ _ | ((with_reducible refine Cd.own.pSet ?_ ?_ _); rotate_left; (simp <;> omega)))) hE5
          clear c_d_0 c_d_1 n_d c_r_0 c_r_1 n_r f_r c_o_0 c_o_1 n_o f_o c_l_0 c_l_1 n_l
          clear B_d
          have B_d := B_d'; clear B_d'
          clear B_r
          have B_r := B_r'; clear B_r'
          clear B_o
          have B_o := B_o'; clear B_o'
          clear B_l
          have B_l := B_l'; clear B_l'
          clear O_cm; have O_cm := O_cm'; clear O_cm'
          clear O_cl; have O_cl := O_cl'; clear O_cl'
          clear hE5 Xw8
          have c_d_0 := B_d.cell 0 _ rfl
          have c_d_1 := B_d.cell 1 _ rfl
          have n_d := B_d.lt
          have c_r_0 := B_r.cell 0 _ rfl
          have c_r_1 := B_r.cell 1 _ rfl
          have n_r := B_r.lt
          have f_r := B_r.fr
          have c_o_0 := B_o.cell 0 _ rfl
          have c_o_1 := B_o.cell 1 _ rfl
          have n_o := B_o.lt
          have f_o := B_o.fr
          have c_l_0 := B_l.cell 0 _ rfl
          have c_l_1 := B_l.cell 1 _ rfl
          have n_l := B_l.lt
          go_wp2_with (at_builtin; refine wpList_append_sl _ rfl _ _ _ rfl 70 _ 2 16 Try.underlying29 Hinf.out (by rfl) a5 (k + 1) c5 (x1 ++ [.int .i64 lf, .int .i64 lt]) rfl (by rw [List.length_append, hx1]; simp; omega) H5.out.1 hle5 hm5 _ (ls.length - k) _ x2 rfl hx2 (HSF.out.ext Xw17) (elemsV_one linkC HE.out.2) (by omega) ?_)
          intro a6 c6 w18 hs6 hle6 hm6 hA6
          have hlq : k + 1 + (ls.length - k) = (ls.take k ++ ((lf, lt) :: ls.drop k)).length := by rw [List.length_append, List.length_cons, List.length_take, List.length_drop]; omega
          have HO2 := Lib.hid (links_app (n := k + 1 + (ls.length - k)) (lo := w8.heap.size) hs6 (l := ls.take k ++ ((lf, lt) :: ls.drop k)) (by first | exact (by rw [List.append_assoc]; exact links_join HE.out.1 (links_join (links_one lf lt) HE.out.2)) | (have h9 := links_join HE.out.1 (links_join (links_one lf lt) HE.out.2); simpa using h9)) hlq hle6 hm6 hA6 (by omega) H5.out.2)
          have hC18 : Chg w8.heap.size w17.heap.size w17 w18 := hA6.chg (fun b9 hb => ⟨H5.out.2 b9 hb, H5.out.1.lt b9 hb⟩)
          clear hs6 hA6 hlq H5
          have Xw18 : Ext w w18 := Chg.ext (by repeat (first | with_reducible exact Ext.refl _ | with_reducible assumption | with_reducible refine Ext.pAlloc ?_ _ | ((with_reducible refine Ext.pSet ?_ ?_ _); rotate_left; (simp <;> omega)) | with_reducible refine Ext.pDrew ?_ | with_reducible refine Ext.pDrewN ?_ _)) hC18 (by omega)
          have zw18 : w17.heap.size ≤ w18.heap.size := by have := hC18.size; (try simp at this); omega
          have B_d' : Bx w18 w.heap.size [.slice a ms.length cap, .slice (some ⟨vb, vo, none⟩) ls.length vc] := Bx.chg (by repeat (first | with_reducible assumption | with_reducible exact Bx.new _ _ _ _ rfl | ((with_reducible refine Bx.new _ _ _ _ ?_); simp; done) | with_reducible refine Bx.pAlloc ?_ _ | with_reducible refine Bx.pDrew ?_ | ((with_reducible refine Bx.set_other ?_ ?_ _); rotate_left; (simp <;> omega)))) hC18 (by omega)
          have B_r' : Bx w18 (w.heap.size + 1) [.slice none 0 0, .slice none 0 0] := Bx.chg (by repeat (first | with_reducible assumption | with_reducible exact Bx.new _ _ _ _ rfl | ((with_reducible refine Bx.new _ _ _ _ ?_); simp; done) | with_reducible refine Bx.pAlloc ?_ _ | with_reducible refine Bx.pDrew ?_ | ((with_reducible refine Bx.set_other ?_ ?_ _); rotate_left; (simp <;> omega)))) hC18 (by omega)
          have B_o' : Bx w18 w2.heap.size [.slice ka ms.length kc, .slice la ls.length lc] := Bx.chg (by repeat (first | with_reducible assumption | with_reducible exact Bx.new _ _ _ _ rfl | ((with_reducible refine Bx.new _ _ _ _ ?_); simp; done) | with_reducible refine Bx.pAlloc ?_ _ | with_reducible refine Bx.pDrew ?_ | ((with_reducible refine Bx.set_other ?_ ?_ _); rotate_left; (simp <;> omega)))) hC18 (by omega)
          have B_l' : Bx w18 w4.heap.size [.int .i64 lf, .int .i64 lt] := Bx.chg (by repeat (first | with_reducible assumption | with_reducible exact Bx.new _ _ _ _ rfl | ((with_reducible refine Bx.new _ _ _ _ ?_); simp; done) | with_reducible refine Bx.pAlloc ?_ _ | with_reducible refine Bx.pDrew ?_ | ((with_reducible refine Bx.set_other ?_ ?_ _); rotate_left; (simp <;> omega)))) hC18 (by omega)
          have O_cm' : (msgsC).own (a1) (b1) w18 [.slice ka ms.length kc] (ms) := Cd.own.chg (by repeat (first | with_reducible assumption | with_reducible refine Cd.own.pAlloc ?_ _ | with_reducible refine Cd.own.pDrew ?_ | with_reducible refine Cd.own.pDrewN ?_ _ | ((with_reducible refine Cd.own.pSet ?_ ?_ _); rotate_left; (simp <;> omega)))) hC18 (by omega)
          clear c_d_0 c_d_1 n_d c_r_0 c_r_1 n_r f_r c_o_0 c_o_1 n_o f_o c_l_0 c_l_1 n_l
          clear B_d
          have B_d := B_d'; clear B_d'
          clear B_r
          have B_r := B_r'; clear B_r'
          clear B_o
          have B_o := B_o'; clear B_o'
          clear B_l
          have B_l := B_l'; clear B_l'
          clear O_cm; have O_cm := O_cm'; clear O_cm'
          clear hC18 Xw17
          have c_d_0 := B_d.cell 0 _ rfl
          have c_d_1 := B_d.cell 1 _ rfl
          have n_d := B_d.lt
          have c_r_0 := B_r.cell 0 _ rfl
          have c_r_1 := B_r.cell 1 _ rfl
          have n_r := B_r.lt
          have f_r := B_r.fr
          have c_o_0 := B_o.cell 0 _ rfl
          have c_o_1 := B_o.cell 1 _ rfl
          have n_o := B_o.lt
          have f_o := B_o.fr
          have c_l_0 := B_l.cell 0 _ rfl
          have c_l_1 := B_l.cell 1 _ rfl
          have n_l := B_l.lt
          have O_cl2 := HO2.out; clear HO2
          go_wp2
          refine bodyPost_ret (v := .tuple #[.agg #[.slice ka ms.length kc, (.slice a6 (k + 1 + (ls.length - k)) c6)], .bool true]) (by simp [results, Try.results46, go_sem, c_r_0, c_r_1, n_r]) rfl ⟨_, _, rfl, ?_, ?_⟩
          · repeat (first | with_reducible exact Ext.refl _ | with_reducible assumption | with_reducible refine Ext.pAlloc ?_ _ | ((with_reducible refine Ext.pSet ?_ ?_ _); rotate_left; (simp <;> omega)) | with_reducible refine Ext.pDrew ?_ | with_reducible refine Ext.pDrewN ?_ _)
          · exact net_join (a1 := a1) (b1 := b1) (a2 := w8.heap.size) (b2 := w18.heap.size) (by repeat (first | with_reducible assumption | with_reducible refine Cd.own.pAlloc ?_ _ | with_reducible refine Cd.own.pDrew ?_ | with_reducible refine Cd.own.pDrewN ?_ _ | ((with_reducible refine Cd.own.pSet ?_ ?_ _); rotate_left; (simp <;> omega)))) (by repeat (first | with_reducible assumption | with_reducible refine Cd.own.pAlloc ?_ _ | with_reducible refine Cd.own.pDrew ?_ | with_reducible refine Cd.own.pDrewN ?_ _ | ((with_reducible refine Cd.own.pSet ?_ ?_ _); rotate_left; (simp <;> omega)))) (by omega) ⟨(by first | omega | (simp <;> omega)), (by first | (simp [World.setCell]; done) | (simp [World.setCell]; omega) | omega), (by first | omega | (simp <;> omega)), (by first | (simp [World.setCell]; done) | (simp [World.setCell]; omega) | omega)⟩
        · go_simp
          refine hK.out _ _ ?_ (fun hHeld2 => ?_)
          · (try dsimp only); (obtain ⟨s0, s1, s2, s3⟩ := hHeld; exact ⟨cell_ext s0 (Ext.alloc _ _), cell_ext s1 (Ext.alloc _ _), cell_ext s2 (Ext.alloc _ _), s3.trans (Ext.alloc _ _)⟩)
          clear hK K hHeld
          rename _ => hHeld
          (try simp only [List.getElem_toArray, List.getElem_cons_succ, List.getElem_cons_zero, Act.put, List.setIfInBounds_toArray, List.set_cons_zero, List.set_cons_succ])
          refine wpT_step (i := 5) (by kernel_rfl) (by decide) rfl (fun K hK => ?_)
          rw [if_pos (by rfl)]
          refine opwp_append_sl _ _ _ (by rfl) 70 _ 2 16 Try.underlying29 Hinf.out (by rfl) _ 0 0 [] (by rfl) rfl (SlAt.drew (SlAt.ext (SlAt.litAt _ _ _ _ (by first | rfl | simp)) (Ext.alloc _ _))) (Nat.le_refl _) (by omega) _ k _ x1 (by rfl) hx1 (HP.out.ext hHeld.2.2.2) (elemsV_one linkC HE.out.1) (by omega) ?_
          intro a4 c4 w16 hs4 hle4 hm4 hA4
          (try simp only [Nat.zero_add, List.nil_append] at hs4 hle4)
          (try simp only [Nat.zero_add])
          have hC4 := hA4.chg (lo := w8.heap.size) (hi := w8.heap.size + 1) (by simp [ablk])
          have hE4 : Ext w8 w16 := Chg.ext (((Ext.drew _).trans (Ext.alloc _ _)).trans (Ext.alloc _ _)) hC4 (by omega)
          have hat4 : ∀ b9 ∈ ablk a4, w8.heap.size ≤ b9 := fun b9 hb => by rcases hA4.mem hb with h9 | ⟨h9, _⟩ <;> (try simp [ablk] at h9) <;> omega
          refine hK.out _ _ ?_ (fun hHeld2 => ?_)
          · (try dsimp only); (obtain ⟨s0, s1, s2, s3⟩ := hHeld; exact ⟨cell_chg s0 hC4 (by omega), cell_chg s1 hC4 (by omega), cell_chg s2 hC4 (by omega), Chg.ext s3 hC4 (by omega)⟩)
          clear hK K hHeld
          rename _ => hHeld
          (try simp only [List.getElem_toArray, List.getElem_cons_succ, List.getElem_cons_zero, Act.put, List.setIfInBounds_toArray, List.set_cons_zero, List.set_cons_succ])
          refine wpT_step (i := 8) (by kernel_rfl) (by decide) rfl (fun K hK => ?_)
          rw [if_pos (by rfl)]
          refine opwp_append_sl _ _ _ (by rfl) 70 _ 2 16 Try.underlying29 Hinf.out (by rfl) _ k c4 x1 (by rfl) hx1 hs4 hle4 hm4 _ 1 _ [.int .i64 lf, .int .i64 lt] (by rfl) rfl (CellsAt.chg_ (CellsAt.drew (CellsAt.litAt _ #[.int .i64 lf, .int .i64 lt] _ _ (by first | rfl | simp))) hC4 (by simp [ablk] <;> omega)) (by simp [Value.oneCell']) (by omega) ?_
          intro a5 c5 w17 hs5 hle5 hm5 hA5
          have hE5 : Ext w8 w17 := Chg.ext (hE4) (hA5.chg (lo := w8.heap.size) (hi := w17.heap.size) (fun b9 hb => ⟨hat4 b9 hb, by have h8 := hs4.lt b9 hb; have h9 := hA5.size; (try simp at h9); omega⟩)) (Nat.le_refl _)
          have hat5 : ∀ b9 ∈ ablk a5, w8.heap.size ≤ b9 := fun b9 hb => by rcases hA5.mem hb with h9 | ⟨h9, _⟩; exact hat4 b9 h9; (have h8 := hE4.size; (try simp at h9); omega)
          refine hK.out _ _ ?_ (fun hHeld2 => ?_)
          · (try dsimp only); (obtain ⟨s0, s1, s2, s3⟩ := hHeld; exact ⟨cell_chg s0 (hA5.chg (lo := w8.heap.size) (hi := w17.heap.size) (fun b9 hb => ⟨hat4 b9 hb, by have h8 := hs4.lt b9 hb; have h9 := hA5.size; (try simp at h9); omega⟩)) (by omega), cell_chg s1 (hA5.chg (lo := w8.heap.size) (hi := w17.heap.size) (fun b9 hb => ⟨hat4 b9 hb, by have h8 := hs4.lt b9 hb; have h9 := hA5.size; (try simp at h9); omega⟩)) (by omega), cell_chg s2 (hA5.chg (lo := w8.heap.size) (hi := w17.heap.size) (fun b9 hb => ⟨hat4 b9 hb, by have h8 := hs4.lt b9 hb; have h9 := hA5.size; (try simp at h9); omega⟩)) (by omega), Chg.ext s3 (hA5.chg (lo := w8.heap.size) (hi := w17.heap.size) (fun b9 hb => ⟨hat4 b9 hb, by have h8 := hs4.lt b9 hb; have h9 := hA5.size; (try simp at h9); omega⟩)) (by omega)⟩)
          clear hK K hHeld
          rename _ => hHeld
          (try simp only [List.getElem_toArray, List.getElem_cons_succ, List.getElem_cons_zero, Act.put, List.setIfInBounds_toArray, List.set_cons_zero, List.set_cons_succ])
          refine wpT_last (by kernel_rfl) (by kernel_rfl) rfl (fun K hK => ?_)
          go_simp
          refine hK.out _ _ ?_
          clear hK K hHeld
          have H5 := Lib.hid (And.intro hs5 hat5)
          clear hs5 hat5 hs4 hA4 hC4 hat4 hA5 hE4
          have Xw17 : Ext w w17 := Ext.trans (by repeat (first | with_reducible exact Ext.refl _ | with_reducible assumption | with_reducible refine Ext.pAlloc ?_ _ | ((with_reducible refine Ext.pSet ?_ ?_ _); rotate_left; (simp <;> omega)) | with_reducible refine Ext.pDrew ?_ | with_reducible refine Ext.pDrewN ?_ _)) hE5
          have zw17 : w8.heap.size ≤ w17.heap.size := by have := hE5.size; (try simp at this); omega
          have B_d' : Bx w17 w.heap.size [.slice a ms.length cap, .slice (some ⟨vb, vo, none⟩) ls.length vc] := Bx.ext (by repeat (first | with_reducible assumption | with_reducible exact Bx.new _ _ _ _ rfl | ((with_reducible refine Bx.new _ _ _ _ ?_); simp; done) | with_reducible refine Bx.pAlloc ?_ _ | with_reducible refine Bx.pDrew ?_ | ((with_reducible refine Bx.set_other ?_ ?_ _); rotate_left; (simp <;> omega)))) hE5
          have B_r' : Bx w17 (w.heap.size + 1) [.slice none 0 0, .slice none 0 0] := Bx.ext (by repeat (first | with_reducible assumption | with_reducible exact Bx.new _ _ _ _ rfl | ((with_reducible refine Bx.new _ _ _ _ ?_); simp; done) | with_reducible refine Bx.pAlloc ?_ _ | with_reducible refine Bx.pDrew ?_ | ((with_reducible refine Bx.set_other ?_ ?_ _); rotate_left; (simp <;> omega)))) hE5
          have B_o' : Bx w17 w2.heap.size [.slice ka ms.length kc, .slice la ls.length lc] := Bx.ext (by repeat (first | with_reducible assumption | with_reducible exact Bx.new _ _ _ _ rfl | ((with_reducible refine Bx.new _ _ _ _ ?_); simp; done) | with_reducible refine Bx.pAlloc ?_ _ | with_reducible refine Bx.pDrew ?_ | ((with_reducible refine Bx.set_other ?_ ?_ _); rotate_left; (simp <;> omega)))) hE5
          have B_l' : Bx w17 w4.heap.size [.int .i64 lf, .int .i64 lt] := Bx.ext (by repeat (first | with_reducible assumption | with_reducible exact Bx.new _ _ _ _ rfl | ((with_reducible refine Bx.new _ _ _ _ ?_); simp; done) | with_reducible refine Bx.pAlloc ?_ _ | with_reducible refine Bx.pDrew ?_ | ((with_reducible refine Bx.set_other ?_ ?_ _); rotate_left; (simp <;> omega)))) hE5
          have O_cm' : (msgsC).own (a1) (b1) w17 [.slice ka ms.length kc] (ms) := Cd.own.ext (by repeat (first | with_reducible assumption | with_reducible refine Cd.own.pAlloc ?_ _ | with_reducible refine Cd.own.pDrew ?_ | with_reducible refine Cd.own.pDrewN ?_ _ | ((with_reducible refine Cd.own.pSet ?_ ?_ _); rotate_left; (simp <;> omega)))) hE5
          have O_cl' : (linksC).own (a2) (b2) w17 [.slice la ls.length lc] (ls) := Cd.own.ext (by repeat (first | with_reducible assumption | with_reducible refine Cd.own.pAlloc ?_ _ | with_reducible refine Cd.own.pDrew ?_ | with_reducible refine Cd.own.pDrewN ?_ _ | ((with_reducible refine Cd.own.pSet ?_ ?_ _); rotate_left; (simp <;> omega)))) hE5
          clear c_d_0 c_d_1 n_d c_r_0 c_r_1 n_r f_r c_o_0 c_o_1 n_o f_o c_l_0 c_l_1 n_l
          clear B_d
          have B_d := B_d'; clear B_d'
          clear B_r
          have B_r := B_r'; clear B_r'
          clear B_o
          have B_o := B_o'; clear B_o'
          clear B_l
          have B_l := B_l'; clear B_l'
          clear O_cm; have O_cm := O_cm'; clear O_cm'
          clear O_cl; have O_cl := O_cl'; clear O_cl'
          clear hE5 Xw8
          have c_d_0 := B_d.cell 0 _ rfl
          have c_d_1 := B_d.cell 1 _ rfl
          have n_d := B_d.lt
          have c_r_0 := B_r.cell 0 _ rfl
          have c_r_1 := B_r.cell 1 _ rfl
          have n_r := B_r.lt
          have f_r := B_r.fr
          have c_o_0 := B_o.cell 0 _ rfl
          have c_o_1 := B_o.cell 1 _ rfl
          have n_o := B_o.lt
          have f_o := B_o.fr
          have c_l_0 := B_l.cell 0 _ rfl
          have c_l_1 := B_l.cell 1 _ rfl
          have n_l := B_l.lt
          go_wp2_with (at_builtin; refine wpList_append_sl _ rfl _ _ _ rfl 70 _ 2 16 Try.underlying29 Hinf.out (by rfl) a5 (k + 1) c5 (x1 ++ [.int .i64 lf, .int .i64 lt]) rfl (by rw [List.length_append, hx1]; simp; omega) H5.out.1 hle5 hm5 _ (ls.length - k) _ x2 rfl hx2 (HSF.out.ext Xw17) (elemsV_one linkC HE.out.2) (by omega) ?_)
          intro a6 c6 w18 hs6 hle6 hm6 hA6
          have hlq : k + 1 + (ls.length - k) = (ls.take k ++ ((lf, lt) :: ls.drop k)).length := by rw [List.length_append, List.length_cons, List.length_take, List.length_drop]; omega
          have HO2 := Lib.hid (links_app (n := k + 1 + (ls.length - k)) (lo := w8.heap.size) hs6 (l := ls.take k ++ ((lf, lt) :: ls.drop k)) (by first | exact (by rw [List.append_assoc]; exact links_join HE.out.1 (links_join (links_one lf lt) HE.out.2)) | (have h9 := links_join HE.out.1 (links_join (links_one lf lt) HE.out.2); simpa using h9)) hlq hle6 hm6 hA6 (by omega) H5.out.2)
          have hC18 : Chg w8.heap.size w17.heap.size w17 w18 := hA6.chg (fun b9 hb => ⟨H5.out.2 b9 hb, H5.out.1.lt b9 hb⟩)
          clear hs6 hA6 hlq H5
          have Xw18 : Ext w w18 := Chg.ext (by repeat (first | with_reducible exact Ext.refl _ | with_reducible assumption | with_reducible refine Ext.pAlloc ?_ _ | ((with_reducible refine Ext.pSet ?_ ?_ _); rotate_left; (simp <;> omega)) | with_reducible refine Ext.pDrew ?_ | with_reducible refine Ext.pDrewN ?_ _)) hC18 (by omega)
          have zw18 : w17.heap.size ≤ w18.heap.size := by have := hC18.size; (try simp at this); omega
          have B_d' : Bx w18 w.heap.size [.slice a ms.length cap, .slice (some ⟨vb, vo, none⟩) ls.length vc] := Bx.chg (by repeat (first | with_reducible assumption | with_reducible exact Bx.new _ _ _ _ rfl | ((with_reducible refine Bx.new _ _ _ _ ?_); simp; done) | with_reducible refine Bx.pAlloc ?_ _ | with_reducible refine Bx.pDrew ?_ | ((with_reducible refine Bx.set_other ?_ ?_ _); rotate_left; (simp <;> omega)))) hC18 (by omega)
          have B_r' : Bx w18 (w.heap.size + 1) [.slice none 0 0, .slice none 0 0] := Bx.chg (by repeat (first | with_reducible assumption | with_reducible exact Bx.new _ _ _ _ rfl | ((with_reducible refine Bx.new _ _ _ _ ?_); simp; done) | with_reducible refine Bx.pAlloc ?_ _ | with_reducible refine Bx.pDrew ?_ | ((with_reducible refine Bx.set_other ?_ ?_ _); rotate_left; (simp <;> omega)))) hC18 (by omega)
          have B_o' : Bx w18 w2.heap.size [.slice ka ms.length kc, .slice la ls.length lc] := Bx.chg (by repeat (first | with_reducible assumption | with_reducible exact Bx.new _ _ _ _ rfl | ((with_reducible refine Bx.new _ _ _ _ ?_); simp; done) | with_reducible refine Bx.pAlloc ?_ _ | with_reducible refine Bx.pDrew ?_ | ((with_reducible refine Bx.set_other ?_ ?_ _); rotate_left; (simp <;> omega)))) hC18 (by omega)
          have B_l' : Bx w18 w4.heap.size [.int .i64 lf, .int .i64 lt] := Bx.chg (by repeat (first | with_reducible assumption | with_reducible exact Bx.new _ _ _ _ rfl | ((with_reducible refine Bx.new _ _ _ _ ?_); simp; done) | with_reducible refine Bx.pAlloc ?_ _ | with_reducible refine Bx.pDrew ?_ | ((with_reducible refine Bx.set_other ?_ ?_ _); rotate_left; (simp <;> omega)))) hC18 (by omega)
          have O_cm' : (msgsC).own (a1) (b1) w18 [.slice ka ms.length kc] (ms) := Cd.own.chg (by repeat (first | with_reducible assumption | with_reducible refine Cd.own.pAlloc ?_ _ | with_reducible refine Cd.own.pDrew ?_ | with_reducible refine Cd.own.pDrewN ?_ _ | ((with_reducible refine Cd.own.pSet ?_ ?_ _); rotate_left; (simp <;> omega)))) hC18 (by omega)
          clear c_d_0 c_d_1 n_d c_r_0 c_r_1 n_r f_r c_o_0 c_o_1 n_o f_o c_l_0 c_l_1 n_l
          clear B_d
          have B_d := B_d'; clear B_d'
          clear B_r
          have B_r := B_r'; clear B_r'
          clear B_o
          have B_o := B_o'; clear B_o'
          clear B_l
          have B_l := B_l'; clear B_l'
          clear O_cm; have O_cm := O_cm'; clear O_cm'
          clear hC18 Xw17
          have c_d_0 := B_d.cell 0 _ rfl
          have c_d_1 := B_d.cell 1 _ rfl
          have n_d := B_d.lt
          have c_r_0 := B_r.cell 0 _ rfl
          have c_r_1 := B_r.cell 1 _ rfl
          have n_r := B_r.lt
          have f_r := B_r.fr
          have c_o_0 := B_o.cell 0 _ rfl
          have c_o_1 := B_o.cell 1 _ rfl
          have n_o := B_o.lt
          have f_o := B_o.fr
          have c_l_0 := B_l.cell 0 _ rfl
          have c_l_1 := B_l.cell 1 _ rfl
          have n_l := B_l.lt
          have O_cl2 := HO2.out; clear HO2
          go_wp2
          refine bodyPost_ret (v := .tuple #[.agg #[.slice ka ms.length kc, (.slice a6 (k + 1 + (ls.length - k)) c6)], .bool true]) (by simp [results, Try.results46, go_sem, c_r_0, c_r_1, n_r]) rfl ⟨_, _, rfl, ?_, ?_⟩
          · repeat (first | with_reducible exact Ext.refl _ | with_reducible assumption | with_reducible refine Ext.pAlloc ?_ _ | ((with_reducible refine Ext.pSet ?_ ?_ _); rotate_left; (simp <;> omega)) | with_reducible refine Ext.pDrew ?_ | with_reducible refine Ext.pDrewN ?_ _)
          · exact net_join (a1 := a1) (b1 := b1) (a2 := w8.heap.size) (b2 := w18.heap.size) (by repeat (first | with_reducible assumption | with_reducible refine Cd.own.pAlloc ?_ _ | with_reducible refine Cd.own.pDrew ?_ | with_reducible refine Cd.own.pDrewN ?_ _ | ((with_reducible refine Cd.own.pSet ?_ ?_ _); rotate_left; (simp <;> omega)))) (by repeat (first | with_reducible assumption | with_reducible refine Cd.own.pAlloc ?_ _ | with_reducible refine Cd.own.pDrew ?_ | with_reducible refine Cd.own.pDrewN ?_ _ | ((with_reducible refine Cd.own.pSet ?_ ?_ _); rotate_left; (simp <;> omega)))) (by omega) ⟨(by first | omega | (simp <;> omega)), (by first | (simp [World.setCell]; done) | (simp [World.setCell]; omega) | omega), (by first | omega | (simp <;> omega)), (by first | (simp [World.setCell]; done) | (simp [World.setCell]; omega) | omega)⟩
      · go_simp
        refine hK.out _ _ ?_ (fun hHeld2 => ?_)
        · (try dsimp only); (obtain ⟨s0, s1, s2, s3⟩ := hHeld; exact ⟨cell_ext s0 (Ext.alloc _ _), cell_ext s1 (Ext.alloc _ _), cell_ext s2 (Ext.alloc _ _), s3.trans (Ext.alloc _ _)⟩)
        clear hK K hHeld
        rename _ => hHeld
        (try simp only [List.getElem_toArray, List.getElem_cons_succ, List.getElem_cons_zero, Act.put, List.setIfInBounds_toArray, List.set_cons_zero, List.set_cons_succ])
        refine wpT_step (i := 0) (by kernel_rfl) (by decide) rfl (fun K hK => ?_)
        go_simp
        refine hK.out _ _ ?_ (fun hHeld2 => ?_)
        · (try dsimp only); (obtain ⟨s0, s1, s2, s3⟩ := hHeld; exact ⟨cell_ext s0 (Ext.alloc _ _), cell_ext s1 (Ext.alloc _ _), cell_ext s2 (Ext.alloc _ _), s3.trans (Ext.alloc _ _)⟩)
        clear hK K hHeld
        rename _ => hHeld
        (try simp only [List.getElem_toArray, List.getElem_cons_succ, List.getElem_cons_zero, Act.put, List.setIfInBounds_toArray, List.set_cons_zero, List.set_cons_succ])
        refine wpT_step (i := 5) (by kernel_rfl) (by decide) rfl (fun K hK => ?_)
        rw [if_pos (by rfl)]
        refine opwp_append_sl _ _ _ (by rfl) 70 _ 2 16 Try.underlying29 Hinf.out (by rfl) _ 0 0 [] (by rfl) rfl (SlAt.litAt _ _ _ _ (by first | rfl | simp)) (Nat.le_refl _) (by omega) _ k _ x1 (by rfl) hx1 (HP.out.ext hHeld.2.2.2) (elemsV_one linkC HE.out.1) (by omega) ?_
        intro a4 c4 w16 hs4 hle4 hm4 hA4
        (try simp only [Nat.zero_add, List.nil_append] at hs4 hle4)
        (try simp only [Nat.zero_add])
        have hC4 := hA4.chg (lo := w8.heap.size + 1) (hi := w8.heap.size + 1 + 1) (by simp [ablk])
        have hE4 : Ext w8 w16 := Chg.ext (((Ext.drew _).trans (Ext.alloc _ _)).trans (Ext.alloc _ _)) hC4 (by omega)
        have hat4 : ∀ b9 ∈ ablk a4, w8.heap.size ≤ b9 := fun b9 hb => by rcases hA4.mem hb with h9 | ⟨h9, _⟩ <;> (try simp [ablk] at h9) <;> omega
        refine hK.out _ _ ?_ (fun hHeld2 => ?_)
        · (try dsimp only); (obtain ⟨s0, s1, s2, s3⟩ := hHeld; exact ⟨cell_chg s0 hC4 (by omega), cell_chg s1 hC4 (by omega), cell_chg s2 hC4 (by omega), Chg.ext s3 hC4 (by omega)⟩)
        clear hK K hHeld
        rename _ => hHeld
        (try simp only [List.getElem_toArray, List.getElem_cons_succ, List.getElem_cons_zero, Act.put, List.setIfInBounds_toArray, List.set_cons_zero, List.set_cons_succ])
        refine wpT_step (i := 8) (by kernel_rfl) (by decide) rfl (fun K hK => ?_)
        rw [if_pos (by rfl)]
        refine opwp_append_sl _ _ _ (by rfl) 70 _ 2 16 Try.underlying29 Hinf.out (by rfl) _ k c4 x1 (by rfl) hx1 hs4 hle4 hm4 _ 1 _ [.int .i64 lf, .int .i64 lt] (by rfl) rfl (CellsAt.chg_ (CellsAt.drew (CellsAt.ext (CellsAt.litAt _ #[.int .i64 lf, .int .i64 lt] _ _ (by first | rfl | simp)) (Ext.alloc _ _))) hC4 (by simp [ablk] <;> omega)) (by simp [Value.oneCell']) (by omega) ?_
        intro a5 c5 w17 hs5 hle5 hm5 hA5
        have hE5 : Ext w8 w17 := Chg.ext (hE4) (hA5.chg (lo := w8.heap.size) (hi := w17.heap.size) (fun b9 hb => ⟨hat4 b9 hb, by have h8 := hs4.lt b9 hb; have h9 := hA5.size; (try simp at h9); omega⟩)) (Nat.le_refl _)
        have hat5 : ∀ b9 ∈ ablk a5, w8.heap.size ≤ b9 := fun b9 hb => by rcases hA5.mem hb with h9 | ⟨h9, _⟩; exact hat4 b9 h9; (have h8 := hE4.size; (try simp at h9); omega)
        refine hK.out _ _ ?_ (fun hHeld2 => ?_)
        · (try dsimp only); (obtain ⟨s0, s1, s2, s3⟩ := hHeld; exact ⟨cell_chg s0 (hA5.chg (lo := w8.heap.size) (hi := w17.heap.size) (fun b9 hb => ⟨hat4 b9 hb, by have h8 := hs4.lt b9 hb; have h9 := hA5.size; (try simp at h9); omega⟩)) (by omega), cell_chg s1 (hA5.chg (lo := w8.heap.size) (hi := w17.heap.size) (fun b9 hb => ⟨hat4 b9 hb, by have h8 := hs4.lt b9 hb; have h9 := hA5.size; (try simp at h9); omega⟩)) (by omega), cell_chg s2 (hA5.chg (lo := w8.heap.size) (hi := w17.heap.size) (fun b9 hb => ⟨hat4 b9 hb, by have h8 := hs4.lt b9 hb; have h9 := hA5.size; (try simp at h9); omega⟩)) (by omega), Chg.ext s3 (hA5.chg (lo := w8.heap.size) (hi := w17.heap.size) (fun b9 hb => ⟨hat4 b9 hb, by have h8 := hs4.lt b9 hb; have h9 := hA5.size; (try simp at h9); omega⟩)) (by omega)⟩)
        clear hK K hHeld
        rename _ => hHeld
        (try simp only [List.getElem_toArray, List.getElem_cons_succ, List.getElem_cons_zero, Act.put, List.setIfInBounds_toArray, List.set_cons_zero, List.set_cons_succ])
        refine wpT_last (by kernel_rfl) (by kernel_rfl) rfl (fun K hK => ?_)
        go_simp
        refine hK.out _ _ ?_
        clear hK K hHeld
        have H5 := Lib.hid (And.intro hs5 hat5)
        clear hs5 hat5 hs4 hA4 hC4 hat4 hA5 hE4
        have Xw17 : Ext w w17 := Ext.trans (by repeat (first | with_reducible exact Ext.refl _ | with_reducible assumption | with_reducible refine Ext.pAlloc ?_ _ | ((with_reducible refine Ext.pSet ?_ ?_ _); rotate_left; (simp <;> omega)) | with_reducible refine Ext.pDrew ?_ | with_reducible refine Ext.pDrewN ?_ _)) hE5
        have zw17 : w8.heap.size ≤ w17.heap.size := by have := hE5.size; (try simp at this); omega
        have B_d' : Bx w17 w.heap.size [.slice a ms.length cap, .slice (some ⟨vb, vo, none⟩) ls.length vc] := Bx.ext (by repeat (first | with_reducible assumption | with_reducible exact Bx.new _ _ _ _ rfl | ((with_reducible refine Bx.new _ _ _ _ ?_); simp; done) | with_reducible refine Bx.pAlloc ?_ _ | with_reducible refine Bx.pDrew ?_ | ((with_reducible refine Bx.set_other ?_ ?_ _); rotate_left; (simp <;> omega)))) hE5
        have B_r' : Bx w17 (w.heap.size + 1) [.slice none 0 0, .slice none 0 0] := Bx.ext (by repeat (first | with_reducible assumption | with_reducible exact Bx.new _ _ _ _ rfl | ((with_reducible refine Bx.new _ _ _ _ ?_); simp; done) | with_reducible refine Bx.pAlloc ?_ _ | with_reducible refine Bx.pDrew ?_ | ((with_reducible refine Bx.set_other ?_ ?_ _); rotate_left; (simp <;> omega)))) hE5
        have B_o' : Bx w17 w2.heap.size [.slice ka ms.length kc, .slice la ls.length lc] := Bx.ext (by repeat (first | with_reducible assumption | with_reducible exact Bx.new _ _ _ _ rfl | ((with_reducible refine Bx.new _ _ _ _ ?_); simp; done) | with_reducible refine Bx.pAlloc ?_ _ | with_reducible refine Bx.pDrew ?_ | ((with_reducible refine Bx.set_other ?_ ?_ _); rotate_left; (simp <;> omega)))) hE5
        have B_l' : Bx w17 w4.heap.size [.int .i64 lf, .int .i64 lt] := Bx.ext (by repeat (first | with_reducible assumption | with_reducible exact Bx.new _ _ _ _ rfl | ((with_reducible refine Bx.new _ _ _ _ ?_); simp; done) | with_reducible refine Bx.pAlloc ?_ _ | with_reducible refine Bx.pDrew ?_ | ((with_reducible refine Bx.set_other ?_ ?_ _); rotate_left; (simp <;> omega)))) hE5
        have O_cm' : (msgsC).own (a1) (b1) w17 [.slice ka ms.length kc] (ms) := Cd.own.ext (by repeat (first | with_reducible assumption | with_reducible refine Cd.own.pAlloc ?_ _ | with_reducible refine Cd.own.pDrew ?_ | with_reducible refine Cd.own.pDrewN ?_ _ | ((with_reducible refine Cd.own.pSet ?_ ?_ _); rotate_left; (simp <;> omega)))) hE5
        have O_cl' : (linksC).own (a2) (b2) w17 [.slice la ls.length lc] (ls) := Cd.own.ext (by repeat (first | with_reducible assumption | with_reducible refine Cd.own.pAlloc ?_ _ | with_reducible refine Cd.own.pDrew ?_ | with_reducible refine Cd.own.pDrewN ?_ _ | ((with_reducible refine Cd.own.pSet ?_ ?_ _); rotate_left; (simp <;> omega)))) hE5
        clear c_d_0 c_d_1 n_d c_r_0 c_r_1 n_r f_r c_o_0 c_o_1 n_o f_o c_l_0 c_l_1 n_l
        clear B_d
        have B_d := B_d'; clear B_d'
        clear B_r
        have B_r := B_r'; clear B_r'
        clear B_o
        have B_o := B_o'; clear B_o'
        clear B_l
        have B_l := B_l'; clear B_l'
        clear O_cm; have O_cm := O_cm'; clear O_cm'
        clear O_cl; have O_cl := O_cl'; clear O_cl'
        clear hE5 Xw8
        have c_d_0 := B_d.cell 0 _ rfl
        have c_d_1 := B_d.cell 1 _ rfl
        have n_d := B_d.lt
        have c_r_0 := B_r.cell 0 _ rfl
        have c_r_1 := B_r.cell 1 _ rfl
        have n_r := B_r.lt
        have f_r := B_r.fr
        have c_o_0 := B_o.cell 0 _ rfl
        have c_o_1 := B_o.cell 1 _ rfl
        have n_o := B_o.lt
        have f_o := B_o.fr
        have c_l_0 := B_l.cell 0 _ rfl
        have c_l_1 := B_l.cell 1 _ rfl
        have n_l := B_l.lt
        go_wp2_with (at_builtin; refine wpList_append_sl _ rfl _ _ _ rfl 70 _ 2 16 Try.underlying29 Hinf.out (by rfl) a5 (k + 1) c5 (x1 ++ [.int .i64 lf, .int .i64 lt]) rfl (by rw [List.length_append, hx1]; simp; omega) H5.out.1 hle5 hm5 _ (ls.length - k) _ x2 rfl hx2 (HSF.out.ext Xw17) (elemsV_one linkC HE.out.2) (by omega) ?_)
        intro a6 c6 w18 hs6 hle6 hm6 hA6
        have hlq : k + 1 + (ls.length - k) = (ls.take k ++ ((lf, lt) :: ls.drop k)).length := by rw [List.length_append, List.length_cons, List.length_take, List.length_drop]; omega
        have HO2 := Lib.hid (links_app (n := k + 1 + (ls.length - k)) (lo := w8.heap.size) hs6 (l := ls.take k ++ ((lf, lt) :: ls.drop k)) (by first | exact (by rw [List.append_assoc]; exact links_join HE.out.1 (links_join (links_one lf lt) HE.out.2)) | (have h9 := links_join HE.out.1 (links_join (links_one lf lt) HE.out.2); simpa using h9)) hlq hle6 hm6 hA6 (by omega) H5.out.2)
        have hC18 : Chg w8.heap.size w17.heap.size w17 w18 := hA6.chg (fun b9 hb => ⟨H5.out.2 b9 hb, H5.out.1.lt b9 hb⟩)
        clear hs6 hA6 hlq H5
        have Xw18 : Ext w w18 := Chg.ext (by repeat (first | with_reducible exact Ext.refl _ | with_reducible assumption | with_reducible refine Ext.pAlloc ?_ _ | ((with_reducible refine Ext.pSet ?_ ?_ _); rotate_left; (simp <;> omega)) | with_reducible refine Ext.pDrew ?_ | with_reducible refine Ext.pDrewN ?_ _)) hC18 (by omega)
        have zw18 : w17.heap.size ≤ w18.heap.size := by have := hC18.size; (try simp at this); omega
        have B_d' : Bx w18 w.heap.size [.slice a ms.length cap, .slice (some ⟨vb, vo, none⟩) ls.length vc] := Bx.chg (by repeat (first | with_reducible assumption | with_reducible exact Bx.new _ _ _ _ rfl | ((with_reducible refine Bx.new _ _ _ _ ?_); simp; done) | with_reducible refine Bx.pAlloc ?_ _ | with_reducible refine Bx.pDrew ?_ | ((with_reducible refine Bx.set_other ?_ ?_ _); rotate_left; (simp <;> omega)))) hC18 (by omega)
        have B_r' : Bx w18 (w.heap.size + 1) [.slice none 0 0, .slice none 0 0] := Bx.chg (by repeat (first | with_reducible assumption | with_reducible exact Bx.new _ _ _ _ rfl | ((with_reducible refine Bx.new _ _ _ _ ?_); simp; done) | with_reducible refine Bx.pAlloc ?_ _ | with_reducible refine Bx.pDrew ?_ | ((with_reducible refine Bx.set_other ?_ ?_ _); rotate_left; (simp <;> omega)))) hC18 (by omega)
        have B_o' : Bx w18 w2.heap.size [.slice ka ms.length kc, .slice la ls.length lc] := Bx.chg (by repeat (first | with_reducible assumption | with_reducible exact Bx.new _ _ _ _ rfl | ((with_reducible refine Bx.new _ _ _ _ ?_); simp; done) | with_reducible refine Bx.pAlloc ?_ _ | with_reducible refine Bx.pDrew ?_ | ((with_reducible refine Bx.set_other ?_ ?_ _); rotate_left; (simp <;> omega)))) hC18 (by omega)
        have B_l' : Bx w18 w4.heap.size [.int .i64 lf, .int .i64 lt] := Bx.chg (by repeat (first | with_reducible assumption | with_reducible exact Bx.new _ _ _ _ rfl | ((with_reducible refine Bx.new _ _ _ _ ?_); simp; done) | with_reducible refine Bx.pAlloc ?_ _ | with_reducible refine Bx.pDrew ?_ | ((with_reducible refine Bx.set_other ?_ ?_ _); rotate_left; (simp <;> omega)))) hC18 (by omega)
        have O_cm' : (msgsC).own (a1) (b1) w18 [.slice ka ms.length kc] (ms) := Cd.own.chg (by repeat (first | with_reducible assumption | with_reducible refine Cd.own.pAlloc ?_ _ | with_reducible refine Cd.own.pDrew ?_ | with_reducible refine Cd.own.pDrewN ?_ _ | ((with_reducible refine Cd.own.pSet ?_ ?_ _); rotate_left; (simp <;> omega)))) hC18 (by omega)
        clear c_d_0 c_d_1 n_d c_r_0 c_r_1 n_r f_r c_o_0 c_o_1 n_o f_o c_l_0 c_l_1 n_l
        clear B_d
        have B_d := B_d'; clear B_d'
        clear B_r
        have B_r := B_r'; clear B_r'
        clear B_o
        have B_o := B_o'; clear B_o'
        clear B_l
        have B_l := B_l'; clear B_l'
        clear O_cm; have O_cm := O_cm'; clear O_cm'
        clear hC18 Xw17
        have c_d_0 := B_d.cell 0 _ rfl
        have c_d_1 := B_d.cell 1 _ rfl
        have n_d := B_d.lt
        have c_r_0 := B_r.cell 0 _ rfl
        have c_r_1 := B_r.cell 1 _ rfl
        have n_r := B_r.lt
        have f_r := B_r.fr
        have c_o_0 := B_o.cell 0 _ rfl
        have c_o_1 := B_o.cell 1 _ rfl
        have n_o := B_o.lt
        have f_o := B_o.fr
        have c_l_0 := B_l.cell 0 _ rfl
        have c_l_1 := B_l.cell 1 _ rfl
        have n_l := B_l.lt
        have O_cl2 := HO2.out; clear HO2
        go_wp2
        refine bodyPost_ret (v := .tuple #[.agg #[.slice ka ms.length kc, (.slice a6 (k + 1 + (ls.length - k)) c6)], .bool true]) (by simp [results, Try.results46, go_sem, c_r_0, c_r_1, n_r]) rfl ⟨_, _, rfl, ?_, ?_⟩
        · repeat (first | with_reducible exact Ext.refl _ | with_reducible assumption | with_reducible refine Ext.pAlloc ?_ _ | ((with_reducible refine Ext.pSet ?_ ?_ _); rotate_left; (simp <;> omega)) | with_reducible refine Ext.pDrew ?_ | with_reducible refine Ext.pDrewN ?_ _)
        · exact net_join (a1 := a1) (b1 := b1) (a2 := w8.heap.size) (b2 := w18.heap.size) (by repeat (first | with_reducible assumption | with_reducible refine Cd.own.pAlloc ?_ _ | with_reducible refine Cd.own.pDrew ?_ | with_reducible refine Cd.own.pDrewN ?_ _ | ((with_reducible refine Cd.own.pSet ?_ ?_ _); rotate_left; (simp <;> omega)))) (by repeat (first | with_reducible assumption | with_reducible refine Cd.own.pAlloc ?_ _ | with_reducible refine Cd.own.pDrew ?_ | with_reducible refine Cd.own.pDrewN ?_ _ | ((with_reducible refine Cd.own.pSet ?_ ?_ _); rotate_left; (simp <;> omega)))) (by omega) ⟨(by first | omega | (simp <;> omega)), (by first | (simp [World.setCell]; done) | (simp [World.setCell]; omega) | omega), (by first | omega | (simp <;> omega)), (by first | (simp [World.setCell]; done) | (simp [World.setCell]; omega) | omega)⟩

end Go.Proofs.Ytkigfmkdbgcpeaa

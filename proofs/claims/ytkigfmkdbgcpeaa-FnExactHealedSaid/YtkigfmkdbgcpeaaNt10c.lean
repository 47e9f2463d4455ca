/- A link healed: the reference. -/
import Derived.Test.YtkigfmkdbgcpeaaNt10b
set_option linter.unusedVariables false
set_option linter.unusedSimpArgs false
namespace Go.Proofs.Ytkigfmkdbgcpeaa
open Go.RowKit Go.Sl

theorem links_parts {w : World} {xs : List Value} {l : List LinkD} {k : Nat} (h : elemsV (linkC.V w) xs l) (hk : k < l.length) :
    ∃ x1 c x2, xs = x1 ++ (c ++ x2) ∧ x1.length = k * 2 ∧ c.length = 2 ∧ x2.length = (l.length - (k + 1)) * 2 ∧ elemsO (linkC.O w) x1 (l.take k) [] ∧ elemsO (linkC.O w) x2 (l.drop (k + 1)) [] := by
  have h5 := elems_links (w' := w) h
  have hsp : l = l.take k ++ l[k] :: l.drop (k + 1) := by rw [← List.drop_eq_getElem_cons hk, List.take_append_drop]
  rw [hsp] at h5
  obtain ⟨x1, y, f1, fy, rfl, e1, he1, c, x2, fx, f2, rfl, e2, hc, he2⟩ := (elemsO_append linkC).1 h5
  have hf1 := links_fp he1
  have hf2 := links_fp he2
  subst hf1
  subst hf2
  refine ⟨x1, c, x2, rfl, ?_, linkC.len (linkC.view hc), ?_, he1, he2⟩
  · rw [elemsV_len linkC (elemsO_view linkC he1), List.length_take, Nat.min_eq_left (by omega)]; rfl
  · rw [elemsV_len linkC (elemsO_view linkC he2), List.length_drop]; rfl
set_option maxHeartbeats 8000000 in
set_option maxRecDepth 20000 in
theorem specHealed_c (cs : List Value) (d : NetD) (p q : Int) (w : World) (h : netC.V w cs d) :
    Calls Try.prog 41 #[.agg cs.toArray, .int .i64 p, .int .i64 q] w fun e w' => ∃ u v, e = .returned (.tuple #[.agg #[u, v], .bool (healed d p q).2]) ∧ Ext w w' ∧ netC.own w.heap.size w'.heap.size w' [u, v] (healed d p q).1 := by
  have HD := Lib.hid h
  obtain ⟨u, v, rfl, hu, hv⟩ := net_V.1 h
  obtain ⟨ms, ls⟩ := d
  simp only at hu hv
  obtain ⟨a, cap, rfl⟩ := sl_form hu
  obtain ⟨va, vc, xs, rfl, hl1, hl2, hcs, hel⟩ := sl_cells hv
  have Hcs := Lib.hid (And.intro hcs hel)
  have Hinf := Lib.hid Try.infoL
  clear hu hv h hcs hel
  cases hd : netOk (ms, ls)
  · have hr : healed (ms, ls) p q = (([], []), false) := by unfold healed; rw [if_neg (by rw [hd]; simp)]
    rw [hr]
    have Hd := Lib.hid hd; clear hd hr
    go_enter Try.func41, Try.ntmps41
    go_wp2_with fail
    refine (specNetOk_c _ (ms, ls) _ (netC.vext HD.out (by repeat (first | with_reducible exact Ext.refl _ | with_reducible assumption | with_reducible refine Ext.pAlloc ?_ _ | ((with_reducible refine Ext.pSet ?_ ?_ _); rotate_left; (simp <;> omega)) | with_reducible refine Ext.pDrew ?_ | with_reducible refine Ext.pDrewN ?_ _)))).mono ?_
    rw [Hd.out]
    rintro e w1 ⟨rfl, Ew1⟩
    have Xw1 : Ext w w1 := Ext.trans (by repeat (first | with_reducible exact Ext.refl _ | with_reducible assumption | with_reducible refine Ext.pAlloc ?_ _ | ((with_reducible refine Ext.pSet ?_ ?_ _); rotate_left; (simp <;> omega)) | with_reducible refine Ext.pDrew ?_ | with_reducible refine Ext.pDrewN ?_ _)) Ew1
    have zw1 : w.heap.size + 1 + 1 ≤ w1.heap.size := by have := Ew1.size; (try simp at this); omega
    have B_d' : Bx w1 w.heap.size [.slice a ms.length cap, .slice va ls.length vc] := Bx.ext (by repeat (first | with_reducible assumption | with_reducible exact Bx.new _ _ _ _ rfl | ((with_reducible refine Bx.new _ _ _ _ ?_); simp; done) | with_reducible refine Bx.pAlloc ?_ _ | with_reducible refine Bx.pDrew ?_ | with_reducible refine Bx.pDrewN ?_ _ | with_reducible apply Bx.set10 | with_reducible apply Bx.set20 | with_reducible apply Bx.set21 | with_reducible apply Bx.set30 | with_reducible apply Bx.set31 | with_reducible apply Bx.set32 | with_reducible apply Bx.set40 | with_reducible apply Bx.set41 | with_reducible apply Bx.set42 | with_reducible apply Bx.set43 | ((with_reducible refine Bx.set_other ?_ ?_ _); rotate_left; (simp <;> omega)))) Ew1
    have B_r' : Bx w1 (w.heap.size + 1) [.slice none 0 0, .slice none 0 0] := Bx.ext (by repeat (first | with_reducible assumption | with_reducible exact Bx.new _ _ _ _ rfl | ((with_reducible refine Bx.new _ _ _ _ ?_); simp; done) | with_reducible refine Bx.pAlloc ?_ _ | with_reducible refine Bx.pDrew ?_ | with_reducible refine Bx.pDrewN ?_ _ | with_reducible apply Bx.set10 | with_reducible apply Bx.set20 | with_reducible apply Bx.set21 | with_reducible apply Bx.set30 | with_reducible apply Bx.set31 | with_reducible apply Bx.set32 | with_reducible apply Bx.set40 | with_reducible apply Bx.set41 | with_reducible apply Bx.set42 | with_reducible apply Bx.set43 | ((with_reducible refine Bx.set_other ?_ ?_ _); rotate_left; (simp <;> omega)))) Ew1
    have B_d := B_d'; clear B_d'
    have B_r := B_r'; clear B_r'
    clear Ew1
    have c_d_0 := B_d.cell 0 _ rfl
    have c_d_1 := B_d.cell 1 _ rfl
    have n_d := B_d.lt
    have c_r_0 := B_r.cell 0 _ rfl
    have c_r_1 := B_r.cell 1 _ rfl
    have n_r := B_r.lt
    have f_r := B_r.fr
    go_wp2
    refine bodyPost_ret (v := .tuple #[.agg #[.slice none 0 0, .slice none 0 0], .bool false]) (by simp [results, Try.results41, go_sem, c_r_0, c_r_1, n_r]) rfl ⟨_, _, rfl, ?_, ?_⟩
    · repeat (first | with_reducible exact Ext.refl _ | with_reducible assumption | with_reducible refine Ext.pAlloc ?_ _ | ((with_reducible refine Ext.pSet ?_ ?_ _); rotate_left; (simp <;> omega)) | with_reducible refine Ext.pDrew ?_ | with_reducible refine Ext.pDrewN ?_ _)
    · exact net_nil _ _ _
  · by_cases ht : linkOf p q ∈ ls
    · have hr : healed (ms, ls) p q = ((ms, ls.eraseIdx (ls.idxOf (linkOf p q))), true) := by unfold healed; rw [if_pos hd, if_pos ht]
      rw [hr]
      obtain ⟨hx, hk⟩ := linkIx_in ht
      generalize ls.idxOf (linkOf p q) = k at hx hk ⊢
      have hlen := (netOk_lens hd).2
      simp only at hlen
      have Hd := Lib.hid hd; have Hx := Lib.hid hx; clear hd ht hr hx
      obtain ⟨x1, cx, x2, rfl, hx1, hcx, hx2, he1, he2⟩ := links_parts Hcs.out.2 hk
      obtain ⟨vb, vo, rfl⟩ : ∃ vb vo, va = some ⟨vb, vo, none⟩ := by
        obtain ⟨b, o, e, _⟩ := Hcs.out.1 (k * 2) (cx[0]'(by omega)) (by rw [List.getElem?_append_right (by omega), hx1, Nat.sub_self, List.getElem?_append_left (by omega), List.getElem?_eq_getElem])
        exact ⟨b, o, e⟩
      have HP : Hid (CellsAt w (some ⟨vb, vo, none⟩) x1) := Hcs.out.1.pre
      have HSF : Hid (CellsAt w (some ⟨vb, vo + (k + 1) * 2, none⟩) x2) := by
        have hcl := Hcs.out.1
        rw [← List.append_assoc] at hcl
        exact hcl.suf (k := (k + 1) * 2) (by rw [List.length_append, hx1, hcx]; omega)
      have HX := Lib.hid (And.intro hx1 (And.intro hcx hx2))
      have HE := Lib.hid (And.intro he1 he2)
      clear hx1 hcx hx2 he1 he2 Hcs
      have hk0 : decide ((k : Int) < 0) = false := by simp
      have hi1 : (0 : Int) ≤ k := by omega
      have hi2 : (k : Int) ≤ vc := by omega
      have hi3 : (k : Int) + 1 ≤ ls.length := by omega
      have hi4 : (k : Int) ≤ ls.length := by omega
      have hi5 : (ls.length : Int) ≤ vc := by omega
      have hi6 : (0 : Int) ≤ (k : Int) + 1 := by omega
      have hw1 : IntKind.i64.wrap ((k : Int) + 1) = k + 1 := IntWalk.i64_in _ (by omega)
      by_cases hcc : vc = k + 1
      · have hm0 : ls.length - (k + 1) = 0 := by omega
        have hx2 : x2 = [] := List.eq_nil_of_length_eq_zero (by have h9 := HX.out.2.2; rw [hm0] at h9; simpa using h9)
        subst hx2
        have HCC := Lib.hid hcc
        clear hm0 hcc
        go_enter Try.func41, Try.ntmps41
        go_wp2_with fail
        refine (specNetOk_c _ (ms, ls) _ (netC.vext HD.out (by repeat (first | with_reducible exact Ext.refl _ | with_reducible assumption | with_reducible refine Ext.pAlloc ?_ _ | ((with_reducible refine Ext.pSet ?_ ?_ _); rotate_left; (simp <;> omega)) | with_reducible refine Ext.pDrew ?_ | with_reducible refine Ext.pDrewN ?_ _)))).mono ?_
        rw [Hd.out]
        rintro e w1 ⟨rfl, Ew1⟩
        have Xw1 : Ext w w1 := Ext.trans (by repeat (first | with_reducible exact Ext.refl _ | with_reducible assumption | with_reducible refine Ext.pAlloc ?_ _ | ((with_reducible refine Ext.pSet ?_ ?_ _); rotate_left; (simp <;> omega)) | with_reducible refine Ext.pDrew ?_ | with_reducible refine Ext.pDrewN ?_ _)) Ew1
        have zw1 : w.heap.size + 1 + 1 ≤ w1.heap.size := by have := Ew1.size; (try simp at this); omega
        have B_d' : Bx w1 w.heap.size [.slice a ms.length cap, .slice (some ⟨vb, vo, none⟩) ls.length vc] := Bx.ext (by repeat (first | with_reducible assumption | with_reducible exact Bx.new _ _ _ _ rfl | ((with_reducible refine Bx.new _ _ _ _ ?_); simp; done) | with_reducible refine Bx.pAlloc ?_ _ | with_reducible refine Bx.pDrew ?_ | with_reducible refine Bx.pDrewN ?_ _ | with_reducible apply Bx.set10 | with_reducible apply Bx.set20 | with_reducible apply Bx.set21 | with_reducible apply Bx.set30 | with_reducible apply Bx.set31 | with_reducible apply Bx.set32 | with_reducible apply Bx.set40 | with_reducible apply Bx.set41 | with_reducible apply Bx.set42 | with_reducible apply Bx.set43 | ((with_reducible refine Bx.set_other ?_ ?_ _); rotate_left; (simp <;> omega)))) Ew1
        have B_r' : Bx w1 (w.heap.size + 1) [.slice none 0 0, .slice none 0 0] := Bx.ext (by repeat (first | with_reducible assumption | with_reducible exact Bx.new _ _ _ _ rfl | ((with_reducible refine Bx.new _ _ _ _ ?_); simp; done) | with_reducible refine Bx.pAlloc ?_ _ | with_reducible refine Bx.pDrew ?_ | with_reducible refine Bx.pDrewN ?_ _ | with_reducible apply Bx.set10 | with_reducible apply Bx.set20 | with_reducible apply Bx.set21 | with_reducible apply Bx.set30 | with_reducible apply Bx.set31 | with_reducible apply Bx.set32 | with_reducible apply Bx.set40 | with_reducible apply Bx.set41 | with_reducible apply Bx.set42 | with_reducible apply Bx.set43 | ((with_reducible refine Bx.set_other ?_ ?_ _); rotate_left; (simp <;> omega)))) Ew1
        have B_d := B_d'; clear B_d'
        have B_r := B_r'; clear B_r'
        clear Ew1
        have c_d_0 := B_d.cell 0 _ rfl
        have c_d_1 := B_d.cell 1 _ rfl
        have n_d := B_d.lt
        have c_r_0 := B_r.cell 0 _ rfl
        have c_r_1 := B_r.cell 1 _ rfl
        have n_r := B_r.lt
        have f_r := B_r.fr
        go_wp2_with fail
        refine (l5Copy_c _ (ms, ls) _ (netC.vext HD.out (by repeat (first | with_reducible exact Ext.refl _ | with_reducible assumption | with_reducible refine Ext.pAlloc ?_ _ | ((with_reducible refine Ext.pSet ?_ ?_ _); rotate_left; (simp <;> omega)) | with_reducible refine Ext.pDrew ?_ | with_reducible refine Ext.pDrewN ?_ _))) Hd.out).mono ?_
        rintro e w2 ⟨u1, v1, rfl, Ew2, a1, b1, a2, b2, p1, p2, p3, p4, p5, p6, p7, O_cm, O_cl⟩
        simp only at O_cm O_cl
        obtain ⟨ka, kc, rfl⟩ := sl_form O_cm.view
        obtain ⟨la, lc, rfl⟩ := sl_form O_cl.view
        replace p1 : w1.heap.size ≤ a1 := by have h9 := p1; (try simp at h9); omega
        replace p4 : w1.heap.size ≤ a2 := by have h9 := p4; (try simp at h9); omega
        have Xw2 : Ext w w2 := Ext.trans (by repeat (first | with_reducible exact Ext.refl _ | with_reducible assumption | with_reducible refine Ext.pAlloc ?_ _ | ((with_reducible refine Ext.pSet ?_ ?_ _); rotate_left; (simp <;> omega)) | with_reducible refine Ext.pDrew ?_ | with_reducible refine Ext.pDrewN ?_ _)) Ew2
        have zw2 : w1.heap.size ≤ w2.heap.size := by have := Ew2.size; (try simp at this); omega
        have B_d' : Bx w2 w.heap.size [.slice a ms.length cap, .slice (some ⟨vb, vo, none⟩) ls.length vc] := Bx.ext (by repeat (first | with_reducible assumption | with_reducible exact Bx.new _ _ _ _ rfl | ((with_reducible refine Bx.new _ _ _ _ ?_); simp; done) | with_reducible refine Bx.pAlloc ?_ _ | with_reducible refine Bx.pDrew ?_ | with_reducible refine Bx.pDrewN ?_ _ | with_reducible apply Bx.set10 | with_reducible apply Bx.set20 | with_reducible apply Bx.set21 | with_reducible apply Bx.set30 | with_reducible apply Bx.set31 | with_reducible apply Bx.set32 | with_reducible apply Bx.set40 | with_reducible apply Bx.set41 | with_reducible apply Bx.set42 | with_reducible apply Bx.set43 | ((with_reducible refine Bx.set_other ?_ ?_ _); rotate_left; (simp <;> omega)))) Ew2
        have B_r' : Bx w2 (w.heap.size + 1) [.slice none 0 0, .slice none 0 0] := Bx.ext (by repeat (first | with_reducible assumption | with_reducible exact Bx.new _ _ _ _ rfl | ((with_reducible refine Bx.new _ _ _ _ ?_); simp; done) | with_reducible refine Bx.pAlloc ?_ _ | with_reducible refine Bx.pDrew ?_ | with_reducible refine Bx.pDrewN ?_ _ | with_reducible apply Bx.set10 | with_reducible apply Bx.set20 | with_reducible apply Bx.set21 | with_reducible apply Bx.set30 | with_reducible apply Bx.set31 | with_reducible apply Bx.set32 | with_reducible apply Bx.set40 | with_reducible apply Bx.set41 | with_reducible apply Bx.set42 | with_reducible apply Bx.set43 | ((with_reducible refine Bx.set_other ?_ ?_ _); rotate_left; (simp <;> omega)))) Ew2
        clear c_d_0 c_d_1 n_d c_r_0 c_r_1 n_r f_r
        clear B_d
        have B_d := B_d'; clear B_d'
        clear B_r
        have B_r := B_r'; clear B_r'
        clear Ew2 Xw1
        have c_d_0 := B_d.cell 0 _ rfl
        have c_d_1 := B_d.cell 1 _ rfl
        have n_d := B_d.lt
        have c_r_0 := B_r.cell 0 _ rfl
        have c_r_1 := B_r.cell 1 _ rfl
        have n_r := B_r.lt
        have f_r := B_r.fr
        go_wp2_with fail
        refine (l5CutAt_c _ (ms, ls) p q _ (netC.vext HD.out (by repeat (first | with_reducible exact Ext.refl _ | with_reducible assumption | with_reducible refine Ext.pAlloc ?_ _ | ((with_reducible refine Ext.pSet ?_ ?_ _); rotate_left; (simp <;> omega)) | with_reducible refine Ext.pDrew ?_ | with_reducible refine Ext.pDrewN ?_ _)))).mono ?_
        rw [Hx.out]
        rintro e w3 ⟨rfl, Ew3⟩
        have Xw3 : Ext w w3 := Ext.trans (by repeat (first | with_reducible exact Ext.refl _ | with_reducible assumption | with_reducible refine Ext.pAlloc ?_ _ | ((with_reducible refine Ext.pSet ?_ ?_ _); rotate_left; (simp <;> omega)) | with_reducible refine Ext.pDrew ?_ | with_reducible refine Ext.pDrewN ?_ _)) Ew3
        have zw3 : w2.heap.size + 1 ≤ w3.heap.size := by have := Ew3.size; (try simp at this); omega
        have B_d' : Bx w3 w.heap.size [.slice a ms.length cap, .slice (some ⟨vb, vo, none⟩) ls.length vc] := Bx.ext (by repeat (first | with_reducible assumption | with_reducible exact Bx.new _ _ _ _ rfl | ((with_reducible refine Bx.new _ _ _ _ ?_); simp; done) | with_reducible refine Bx.pAlloc ?_ _ | with_reducible refine Bx.pDrew ?_ | with_reducible refine Bx.pDrewN ?_ _ | with_reducible apply Bx.set10 | with_reducible apply Bx.set20 | with_reducible apply Bx.set21 | with_reducible apply Bx.set30 | with_reducible apply Bx.set31 | with_reducible apply Bx.set32 | with_reducible apply Bx.set40 | with_reducible apply Bx.set41 | with_reducible apply Bx.set42 | with_reducible apply Bx.set43 | ((with_reducible refine Bx.set_other ?_ ?_ _); rotate_left; (simp <;> omega)))) Ew3
        have B_r' : Bx w3 (w.heap.size + 1) [.slice none 0 0, .slice none 0 0] := Bx.ext (by repeat (first | with_reducible assumption | with_reducible exact Bx.new _ _ _ _ rfl | ((with_reducible refine Bx.new _ _ _ _ ?_); simp; done) | with_reducible refine Bx.pAlloc ?_ _ | with_reducible refine Bx.pDrew ?_ | with_reducible refine Bx.pDrewN ?_ _ | with_reducible apply Bx.set10 | with_reducible apply Bx.set20 | with_reducible apply Bx.set21 | with_reducible apply Bx.set30 | with_reducible apply Bx.set31 | with_reducible apply Bx.set32 | with_reducible apply Bx.set40 | with_reducible apply Bx.set41 | with_reducible apply Bx.set42 | with_reducible apply Bx.set43 | ((with_reducible refine Bx.set_other ?_ ?_ _); rotate_left; (simp <;> omega)))) Ew3
        have B_o' : Bx w3 w2.heap.size [.slice ka ms.length kc, .slice la ls.length lc] := Bx.ext (by repeat (first | with_reducible assumption | with_reducible exact Bx.new _ _ _ _ rfl | ((with_reducible refine Bx.new _ _ _ _ ?_); simp; done) | with_reducible refine Bx.pAlloc ?_ _ | with_reducible refine Bx.pDrew ?_ | with_reducible refine Bx.pDrewN ?_ _ | with_reducible apply Bx.set10 | with_reducible apply Bx.set20 | with_reducible apply Bx.set21 | with_reducible apply Bx.set30 | with_reducible apply Bx.set31 | with_reducible apply Bx.set32 | with_reducible apply Bx.set40 | with_reducible apply Bx.set41 | with_reducible apply Bx.set42 | with_reducible apply Bx.set43 | ((with_reducible refine Bx.set_other ?_ ?_ _); rotate_left; (simp <;> omega)))) Ew3
        have O_cm' : (msgsC).own (a1) (b1) w3 [.slice ka ms.length kc] (ms) := Cd.own.ext (by repeat (first | with_reducible assumption | with_reducible refine Cd.own.pAlloc ?_ _ | with_reducible refine Cd.own.pDrew ?_ | with_reducible refine Cd.own.pDrewN ?_ _ | ((with_reducible refine Cd.own.pSet ?_ ?_ _); rotate_left; (simp <;> omega)))) Ew3
        have O_cl' : (linksC).own (a2) (b2) w3 [.slice la ls.length lc] (ls) := Cd.own.ext (by repeat (first | with_reducible assumption | with_reducible refine Cd.own.pAlloc ?_ _ | with_reducible refine Cd.own.pDrew ?_ | with_reducible refine Cd.own.pDrewN ?_ _ | ((with_reducible refine Cd.own.pSet ?_ ?_ _); rotate_left; (simp <;> omega)))) Ew3
        clear c_d_0 c_d_1 n_d c_r_0 c_r_1 n_r f_r
        clear B_d
        have B_d := B_d'; clear B_d'
        clear B_r
        have B_r := B_r'; clear B_r'
        have B_o := B_o'; clear B_o'
        clear O_cm; have O_cm := O_cm'; clear O_cm'
        clear O_cl; have O_cl := O_cl'; clear O_cl'
        clear Ew3 Xw2
        have c_d_0 := B_d.cell 0 _ rfl
        have c_d_1 := B_d.cell 1 _ rfl
        have n_d := B_d.lt
        have c_r_0 := B_r.cell 0 _ rfl
        have c_r_1 := B_r.cell 1 _ rfl
        have n_r := B_r.lt
        have f_r := B_r.fr
        have c_o_0 := B_o.cell 0 _ rfl
        have c_o_1 := B_o.cell 1 _ rfl
        have n_o := B_o.lt
        have f_o := B_o.fr
        go_wp2
        refine wp_region_T (S := fun ω => ω.cell? ⟨w.heap.size, 1, none⟩ = some (.slice (some ⟨vb, vo, none⟩) ls.length vc) ∧ Ext w ω) 13 (by kernel_rfl) ?_ (fun hHeld => ?_) (by decide)
        · (try dsimp only); (refine ⟨?_, ?_⟩ <;> first | (simp [go_sem]; done) | (simp [*, go_sem]; done) | ((repeat (first | with_reducible assumption | with_reducible exact Bx.new _ _ _ _ rfl | ((with_reducible refine Bx.new _ _ _ _ ?_); simp; done) | with_reducible refine Bx.pAlloc ?_ _ | with_reducible refine Bx.pDrew ?_ | with_reducible refine Bx.pDrewN ?_ _ | with_reducible apply Bx.set10 | with_reducible apply Bx.set20 | with_reducible apply Bx.set21 | with_reducible apply Bx.set30 | with_reducible apply Bx.set31 | with_reducible apply Bx.set32 | with_reducible apply Bx.set40 | with_reducible apply Bx.set41 | with_reducible apply Bx.set42 | with_reducible apply Bx.set43 | ((with_reducible refine Bx.set_other ?_ ?_ _); rotate_left; (simp <;> omega)))); done) | ((repeat (first | with_reducible exact Ext.refl _ | with_reducible assumption | with_reducible refine Ext.pAlloc ?_ _ | ((with_reducible refine Ext.pSet ?_ ?_ _); rotate_left; (simp <;> omega)) | with_reducible refine Ext.pDrew ?_ | with_reducible refine Ext.pDrewN ?_ _)); done))
        refine wpT_take (i := 1) (v := ?_) rfl (by kernel_rfl) (by decide) (by kernel_rfl) (by kernel_rfl) (by kernel_rfl) (fun _ _ _ h => h) (Or.inl ⟨by rfl, ?_⟩) (by assumption) ?_
        rotate_left
        · intro w9 hSw; (try dsimp only at hSw); go_simp; (first | done | with_reducible rfl)
        (try simp only [List.getElem_toArray, List.getElem_cons_succ, List.getElem_cons_zero, Act.put, List.setIfInBounds_toArray, List.set_cons_zero, List.set_cons_succ])
        refine wpT_take (i := 2) (v := ?_) rfl (by kernel_rfl) (by decide) (by kernel_rfl) (by kernel_rfl) (by kernel_rfl) (fun _ _ _ h => h) (Or.inl ⟨by rfl, ?_⟩) (by assumption) ?_
        rotate_left
        · intro w9 hSw; (try dsimp only at hSw); go_simp; (first | done | with_reducible rfl)
        (try simp only [List.getElem_toArray, List.getElem_cons_succ, List.getElem_cons_zero, Act.put, List.setIfInBounds_toArray, List.set_cons_zero, List.set_cons_succ])
        refine wpT_take (i := 3) (v := ?_) rfl (by kernel_rfl) (by decide) (by kernel_rfl) (by kernel_rfl) (by kernel_rfl) (fun _ _ _ h => h) (Or.inl ⟨by rfl, ?_⟩) (by assumption) ?_
        rotate_left
        · intro w9 hSw; (try dsimp only at hSw); go_simp; (first | done | with_reducible rfl)
        (try simp only [List.getElem_toArray, List.getElem_cons_succ, List.getElem_cons_zero, Act.put, List.setIfInBounds_toArray, List.set_cons_zero, List.set_cons_succ])
        refine wpT_take (i := 4) (v := ?_) rfl (by kernel_rfl) (by decide) (by kernel_rfl) (by kernel_rfl) (by kernel_rfl) (fun _ _ _ h => h) (Or.inl ⟨by rfl, ?_⟩) (by assumption) ?_
        rotate_left
        · intro w9 hSw; (try dsimp only at hSw); go_simp; (first | done | with_reducible rfl)
        (try simp only [List.getElem_toArray, List.getElem_cons_succ, List.getElem_cons_zero, Act.put, List.setIfInBounds_toArray, List.set_cons_zero, List.set_cons_succ])
        refine wpT_take (i := 6) (v := ?_) rfl (by kernel_rfl) (by decide) (by kernel_rfl) (by kernel_rfl) (by kernel_rfl) (fun _ _ _ h => h) (Or.inl ⟨by rfl, ?_⟩) (by assumption) ?_
        rotate_left
        · intro w9 hSw; (try dsimp only at hSw); go_simp; (first | done | with_reducible rfl)
        (try simp only [List.getElem_toArray, List.getElem_cons_succ, List.getElem_cons_zero, Act.put, List.setIfInBounds_toArray, List.set_cons_zero, List.set_cons_succ])
        refine wpT_take (i := 7) (v := ?_) rfl (by kernel_rfl) (by decide) (by kernel_rfl) (by kernel_rfl) (by kernel_rfl) (fun _ _ _ h => h) (Or.inl ⟨by rfl, ?_⟩) (by assumption) ?_
        rotate_left
        · intro w9 hSw; (try dsimp only at hSw); go_simp; (first | done | with_reducible rfl)
        (try simp only [List.getElem_toArray, List.getElem_cons_succ, List.getElem_cons_zero, Act.put, List.setIfInBounds_toArray, List.set_cons_zero, List.set_cons_succ])
        refine wpT_take (i := 8) (v := ?_) rfl (by kernel_rfl) (by decide) (by kernel_rfl) (by kernel_rfl) (by kernel_rfl) (fun _ _ _ h => h) (Or.inl ⟨by rfl, ?_⟩) (by assumption) ?_
        rotate_left
        · intro w9 hSw; (try dsimp only at hSw); go_simp; (first | done | with_reducible rfl)
        (try simp only [List.getElem_toArray, List.getElem_cons_succ, List.getElem_cons_zero, Act.put, List.setIfInBounds_toArray, List.set_cons_zero, List.set_cons_succ])
        refine wpT_take (i := 9) (v := ?_) rfl (by kernel_rfl) (by decide) (by kernel_rfl) (by kernel_rfl) (by kernel_rfl) (fun _ _ _ h => h) (Or.inl ⟨by rfl, ?_⟩) (by assumption) ?_
        rotate_left
        · intro w9 hSw; (try dsimp only at hSw); go_simp; (first | done | with_reducible rfl)
        (try simp only [List.getElem_toArray, List.getElem_cons_succ, List.getElem_cons_zero, Act.put, List.setIfInBounds_toArray, List.set_cons_zero, List.set_cons_succ])
        refine wpT_take (i := 10) (v := ?_) rfl (by kernel_rfl) (by decide) (by kernel_rfl) (by kernel_rfl) (by kernel_rfl) (fun _ _ _ h => h) (Or.inl ⟨by rfl, ?_⟩) (by assumption) ?_
        rotate_left
        · intro w9 hSw; (try dsimp only at hSw); go_simp; (first | done | with_reducible rfl)
        (try simp only [List.getElem_toArray, List.getElem_cons_succ, List.getElem_cons_zero, Act.put, List.setIfInBounds_toArray, List.set_cons_zero, List.set_cons_succ])
        refine wpT_step (i := 0) (by kernel_rfl) (by decide) rfl (fun K hK => ?_)
        go_simp
        refine hK.out _ _ ?_ (fun hHeld2 => ?_)
        · (try dsimp only); (obtain ⟨s0, s1⟩ := hHeld; exact ⟨cell_ext s0 (Ext.alloc _ _), s1.trans (Ext.alloc _ _)⟩)
        clear hK K hHeld
        rename _ => hHeld
        (try simp only [List.getElem_toArray, List.getElem_cons_succ, List.getElem_cons_zero, Act.put, List.setIfInBounds_toArray, List.set_cons_zero, List.set_cons_succ])
        refine wpT_step (i := 5) (by kernel_rfl) (by decide) rfl (fun K hK => ?_)
        rw [if_pos (by rfl)]
        refine opwp_append_sl _ _ _ (by rfl) 70 _ 2 16 Try.underlying29 Hinf.out (by rfl) _ 0 0 [] (by rfl) rfl (SlAt.litAt _ _ _ _ (by simp)) (Nat.le_refl _) (by omega) _ k _ x1 (by rfl) HX.out.1 (HP.out.ext hHeld.2) (elemsO_one HE.out.1) (by omega) ?_
        intro a4 c4 w16 hs4 hle4 hm4 hA4
        (try simp only [Nat.zero_add, List.nil_append] at hs4 hle4)
        (try simp only [Nat.zero_add])
        have hC4 := hA4.chg (lo := w3.heap.size) (hi := w3.heap.size + 1) (by simp [ablk])
        have hat4 : ∀ b ∈ ablk a4, w3.heap.size ≤ b := fun b hb => by rcases hA4.mem hb with h9 | ⟨h9, _⟩ <;> (try simp [ablk] at h9) <;> omega
        have zz4 : w3.heap.size + 1 ≤ w16.heap.size := by have := hC4.size; (try simp at this); omega
        refine hK.out _ _ ?_ (fun hHeld2 => ?_)
        · (try dsimp only); (obtain ⟨s0, s1⟩ := hHeld; exact ⟨cell_chg s0 hC4 (by omega), Chg.ext s1 hC4 (by omega)⟩)
        clear hK K hHeld
        rename _ => hHeld
        (try simp only [List.getElem_toArray, List.getElem_cons_succ, List.getElem_cons_zero, Act.put, List.setIfInBounds_toArray, List.set_cons_zero, List.set_cons_succ])
        refine wpT_step (i := 11) (by kernel_rfl) (by decide) rfl (fun K hK => ?_)
        rw [if_pos (by rfl)]
        refine opwp_append_sl _ _ _ (by rfl) 70 _ 2 16 Try.underlying29 Hinf.out (by rfl) _ k c4 x1 (by rfl) HX.out.1 hs4 hle4 hm4 _ (ls.length - (k + 1)) _ [] (by rfl) HX.out.2.2 CellsAt.none' (by simp) (by omega) ?_
        intro a5 c5 w17 hs5 hle5 hm5 hA5
        (try simp only [Nat.add_zero] at hle5)
        (try simp only [Nat.add_zero])
        have hC5 : Chg w3.heap.size w17.heap.size w16 w17 := (hA5.chg (lo := w3.heap.size) (hi := w16.heap.size) (fun b hb => ⟨hat4 b hb, hs4.lt b hb⟩)).wide (Nat.le_refl _) hA5.size
        have hEr := Lib.hid (List.eraseIdx_eq_take_drop_succ ls k)
        have hlq : (k + (ls.length - (k + 1))) = (ls.take k ++ ls.drop (k + 1)).length := by rw [List.length_append, List.length_take, List.length_drop]; omega
        have HO2 := Lib.hid (links_app (n := (k + (ls.length - (k + 1)))) (lo := w3.heap.size) hs5 (elemsO_view linkC (elemsO_join HE.out.1 HE.out.2)) hlq hle5 hm5 hA5 (by omega) hat4)
        have hCC : Chg w3.heap.size w17.heap.size w3 w17 := ((((Ext.alloc _ _).trans (Ext.drew _)).chg w3.heap.size w17.heap.size).trans (hC4.wide (Nat.le_refl _) (by have := hA5.size; omega))).trans hC5
        clear hs5 hs4 hA5 hA4 hat4 hlq
        refine hK.out _ _ ?_ (fun hHeld2 => ?_)
        · (try dsimp only); (obtain ⟨s0, s1⟩ := hHeld; exact ⟨cell_chg s0 hC5 (by omega), Chg.ext s1 hC5 (by omega)⟩)
        clear hK K hHeld
        rename _ => hHeld
        (try simp only [List.getElem_toArray, List.getElem_cons_succ, List.getElem_cons_zero, Act.put, List.setIfInBounds_toArray, List.set_cons_zero, List.set_cons_succ])
        refine wpT_take (i := 12) (v := ?_) rfl (by kernel_rfl) (by decide) (by kernel_rfl) (by kernel_rfl) (by kernel_rfl) (fun _ _ _ h => h) (Or.inl ⟨by rfl, ?_⟩) (by assumption) ?_
        rotate_left
        · intro w9 hSw; (try dsimp only at hSw); go_simp; (first | done | with_reducible rfl)
        (try simp only [List.getElem_toArray, List.getElem_cons_succ, List.getElem_cons_zero, Act.put, List.setIfInBounds_toArray, List.set_cons_zero, List.set_cons_succ])
        refine wpT_last (by kernel_rfl) (by kernel_rfl) rfl (fun K hK => ?_)
        clear hHeld
        have Xw17 : Ext w w17 := Chg.ext (by repeat (first | with_reducible exact Ext.refl _ | with_reducible assumption | with_reducible refine Ext.pAlloc ?_ _ | ((with_reducible refine Ext.pSet ?_ ?_ _); rotate_left; (simp <;> omega)) | with_reducible refine Ext.pDrew ?_ | with_reducible refine Ext.pDrewN ?_ _)) hCC (by omega)
        have zw17 : w3.heap.size ≤ w17.heap.size := by have := hCC.size; (try simp at this); omega
        have B_d' : Bx w17 w.heap.size [.slice a ms.length cap, .slice (some ⟨vb, vo, none⟩) ls.length vc] := Bx.chg (by repeat (first | with_reducible assumption | with_reducible exact Bx.new _ _ _ _ rfl | ((with_reducible refine Bx.new _ _ _ _ ?_); simp; done) | with_reducible refine Bx.pAlloc ?_ _ | with_reducible refine Bx.pDrew ?_ | with_reducible refine Bx.pDrewN ?_ _ | with_reducible apply Bx.set10 | with_reducible apply Bx.set20 | with_reducible apply Bx.set21 | with_reducible apply Bx.set30 | with_reducible apply Bx.set31 | with_reducible apply Bx.set32 | with_reducible apply Bx.set40 | with_reducible apply Bx.set41 | with_reducible apply Bx.set42 | with_reducible apply Bx.set43 | ((with_reducible refine Bx.set_other ?_ ?_ _); rotate_left; (simp <;> omega)))) hCC (by omega)
        have B_r' : Bx w17 (w.heap.size + 1) [.slice none 0 0, .slice none 0 0] := Bx.chg (by repeat (first | with_reducible assumption | with_reducible exact Bx.new _ _ _ _ rfl | ((with_reducible refine Bx.new _ _ _ _ ?_); simp; done) | with_reducible refine Bx.pAlloc ?_ _ | with_reducible refine Bx.pDrew ?_ | with_reducible refine Bx.pDrewN ?_ _ | with_reducible apply Bx.set10 | with_reducible apply Bx.set20 | with_reducible apply Bx.set21 | with_reducible apply Bx.set30 | with_reducible apply Bx.set31 | with_reducible apply Bx.set32 | with_reducible apply Bx.set40 | with_reducible apply Bx.set41 | with_reducible apply Bx.set42 | with_reducible apply Bx.set43 | ((with_reducible refine Bx.set_other ?_ ?_ _); rotate_left; (simp <;> omega)))) hCC (by omega)
        have B_o' : Bx w17 w2.heap.size [.slice ka ms.length kc, .slice la ls.length lc] := Bx.chg (by repeat (first | with_reducible assumption | with_reducible exact Bx.new _ _ _ _ rfl | ((with_reducible refine Bx.new _ _ _ _ ?_); simp; done) | with_reducible refine Bx.pAlloc ?_ _ | with_reducible refine Bx.pDrew ?_ | with_reducible refine Bx.pDrewN ?_ _ | with_reducible apply Bx.set10 | with_reducible apply Bx.set20 | with_reducible apply Bx.set21 | with_reducible apply Bx.set30 | with_reducible apply Bx.set31 | with_reducible apply Bx.set32 | with_reducible apply Bx.set40 | with_reducible apply Bx.set41 | with_reducible apply Bx.set42 | with_reducible apply Bx.set43 | ((with_reducible refine Bx.set_other ?_ ?_ _); rotate_left; (simp <;> omega)))) hCC (by omega)
        have O_cm' : (msgsC).own (a1) (b1) w17 [.slice ka ms.length kc] (ms) := Cd.own.chg (by repeat (first | with_reducible assumption | with_reducible refine Cd.own.pAlloc ?_ _ | with_reducible refine Cd.own.pDrew ?_ | with_reducible refine Cd.own.pDrewN ?_ _ | ((with_reducible refine Cd.own.pSet ?_ ?_ _); rotate_left; (simp <;> omega)))) hCC (by omega)
        have O_cl' : (linksC).own (a2) (b2) w17 [.slice la ls.length lc] (ls) := Cd.own.chg (by repeat (first | with_reducible assumption | with_reducible refine Cd.own.pAlloc ?_ _ | with_reducible refine Cd.own.pDrew ?_ | with_reducible refine Cd.own.pDrewN ?_ _ | ((with_reducible refine Cd.own.pSet ?_ ?_ _); rotate_left; (simp <;> omega)))) hCC (by omega)
        clear c_d_0 c_d_1 n_d c_r_0 c_r_1 n_r f_r c_o_0 c_o_1 n_o f_o
        clear B_d
        have B_d := B_d'; clear B_d'
        clear B_r
        have B_r := B_r'; clear B_r'
        clear B_o
        have B_o := B_o'; clear B_o'
        clear O_cm; have O_cm := O_cm'; clear O_cm'
        clear O_cl; have O_cl := O_cl'; clear O_cl'
        clear hCC Xw3
        have c_d_0 := B_d.cell 0 _ rfl
        have c_d_1 := B_d.cell 1 _ rfl
        have n_d := B_d.lt
        have c_r_0 := B_r.cell 0 _ rfl
        have c_r_1 := B_r.cell 1 _ rfl
        have n_r := B_r.lt
        have f_r := B_r.fr
        have c_o_0 := B_o.cell 0 _ rfl
        have c_o_1 := B_o.cell 1 _ rfl
        have n_o := B_o.lt
        have f_o := B_o.fr
        have O_cl2 := HO2.out; clear HO2
        go_simp
        refine hK.out _ _ ?_
        clear hK K
        go_wp2
        refine bodyPost_ret (v := .tuple #[.agg #[.slice ka ms.length kc, (.slice a5 (k + (ls.length - (k + 1))) c5)], .bool true]) (by simp [results, Try.results41, go_sem, c_r_0, c_r_1, n_r]) rfl ⟨_, _, rfl, ?_, ?_⟩
        · repeat (first | with_reducible exact Ext.refl _ | with_reducible assumption | with_reducible refine Ext.pAlloc ?_ _ | ((with_reducible refine Ext.pSet ?_ ?_ _); rotate_left; (simp <;> omega)) | with_reducible refine Ext.pDrew ?_ | with_reducible refine Ext.pDrewN ?_ _)
        · rw [hEr.out]; exact net_join (a1 := a1) (b1 := b1) (a2 := w3.heap.size) (b2 := w17.heap.size) (by repeat (first | with_reducible assumption | with_reducible refine Cd.own.pAlloc ?_ _ | with_reducible refine Cd.own.pDrew ?_ | with_reducible refine Cd.own.pDrewN ?_ _ | ((with_reducible refine Cd.own.pSet ?_ ?_ _); rotate_left; (simp <;> omega)))) (by repeat (first | with_reducible assumption | with_reducible refine Cd.own.pAlloc ?_ _ | with_reducible refine Cd.own.pDrew ?_ | with_reducible refine Cd.own.pDrewN ?_ _ | ((with_reducible refine Cd.own.pSet ?_ ?_ _); rotate_left; (simp <;> omega)))) (by omega) ⟨(by first | omega | (simp <;> omega)), (by first | (simp [World.setCell]; done) | (simp [World.setCell]; omega) | omega), (by first | omega | (simp <;> omega)), (by first | (simp [World.setCell]; done) | (simp [World.setCell]; omega) | omega)⟩
      · have hlt : k + 1 < vc := by omega
        go_enter Try.func41, Try.ntmps41
        go_wp2_with fail
        refine (specNetOk_c _ (ms, ls) _ (netC.vext HD.out (by repeat (first | with_reducible exact Ext.refl _ | with_reducible assumption | with_reducible refine Ext.pAlloc ?_ _ | ((with_reducible refine Ext.pSet ?_ ?_ _); rotate_left; (simp <;> omega)) | with_reducible refine Ext.pDrew ?_ | with_reducible refine Ext.pDrewN ?_ _)))).mono ?_
        rw [Hd.out]
        rintro e w1 ⟨rfl, Ew1⟩
        have Xw1 : Ext w w1 := Ext.trans (by repeat (first | with_reducible exact Ext.refl _ | with_reducible assumption | with_reducible refine Ext.pAlloc ?_ _ | ((with_reducible refine Ext.pSet ?_ ?_ _); rotate_left; (simp <;> omega)) | with_reducible refine Ext.pDrew ?_ | with_reducible refine Ext.pDrewN ?_ _)) Ew1
        have zw1 : w.heap.size + 1 + 1 ≤ w1.heap.size := by have := Ew1.size; (try simp at this); omega
        have B_d' : Bx w1 w.heap.size [.slice a ms.length cap, .slice (some ⟨vb, vo, none⟩) ls.length vc] := Bx.ext (by repeat (first | with_reducible assumption | with_reducible exact Bx.new _ _ _ _ rfl | ((with_reducible refine Bx.new _ _ _ _ ?_); simp; done) | with_reducible refine Bx.pAlloc ?_ _ | with_reducible refine Bx.pDrew ?_ | with_reducible refine Bx.pDrewN ?_ _ | with_reducible apply Bx.set10 | with_reducible apply Bx.set20 | with_reducible apply Bx.set21 | with_reducible apply Bx.set30 | with_reducible apply Bx.set31 | with_reducible apply Bx.set32 | with_reducible apply Bx.set40 | with_reducible apply Bx.set41 | with_reducible apply Bx.set42 | with_reducible apply Bx.set43 | ((with_reducible refine Bx.set_other ?_ ?_ _); rotate_left; (simp <;> omega)))) Ew1
        have B_r' : Bx w1 (w.heap.size + 1) [.slice none 0 0, .slice none 0 0] := Bx.ext (by repeat (first | with_reducible assumption | with_reducible exact Bx.new _ _ _ _ rfl | ((with_reducible refine Bx.new _ _ _ _ ?_); simp; done) | with_reducible refine Bx.pAlloc ?_ _ | with_reducible refine Bx.pDrew ?_ | with_reducible refine Bx.pDrewN ?_ _ | with_reducible apply Bx.set10 | with_reducible apply Bx.set20 | with_reducible apply Bx.set21 | with_reducible apply Bx.set30 | with_reducible apply Bx.set31 | with_reducible apply Bx.set32 | with_reducible apply Bx.set40 | with_reducible apply Bx.set41 | with_reducible apply Bx.set42 | with_reducible apply Bx.set43 | ((with_reducible refine Bx.set_other ?_ ?_ _); rotate_left; (simp <;> omega)))) Ew1
        have B_d := B_d'; clear B_d'
        have B_r := B_r'; clear B_r'
        clear Ew1
        have c_d_0 := B_d.cell 0 _ rfl
        have c_d_1 := B_d.cell 1 _ rfl
        have n_d := B_d.lt
        have c_r_0 := B_r.cell 0 _ rfl
        have c_r_1 := B_r.cell 1 _ rfl
        have n_r := B_r.lt
        have f_r := B_r.fr
        go_wp2_with fail
        refine (l5Copy_c _ (ms, ls) _ (netC.vext HD.out (by repeat (first | with_reducible exact Ext.refl _ | with_reducible assumption | with_reducible refine Ext.pAlloc ?_ _ | ((with_reducible refine Ext.pSet ?_ ?_ _); rotate_left; (simp <;> omega)) | with_reducible refine Ext.pDrew ?_ | with_reducible refine Ext.pDrewN ?_ _))) Hd.out).mono ?_
        rintro e w2 ⟨u1, v1, rfl, Ew2, a1, b1, a2, b2, p1, p2, p3, p4, p5, p6, p7, O_cm, O_cl⟩
        simp only at O_cm O_cl
        obtain ⟨ka, kc, rfl⟩ := sl_form O_cm.view
        obtain ⟨la, lc, rfl⟩ := sl_form O_cl.view
        replace p1 : w1.heap.size ≤ a1 := by have h9 := p1; (try simp at h9); omega
        replace p4 : w1.heap.size ≤ a2 := by have h9 := p4; (try simp at h9); omega
        have Xw2 : Ext w w2 := Ext.trans (by repeat (first | with_reducible exact Ext.refl _ | with_reducible assumption | with_reducible refine Ext.pAlloc ?_ _ | ((with_reducible refine Ext.pSet ?_ ?_ _); rotate_left; (simp <;> omega)) | with_reducible refine Ext.pDrew ?_ | with_reducible refine Ext.pDrewN ?_ _)) Ew2
        have zw2 : w1.heap.size ≤ w2.heap.size := by have := Ew2.size; (try simp at this); omega
        have B_d' : Bx w2 w.heap.size [.slice a ms.length cap, .slice (some ⟨vb, vo, none⟩) ls.length vc] := Bx.ext (by repeat (first | with_reducible assumption | with_reducible exact Bx.new _ _ _ _ rfl | ((with_reducible refine Bx.new _ _ _ _ ?_); simp; done) | with_reducible refine Bx.pAlloc ?_ _ | with_reducible refine Bx.pDrew ?_ | with_reducible refine Bx.pDrewN ?_ _ | with_reducible apply Bx.set10 | with_reducible apply Bx.set20 | with_reducible apply Bx.set21 | with_reducible apply Bx.set30 | with_reducible apply Bx.set31 | with_reducible apply Bx.set32 | with_reducible apply Bx.set40 | with_reducible apply Bx.set41 | with_reducible apply Bx.set42 | with_reducible apply Bx.set43 | ((with_reducible refine Bx.set_other ?_ ?_ _); rotate_left; (simp <;> omega)))) Ew2
        have B_r' : Bx w2 (w.heap.size + 1) [.slice none 0 0, .slice none 0 0] := Bx.ext (by repeat (first | with_reducible assumption | with_reducible exact Bx.new _ _ _ _ rfl | ((with_reducible refine Bx.new _ _ _ _ ?_); simp; done) | with_reducible refine Bx.pAlloc ?_ _ | with_reducible refine Bx.pDrew ?_ | with_reducible refine Bx.pDrewN ?_ _ | with_reducible apply Bx.set10 | with_reducible apply Bx.set20 | with_reducible apply Bx.set21 | with_reducible apply Bx.set30 | with_reducible apply Bx.set31 | with_reducible apply Bx.set32 | with_reducible apply Bx.set40 | with_reducible apply Bx.set41 | with_reducible apply Bx.set42 | with_reducible apply Bx.set43 | ((with_reducible refine Bx.set_other ?_ ?_ _); rotate_left; (simp <;> omega)))) Ew2
        clear c_d_0 c_d_1 n_d c_r_0 c_r_1 n_r f_r
        clear B_d
        have B_d := B_d'; clear B_d'
        clear B_r
        have B_r := B_r'; clear B_r'
        clear Ew2 Xw1
        have c_d_0 := B_d.cell 0 _ rfl
        have c_d_1 := B_d.cell 1 _ rfl
        have n_d := B_d.lt
        have c_r_0 := B_r.cell 0 _ rfl
        have c_r_1 := B_r.cell 1 _ rfl
        have n_r := B_r.lt
        have f_r := B_r.fr
        go_wp2_with fail
        refine (l5CutAt_c _ (ms, ls) p q _ (netC.vext HD.out (by repeat (first | with_reducible exact Ext.refl _ | with_reducible assumption | with_reducible refine Ext.pAlloc ?_ _ | ((with_reducible refine Ext.pSet ?_ ?_ _); rotate_left; (simp <;> omega)) | with_reducible refine Ext.pDrew ?_ | with_reducible refine Ext.pDrewN ?_ _)))).mono ?_
        rw [Hx.out]
        rintro e w3 ⟨rfl, Ew3⟩
        have Xw3 : Ext w w3 := Ext.trans (by repeat (first | with_reducible exact Ext.refl _ | with_reducible assumption | with_reducible refine Ext.pAlloc ?_ _ | ((with_reducible refine Ext.pSet ?_ ?_ _); rotate_left; (simp <;> omega)) | with_reducible refine Ext.pDrew ?_ | with_reducible refine Ext.pDrewN ?_ _)) Ew3
        have zw3 : w2.heap.size + 1 ≤ w3.heap.size := by have := Ew3.size; (try simp at this); omega
        have B_d' : Bx w3 w.heap.size [.slice a ms.length cap, .slice (some ⟨vb, vo, none⟩) ls.length vc] := Bx.ext (by repeat (first | with_reducible assumption | with_reducible exact Bx.new _ _ _ _ rfl | ((with_reducible refine Bx.new _ _ _ _ ?_); simp; done) | with_reducible refine Bx.pAlloc ?_ _ | with_reducible refine Bx.pDrew ?_ | with_reducible refine Bx.pDrewN ?_ _ | with_reducible apply Bx.set10 | with_reducible apply Bx.set20 | with_reducible apply Bx.set21 | with_reducible apply Bx.set30 | with_reducible apply Bx.set31 | with_reducible apply Bx.set32 | with_reducible apply Bx.set40 | with_reducible apply Bx.set41 | with_reducible apply Bx.set42 | with_reducible apply Bx.set43 | ((with_reducible refine Bx.set_other ?_ ?_ _); rotate_left; (simp <;> omega)))) Ew3
        have B_r' : Bx w3 (w.heap.size + 1) [.slice none 0 0, .slice none 0 0] := Bx.ext (by repeat (first | with_reducible assumption | with_reducible exact Bx.new _ _ _ _ rfl | ((with_reducible refine Bx.new _ _ _ _ ?_); simp; done) | with_reducible refine Bx.pAlloc ?_ _ | with_reducible refine Bx.pDrew ?_ | with_reducible refine Bx.pDrewN ?_ _ | with_reducible apply Bx.set10 | with_reducible apply Bx.set20 | with_reducible apply Bx.set21 | with_reducible apply Bx.set30 | with_reducible apply Bx.set31 | with_reducible apply Bx.set32 | with_reducible apply Bx.set40 | with_reducible apply Bx.set41 | with_reducible apply Bx.set42 | with_reducible apply Bx.set43 | ((with_reducible refine Bx.set_other ?_ ?_ _); rotate_left; (simp <;> omega)))) Ew3
        have B_o' : Bx w3 w2.heap.size [.slice ka ms.length kc, .slice la ls.length lc] := Bx.ext (by repeat (first | with_reducible assumption | with_reducible exact Bx.new _ _ _ _ rfl | ((with_reducible refine Bx.new _ _ _ _ ?_); simp; done) | with_reducible refine Bx.pAlloc ?_ _ | with_reducible refine Bx.pDrew ?_ | with_reducible refine Bx.pDrewN ?_ _ | with_reducible apply Bx.set10 | with_reducible apply Bx.set20 | with_reducible apply Bx.set21 | with_reducible apply Bx.set30 | with_reducible apply Bx.set31 | with_reducible apply Bx.set32 | with_reducible apply Bx.set40 | with_reducible apply Bx.set41 | with_reducible apply Bx.set42 | with_reducible apply Bx.set43 | ((with_reducible refine Bx.set_other ?_ ?_ _); rotate_left; (simp <;> omega)))) Ew3
        have O_cm' : (msgsC).own (a1) (b1) w3 [.slice ka ms.length kc] (ms) := Cd.own.ext (by repeat (first | with_reducible assumption | with_reducible refine Cd.own.pAlloc ?_ _ | with_reducible refine Cd.own.pDrew ?_ | with_reducible refine Cd.own.pDrewN ?_ _ | ((with_reducible refine Cd.own.pSet ?_ ?_ _); rotate_left; (simp <;> omega)))) Ew3
        have O_cl' : (linksC).own (a2) (b2) w3 [.slice la ls.length lc] (ls) := Cd.own.ext (by repeat (first | with_reducible assumption | with_reducible refine Cd.own.pAlloc ?_ _ | with_reducible refine Cd.own.pDrew ?_ | with_reducible refine Cd.own.pDrewN ?_ _ | ((with_reducible refine Cd.own.pSet ?_ ?_ _); rotate_left; (simp <;> omega)))) Ew3
        clear c_d_0 c_d_1 n_d c_r_0 c_r_1 n_r f_r
        clear B_d
        have B_d := B_d'; clear B_d'
        clear B_r
        have B_r := B_r'; clear B_r'
        have B_o := B_o'; clear B_o'
        clear O_cm; have O_cm := O_cm'; clear O_cm'
        clear O_cl; have O_cl := O_cl'; clear O_cl'
        clear Ew3 Xw2
        have c_d_0 := B_d.cell 0 _ rfl
        have c_d_1 := B_d.cell 1 _ rfl
        have n_d := B_d.lt
        have c_r_0 := B_r.cell 0 _ rfl
        have c_r_1 := B_r.cell 1 _ rfl
        have n_r := B_r.lt
        have f_r := B_r.fr
        have c_o_0 := B_o.cell 0 _ rfl
        have c_o_1 := B_o.cell 1 _ rfl
        have n_o := B_o.lt
        have f_o := B_o.fr
        go_wp2
        refine wp_region_T (S := fun ω => ω.cell? ⟨w.heap.size, 1, none⟩ = some (.slice (some ⟨vb, vo, none⟩) ls.length vc) ∧ Ext w ω) 13 (by kernel_rfl) ?_ (fun hHeld => ?_) (by decide)
        · (try dsimp only); (refine ⟨?_, ?_⟩ <;> first | (simp [go_sem]; done) | (simp [*, go_sem]; done) | ((repeat (first | with_reducible assumption | with_reducible exact Bx.new _ _ _ _ rfl | ((with_reducible refine Bx.new _ _ _ _ ?_); simp; done) | with_reducible refine Bx.pAlloc ?_ _ | with_reducible refine Bx.pDrew ?_ | with_reducible refine Bx.pDrewN ?_ _ | with_reducible apply Bx.set10 | with_reducible apply Bx.set20 | with_reducible apply Bx.set21 | with_reducible apply Bx.set30 | with_reducible apply Bx.set31 | with_reducible apply Bx.set32 | with_reducible apply Bx.set40 | with_reducible apply Bx.set41 | with_reducible apply Bx.set42 | with_reducible apply Bx.set43 | ((with_reducible refine Bx.set_other ?_ ?_ _); rotate_left; (simp <;> omega)))); done) | ((repeat (first | with_reducible exact Ext.refl _ | with_reducible assumption | with_reducible refine Ext.pAlloc ?_ _ | ((with_reducible refine Ext.pSet ?_ ?_ _); rotate_left; (simp <;> omega)) | with_reducible refine Ext.pDrew ?_ | with_reducible refine Ext.pDrewN ?_ _)); done))
        refine wpT_take (i := 1) (v := ?_) rfl (by kernel_rfl) (by decide) (by kernel_rfl) (by kernel_rfl) (by kernel_rfl) (fun _ _ _ h => h) (Or.inl ⟨by rfl, ?_⟩) (by assumption) ?_
        rotate_left
        · intro w9 hSw; (try dsimp only at hSw); go_simp; (first | done | with_reducible rfl)
        (try simp only [List.getElem_toArray, List.getElem_cons_succ, List.getElem_cons_zero, Act.put, List.setIfInBounds_toArray, List.set_cons_zero, List.set_cons_succ])
        refine wpT_take (i := 2) (v := ?_) rfl (by kernel_rfl) (by decide) (by kernel_rfl) (by kernel_rfl) (by kernel_rfl) (fun _ _ _ h => h) (Or.inl ⟨by rfl, ?_⟩) (by assumption) ?_
        rotate_left
        · intro w9 hSw; (try dsimp only at hSw); go_simp; (first | done | with_reducible rfl)
        (try simp only [List.getElem_toArray, List.getElem_cons_succ, List.getElem_cons_zero, Act.put, List.setIfInBounds_toArray, List.set_cons_zero, List.set_cons_succ])
        refine wpT_take (i := 3) (v := ?_) rfl (by kernel_rfl) (by decide) (by kernel_rfl) (by kernel_rfl) (by kernel_rfl) (fun _ _ _ h => h) (Or.inl ⟨by rfl, ?_⟩) (by assumption) ?_
        rotate_left
        · intro w9 hSw; (try dsimp only at hSw); go_simp; (first | done | with_reducible rfl)
        (try simp only [List.getElem_toArray, List.getElem_cons_succ, List.getElem_cons_zero, Act.put, List.setIfInBounds_toArray, List.set_cons_zero, List.set_cons_succ])
        refine wpT_take (i := 4) (v := ?_) rfl (by kernel_rfl) (by decide) (by kernel_rfl) (by kernel_rfl) (by kernel_rfl) (fun _ _ _ h => h) (Or.inl ⟨by rfl, ?_⟩) (by assumption) ?_
        rotate_left
        · intro w9 hSw; (try dsimp only at hSw); go_simp; (first | done | with_reducible rfl)
        (try simp only [List.getElem_toArray, List.getElem_cons_succ, List.getElem_cons_zero, Act.put, List.setIfInBounds_toArray, List.set_cons_zero, List.set_cons_succ])
        refine wpT_take (i := 6) (v := ?_) rfl (by kernel_rfl) (by decide) (by kernel_rfl) (by kernel_rfl) (by kernel_rfl) (fun _ _ _ h => h) (Or.inl ⟨by rfl, ?_⟩) (by assumption) ?_
        rotate_left
        · intro w9 hSw; (try dsimp only at hSw); go_simp; (first | done | with_reducible rfl)
        (try simp only [List.getElem_toArray, List.getElem_cons_succ, List.getElem_cons_zero, Act.put, List.setIfInBounds_toArray, List.set_cons_zero, List.set_cons_succ])
        refine wpT_take (i := 7) (v := ?_) rfl (by kernel_rfl) (by decide) (by kernel_rfl) (by kernel_rfl) (by kernel_rfl) (fun _ _ _ h => h) (Or.inl ⟨by rfl, ?_⟩) (by assumption) ?_
        rotate_left
        · intro w9 hSw; (try dsimp only at hSw); go_simp; (first | done | with_reducible rfl)
        (try simp only [List.getElem_toArray, List.getElem_cons_succ, List.getElem_cons_zero, Act.put, List.setIfInBounds_toArray, List.set_cons_zero, List.set_cons_succ])
        refine wpT_take (i := 8) (v := ?_) rfl (by kernel_rfl) (by decide) (by kernel_rfl) (by kernel_rfl) (by kernel_rfl) (fun _ _ _ h => h) (Or.inl ⟨by rfl, ?_⟩) (by assumption) ?_
        rotate_left
        · intro w9 hSw; (try dsimp only at hSw); go_simp; (first | done | with_reducible rfl)
        (try simp only [List.getElem_toArray, List.getElem_cons_succ, List.getElem_cons_zero, Act.put, List.setIfInBounds_toArray, List.set_cons_zero, List.set_cons_succ])
        refine wpT_take (i := 9) (v := ?_) rfl (by kernel_rfl) (by decide) (by kernel_rfl) (by kernel_rfl) (by kernel_rfl) (fun _ _ _ h => h) (Or.inl ⟨by rfl, ?_⟩) (by assumption) ?_
        rotate_left
        · intro w9 hSw; (try dsimp only at hSw); go_simp; (first | done | with_reducible rfl)
        (try simp only [List.getElem_toArray, List.getElem_cons_succ, List.getElem_cons_zero, Act.put, List.setIfInBounds_toArray, List.set_cons_zero, List.set_cons_succ])
        refine wpT_take (i := 10) (v := ?_) rfl (by kernel_rfl) (by decide) (by kernel_rfl) (by kernel_rfl) (by kernel_rfl) (fun _ _ _ h => h) (Or.inl ⟨by rfl, ?_⟩) (by assumption) ?_
        rotate_left
        · intro w9 hSw; (try dsimp only at hSw); go_simp; (first | done | with_reducible rfl)
        (try simp only [List.getElem_toArray, List.getElem_cons_succ, List.getElem_cons_zero, Act.put, List.setIfInBounds_toArray, List.set_cons_zero, List.set_cons_succ])
        refine wpT_step (i := 0) (by kernel_rfl) (by decide) rfl (fun K hK => ?_)
        go_simp
        refine hK.out _ _ ?_ (fun hHeld2 => ?_)
        · (try dsimp only); (obtain ⟨s0, s1⟩ := hHeld; exact ⟨cell_ext s0 (Ext.alloc _ _), s1.trans (Ext.alloc _ _)⟩)
        clear hK K hHeld
        rename _ => hHeld
        (try simp only [List.getElem_toArray, List.getElem_cons_succ, List.getElem_cons_zero, Act.put, List.setIfInBounds_toArray, List.set_cons_zero, List.set_cons_succ])
        refine wpT_step (i := 5) (by kernel_rfl) (by decide) rfl (fun K hK => ?_)
        rw [if_pos (by rfl)]
        refine opwp_append_sl _ _ _ (by rfl) 70 _ 2 16 Try.underlying29 Hinf.out (by rfl) _ 0 0 [] (by rfl) rfl (SlAt.litAt _ _ _ _ (by simp)) (Nat.le_refl _) (by omega) _ k _ x1 (by rfl) HX.out.1 (HP.out.ext hHeld.2) (elemsO_one HE.out.1) (by omega) ?_
        intro a4 c4 w16 hs4 hle4 hm4 hA4
        (try simp only [Nat.zero_add, List.nil_append] at hs4 hle4)
        (try simp only [Nat.zero_add])
        have hC4 := hA4.chg (lo := w3.heap.size) (hi := w3.heap.size + 1) (by simp [ablk])
        have hat4 : ∀ b ∈ ablk a4, w3.heap.size ≤ b := fun b hb => by rcases hA4.mem hb with h9 | ⟨h9, _⟩ <;> (try simp [ablk] at h9) <;> omega
        have zz4 : w3.heap.size + 1 ≤ w16.heap.size := by have := hC4.size; (try simp at this); omega
        refine hK.out _ _ ?_ (fun hHeld2 => ?_)
        · (try dsimp only); (obtain ⟨s0, s1⟩ := hHeld; exact ⟨cell_chg s0 hC4 (by omega), Chg.ext s1 hC4 (by omega)⟩)
        clear hK K hHeld
        rename _ => hHeld
        (try simp only [List.getElem_toArray, List.getElem_cons_succ, List.getElem_cons_zero, Act.put, List.setIfInBounds_toArray, List.set_cons_zero, List.set_cons_succ])
        refine wpT_step (i := 11) (by kernel_rfl) (by decide) rfl (fun K hK => ?_)
        rw [if_pos (by rfl)]
        refine opwp_append_sl _ _ _ (by rfl) 70 _ 2 16 Try.underlying29 Hinf.out (by rfl) _ k c4 x1 (by rfl) HX.out.1 hs4 hle4 hm4 _ (ls.length - (k + 1)) _ x2 (by rfl) HX.out.2.2 (HSF.out.ext hHeld.2) (elemsO_one HE.out.2) (by omega) ?_
        intro a5 c5 w17 hs5 hle5 hm5 hA5
        (try simp only [Nat.add_zero] at hle5)
        (try simp only [Nat.add_zero])
        have hC5 : Chg w3.heap.size w17.heap.size w16 w17 := (hA5.chg (lo := w3.heap.size) (hi := w16.heap.size) (fun b hb => ⟨hat4 b hb, hs4.lt b hb⟩)).wide (Nat.le_refl _) hA5.size
        have hEr := Lib.hid (List.eraseIdx_eq_take_drop_succ ls k)
        have hlq : (k + (ls.length - (k + 1))) = (ls.take k ++ ls.drop (k + 1)).length := by rw [List.length_append, List.length_take, List.length_drop]; omega
        have HO2 := Lib.hid (links_app (n := (k + (ls.length - (k + 1)))) (lo := w3.heap.size) hs5 (elemsO_view linkC (elemsO_join HE.out.1 HE.out.2)) hlq hle5 hm5 hA5 (by omega) hat4)
        have hCC : Chg w3.heap.size w17.heap.size w3 w17 := ((((Ext.alloc _ _).trans (Ext.drew _)).chg w3.heap.size w17.heap.size).trans (hC4.wide (Nat.le_refl _) (by have := hA5.size; omega))).trans hC5
        clear hs5 hs4 hA5 hA4 hat4 hlq
        refine hK.out _ _ ?_ (fun hHeld2 => ?_)
        · (try dsimp only); (obtain ⟨s0, s1⟩ := hHeld; exact ⟨cell_chg s0 hC5 (by omega), Chg.ext s1 hC5 (by omega)⟩)
        clear hK K hHeld
        rename _ => hHeld
        (try simp only [List.getElem_toArray, List.getElem_cons_succ, List.getElem_cons_zero, Act.put, List.setIfInBounds_toArray, List.set_cons_zero, List.set_cons_succ])
        refine wpT_take (i := 12) (v := ?_) rfl (by kernel_rfl) (by decide) (by kernel_rfl) (by kernel_rfl) (by kernel_rfl) (fun _ _ _ h => h) (Or.inl ⟨by rfl, ?_⟩) (by assumption) ?_
        rotate_left
        · intro w9 hSw; (try dsimp only at hSw); go_simp; (first | done | with_reducible rfl)
        (try simp only [List.getElem_toArray, List.getElem_cons_succ, List.getElem_cons_zero, Act.put, List.setIfInBounds_toArray, List.set_cons_zero, List.set_cons_succ])
        refine wpT_last (by kernel_rfl) (by kernel_rfl) rfl (fun K hK => ?_)
        clear hHeld
        have Xw17 : Ext w w17 := Chg.ext (by repeat (first | with_reducible exact Ext.refl _ | with_reducible assumption | with_reducible refine Ext.pAlloc ?_ _ | ((with_reducible refine Ext.pSet ?_ ?_ _); rotate_left; (simp <;> omega)) | with_reducible refine Ext.pDrew ?_ | with_reducible refine Ext.pDrewN ?_ _)) hCC (by omega)
        have zw17 : w3.heap.size ≤ w17.heap.size := by have := hCC.size; (try simp at this); omega
        have B_d' : Bx w17 w.heap.size [.slice a ms.length cap, .slice (some ⟨vb, vo, none⟩) ls.length vc] := Bx.chg (by repeat (first | with_reducible assumption | with_reducible exact Bx.new _ _ _ _ rfl | ((with_reducible refine Bx.new _ _ _ _ ?_); simp; done) | with_reducible refine Bx.pAlloc ?_ _ | with_reducible refine Bx.pDrew ?_ | with_reducible refine Bx.pDrewN ?_ _ | with_reducible apply Bx.set10 | with_reducible apply Bx.set20 | with_reducible apply Bx.set21 | with_reducible apply Bx.set30 | with_reducible apply Bx.set31 | with_reducible apply Bx.set32 | with_reducible apply Bx.set40 | with_reducible apply Bx.set41 | with_reducible apply Bx.set42 | with_reducible apply Bx.set43 | ((with_reducible refine Bx.set_other ?_ ?_ _); rotate_left; (simp <;> omega)))) hCC (by omega)
        have B_r' : Bx w17 (w.heap.size + 1) [.slice none 0 0, .slice none 0 0] := Bx.chg (by repeat (first | with_reducible assumption | with_reducible exact Bx.new _ _ _ _ rfl | ((with_reducible refine Bx.new _ _ _ _ ?_); simp; done) | with_reducible refine Bx.pAlloc ?_ _ | with_reducible refine Bx.pDrew ?_ | with_reducible refine Bx.pDrewN ?_ _ | with_reducible apply Bx.set10 | with_reducible apply Bx.set20 | with_reducible apply Bx.set21 | with_reducible apply Bx.set30 | with_reducible apply Bx.set31 | with_reducible apply Bx.set32 | with_reducible apply Bx.set40 | with_reducible apply Bx.set41 | with_reducible apply Bx.set42 | with_reducible apply Bx.set43 | ((with_reducible refine Bx.set_other ?_ ?_ _); rotate_left; (simp <;> omega)))) hCC (by omega)
        have B_o' : Bx w17 w2.heap.size [.slice ka ms.length kc, .slice la ls.length lc] := Bx.chg (by repeat (first | with_reducible assumption | with_reducible exact Bx.new _ _ _ _ rfl | ((with_reducible refine Bx.new _ _ _ _ ?_); simp; done) | with_reducible refine Bx.pAlloc ?_ _ | with_reducible refine Bx.pDrew ?_ | with_reducible refine Bx.pDrewN ?_ _ | with_reducible apply Bx.set10 | with_reducible apply Bx.set20 | with_reducible apply Bx.set21 | with_reducible apply Bx.set30 | with_reducible apply Bx.set31 | with_reducible apply Bx.set32 | with_reducible apply Bx.set40 | with_reducible apply Bx.set41 | with_reducible apply Bx.set42 | with_reducible apply Bx.set43 | ((with_reducible refine Bx.set_other ?_ ?_ _); rotate_left; (simp <;> omega)))) hCC (by omega)
        have O_cm' : (msgsC).own (a1) (b1) w17 [.slice ka ms.length kc] (ms) := Cd.own.chg (by repeat (first | with_reducible assumption | with_reducible refine Cd.own.pAlloc ?_ _ | with_reducible refine Cd.own.pDrew ?_ | with_reducible refine Cd.own.pDrewN ?_ _ | ((with_reducible refine Cd.own.pSet ?_ ?_ _); rotate_left; (simp <;> omega)))) hCC (by omega)
        have O_cl' : (linksC).own (a2) (b2) w17 [.slice la ls.length lc] (ls) := Cd.own.chg (by repeat (first | with_reducible assumption | with_reducible refine Cd.own.pAlloc ?_ _ | with_reducible refine Cd.own.pDrew ?_ | with_reducible refine Cd.own.pDrewN ?_ _ | ((with_reducible refine Cd.own.pSet ?_ ?_ _); rotate_left; (simp <;> omega)))) hCC (by omega)
        clear c_d_0 c_d_1 n_d c_r_0 c_r_1 n_r f_r c_o_0 c_o_1 n_o f_o
        clear B_d
        have B_d := B_d'; clear B_d'
        clear B_r
        have B_r := B_r'; clear B_r'
        clear B_o
        have B_o := B_o'; clear B_o'
        clear O_cm; have O_cm := O_cm'; clear O_cm'
        clear O_cl; have O_cl := O_cl'; clear O_cl'
        clear hCC Xw3
        have c_d_0 := B_d.cell 0 _ rfl
        have c_d_1 := B_d.cell 1 _ rfl
        have n_d := B_d.lt
        have c_r_0 := B_r.cell 0 _ rfl
        have c_r_1 := B_r.cell 1 _ rfl
        have n_r := B_r.lt
        have f_r := B_r.fr
        have c_o_0 := B_o.cell 0 _ rfl
        have c_o_1 := B_o.cell 1 _ rfl
        have n_o := B_o.lt
        have f_o := B_o.fr
        have O_cl2 := HO2.out; clear HO2
        go_simp
        refine hK.out _ _ ?_
        clear hK K
        go_wp2
        refine bodyPost_ret (v := .tuple #[.agg #[.slice ka ms.length kc, (.slice a5 (k + (ls.length - (k + 1))) c5)], .bool true]) (by simp [results, Try.results41, go_sem, c_r_0, c_r_1, n_r]) rfl ⟨_, _, rfl, ?_, ?_⟩
        · repeat (first | with_reducible exact Ext.refl _ | with_reducible assumption | with_reducible refine Ext.pAlloc ?_ _ | ((with_reducible refine Ext.pSet ?_ ?_ _); rotate_left; (simp <;> omega)) | with_reducible refine Ext.pDrew ?_ | with_reducible refine Ext.pDrewN ?_ _)
        · rw [hEr.out]; exact net_join (a1 := a1) (b1 := b1) (a2 := w3.heap.size) (b2 := w17.heap.size) (by repeat (first | with_reducible assumption | with_reducible refine Cd.own.pAlloc ?_ _ | with_reducible refine Cd.own.pDrew ?_ | with_reducible refine Cd.own.pDrewN ?_ _ | ((with_reducible refine Cd.own.pSet ?_ ?_ _); rotate_left; (simp <;> omega)))) (by repeat (first | with_reducible assumption | with_reducible refine Cd.own.pAlloc ?_ _ | with_reducible refine Cd.own.pDrew ?_ | with_reducible refine Cd.own.pDrewN ?_ _ | ((with_reducible refine Cd.own.pSet ?_ ?_ _); rotate_left; (simp <;> omega)))) (by omega) ⟨(by first | omega | (simp <;> omega)), (by first | (simp [World.setCell]; done) | (simp [World.setCell]; omega) | omega), (by first | omega | (simp <;> omega)), (by first | (simp [World.setCell]; done) | (simp [World.setCell]; omega) | omega)⟩
    · have hr : healed (ms, ls) p q = ((ms, ls), false) := by unfold healed; rw [if_pos hd, if_neg ht]
      rw [hr]
      have Hx := Lib.hid (linkIx_out ht)
      have Hd := Lib.hid hd; clear hd ht hr
      go_enter Try.func41, Try.ntmps41
      go_wp2_with fail
      refine (specNetOk_c _ (ms, ls) _ (netC.vext HD.out (by repeat (first | with_reducible exact Ext.refl _ | with_reducible assumption | with_reducible refine Ext.pAlloc ?_ _ | ((with_reducible refine Ext.pSet ?_ ?_ _); rotate_left; (simp <;> omega)) | with_reducible refine Ext.pDrew ?_ | with_reducible refine Ext.pDrewN ?_ _)))).mono ?_
      rw [Hd.out]
      rintro e w1 ⟨rfl, Ew1⟩
      have Xw1 : Ext w w1 := Ext.trans (by repeat (first | with_reducible exact Ext.refl _ | with_reducible assumption | with_reducible refine Ext.pAlloc ?_ _ | ((with_reducible refine Ext.pSet ?_ ?_ _); rotate_left; (simp <;> omega)) | with_reducible refine Ext.pDrew ?_ | with_reducible refine Ext.pDrewN ?_ _)) Ew1
      have zw1 : w.heap.size + 1 + 1 ≤ w1.heap.size := by have := Ew1.size; (try simp at this); omega
      have B_d' : Bx w1 w.heap.size [.slice a ms.length cap, .slice va ls.length vc] := Bx.ext (by repeat (first | with_reducible assumption | with_reducible exact Bx.new _ _ _ _ rfl | ((with_reducible refine Bx.new _ _ _ _ ?_); simp; done) | with_reducible refine Bx.pAlloc ?_ _ | with_reducible refine Bx.pDrew ?_ | with_reducible refine Bx.pDrewN ?_ _ | with_reducible apply Bx.set10 | with_reducible apply Bx.set20 | with_reducible apply Bx.set21 | with_reducible apply Bx.set30 | with_reducible apply Bx.set31 | with_reducible apply Bx.set32 | with_reducible apply Bx.set40 | with_reducible apply Bx.set41 | with_reducible apply Bx.set42 | with_reducible apply Bx.set43 | ((with_reducible refine Bx.set_other ?_ ?_ _); rotate_left; (simp <;> omega)))) Ew1
      have B_r' : Bx w1 (w.heap.size + 1) [.slice none 0 0, .slice none 0 0] := Bx.ext (by repeat (first | with_reducible assumption | with_reducible exact Bx.new _ _ _ _ rfl | ((with_reducible refine Bx.new _ _ _ _ ?_); simp; done) | with_reducible refine Bx.pAlloc ?_ _ | with_reducible refine Bx.pDrew ?_ | with_reducible refine Bx.pDrewN ?_ _ | with_reducible apply Bx.set10 | with_reducible apply Bx.set20 | with_reducible apply Bx.set21 | with_reducible apply Bx.set30 | with_reducible apply Bx.set31 | with_reducible apply Bx.set32 | with_reducible apply Bx.set40 | with_reducible apply Bx.set41 | with_reducible apply Bx.set42 | with_reducible apply Bx.set43 | ((with_reducible refine Bx.set_other ?_ ?_ _); rotate_left; (simp <;> omega)))) Ew1
      have B_d := B_d'; clear B_d'
      have B_r := B_r'; clear B_r'
      clear Ew1
      have c_d_0 := B_d.cell 0 _ rfl
      have c_d_1 := B_d.cell 1 _ rfl
      have n_d := B_d.lt
      have c_r_0 := B_r.cell 0 _ rfl
      have c_r_1 := B_r.cell 1 _ rfl
      have n_r := B_r.lt
      have f_r := B_r.fr
      go_wp2_with fail
      refine (l5Copy_c _ (ms, ls) _ (netC.vext HD.out (by repeat (first | with_reducible exact Ext.refl _ | with_reducible assumption | with_reducible refine Ext.pAlloc ?_ _ | ((with_reducible refine Ext.pSet ?_ ?_ _); rotate_left; (simp <;> omega)) | with_reducible refine Ext.pDrew ?_ | with_reducible refine Ext.pDrewN ?_ _))) Hd.out).mono ?_
      rintro e w2 ⟨u1, v1, rfl, Ew2, a1, b1, a2, b2, p1, p2, p3, p4, p5, p6, p7, O_cm, O_cl⟩
      simp only at O_cm O_cl
      obtain ⟨ka, kc, rfl⟩ := sl_form O_cm.view
      obtain ⟨la, lc, rfl⟩ := sl_form O_cl.view
      replace p1 : w1.heap.size ≤ a1 := by have h9 := p1; (try simp at h9); omega
      replace p4 : w1.heap.size ≤ a2 := by have h9 := p4; (try simp at h9); omega
      have Xw2 : Ext w w2 := Ext.trans (by repeat (first | with_reducible exact Ext.refl _ | with_reducible assumption | with_reducible refine Ext.pAlloc ?_ _ | ((with_reducible refine Ext.pSet ?_ ?_ _); rotate_left; (simp <;> omega)) | with_reducible refine Ext.pDrew ?_ | with_reducible refine Ext.pDrewN ?_ _)) Ew2
      have zw2 : w1.heap.size ≤ w2.heap.size := by have := Ew2.size; (try simp at this); omega
      have B_d' : Bx w2 w.heap.size [.slice a ms.length cap, .slice va ls.length vc] := Bx.ext (by repeat (first | with_reducible assumption | with_reducible exact Bx.new _ _ _ _ rfl | ((with_reducible refine Bx.new _ _ _ _ ?_); simp; done) | with_reducible refine Bx.pAlloc ?_ _ | with_reducible refine Bx.pDrew ?_ | with_reducible refine Bx.pDrewN ?_ _ | with_reducible apply Bx.set10 | with_reducible apply Bx.set20 | with_reducible apply Bx.set21 | with_reducible apply Bx.set30 | with_reducible apply Bx.set31 | with_reducible apply Bx.set32 | with_reducible apply Bx.set40 | with_reducible apply Bx.set41 | with_reducible apply Bx.set42 | with_reducible apply Bx.set43 | ((with_reducible refine Bx.set_other ?_ ?_ _); rotate_left; (simp <;> omega)))) Ew2
      have B_r' : Bx w2 (w.heap.size + 1) [.slice none 0 0, .slice none 0 0] := Bx.ext (by repeat (first | with_reducible assumption | with_reducible exact Bx.new _ _ _ _ rfl | ((with_reducible refine Bx.new _ _ _ _ ?_); simp; done) | with_reducible refine Bx.pAlloc ?_ _ | with_reducible refine Bx.pDrew ?_ | with_reducible refine Bx.pDrewN ?_ _ | with_reducible apply Bx.set10 | with_reducible apply Bx.set20 | with_reducible apply Bx.set21 | with_reducible apply Bx.set30 | with_reducible apply Bx.set31 | with_reducible apply Bx.set32 | with_reducible apply Bx.set40 | with_reducible apply Bx.set41 | with_reducible apply Bx.set42 | with_reducible apply Bx.set43 | ((with_reducible refine Bx.set_other ?_ ?_ _); rotate_left; (simp <;> omega)))) Ew2
      clear c_d_0 c_d_1 n_d c_r_0 c_r_1 n_r f_r
      clear B_d
      have B_d := B_d'; clear B_d'
      clear B_r
      have B_r := B_r'; clear B_r'
      clear Ew2 Xw1
      have c_d_0 := B_d.cell 0 _ rfl
      have c_d_1 := B_d.cell 1 _ rfl
      have n_d := B_d.lt
      have c_r_0 := B_r.cell 0 _ rfl
      have c_r_1 := B_r.cell 1 _ rfl
      have n_r := B_r.lt
      have f_r := B_r.fr
      go_wp2_with fail
      refine (l5CutAt_c _ (ms, ls) p q _ (netC.vext HD.out (by repeat (first | with_reducible exact Ext.refl _ | with_reducible assumption | with_reducible refine Ext.pAlloc ?_ _ | ((with_reducible refine Ext.pSet ?_ ?_ _); rotate_left; (simp <;> omega)) | with_reducible refine Ext.pDrew ?_ | with_reducible refine Ext.pDrewN ?_ _)))).mono ?_
      rw [Hx.out]
      rintro e w3 ⟨rfl, Ew3⟩
      have Xw3 : Ext w w3 := Ext.trans (by repeat (first | with_reducible exact Ext.refl _ | with_reducible assumption | with_reducible refine Ext.pAlloc ?_ _ | ((with_reducible refine Ext.pSet ?_ ?_ _); rotate_left; (simp <;> omega)) | with_reducible refine Ext.pDrew ?_ | with_reducible refine Ext.pDrewN ?_ _)) Ew3
      have zw3 : w2.heap.size + 1 ≤ w3.heap.size := by have := Ew3.size; (try simp at this); omega
      have B_d' : Bx w3 w.heap.size [.slice a ms.length cap, .slice va ls.length vc] := Bx.ext (by repeat (first | with_reducible assumption | with_reducible exact Bx.new _ _ _ _ rfl | ((with_reducible refine Bx.new _ _ _ _ ?_); simp; done) | with_reducible refine Bx.pAlloc ?_ _ | with_reducible refine Bx.pDrew ?_ | with_reducible refine Bx.pDrewN ?_ _ | with_reducible apply Bx.set10 | with_reducible apply Bx.set20 | with_reducible apply Bx.set21 | with_reducible apply Bx.set30 | with_reducible apply Bx.set31 | with_reducible apply Bx.set32 | with_reducible apply Bx.set40 | with_reducible apply Bx.set41 | with_reducible apply Bx.set42 | with_reducible apply Bx.set43 | ((with_reducible refine Bx.set_other ?_ ?_ _); rotate_left; (simp <;> omega)))) Ew3
      have B_r' : Bx w3 (w.heap.size + 1) [.slice none 0 0, .slice none 0 0] := Bx.ext (by repeat (first | with_reducible assumption | with_reducible exact Bx.new _ _ _ _ rfl | ((with_reducible refine Bx.new _ _ _ _ ?_); simp; done) | with_reducible refine Bx.pAlloc ?_ _ | with_reducible refine Bx.pDrew ?_ | with_reducible refine Bx.pDrewN ?_ _ | with_reducible apply Bx.set10 | with_reducible apply Bx.set20 | with_reducible apply Bx.set21 | with_reducible apply Bx.set30 | with_reducible apply Bx.set31 | with_reducible apply Bx.set32 | with_reducible apply Bx.set40 | with_reducible apply Bx.set41 | with_reducible apply Bx.set42 | with_reducible apply Bx.set43 | ((with_reducible refine Bx.set_other ?_ ?_ _); rotate_left; (simp <;> omega)))) Ew3
      have B_o' : Bx w3 w2.heap.size [.slice ka ms.length kc, .slice la ls.length lc] := Bx.ext (by repeat (first | with_reducible assumption | with_reducible exact Bx.new _ _ _ _ rfl | ((with_reducible refine Bx.new _ _ _ _ ?_); simp; done) | with_reducible refine Bx.pAlloc ?_ _ | with_reducible refine Bx.pDrew ?_ | with_reducible refine Bx.pDrewN ?_ _ | with_reducible apply Bx.set10 | with_reducible apply Bx.set20 | with_reducible apply Bx.set21 | with_reducible apply Bx.set30 | with_reducible apply Bx.set31 | with_reducible apply Bx.set32 | with_reducible apply Bx.set40 | with_reducible apply Bx.set41 | with_reducible apply Bx.set42 | with_reducible apply Bx.set43 | ((with_reducible refine Bx.set_other ?_ ?_ _); rotate_left; (simp <;> omega)))) Ew3
      have O_cm' : (msgsC).own (a1) (b1) w3 [.slice ka ms.length kc] (ms) := Cd.own.ext (by repeat (first | with_reducible assumption | with_reducible refine Cd.own.pAlloc ?_ _ | with_reducible refine Cd.own.pDrew ?_ | with_reducible refine Cd.own.pDrewN ?_ _ | ((with_reducible refine Cd.own.pSet ?_ ?_ _); rotate_left; (simp <;> omega)))) Ew3
      have O_cl' : (linksC).own (a2) (b2) w3 [.slice la ls.length lc] (ls) := Cd.own.ext (by repeat (first | with_reducible assumption | with_reducible refine Cd.own.pAlloc ?_ _ | with_reducible refine Cd.own.pDrew ?_ | with_reducible refine Cd.own.pDrewN ?_ _ | ((with_reducible refine Cd.own.pSet ?_ ?_ _); rotate_left; (simp <;> omega)))) Ew3
      clear c_d_0 c_d_1 n_d c_r_0 c_r_1 n_r f_r
      clear B_d
      have B_d := B_d'; clear B_d'
      clear B_r
      have B_r := B_r'; clear B_r'
      have B_o := B_o'; clear B_o'
      clear O_cm; have O_cm := O_cm'; clear O_cm'
      clear O_cl; have O_cl := O_cl'; clear O_cl'
      clear Ew3 Xw2
      have c_d_0 := B_d.cell 0 _ rfl
      have c_d_1 := B_d.cell 1 _ rfl
      have n_d := B_d.lt
      have c_r_0 := B_r.cell 0 _ rfl
      have c_r_1 := B_r.cell 1 _ rfl
      have n_r := B_r.lt
      have f_r := B_r.fr
      have c_o_0 := B_o.cell 0 _ rfl
      have c_o_1 := B_o.cell 1 _ rfl
      have n_o := B_o.lt
      have f_o := B_o.fr
      go_wp2
      refine bodyPost_ret (v := .tuple #[.agg #[.slice ka ms.length kc, .slice la ls.length lc], .bool false]) (by simp [results, Try.results41, go_sem, c_r_0, c_r_1, n_r]) rfl ⟨_, _, rfl, ?_, ?_⟩
      · repeat (first | with_reducible exact Ext.refl _ | with_reducible assumption | with_reducible refine Ext.pAlloc ?_ _ | ((with_reducible refine Ext.pSet ?_ ?_ _); rotate_left; (simp <;> omega)) | with_reducible refine Ext.pDrew ?_ | with_reducible refine Ext.pDrewN ?_ _)
      · exact net_join (by repeat (first | with_reducible assumption | with_reducible refine Cd.own.pAlloc ?_ _ | with_reducible refine Cd.own.pDrew ?_ | with_reducible refine Cd.own.pDrewN ?_ _ | ((with_reducible refine Cd.own.pSet ?_ ?_ _); rotate_left; (simp <;> omega)))) (by repeat (first | with_reducible assumption | with_reducible refine Cd.own.pAlloc ?_ _ | with_reducible refine Cd.own.pDrew ?_ | with_reducible refine Cd.own.pDrewN ?_ _ | ((with_reducible refine Cd.own.pSet ?_ ?_ _); rotate_left; (simp <;> omega)))) p7 ⟨(by first | omega | (simp <;> omega)), (by first | (simp [World.setCell]; done) | (simp [World.setCell]; omega) | omega), (by first | omega | (simp <;> omega)), (by first | (simp [World.setCell]; done) | (simp [World.setCell]; omega) | omega)⟩

end Go.Proofs.Ytkigfmkdbgcpeaa

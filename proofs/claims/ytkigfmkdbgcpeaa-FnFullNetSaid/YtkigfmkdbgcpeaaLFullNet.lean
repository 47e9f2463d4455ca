/- The law FnFullNet is true for every input: it returns true, and what it was given reads as before. -/
import Derived.Test.YtkigfmkdbgcpeaaCod
import Derived.Test.YtkigfmkdbgcpeaaLet
import Derived.Test.YtkigfmkdbgcpeaaNn
import Derived.Test.YtkigfmkdbgcpeaaNt4
import Derived.Test.YtkigfmkdbgcpeaaNt7b
import Derived.Test.YtkigfmkdbgcpeaaNt8
import Derived.Deep.DeepCutAuto
set_option linter.unusedVariables false
set_option linter.unusedSimpArgs false
namespace Go.Proofs.Ytkigfmkdbgcpeaa
open Go.RowKit Go.Sl

/-- The network with k copies of one letter. -/
def nrep (m : MsgD) (k : Nat) : NetD := (List.replicate k m, [])
theorem nrep_ok {m : MsgD} (h : msgOk m = true) {k : Nat} (hk : k ≤ 60) : netOk (nrep m k) = true := by
  unfold netOk nrep
  simp only [List.length_replicate, List.length_nil, Bool.and_eq_true, decide_eq_true_eq]
  refine ⟨⟨⟨hk, by omega⟩, ?_⟩, by rfl⟩
  rw [List.all_eq_true]
  intro x hx
  rw [List.eq_of_mem_replicate hx]; exact h
theorem sent_rep {m : MsgD} (h : msgOk m = true) {k : Nat} (hk : k < 60) : sent (nrep m k) m = (nrep m (k + 1), true) := by
  unfold sent
  rw [if_pos ⟨nrep_ok h (by omega), h⟩, if_neg (by simp [nrep]; omega)]
  simp [nrep, List.replicate_succ']
theorem sent_full {m x : MsgD} (h : msgOk m = true) (hx : msgOk x = true) : sent (nrep m 60) x = (nrep m 60, false) := by
  unfold sent
  rw [if_pos ⟨nrep_ok h (by omega), hx⟩, if_pos (by simp [nrep])]
theorem doubled_full {m : MsgD} (h : msgOk m = true) (i : Int) : doubled (nrep m 60) i = (nrep m 60, false) := by
  unfold doubled
  rw [if_pos (nrep_ok h (by omega)), if_neg (by simp [nrep])]
theorem lost_full {m : MsgD} (h : msgOk m = true) {i : Int} (h0 : 0 ≤ i) (h1 : i < 60) : lost (nrep m 60) i = (nrep m 59, true) := by
  unfold lost
  have ht : thereAt (nrep m 60) i = true := by
    simp only [thereAt, nrep, List.length_replicate, inB, Bool.and_eq_true, decide_eq_true_eq]
    omega
  rw [if_pos (nrep_ok h (by omega)), if_pos ht]
  simp only [nrep, Prod.mk.injEq, and_true]
  rw [List.eraseIdx_replicate, if_pos (by omega)]
/-- The memory of the law: the dice, the net's box, the letter's box, and what they lead to. -/
structure FS (W : World) (a : Option Addr) (n cc db nb mb top : Nat) (m : MsgD) (mv : Value) (w : World) (u v : Value) (d : NetD) : Prop where
  dd : Dd W a n cc db w
  net : Bx w nb [u, v]
  ltr : Bx w mb [.int .i64 m.1, .int .i64 m.2.1, mv]
  mo : msgC.own (nb + 1) mb w [.int .i64 m.1, .int .i64 m.2.1, mv] m
  no : ∃ lo hi, netC.own lo hi w [u, v] d ∧ mb < lo ∧ hi ≤ top
section
variable {W w w' : World} {a : Option Addr} {n cc db nb mb top lo hi : Nat} {m : MsgD} {mv u v : Value} {d : NetD}
theorem FS.grow (h : FS W a n cc db nb mb top m mv w u v d) (he : Ext w w') : FS W a n cc db nb mb top m mv w' u v d := by
  obtain ⟨l, k, hO, h1, h2⟩ := h.no
  exact ⟨h.dd.grow he, h.net.ext he, h.ltr.ext he, h.mo.ext he, l, k, hO.ext he, h1, h2⟩
theorem FS.dice (h : FS W a n cc db nb mb top m mv w u v d) (hC : Chg db (db + 1) w w') (hD : Dd W a n cc db w') (h1 : db < nb) (h2 : nb < mb) : FS W a n cc db nb mb top m mv w' u v d := by
  obtain ⟨l, k, hO, h3, h4⟩ := h.no
  exact ⟨hD, h.net.chg hC (by omega), h.ltr.chg hC (by omega), h.mo.chg hC (by omega), l, k, hO.chg hC (by omega), h3, h4⟩
/-- A store to a box behind all that is kept. -/
theorem FS.far (h : FS W a n cc db nb mb top m mv w u v d) {b : Nat} (hb : mb < b) (ht : top ≤ b) (h1 : db < nb) (h2 : nb < mb) (x y : Value) : FS W a n cc db nb mb top m mv ((w.setCell ⟨b, 0, none⟩ x).setCell ⟨b, 1, none⟩ y) u v d := by
  obtain ⟨l, k, hO, h3, h4⟩ := h.no
  have hC : Chg b (b + 1) w ((w.setCell ⟨b, 0, none⟩ x).setCell ⟨b, 1, none⟩ y) := (Chg.setCell w ⟨b, 0, none⟩ x (Nat.le_refl _) (Nat.lt_succ_self _)).trans (Chg.setCell _ ⟨b, 1, none⟩ y (Nat.le_refl _) (Nat.lt_succ_self _))
  exact ⟨h.dd.chg hC (by omega), h.net.chg hC (by omega), h.ltr.chg hC (by omega), h.mo.chg hC (by omega), l, k, hO.chg hC (by omega), h3, h4⟩
theorem FS.view (h : FS W a n cc db nb mb top m mv w u v d) : netC.V w [u, v] d := let ⟨_, _, hO, _⟩ := h.no; hO.view
theorem FS.put {top' : Nat} (h : FS W a n cc db nb mb top m mv w u v d) {u' v' : Value} {d' : NetD} (hO : netC.own lo hi w [u', v'] d') (hlo : mb < lo) (hhi : hi ≤ top') (h1 : db < nb) (h2 : nb < mb) :
    FS W a n cc db nb mb top' m mv ((w.setCell ⟨nb, 0, none⟩ u').setCell ⟨nb, 1, none⟩ v') u' v' d' := by
  have hC : Chg nb (nb + 1) w ((w.setCell ⟨nb, 0, none⟩ u').setCell ⟨nb, 1, none⟩ v') := (Chg.setCell w ⟨nb, 0, none⟩ u' (Nat.le_refl _) (Nat.lt_succ_self _)).trans (Chg.setCell _ ⟨nb, 1, none⟩ v' (Nat.le_refl _) (Nat.lt_succ_self _))
  exact ⟨h.dd.chg hC (by omega), Bx.set21 (Bx.set20 h.net u') v', h.ltr.chg hC (by omega), h.mo.chg hC (by omega), lo, hi, hO.chg hC (by omega), hlo, hhi⟩
/-- A second net of the law, in a box of its own. -/
def SN (mb T g : Nat) (w : World) (x y : Value) (d : NetD) : Prop := Bx w g [x, y] ∧ mb < g ∧ ∃ lo hi, netC.own lo hi w [x, y] d ∧ mb < lo ∧ (g < lo ∨ hi ≤ g) ∧ hi ≤ T
theorem SN.view {g T : Nat} {x y : Value} (h : SN mb T g w x y d) : netC.V w [x, y] d := let ⟨_, _, _, _, hO, _⟩ := h; hO.view
theorem SN.grow {g T : Nat} {x y : Value} (h : SN mb T g w x y d) (he : Ext w w') : SN mb T g w' x y d := by
  obtain ⟨hB, hg, l, k, hO, h1, h2, h3⟩ := h
  exact ⟨hB.ext he, hg, l, k, hO.ext he, h1, h2, h3⟩
theorem SN.dice {g T : Nat} {x y : Value} (h : SN mb T g w x y d) (hC : Chg db (db + 1) w w') (h1 : db < mb) : SN mb T g w' x y d := by
  obtain ⟨hB, hg, l, k, hO, h2, h3, h4⟩ := h
  exact ⟨hB.chg hC (by omega), hg, l, k, hO.chg hC (by omega), h2, h3, h4⟩
theorem SN.far {g b T : Nat} {x y : Value} (h : SN mb T g w x y d) (hb : T ≤ b) (hn : g ≠ b) (p q : Value) : SN mb T g ((w.setCell ⟨b, 0, none⟩ p).setCell ⟨b, 1, none⟩ q) x y d := by
  obtain ⟨hB, hg, l, k, hO, h2, h3, h4⟩ := h
  have hC : Chg b (b + 1) w ((w.setCell ⟨b, 0, none⟩ p).setCell ⟨b, 1, none⟩ q) := (Chg.setCell w ⟨b, 0, none⟩ p (Nat.le_refl _) (Nat.lt_succ_self _)).trans (Chg.setCell _ ⟨b, 1, none⟩ q (Nat.le_refl _) (Nat.lt_succ_self _))
  exact ⟨hB.chg hC (by omega), hg, l, k, hO.chg hC (by omega), h2, h3, h4⟩
theorem SN.new {g T : Nat} {x y : Value} (hO : netC.own lo hi w [x, y] d) (h1 : mb < lo) (h2 : hi ≤ T) (h3 : g = w.heap.size) (h5 : hi ≤ w.heap.size) (h4 : mb < w.heap.size) (E : TypeId) : SN mb T g (w.alloc (.cells #[x, y] E)) x y d := by
  subst h3
  exact ⟨Bx.new _ _ _ _ rfl, h4, lo, hi, hO.pAlloc _, h1, .inr h5, h2⟩
theorem SN.mk {g T : Nat} {x0 y0 x y : Value} (hB : Bx w g [x0, y0]) (hg : mb < g) (hO : netC.own lo hi w [x, y] d) (h1 : mb < lo) (h2 : g < lo ∨ hi ≤ g) (h3 : hi ≤ T) : SN mb T g ((w.setCell ⟨g, 0, none⟩ x).setCell ⟨g, 1, none⟩ y) x y d := by
  have hC : Chg g (g + 1) w ((w.setCell ⟨g, 0, none⟩ x).setCell ⟨g, 1, none⟩ y) := (Chg.setCell w ⟨g, 0, none⟩ x (Nat.le_refl _) (Nat.lt_succ_self _)).trans (Chg.setCell _ ⟨g, 1, none⟩ y (Nat.le_refl _) (Nat.lt_succ_self _))
  exact ⟨Bx.set21 (Bx.set20 hB x) y, hg, lo, hi, hO.chg hC (by omega), h1, h2, h3⟩
theorem SN.put {g T T' : Nat} {x y x' y' : Value} {d' : NetD} (h : SN mb T g w x y d) (hO : netC.own lo hi w [x', y'] d') (h1 : mb < lo) (h2 : g < lo ∨ hi ≤ g) (h3 : hi ≤ T') : SN mb T' g ((w.setCell ⟨g, 0, none⟩ x').setCell ⟨g, 1, none⟩ y') x' y' d' := SN.mk h.1 h.2.1 hO h1 h2 h3
end

set_option maxHeartbeats 4000000 in
set_option maxRecDepth 100000 in
theorem fullnet_c (W : World) (args : Array Value) (hs : args.size = 1) (h : ∀ (j : Nat) t v, Try.f14.params[j]? = some t → args[j]? = some v → ArgOk Try.prog W t v) :
    Calls Try.prog 14 args W fun e W' => e = .returned (.bool true) ∧ Ext W W' := by
  match args, hs with
  | ⟨[a0]⟩, _ =>
    obtain ⟨ca, n, cc, rfl, hn1, hn2, HC⟩ := arg_codeR (h 0 _ a0 rfl rfl)
    clear h
    by_cases hbig : n ≤ 4096
    rotate_left
    · have hb : decide ((4096 : Int) < n) = true := by rw [decide_eq_true_iff]; omega
      have Hb := Lib.hid hb; clear hb
      go_enter Try.func14, Try.ntmps14
      go_wp2_with (go_at_call 48; refine (big_c _ _ _ _).mono ?_; rw [Hb.out]; rintro e w' ⟨rfl, rfl⟩)
      go_ret
      exact ⟨rfl, Ext.refl _⟩
    have hb : decide ((4096 : Int) < n) = false := by rw [decide_eq_false_iff_not]; omega
    have Hb := Lib.hid hb; clear hb
    go_enter Try.func14, Try.ntmps14
    go_wp2_with fail
    refine (big_c _ _ _ _).mono ?_
    rw [Hb.out]
    rintro e w' ⟨rfl, rfl⟩
    go_wp2_with fail
    refine (roll_c n cc ca 904 _ hbig HC.out).mono ?_
    rintro e w1 ⟨db, rfl, hdb, hD, -, X1⟩
    have HD1 : Hid (Dd W ca n cc db w1) := Lib.hid ⟨hD, X1, HC.out, hdb⟩
    have hdl := hD.lt
    clear hD X1
    go_wp2_with fail
    refine (newNet_c _).mono ?_
    rintro e w2 ⟨rfl, X2⟩
    have z2 := X2.size
    have HD2 := Lib.hid (HD1.out.grow X2)
    clear X2 HD1
    go_wp2_with fail
    refine (w9Letter_c W ca n cc db _ (HD2.out.grow (Ext.alloc _ _))).mono ?_
    rintro e w3 ⟨mv, m, rfl, hmo, hD3, hC3, hO3⟩
    obtain ⟨ma, mc, rfl⟩ : ∃ a c, mv = .slice a m.2.2.length c := by
      obtain ⟨v', e9, h9⟩ := msg_own.1 hO3
      cases e9
      exact sl_form h9.view
    have z3 : w2.heap.size + 1 ≤ w3.heap.size := by have := hC3.size; (try simp at this); omega
    have hF : FS W ca n cc db w2.heap.size w3.heap.size (w3.heap.size + 1) m (.slice ma m.2.2.length mc) (w3.alloc (.cells #[.int .i64 m.1, .int .i64 m.2.1, .slice ma m.2.2.length mc] 49)) (.slice none 0 0) (.slice none 0 0) (nrep m 0) :=
      ⟨hD3.grow (Ext.alloc _ _), Bx.pAlloc (Bx.chg (Bx.new _ _ _ _ rfl) hC3 (by omega)) _, Bx.new _ _ _ _ rfl, (hO3.wide (by simp) (Nat.le_refl _)).pAlloc _, w3.heap.size + 1, w3.heap.size + 1, net_nil _ _ _, Nat.lt_succ_self _, Nat.le_refl _⟩
    have HF := Lib.hid hF; have HMO := Lib.hid hmo
    clear hD3 hC3 hO3 hF hmo HD2
    go_wp2
    go_loopw [6] (fun v6 wr => ∃ (k top : Nat) (u v : Value), k ≤ 60 ∧ v6 = .int .i64 k ∧ Hid (FS W ca n cc db w2.heap.size w3.heap.size top m (.slice ma m.2.2.length mc) wr u v (nrep m k)) ∧ w3.heap.size < wr.heap.size ∧ top ≤ wr.heap.size) (fun v6 _ => 60 - (intOf v6).toNat)
    case atStart => exact ⟨0, _, _, _, by omega, rfl, HF, by simp, by simp⟩
    case round =>
      obtain ⟨k, top, u, v, hk, rfl, HI, zr, zt⟩ := hrel
      clear HF
      have c0 := HI.out.net.cell 0 _ rfl; have c1 := HI.out.net.cell 1 _ rfl
      have m0 := HI.out.ltr.cell 0 _ rfl; have m1 := HI.out.ltr.cell 1 _ rfl; have m2 := HI.out.ltr.cell 2 _ rfl
      by_cases hlt : k < 60
      · have Hsr := Lib.hid (sent_rep HMO.out hlt)
        have hw1 : IntKind.i64.wrap ((k : Int) + 1) = k + 1 := IntWalk.i64_in _ (by omega)
        have HN := Lib.hid HI.out.view
        go_wp2_with fail
        refine (implSent_c _ _ (nrep m k) m _ HN.out HI.out.mo.view).mono ?_
        rw [Hsr.out]
        rintro e w6 ⟨u', v', rfl, X6, O6⟩
        obtain ⟨⟨pa, pc, rfl⟩, qa, qc, rfl⟩ := net_form O6
        have hl1 : (nrep m (k + 1)).1.length = k + 1 := by simp [nrep]
        have hl2 : (nrep m (k + 1)).2.length = 0 := rfl
        (try simp only at O6 ⊢)
        rw [hl1, hl2] at O6 ⊢
        have HI6 := Lib.hid (HI.out.grow X6); have HO6 := Lib.hid O6
        have z6 := X6.size
        clear X6 O6 HI hl1 hl2 HN Hsr c0 c1 m0 m1 m2
        have c0 := HI6.out.net.cell 0 _ rfl; have c1 := HI6.out.net.cell 1 _ rfl; have fn := HI6.out.net.fr; have ln := HI6.out.net.lt
        have hle : (((k + 1 : Nat) : Int) != (k : Int) + 1) = false := by rw [bne_eq_false_iff_eq]; omega
        go_wp2
        go_roundw
        case rel => exact ⟨k + 1, w6.heap.size, .slice pa (k + 1) pc, .slice qa 0 qc, by omega, by go_num, Lib.hid (FS.grow (FS.put HI6.out HO6.out (by omega) (Nat.le_refl _) (by omega) (by omega)) (Ext.alloc _ _)), by (try simp [World.setCell]); omega, by (try simp [World.setCell])⟩
        case measure => simp [intOf]; omega
      · have hkd : decide ((k : Int) < 60) = false := by rw [decide_eq_false_iff_not]; omega
        have HI := Lib.hid (show FS W ca n cc db w2.heap.size w3.heap.size top m (.slice ma m.2.2.length mc) wr u v (nrep m 60) from (show k = 60 by omega) ▸ HI.out)
        have hdn : db < w2.heap.size := by omega
        have hnm : w2.heap.size < w3.heap.size := by omega
        clear hlt hk
        have HI := Lib.hid (And.intro HI.out True.intro)
        go_upto_region 13 with fail
        go_cut [9, 10] (fun s9 s10 wx => ∃ (g T : Nat) (x y : Value), s9 = .pointer (some ⟨g, 0, none⟩) ∧ s10 = .bool false ∧ top ≤ g ∧ g < wx.heap.size ∧ T ≤ wx.heap.size ∧ Hid (FS W ca n cc db w2.heap.size w3.heap.size top m (.slice ma m.2.2.length mc) wx u v (nrep m 60) ∧ SN w3.heap.size T g wx x y (nrep m 60)))
        case first =>
          have c0 := HI.out.1.net.cell 0 _ rfl; have c1 := HI.out.1.net.cell 1 _ rfl
          have xx0 := HI.out.1.dd.ext
          refine wp_region_T (S := fun ω => ω.cell? ⟨w2.heap.size, 0, none⟩ = some (u) ∧ ω.cell? ⟨w2.heap.size, 1, none⟩ = some (v) ∧ Ext W ω) 9 (by kernel_rfl) ?_ (fun hHeld => ?_) (by decide)
          · (try dsimp only); exact ⟨c0, c1, xx0.trans (Ext.drew _)⟩
          refine wpT_take (i := 0) (v := ?_) rfl (by kernel_rfl) (by decide) (by kernel_rfl) (by kernel_rfl) (by kernel_rfl) (fun _ _ _ h => h) (Or.inl ⟨by rfl, ?_⟩) (by assumption) ?_
          rotate_left
          · intro w9 hSw; (try dsimp only at hSw); go_simp; (first | done | with_reducible rfl)
          (try simp only [List.getElem_toArray, List.getElem_cons_succ, List.getElem_cons_zero, Act.put, List.setIfInBounds_toArray, List.set_cons_zero, List.set_cons_succ])
          refine wpT_take (i := 1) (v := ?_) rfl (by kernel_rfl) (by decide) (by kernel_rfl) (by kernel_rfl) (by kernel_rfl) (fun _ _ _ h => h) (Or.inl ⟨by rfl, ?_⟩) (by assumption) ?_
          rotate_left
          · intro w9 hSw; (try dsimp only at hSw); go_simp; (first | done | with_reducible rfl)
          (try simp only [List.getElem_toArray, List.getElem_cons_succ, List.getElem_cons_zero, Act.put, List.setIfInBounds_toArray, List.set_cons_zero, List.set_cons_succ])
          refine wpT_step2 (i := 2) (j := 7) (by kernel_rfl) (by decide) (by decide) rfl rfl (fun K hK => ?_) (fun K hK => ?_)
          · go_simp
            refine (w9Letter_c W ca n cc db _ (HI.out.1.dd.grow (Ext.drew _))).mono ?_
            rintro e w5 ⟨lv, ml, rfl, hml, hD5, hC5, hO5⟩
            obtain ⟨la, lc, rfl⟩ : ∃ a c, lv = .slice a ml.2.2.length c := by
              obtain ⟨v9, e9, h9⟩ := msg_own.1 hO5
              cases e9
              exact sl_form h9.view
            have HF5 := Lib.hid (FS.dice (HI.out.1.grow (Ext.drew _)) hC5 hD5 hdn hnm)
            have HS := Lib.hid (sent_full HMO.out hml)
            have z5 : wr.heap.size ≤ w5.heap.size := by have h9 := hC5.size; (try simp at h9); omega
            (try go_wp2_with fail)
            refine hK.out _ _ ?_ (fun hHeld2 => ?_)
            · (try dsimp only); (obtain ⟨s0, s1, s2⟩ := hHeld; exact ⟨cell_chg s0 hC5 (by omega), cell_chg s1 hC5 (by omega), Chg.ext s2 hC5 (by omega)⟩)
            clear hK K hHeld
            rename _ => hHeld
            (try simp only [List.getElem_toArray, List.getElem_cons_succ, List.getElem_cons_zero, Act.put, List.setIfInBounds_toArray, List.set_cons_zero, List.set_cons_succ])
            refine wpT_step2 (i := 3) (j := 7) (by kernel_rfl) (by decide) (by decide) rfl rfl (fun K hK => ?_) (fun K hK => ?_)
            · go_simp
              refine (implSent_c _ _ (nrep m 60) ml _ HF5.out.view hO5.view).mono ?_
              rw [HS.out]
              rintro e w6 ⟨x, y, rfl, hE6, hO6⟩
              have HF6 := Lib.hid (HF5.out.grow hE6)
              have z6 : w5.heap.size ≤ w6.heap.size := by have h9 := hE6.size; (try simp at h9); omega
              obtain ⟨⟨pa, pc, rfl⟩, qa, qc, rfl⟩ := net_form hO6
              (try go_wp2_with fail)
              refine hK.out _ _ ?_ (fun hHeld2 => ?_)
              · (try dsimp only); (obtain ⟨s0, s1, s2⟩ := hHeld; exact ⟨cell_ext s0 hE6, cell_ext s1 hE6, s2.trans hE6⟩)
              clear hK K hHeld
              rename _ => hHeld
              (try simp only [List.getElem_toArray, List.getElem_cons_succ, List.getElem_cons_zero, Act.put, List.setIfInBounds_toArray, List.set_cons_zero, List.set_cons_succ])
              refine wpT_take (i := 4) (v := ?_) rfl (by kernel_rfl) (by decide) (by kernel_rfl) (by kernel_rfl) (by kernel_rfl) (fun _ _ _ h => h) (Or.inl ⟨by rfl, ?_⟩) (by assumption) ?_
              rotate_left
              · intro w9 hSw; (try dsimp only at hSw); go_simp; (first | done | with_reducible rfl)
              (try simp only [List.getElem_toArray, List.getElem_cons_succ, List.getElem_cons_zero, Act.put, List.setIfInBounds_toArray, List.set_cons_zero, List.set_cons_succ])
              refine wpT_take (i := 5) (v := ?_) rfl (by kernel_rfl) (by decide) (by kernel_rfl) (by kernel_rfl) (by kernel_rfl) (fun _ _ _ h => h) (Or.inl ⟨by rfl, ?_⟩) (by assumption) ?_
              rotate_left
              · intro w9 hSw; (try dsimp only at hSw); go_simp; (first | done | with_reducible rfl)
              (try simp only [List.getElem_toArray, List.getElem_cons_succ, List.getElem_cons_zero, Act.put, List.setIfInBounds_toArray, List.set_cons_zero, List.set_cons_succ])
              refine wpT_take (i := 6) (v := ?_) rfl (by kernel_rfl) (by decide) (by kernel_rfl) (by kernel_rfl) (by kernel_rfl) (fun _ _ _ h => h) (Or.inl ⟨by rfl, ?_⟩) (by assumption) ?_
              rotate_left
              · intro w9 hSw; (try dsimp only at hSw); go_simp; (first | done | with_reducible rfl)
              (try simp only [List.getElem_toArray, List.getElem_cons_succ, List.getElem_cons_zero, Act.put, List.setIfInBounds_toArray, List.set_cons_zero, List.set_cons_succ])
              have hH6 := hHeld
              refine wpT_step (i := 7) (by kernel_rfl) (by decide) rfl (fun K hK => ?_)
              go_simp
              refine hK.out _ _ ?_ (fun hHeld2 => ?_)
              · (try dsimp only); (obtain ⟨s0, s1, s2⟩ := hHeld; exact ⟨cell_ext s0 (Ext.alloc _ _), cell_ext s1 (Ext.alloc _ _), s2.trans (Ext.alloc _ _)⟩)
              clear hK K hHeld
              rename _ => hHeld
              (try simp only [List.getElem_toArray, List.getElem_cons_succ, List.getElem_cons_zero, Act.put, List.setIfInBounds_toArray, List.set_cons_zero, List.set_cons_succ])
              clear c0 c1
              refine wpT_step (i := 8) (by kernel_rfl) (by decide) rfl (fun K hK => ?_)
              go_simp
              refine hK.out _ _ ?_ (fun hHeld2 => ?_)
              · (try dsimp only); exact ⟨cell_ext hH6.1 (Ext.alloc _ _), cell_ext hH6.2.1 (Ext.alloc _ _), hH6.2.2.trans (Ext.alloc _ _)⟩
              clear hHeld
              rename _ => hHeld
              clear hK K
              (try simp only [List.getElem_toArray, List.getElem_cons_succ, List.getElem_cons_zero, Act.put, List.setIfInBounds_toArray, List.set_cons_zero, List.set_cons_succ])
              clear hHeld
              refine wpT_last (by kernel_rfl) (by kernel_rfl) rfl (fun K hK => ?_)
              go_simp
              refine hK.out _ _ ?_
              clear hK K
              go_wp2_with fail
              go_meet
              exact ⟨w6.heap.size, w6.heap.size, _, _, rfl, rfl, by omega, by first | (simp [World.setCell]; done) | (simp [World.setCell]; omega), by simp [World.setCell], Lib.hid ⟨HF6.out.grow (Ext.alloc _ _), SN.new hO6 (by omega) (Nat.le_refl _) rfl (Nat.le_refl _) (by omega) _⟩⟩
            · go_simp
              refine hK.out _ _ ?_ (fun hHeld2 => ?_)
              · (try dsimp only); (obtain ⟨s0, s1, s2⟩ := hHeld; exact ⟨cell_ext s0 (Ext.alloc _ _), cell_ext s1 (Ext.alloc _ _), s2.trans (Ext.alloc _ _)⟩)
              clear hK K hHeld
              rename _ => hHeld
              (try simp only [List.getElem_toArray, List.getElem_cons_succ, List.getElem_cons_zero, Act.put, List.setIfInBounds_toArray, List.set_cons_zero, List.set_cons_succ])
              refine wpT_step (i := 3) (by kernel_rfl) (by decide) rfl (fun K hK => ?_)
              go_simp
              refine (implSent_c _ _ (nrep m 60) ml _ (HF5.out.grow (Ext.alloc _ _)).view (hO5.ext (Ext.alloc _ _)).view).mono ?_
              rw [HS.out]
              rintro e w6 ⟨x, y, rfl, hE6, hO6⟩
              have HF6 := Lib.hid (HF5.out.grow ((Ext.alloc _ _).trans hE6))
              have z6 : w5.heap.size + 1 ≤ w6.heap.size := by have h9 := hE6.size; (try simp at h9); omega
              obtain ⟨⟨pa, pc, rfl⟩, qa, qc, rfl⟩ := net_form hO6
              replace hO6 := hO6.wide (lo' := w5.heap.size + 1) (hi' := w6.heap.size) (by simp) (Nat.le_refl _)
              have BX : Bx w6 w5.heap.size [.slice none 0 0, .slice none 0 0] := Bx.ext (Bx.new _ _ _ _ rfl) hE6
              (try go_wp2_with fail)
              refine hK.out _ _ ?_ (fun hHeld2 => ?_)
              · (try dsimp only); (obtain ⟨s0, s1, s2⟩ := hHeld; exact ⟨cell_ext s0 hE6, cell_ext s1 hE6, s2.trans hE6⟩)
              clear hK K hHeld
              rename _ => hHeld
              (try simp only [List.getElem_toArray, List.getElem_cons_succ, List.getElem_cons_zero, Act.put, List.setIfInBounds_toArray, List.set_cons_zero, List.set_cons_succ])
              refine wpT_take (i := 4) (v := ?_) rfl (by kernel_rfl) (by decide) (by kernel_rfl) (by kernel_rfl) (by kernel_rfl) (fun _ _ _ h => h) (Or.inl ⟨by rfl, ?_⟩) (by assumption) ?_
              rotate_left
              · intro w9 hSw; (try dsimp only at hSw); go_simp; (first | done | with_reducible rfl)
              (try simp only [List.getElem_toArray, List.getElem_cons_succ, List.getElem_cons_zero, Act.put, List.setIfInBounds_toArray, List.set_cons_zero, List.set_cons_succ])
              refine wpT_take (i := 5) (v := ?_) rfl (by kernel_rfl) (by decide) (by kernel_rfl) (by kernel_rfl) (by kernel_rfl) (fun _ _ _ h => h) (Or.inl ⟨by rfl, ?_⟩) (by assumption) ?_
              rotate_left
              · intro w9 hSw; (try dsimp only at hSw); go_simp; (first | done | with_reducible rfl)
              (try simp only [List.getElem_toArray, List.getElem_cons_succ, List.getElem_cons_zero, Act.put, List.setIfInBounds_toArray, List.set_cons_zero, List.set_cons_succ])
              refine wpT_take (i := 6) (v := ?_) rfl (by kernel_rfl) (by decide) (by kernel_rfl) (by kernel_rfl) (by kernel_rfl) (fun _ _ _ h => h) (Or.inl ⟨by rfl, ?_⟩) (by assumption) ?_
              rotate_left
              · intro w9 hSw; (try dsimp only at hSw); go_simp; (first | done | with_reducible rfl)
              (try simp only [List.getElem_toArray, List.getElem_cons_succ, List.getElem_cons_zero, Act.put, List.setIfInBounds_toArray, List.set_cons_zero, List.set_cons_succ])
              have b0 := BX.cell 0 _ rfl; have b1 := BX.cell 1 _ rfl; have bf := BX.fr; have bl := BX.lt
              clear c0 c1
              refine wpT_step (i := 8) (by kernel_rfl) (by decide) rfl (fun K hK => ?_)
              go_simp
              refine hK.out _ _ ?_ (fun hHeld2 => ?_)
              · (try dsimp only); have hCg : Chg (w5.heap.size) (w5.heap.size + 1) w6 _ := (Chg.setCell w6 ⟨w5.heap.size, 0, none⟩ (.slice pa (nrep m 60).1.length pc) (Nat.le_refl _) (Nat.lt_succ_self _)).trans (Chg.setCell _ ⟨w5.heap.size, 1, none⟩ (.slice qa (nrep m 60).2.length qc) (Nat.le_refl _) (Nat.lt_succ_self _)); exact ⟨cell_chg hHeld.1 hCg (by omega), cell_chg hHeld.2.1 hCg (by omega), Chg.ext hHeld.2.2 hCg (by omega)⟩
              clear hHeld
              rename _ => hHeld
              clear hK K
              (try simp only [List.getElem_toArray, List.getElem_cons_succ, List.getElem_cons_zero, Act.put, List.setIfInBounds_toArray, List.set_cons_zero, List.set_cons_succ])
              clear hHeld
              refine wpT_last (by kernel_rfl) (by kernel_rfl) rfl (fun K hK => ?_)
              go_simp
              refine hK.out _ _ ?_
              clear hK K
              go_wp2_with fail
              go_meet
              exact ⟨w5.heap.size, w6.heap.size, _, _, rfl, rfl, by omega, by first | (simp [World.setCell]; done) | (simp [World.setCell]; omega), by simp [World.setCell], Lib.hid ⟨HF6.out.far (b := w5.heap.size) (by omega) (by omega) hdn hnm _ _, SN.mk BX (by omega) hO6 (by omega) (by omega) (Nat.le_refl _)⟩⟩
          · go_simp
            refine hK.out _ _ ?_ (fun hHeld2 => ?_)
            · (try dsimp only); (obtain ⟨s0, s1, s2⟩ := hHeld; exact ⟨cell_ext s0 (Ext.alloc _ _), cell_ext s1 (Ext.alloc _ _), s2.trans (Ext.alloc _ _)⟩)
            clear hK K hHeld
            rename _ => hHeld
            (try simp only [List.getElem_toArray, List.getElem_cons_succ, List.getElem_cons_zero, Act.put, List.setIfInBounds_toArray, List.set_cons_zero, List.set_cons_succ])
            refine wpT_step (i := 2) (by kernel_rfl) (by decide) rfl (fun K hK => ?_)
            go_simp
            refine (w9Letter_c W ca n cc db _ (HI.out.1.dd.grow ((Ext.alloc _ _).trans (Ext.drew _)))).mono ?_
            rintro e w5 ⟨lv, ml, rfl, hml, hD5, hC5, hO5⟩
            obtain ⟨la, lc, rfl⟩ : ∃ a c, lv = .slice a ml.2.2.length c := by
              obtain ⟨v9, e9, h9⟩ := msg_own.1 hO5
              cases e9
              exact sl_form h9.view
            have HF5 := Lib.hid (FS.dice (HI.out.1.grow ((Ext.alloc _ _).trans (Ext.drew _))) hC5 hD5 hdn hnm)
            have HS := Lib.hid (sent_full HMO.out hml)
            have z5 : wr.heap.size + 1 ≤ w5.heap.size := by have h9 := hC5.size; (try simp at h9); omega
            have BX : Bx w5 wr.heap.size [.slice none 0 0, .slice none 0 0] := Bx.chg (Bx.pDrew (Bx.new _ _ _ _ rfl)) hC5 (by omega)
            (try go_wp2_with fail)
            refine hK.out _ _ ?_ (fun hHeld2 => ?_)
            · (try dsimp only); (obtain ⟨s0, s1, s2⟩ := hHeld; exact ⟨cell_chg s0 hC5 (by omega), cell_chg s1 hC5 (by omega), Chg.ext s2 hC5 (by omega)⟩)
            clear hK K hHeld
            rename _ => hHeld
            (try simp only [List.getElem_toArray, List.getElem_cons_succ, List.getElem_cons_zero, Act.put, List.setIfInBounds_toArray, List.set_cons_zero, List.set_cons_succ])
            refine wpT_step (i := 3) (by kernel_rfl) (by decide) rfl (fun K hK => ?_)
            go_simp
            refine (implSent_c _ _ (nrep m 60) ml _ HF5.out.view hO5.view).mono ?_
            rw [HS.out]
            rintro e w6 ⟨x, y, rfl, hE6, hO6⟩
            have HF6 := Lib.hid (HF5.out.grow hE6)
            have z6 : w5.heap.size ≤ w6.heap.size := by have h9 := hE6.size; (try simp at h9); omega
            obtain ⟨⟨pa, pc, rfl⟩, qa, qc, rfl⟩ := net_form hO6
            replace BX := BX.ext hE6
            (try go_wp2_with fail)
            refine hK.out _ _ ?_ (fun hHeld2 => ?_)
            · (try dsimp only); (obtain ⟨s0, s1, s2⟩ := hHeld; exact ⟨cell_ext s0 hE6, cell_ext s1 hE6, s2.trans hE6⟩)
            clear hK K hHeld
            rename _ => hHeld
            (try simp only [List.getElem_toArray, List.getElem_cons_succ, List.getElem_cons_zero, Act.put, List.setIfInBounds_toArray, List.set_cons_zero, List.set_cons_succ])
            refine wpT_take (i := 4) (v := ?_) rfl (by kernel_rfl) (by decide) (by kernel_rfl) (by kernel_rfl) (by kernel_rfl) (fun _ _ _ h => h) (Or.inl ⟨by rfl, ?_⟩) (by assumption) ?_
            rotate_left
            · intro w9 hSw; (try dsimp only at hSw); go_simp; (first | done | with_reducible rfl)
            (try simp only [List.getElem_toArray, List.getElem_cons_succ, List.getElem_cons_zero, Act.put, List.setIfInBounds_toArray, List.set_cons_zero, List.set_cons_succ])
            refine wpT_take (i := 5) (v := ?_) rfl (by kernel_rfl) (by decide) (by kernel_rfl) (by kernel_rfl) (by kernel_rfl) (fun _ _ _ h => h) (Or.inl ⟨by rfl, ?_⟩) (by assumption) ?_
            rotate_left
            · intro w9 hSw; (try dsimp only at hSw); go_simp; (first | done | with_reducible rfl)
            (try simp only [List.getElem_toArray, List.getElem_cons_succ, List.getElem_cons_zero, Act.put, List.setIfInBounds_toArray, List.set_cons_zero, List.set_cons_succ])
            refine wpT_take (i := 6) (v := ?_) rfl (by kernel_rfl) (by decide) (by kernel_rfl) (by kernel_rfl) (by kernel_rfl) (fun _ _ _ h => h) (Or.inl ⟨by rfl, ?_⟩) (by assumption) ?_
            rotate_left
            · intro w9 hSw; (try dsimp only at hSw); go_simp; (first | done | with_reducible rfl)
            (try simp only [List.getElem_toArray, List.getElem_cons_succ, List.getElem_cons_zero, Act.put, List.setIfInBounds_toArray, List.set_cons_zero, List.set_cons_succ])
            have b0 := BX.cell 0 _ rfl; have b1 := BX.cell 1 _ rfl; have bf := BX.fr; have bl := BX.lt
            clear c0 c1
            refine wpT_step (i := 8) (by kernel_rfl) (by decide) rfl (fun K hK => ?_)
            go_simp
            refine hK.out _ _ ?_ (fun hHeld2 => ?_)
            · (try dsimp only); have hCg : Chg (wr.heap.size) (wr.heap.size + 1) w6 _ := (Chg.setCell w6 ⟨wr.heap.size, 0, none⟩ (.slice pa (nrep m 60).1.length pc) (Nat.le_refl _) (Nat.lt_succ_self _)).trans (Chg.setCell _ ⟨wr.heap.size, 1, none⟩ (.slice qa (nrep m 60).2.length qc) (Nat.le_refl _) (Nat.lt_succ_self _)); exact ⟨cell_chg hHeld.1 hCg (by omega), cell_chg hHeld.2.1 hCg (by omega), Chg.ext hHeld.2.2 hCg (by omega)⟩
            clear hHeld
            rename _ => hHeld
            clear hK K
            (try simp only [List.getElem_toArray, List.getElem_cons_succ, List.getElem_cons_zero, Act.put, List.setIfInBounds_toArray, List.set_cons_zero, List.set_cons_succ])
            clear hHeld
            refine wpT_last (by kernel_rfl) (by kernel_rfl) rfl (fun K hK => ?_)
            go_simp
            refine hK.out _ _ ?_
            clear hK K
            go_wp2_with fail
            go_meet
            exact ⟨wr.heap.size, w6.heap.size, _, _, rfl, rfl, by omega, by first | (simp [World.setCell]; done) | (simp [World.setCell]; omega), by simp [World.setCell], Lib.hid ⟨HF6.out.far (b := wr.heap.size) (by omega) (by omega) hdn hnm _ _, SN.mk BX (by omega) hO6 (by omega) (by omega) (Nat.le_refl _)⟩⟩
        case rest =>
          obtain ⟨g, T, x, y, rfl, rfl, hgt, hgl, hgT, HI⟩ := hcut
          obtain ⟨wd, hwd⟩ : ∃ w, w = wc := ⟨_, rfl⟩
          subst hwd
          have zd : w3.heap.size < g := HI.out.2.2.1
          go_upto_region 14 with fail
          go_cut [11, 12] (fun s11 s12 wx => ∃ (g2 T2 : Nat) (x2 y2 : Value), s11 = .pointer (some ⟨g2, 0, none⟩) ∧ s12 = .bool false ∧ g < g2 ∧ Hid (FS W ca n cc db w2.heap.size w3.heap.size top m (.slice ma m.2.2.length mc) wx u v (nrep m 60) ∧ SN w3.heap.size T g wx x y (nrep m 60) ∧ SN w3.heap.size T2 g2 wx x2 y2 (nrep m 60)))
          case first =>
            have c0 := HI.out.1.net.cell 0 _ rfl; have c1 := HI.out.1.net.cell 1 _ rfl
            have xx0 := HI.out.1.dd.ext
            refine wp_region_T (S := fun ω => ω.cell? ⟨w2.heap.size, 0, none⟩ = some (u) ∧ ω.cell? ⟨w2.heap.size, 1, none⟩ = some (v) ∧ Ext W ω) 9 (by kernel_rfl) ?_ (fun hHeld => ?_) (by decide)
            · (try dsimp only); exact ⟨c0, c1, xx0.trans (Ext.drew _)⟩
            refine wpT_take (i := 0) (v := ?_) rfl (by kernel_rfl) (by decide) (by kernel_rfl) (by kernel_rfl) (by kernel_rfl) (fun _ _ _ h => h) (Or.inl ⟨by rfl, ?_⟩) (by assumption) ?_
            rotate_left
            · intro w9 hSw; (try dsimp only at hSw); go_simp; (first | done | with_reducible rfl)
            (try simp only [List.getElem_toArray, List.getElem_cons_succ, List.getElem_cons_zero, Act.put, List.setIfInBounds_toArray, List.set_cons_zero, List.set_cons_succ])
            refine wpT_take (i := 1) (v := ?_) rfl (by kernel_rfl) (by decide) (by kernel_rfl) (by kernel_rfl) (by kernel_rfl) (fun _ _ _ h => h) (Or.inl ⟨by rfl, ?_⟩) (by assumption) ?_
            rotate_left
            · intro w9 hSw; (try dsimp only at hSw); go_simp; (first | done | with_reducible rfl)
            (try simp only [List.getElem_toArray, List.getElem_cons_succ, List.getElem_cons_zero, Act.put, List.setIfInBounds_toArray, List.set_cons_zero, List.set_cons_succ])
            refine wpT_step2 (i := 2) (j := 7) (by kernel_rfl) (by decide) (by decide) rfl rfl (fun K hK => ?_) (fun K hK => ?_)
            · go_simp
              refine ((HI.out.1.dd.grow (Ext.drew _)).below 60 (by decide)).mono ?_
              rintro e w5 ⟨i5, hi50, hi51, rfl, hD5, hC5⟩
              have HF5 := Lib.hid (FS.dice (HI.out.1.grow (Ext.drew _)) hC5 hD5 hdn hnm)
              have HX5 := Lib.hid ((HI.out.2.grow (Ext.drew _)).dice hC5 (by omega))
              have HS := Lib.hid (doubled_full HMO.out i5)
              have z5 : wd.heap.size ≤ w5.heap.size := by have h9 := hC5.size; (try simp at h9); omega
              (try go_wp2_with fail)
              refine hK.out _ _ ?_ (fun hHeld2 => ?_)
              · (try dsimp only); (obtain ⟨s0, s1, s2⟩ := hHeld; exact ⟨cell_chg s0 hC5 (by omega), cell_chg s1 hC5 (by omega), Chg.ext s2 hC5 (by omega)⟩)
              clear hK K hHeld
              rename _ => hHeld
              (try simp only [List.getElem_toArray, List.getElem_cons_succ, List.getElem_cons_zero, Act.put, List.setIfInBounds_toArray, List.set_cons_zero, List.set_cons_succ])
              refine wpT_step2 (i := 3) (j := 7) (by kernel_rfl) (by decide) (by decide) rfl rfl (fun K hK => ?_) (fun K hK => ?_)
              · go_simp
                refine (implDoubled_c _ (nrep m 60) i5 _ HF5.out.view).mono ?_
                rw [HS.out]
                rintro e w6 ⟨x6, y6, rfl, hE6, hO6⟩
                have HF6 := Lib.hid (HF5.out.grow hE6)
                have HX6 := Lib.hid (HX5.out.grow hE6)
                have z6 : w5.heap.size ≤ w6.heap.size := by have h9 := hE6.size; (try simp at h9); omega
                obtain ⟨⟨pa, pc, rfl⟩, qa, qc, rfl⟩ := net_form hO6
                (try go_wp2_with fail)
                refine hK.out _ _ ?_ (fun hHeld2 => ?_)
                · (try dsimp only); (obtain ⟨s0, s1, s2⟩ := hHeld; exact ⟨cell_ext s0 hE6, cell_ext s1 hE6, s2.trans hE6⟩)
                clear hK K hHeld
                rename _ => hHeld
                (try simp only [List.getElem_toArray, List.getElem_cons_succ, List.getElem_cons_zero, Act.put, List.setIfInBounds_toArray, List.set_cons_zero, List.set_cons_succ])
                refine wpT_take (i := 4) (v := ?_) rfl (by kernel_rfl) (by decide) (by kernel_rfl) (by kernel_rfl) (by kernel_rfl) (fun _ _ _ h => h) (Or.inl ⟨by rfl, ?_⟩) (by assumption) ?_
                rotate_left
                · intro w9 hSw; (try dsimp only at hSw); go_simp; (first | done | with_reducible rfl)
                (try simp only [List.getElem_toArray, List.getElem_cons_succ, List.getElem_cons_zero, Act.put, List.setIfInBounds_toArray, List.set_cons_zero, List.set_cons_succ])
                refine wpT_take (i := 5) (v := ?_) rfl (by kernel_rfl) (by decide) (by kernel_rfl) (by kernel_rfl) (by kernel_rfl) (fun _ _ _ h => h) (Or.inl ⟨by rfl, ?_⟩) (by assumption) ?_
                rotate_left
                · intro w9 hSw; (try dsimp only at hSw); go_simp; (first | done | with_reducible rfl)
                (try simp only [List.getElem_toArray, List.getElem_cons_succ, List.getElem_cons_zero, Act.put, List.setIfInBounds_toArray, List.set_cons_zero, List.set_cons_succ])
                refine wpT_take (i := 6) (v := ?_) rfl (by kernel_rfl) (by decide) (by kernel_rfl) (by kernel_rfl) (by kernel_rfl) (fun _ _ _ h => h) (Or.inl ⟨by rfl, ?_⟩) (by assumption) ?_
                rotate_left
                · intro w9 hSw; (try dsimp only at hSw); go_simp; (first | done | with_reducible rfl)
                (try simp only [List.getElem_toArray, List.getElem_cons_succ, List.getElem_cons_zero, Act.put, List.setIfInBounds_toArray, List.set_cons_zero, List.set_cons_succ])
                have hH6 := hHeld
                refine wpT_step (i := 7) (by kernel_rfl) (by decide) rfl (fun K hK => ?_)
                go_simp
                refine hK.out _ _ ?_ (fun hHeld2 => ?_)
                · (try dsimp only); (obtain ⟨s0, s1, s2⟩ := hHeld; exact ⟨cell_ext s0 (Ext.alloc _ _), cell_ext s1 (Ext.alloc _ _), s2.trans (Ext.alloc _ _)⟩)
                clear hK K hHeld
                rename _ => hHeld
                (try simp only [List.getElem_toArray, List.getElem_cons_succ, List.getElem_cons_zero, Act.put, List.setIfInBounds_toArray, List.set_cons_zero, List.set_cons_succ])
                clear c0 c1
                refine wpT_step (i := 8) (by kernel_rfl) (by decide) rfl (fun K hK => ?_)
                go_simp
                refine hK.out _ _ ?_ (fun hHeld2 => ?_)
                · (try dsimp only); exact ⟨cell_ext hH6.1 (Ext.alloc _ _), cell_ext hH6.2.1 (Ext.alloc _ _), hH6.2.2.trans (Ext.alloc _ _)⟩
                clear hHeld
                rename _ => hHeld
                clear hK K
                (try simp only [List.getElem_toArray, List.getElem_cons_succ, List.getElem_cons_zero, Act.put, List.setIfInBounds_toArray, List.set_cons_zero, List.set_cons_succ])
                clear hHeld
                refine wpT_last (by kernel_rfl) (by kernel_rfl) rfl (fun K hK => ?_)
                go_simp
                refine hK.out _ _ ?_
                clear hK K
                go_wp2_with fail
                go_meet
                exact ⟨w6.heap.size, w6.heap.size, _, _, rfl, rfl, by omega, Lib.hid ⟨HF6.out.grow (Ext.alloc _ _), HX6.out.grow (Ext.alloc _ _), SN.new hO6 (by omega) (Nat.le_refl _) rfl (Nat.le_refl _) (by omega) _⟩⟩
              · go_simp
                refine hK.out _ _ ?_ (fun hHeld2 => ?_)
                · (try dsimp only); (obtain ⟨s0, s1, s2⟩ := hHeld; exact ⟨cell_ext s0 (Ext.alloc _ _), cell_ext s1 (Ext.alloc _ _), s2.trans (Ext.alloc _ _)⟩)
                clear hK K hHeld
                rename _ => hHeld
                (try simp only [List.getElem_toArray, List.getElem_cons_succ, List.getElem_cons_zero, Act.put, List.setIfInBounds_toArray, List.set_cons_zero, List.set_cons_succ])
                refine wpT_step (i := 3) (by kernel_rfl) (by decide) rfl (fun K hK => ?_)
                go_simp
                refine (implDoubled_c _ (nrep m 60) i5 _ (HF5.out.grow (Ext.alloc _ _)).view).mono ?_
                rw [HS.out]
                rintro e w6 ⟨x6, y6, rfl, hE6, hO6⟩
                have HF6 := Lib.hid (HF5.out.grow ((Ext.alloc _ _).trans hE6))
                have HX6 := Lib.hid (HX5.out.grow ((Ext.alloc _ _).trans hE6))
                have z6 : w5.heap.size + 1 ≤ w6.heap.size := by have h9 := hE6.size; (try simp at h9); omega
                obtain ⟨⟨pa, pc, rfl⟩, qa, qc, rfl⟩ := net_form hO6
                replace hO6 := hO6.wide (lo' := w5.heap.size + 1) (hi' := w6.heap.size) (by simp) (Nat.le_refl _)
                have BX : Bx w6 w5.heap.size [.slice none 0 0, .slice none 0 0] := Bx.ext (Bx.new _ _ _ _ rfl) hE6
                (try go_wp2_with fail)
                refine hK.out _ _ ?_ (fun hHeld2 => ?_)
                · (try dsimp only); (obtain ⟨s0, s1, s2⟩ := hHeld; exact ⟨cell_ext s0 hE6, cell_ext s1 hE6, s2.trans hE6⟩)
                clear hK K hHeld
                rename _ => hHeld
                (try simp only [List.getElem_toArray, List.getElem_cons_succ, List.getElem_cons_zero, Act.put, List.setIfInBounds_toArray, List.set_cons_zero, List.set_cons_succ])
                refine wpT_take (i := 4) (v := ?_) rfl (by kernel_rfl) (by decide) (by kernel_rfl) (by kernel_rfl) (by kernel_rfl) (fun _ _ _ h => h) (Or.inl ⟨by rfl, ?_⟩) (by assumption) ?_
                rotate_left
                · intro w9 hSw; (try dsimp only at hSw); go_simp; (first | done | with_reducible rfl)
                (try simp only [List.getElem_toArray, List.getElem_cons_succ, List.getElem_cons_zero, Act.put, List.setIfInBounds_toArray, List.set_cons_zero, List.set_cons_succ])
                refine wpT_take (i := 5) (v := ?_) rfl (by kernel_rfl) (by decide) (by kernel_rfl) (by kernel_rfl) (by kernel_rfl) (fun _ _ _ h => h) (Or.inl ⟨by rfl, ?_⟩) (by assumption) ?_
                rotate_left
                · intro w9 hSw; (try dsimp only at hSw); go_simp; (first | done | with_reducible rfl)
                (try simp only [List.getElem_toArray, List.getElem_cons_succ, List.getElem_cons_zero, Act.put, List.setIfInBounds_toArray, List.set_cons_zero, List.set_cons_succ])
                refine wpT_take (i := 6) (v := ?_) rfl (by kernel_rfl) (by decide) (by kernel_rfl) (by kernel_rfl) (by kernel_rfl) (fun _ _ _ h => h) (Or.inl ⟨by rfl, ?_⟩) (by assumption) ?_
                rotate_left
                · intro w9 hSw; (try dsimp only at hSw); go_simp; (first | done | with_reducible rfl)
                (try simp only [List.getElem_toArray, List.getElem_cons_succ, List.getElem_cons_zero, Act.put, List.setIfInBounds_toArray, List.set_cons_zero, List.set_cons_succ])
                have b0 := BX.cell 0 _ rfl; have b1 := BX.cell 1 _ rfl; have bf := BX.fr; have bl := BX.lt
                clear c0 c1
                refine wpT_step (i := 8) (by kernel_rfl) (by decide) rfl (fun K hK => ?_)
                go_simp
                refine hK.out _ _ ?_ (fun hHeld2 => ?_)
                · (try dsimp only); have hCg : Chg (w5.heap.size) (w5.heap.size + 1) w6 _ := (Chg.setCell w6 ⟨w5.heap.size, 0, none⟩ (.slice pa (nrep m 60).1.length pc) (Nat.le_refl _) (Nat.lt_succ_self _)).trans (Chg.setCell _ ⟨w5.heap.size, 1, none⟩ (.slice qa (nrep m 60).2.length qc) (Nat.le_refl _) (Nat.lt_succ_self _)); exact ⟨cell_chg hHeld.1 hCg (by omega), cell_chg hHeld.2.1 hCg (by omega), Chg.ext hHeld.2.2 hCg (by omega)⟩
                clear hHeld
                rename _ => hHeld
                clear hK K
                (try simp only [List.getElem_toArray, List.getElem_cons_succ, List.getElem_cons_zero, Act.put, List.setIfInBounds_toArray, List.set_cons_zero, List.set_cons_succ])
                clear hHeld
                refine wpT_last (by kernel_rfl) (by kernel_rfl) rfl (fun K hK => ?_)
                go_simp
                refine hK.out _ _ ?_
                clear hK K
                go_wp2_with fail
                go_meet
                exact ⟨w5.heap.size, w6.heap.size, _, _, rfl, rfl, by omega, Lib.hid ⟨HF6.out.far (b := w5.heap.size) (by omega) (by omega) hdn hnm _ _, SN.far HX6.out (by omega) (by omega) _ _, SN.mk BX (by omega) hO6 (by omega) (by omega) (Nat.le_refl _)⟩⟩
            · go_simp
              refine hK.out _ _ ?_ (fun hHeld2 => ?_)
              · (try dsimp only); (obtain ⟨s0, s1, s2⟩ := hHeld; exact ⟨cell_ext s0 (Ext.alloc _ _), cell_ext s1 (Ext.alloc _ _), s2.trans (Ext.alloc _ _)⟩)
              clear hK K hHeld
              rename _ => hHeld
              (try simp only [List.getElem_toArray, List.getElem_cons_succ, List.getElem_cons_zero, Act.put, List.setIfInBounds_toArray, List.set_cons_zero, List.set_cons_succ])
              refine wpT_step (i := 2) (by kernel_rfl) (by decide) rfl (fun K hK => ?_)
              go_simp
              refine ((HI.out.1.dd.grow ((Ext.alloc _ _).trans (Ext.drew _))).below 60 (by decide)).mono ?_
              rintro e w5 ⟨i5, hi50, hi51, rfl, hD5, hC5⟩
              have HF5 := Lib.hid (FS.dice (HI.out.1.grow ((Ext.alloc _ _).trans (Ext.drew _))) hC5 hD5 hdn hnm)
              have HX5 := Lib.hid ((HI.out.2.grow ((Ext.alloc _ _).trans (Ext.drew _))).dice hC5 (by omega))
              have HS := Lib.hid (doubled_full HMO.out i5)
              have z5 : wd.heap.size + 1 ≤ w5.heap.size := by have h9 := hC5.size; (try simp at h9); omega
              have BX : Bx w5 wd.heap.size [.slice none 0 0, .slice none 0 0] := Bx.chg (Bx.pDrew (Bx.new _ _ _ _ rfl)) hC5 (by omega)
              (try go_wp2_with fail)
              refine hK.out _ _ ?_ (fun hHeld2 => ?_)
              · (try dsimp only); (obtain ⟨s0, s1, s2⟩ := hHeld; exact ⟨cell_chg s0 hC5 (by omega), cell_chg s1 hC5 (by omega), Chg.ext s2 hC5 (by omega)⟩)
              clear hK K hHeld
              rename _ => hHeld
              (try simp only [List.getElem_toArray, List.getElem_cons_succ, List.getElem_cons_zero, Act.put, List.setIfInBounds_toArray, List.set_cons_zero, List.set_cons_succ])
              refine wpT_step (i := 3) (by kernel_rfl) (by decide) rfl (fun K hK => ?_)
              go_simp
              refine (implDoubled_c _ (nrep m 60) i5 _ HF5.out.view).mono ?_
              rw [HS.out]
              rintro e w6 ⟨x6, y6, rfl, hE6, hO6⟩
              have HF6 := Lib.hid (HF5.out.grow hE6)
              have HX6 := Lib.hid (HX5.out.grow hE6)
              have z6 : w5.heap.size ≤ w6.heap.size := by have h9 := hE6.size; (try simp at h9); omega
              obtain ⟨⟨pa, pc, rfl⟩, qa, qc, rfl⟩ := net_form hO6
              replace BX := BX.ext hE6
              (try go_wp2_with fail)
              refine hK.out _ _ ?_ (fun hHeld2 => ?_)
              · (try dsimp only); (obtain ⟨s0, s1, s2⟩ := hHeld; exact ⟨cell_ext s0 hE6, cell_ext s1 hE6, s2.trans hE6⟩)
              clear hK K hHeld
              rename _ => hHeld
              (try simp only [List.getElem_toArray, List.getElem_cons_succ, List.getElem_cons_zero, Act.put, List.setIfInBounds_toArray, List.set_cons_zero, List.set_cons_succ])
              refine wpT_take (i := 4) (v := ?_) rfl (by kernel_rfl) (by decide) (by kernel_rfl) (by kernel_rfl) (by kernel_rfl) (fun _ _ _ h => h) (Or.inl ⟨by rfl, ?_⟩) (by assumption) ?_
              rotate_left
              · intro w9 hSw; (try dsimp only at hSw); go_simp; (first | done | with_reducible rfl)
              (try simp only [List.getElem_toArray, List.getElem_cons_succ, List.getElem_cons_zero, Act.put, List.setIfInBounds_toArray, List.set_cons_zero, List.set_cons_succ])
              refine wpT_take (i := 5) (v := ?_) rfl (by kernel_rfl) (by decide) (by kernel_rfl) (by kernel_rfl) (by kernel_rfl) (fun _ _ _ h => h) (Or.inl ⟨by rfl, ?_⟩) (by assumption) ?_
              rotate_left
              · intro w9 hSw; (try dsimp only at hSw); go_simp; (first | done | with_reducible rfl)
              (try simp only [List.getElem_toArray, List.getElem_cons_succ, List.getElem_cons_zero, Act.put, List.setIfInBounds_toArray, List.set_cons_zero, List.set_cons_succ])
              refine wpT_take (i := 6) (v := ?_) rfl (by kernel_rfl) (by decide) (by kernel_rfl) (by kernel_rfl) (by kernel_rfl) (fun _ _ _ h => h) (Or.inl ⟨by rfl, ?_⟩) (by assumption) ?_
              rotate_left
              · intro w9 hSw; (try dsimp only at hSw); go_simp; (first | done | with_reducible rfl)
              (try simp only [List.getElem_toArray, List.getElem_cons_succ, List.getElem_cons_zero, Act.put, List.setIfInBounds_toArray, List.set_cons_zero, List.set_cons_succ])
              have b0 := BX.cell 0 _ rfl; have b1 := BX.cell 1 _ rfl; have bf := BX.fr; have bl := BX.lt
              clear c0 c1
              refine wpT_step (i := 8) (by kernel_rfl) (by decide) rfl (fun K hK => ?_)
              go_simp
              refine hK.out _ _ ?_ (fun hHeld2 => ?_)
              · (try dsimp only); have hCg : Chg (wd.heap.size) (wd.heap.size + 1) w6 _ := (Chg.setCell w6 ⟨wd.heap.size, 0, none⟩ (.slice pa (nrep m 60).1.length pc) (Nat.le_refl _) (Nat.lt_succ_self _)).trans (Chg.setCell _ ⟨wd.heap.size, 1, none⟩ (.slice qa (nrep m 60).2.length qc) (Nat.le_refl _) (Nat.lt_succ_self _)); exact ⟨cell_chg hHeld.1 hCg (by omega), cell_chg hHeld.2.1 hCg (by omega), Chg.ext hHeld.2.2 hCg (by omega)⟩
              clear hHeld
              rename _ => hHeld
              clear hK K
              (try simp only [List.getElem_toArray, List.getElem_cons_succ, List.getElem_cons_zero, Act.put, List.setIfInBounds_toArray, List.set_cons_zero, List.set_cons_succ])
              clear hHeld
              refine wpT_last (by kernel_rfl) (by kernel_rfl) rfl (fun K hK => ?_)
              go_simp
              refine hK.out _ _ ?_
              clear hK K
              go_wp2_with fail
              go_meet
              exact ⟨wd.heap.size, w6.heap.size, _, _, rfl, rfl, by omega, Lib.hid ⟨HF6.out.far (b := wd.heap.size) (by omega) (by omega) hdn hnm _ _, SN.far HX6.out (by omega) (by omega) _ _, SN.mk BX (by omega) hO6 (by omega) (by omega) (Nat.le_refl _)⟩⟩
          case rest =>
            obtain ⟨g2, T2, x2, y2, rfl, rfl, hg2, HJ⟩ := hcut
            obtain ⟨we, hwe⟩ : ∃ w, w = wc := ⟨_, rfl⟩
            subst hwe
            have c0 := HJ.out.1.net.cell 0 _ rfl; have c1 := HJ.out.1.net.cell 1 _ rfl; have e0 := HJ.out.2.1.1.cell 0 _ rfl; have e1 := HJ.out.2.1.1.cell 1 _ rfl
            clear HI
            go_wp2_with fail
            refine (implSameNet_c _ _ (nrep m 60) (nrep m 60) _ HJ.out.2.1.view HJ.out.1.view).mono ?_
            rw [decide_eq_true rfl]
            rintro e w7 ⟨rfl, X7⟩
            have HJ7 := Lib.hid (And.intro (HJ.out.1.grow X7) (And.intro (HJ.out.2.1.grow X7) (HJ.out.2.2.grow X7)))
            clear X7 HJ c0 c1 e0 e1
            have c0 := HJ7.out.1.net.cell 0 _ rfl; have c1 := HJ7.out.1.net.cell 1 _ rfl; have e0 := HJ7.out.2.2.1.cell 0 _ rfl; have e1 := HJ7.out.2.2.1.cell 1 _ rfl
            go_wp2_with fail
            refine (implSameNet_c _ _ (nrep m 60) (nrep m 60) _ HJ7.out.2.2.view HJ7.out.1.view).mono ?_
            rw [decide_eq_true rfl]
            rintro e w8 ⟨rfl, X8⟩
            have HI := Lib.hid (And.intro (HJ7.out.1.grow X8) (HJ7.out.2.1.grow X8))
            clear X8 HJ7 c0 c1 e0 e1
            have c0 := HI.out.1.net.cell 0 _ rfl; have c1 := HI.out.1.net.cell 1 _ rfl
            have xx0 := HI.out.1.dd.ext
            go_wp2
            refine wp_region_T (S := fun ω => ω.cell? ⟨w2.heap.size, 0, none⟩ = some (u) ∧ ω.cell? ⟨w2.heap.size, 1, none⟩ = some (v) ∧ Ext W ω) 8 (by kernel_rfl) ?_ (fun hHeld => ?_) (by decide)
            · (try dsimp only); exact ⟨c0, c1, xx0.trans (Ext.drew _)⟩
            refine wpT_take (i := 0) (v := ?_) rfl (by kernel_rfl) (by decide) (by kernel_rfl) (by kernel_rfl) (by kernel_rfl) (fun _ _ _ h => h) (Or.inl ⟨by rfl, ?_⟩) (by assumption) ?_
            rotate_left
            · intro w9 hSw; (try dsimp only at hSw); go_simp; (first | done | with_reducible rfl)
            (try simp only [List.getElem_toArray, List.getElem_cons_succ, List.getElem_cons_zero, Act.put, List.setIfInBounds_toArray, List.set_cons_zero, List.set_cons_succ])
            refine wpT_take (i := 1) (v := ?_) rfl (by kernel_rfl) (by decide) (by kernel_rfl) (by kernel_rfl) (by kernel_rfl) (fun _ _ _ h => h) (Or.inl ⟨by rfl, ?_⟩) (by assumption) ?_
            rotate_left
            · intro w9 hSw; (try dsimp only at hSw); go_simp; (first | done | with_reducible rfl)
            (try simp only [List.getElem_toArray, List.getElem_cons_succ, List.getElem_cons_zero, Act.put, List.setIfInBounds_toArray, List.set_cons_zero, List.set_cons_succ])
            refine wpT_step (i := 2) (by kernel_rfl) (by decide) rfl (fun K hK => ?_)
            go_simp
            refine ((HI.out.1.dd.grow (Ext.drew _)).below 60 (by decide)).mono ?_
            rintro e w5 ⟨i5, hi50, hi51, rfl, hD5, hC5⟩
            have HF5 := Lib.hid (FS.dice (HI.out.1.grow (Ext.drew _)) hC5 hD5 hdn hnm)
            have HX5 := Lib.hid ((HI.out.2.grow (Ext.drew _)).dice hC5 (by omega))
            have HS := Lib.hid (lost_full HMO.out hi50 hi51)
            (try go_wp2_with fail)
            refine hK.out _ _ ?_ (fun hHeld2 => ?_)
            · (try dsimp only); (obtain ⟨s0, s1, s2⟩ := hHeld; exact ⟨cell_chg s0 hC5 (by omega), cell_chg s1 hC5 (by omega), Chg.ext s2 hC5 (by omega)⟩)
            clear hK K hHeld
            rename _ => hHeld
            (try simp only [List.getElem_toArray, List.getElem_cons_succ, List.getElem_cons_zero, Act.put, List.setIfInBounds_toArray, List.set_cons_zero, List.set_cons_succ])
            refine wpT_step (i := 3) (by kernel_rfl) (by decide) rfl (fun K hK => ?_)
            go_simp
            refine (implLost_c _ (nrep m 60) i5 _ HF5.out.view).mono ?_
            rw [HS.out]
            rintro e w6 ⟨x6, y6, rfl, hE6, hO6⟩
            obtain ⟨⟨pa, pc, rfl⟩, qa, qc, rfl⟩ := net_form hO6
            have hl1 : (nrep m 59).1.length = 59 := by simp [nrep]
            have hl2 : (nrep m 59).2.length = 0 := rfl
            (try simp only at hO6 ⊢)
            rw [hl1, hl2] at hO6 ⊢
            have HF6 := Lib.hid (HF5.out.grow hE6)
            have HX6 := Lib.hid (HX5.out.grow hE6)
            have zg := HX5.out.1.lt
            (try go_wp2_with fail)
            refine hK.out _ _ ?_ (fun hHeld2 => ?_)
            · (try dsimp only); (obtain ⟨s0, s1, s2⟩ := hHeld; exact ⟨cell_ext s0 hE6, cell_ext s1 hE6, s2.trans hE6⟩)
            clear hK K hHeld
            rename _ => hHeld
            (try simp only [List.getElem_toArray, List.getElem_cons_succ, List.getElem_cons_zero, Act.put, List.setIfInBounds_toArray, List.set_cons_zero, List.set_cons_succ])
            refine wpT_take (i := 4) (v := ?_) rfl (by kernel_rfl) (by decide) (by kernel_rfl) (by kernel_rfl) (by kernel_rfl) (fun _ _ _ h => h) (Or.inl ⟨by rfl, ?_⟩) (by assumption) ?_
            rotate_left
            · intro w9 hSw; (try dsimp only at hSw); go_simp; (first | done | with_reducible rfl)
            (try simp only [List.getElem_toArray, List.getElem_cons_succ, List.getElem_cons_zero, Act.put, List.setIfInBounds_toArray, List.set_cons_zero, List.set_cons_succ])
            refine wpT_take (i := 5) (v := ?_) rfl (by kernel_rfl) (by decide) (by kernel_rfl) (by kernel_rfl) (by kernel_rfl) (fun _ _ _ h => h) (Or.inl ⟨by rfl, ?_⟩) (by assumption) ?_
            rotate_left
            · intro w9 hSw; (try dsimp only at hSw); go_simp; (first | done | with_reducible rfl)
            (try simp only [List.getElem_toArray, List.getElem_cons_succ, List.getElem_cons_zero, Act.put, List.setIfInBounds_toArray, List.set_cons_zero, List.set_cons_succ])
            refine wpT_take (i := 6) (v := ?_) rfl (by kernel_rfl) (by decide) (by kernel_rfl) (by kernel_rfl) (by kernel_rfl) (fun _ _ _ h => h) (Or.inl ⟨by rfl, ?_⟩) (by assumption) ?_
            rotate_left
            · intro w9 hSw; (try dsimp only at hSw); go_simp; (first | done | with_reducible rfl)
            (try simp only [List.getElem_toArray, List.getElem_cons_succ, List.getElem_cons_zero, Act.put, List.setIfInBounds_toArray, List.set_cons_zero, List.set_cons_succ])
            refine wpT_step (i := 7) (by kernel_rfl) (by decide) rfl (fun K hK => ?_)
            have b0 := HX6.out.1.cell 0 _ rfl; have b1 := HX6.out.1.cell 1 _ rfl; have bf := HX6.out.1.fr; have bl := HX6.out.1.lt
            clear c0 c1
            go_simp
            refine hK.out _ _ ?_ (fun hHeld2 => ?_)
            · (try dsimp only); have hCg : Chg g (g + 1) w6 _ := (Chg.setCell w6 ⟨g, 0, none⟩ (.slice pa 59 pc) (Nat.le_refl _) (Nat.lt_succ_self _)).trans (Chg.setCell _ ⟨g, 1, none⟩ (.slice qa 0 qc) (Nat.le_refl _) (Nat.lt_succ_self _)); exact ⟨cell_chg hHeld.1 hCg (by omega), cell_chg hHeld.2.1 hCg (by omega), Chg.ext hHeld.2.2 hCg (by omega)⟩
            clear hK K hHeld
            rename _ => hHeld
            (try simp only [List.getElem_toArray, List.getElem_cons_succ, List.getElem_cons_zero, Act.put, List.setIfInBounds_toArray, List.set_cons_zero, List.set_cons_succ])
            refine wpT_last (by kernel_rfl) (by kernel_rfl) rfl (fun K hK => ?_)
            clear hHeld
            go_simp
            refine hK.out _ _ ?_
            clear hK K
            have HF7 : Hid (FS W ca n cc db w2.heap.size w3.heap.size top m (.slice ma m.2.2.length mc) ((w6.setCell ⟨g, 0, none⟩ (.slice pa 59 pc)).setCell ⟨g, 1, none⟩ (.slice qa 0 qc)) u v (nrep m 60)) := HF6.out.far (by omega) (by omega) hdn hnm _ _
            have HX7 : Hid (SN w3.heap.size w6.heap.size g ((w6.setCell ⟨g, 0, none⟩ (.slice pa 59 pc)).setCell ⟨g, 1, none⟩ (.slice qa 0 qc)) (.slice pa 59 pc) (.slice qa 0 qc) (nrep m 59)) := HX6.out.put hO6 (by omega) (by omega) (Nat.le_refl _)
            clear HF6 HX6 hO6 hE6 HF5 HX5 HS hC5 hD5 b0 b1 bf bl HI xx0 hl1 hl2 zg
            generalize ((w6.setCell ⟨g, 0, none⟩ (.slice pa 59 pc)).setCell ⟨g, 1, none⟩ (.slice qa 0 qc)) = wf at *
            have m0 := HF7.out.ltr.cell 0 _ rfl; have m1 := HF7.out.ltr.cell 1 _ rfl; have m2 := HF7.out.ltr.cell 2 _ rfl
            have e0 := HX7.out.1.cell 0 _ rfl; have e1 := HX7.out.1.cell 1 _ rfl
            have Hsr := Lib.hid (sent_rep HMO.out (k := 59) (by omega))
            go_wp2_with fail
            refine (implSent_c _ _ (nrep m 59) m _ HX7.out.view HF7.out.mo.view).mono ?_
            rw [Hsr.out]
            rintro e w9 ⟨x9, y9, rfl, hE9, hO9⟩
            obtain ⟨⟨ra, rc, rfl⟩, rb, rd, rfl⟩ := net_form hO9
            have hl1 : (nrep m (59 + 1)).1.length = 60 := by simp [nrep]
            have hl2 : (nrep m (59 + 1)).2.length = 0 := rfl
            (try simp only at hO9 ⊢)
            rw [hl1, hl2] at hO9 ⊢
            have zg := HX7.out.1.lt
            have HF9 := Lib.hid (HF7.out.grow hE9); have HX9 := Lib.hid (HX7.out.grow hE9); have HO9 := Lib.hid hO9
            have HX10 : Hid (SN w3.heap.size w9.heap.size g ((w9.setCell ⟨g, 0, none⟩ (.slice ra 60 rc)).setCell ⟨g, 1, none⟩ (.slice rb 0 rd)) (.slice ra 60 rc) (.slice rb 0 rd) (nrep m 60)) := HX9.out.put HO9.out (by omega) (by omega) (Nat.le_refl _)
            have HF10 := Lib.hid (HF9.out.far (b := g) (by omega) (by omega) hdn hnm (.slice ra 60 rc) (.slice rb 0 rd))
            clear hE9 hO9 HF7 HX7 m0 m1 m2 e0 e1 hl1 hl2 Hsr
            have b0 := HX9.out.1.cell 0 _ rfl; have b1 := HX9.out.1.cell 1 _ rfl; have bf := HX9.out.1.fr; have bl := HX9.out.1.lt
            have c0 := HF10.out.net.cell 0 _ rfl; have c1 := HF10.out.net.cell 1 _ rfl; have e0 := HX10.out.1.cell 0 _ rfl; have e1 := HX10.out.1.cell 1 _ rfl
            go_wp2_with fail
            refine (implSameNet_c _ _ (nrep m 60) (nrep m 60) _ HX10.out.view HF10.out.view).mono ?_
            rw [decide_eq_true rfl]
            rintro e w11 ⟨rfl, X11⟩
            go_wp2
            go_ret
            exact ⟨rfl, HF10.out.dd.ext.trans X11⟩

set_option maxRecDepth 100000 in
theorem fullnet_holds : Rows.FnFullNetSaid :=
  OpenClaim.holds_of_wide 14 Try.f14 rfl rfl rfl rfl rfl rfl rfl ⟨rfl, rfl, rfl, rfl, rfl⟩ rfl rfl rfl rfl rfl (by kernel_rfl) Try.func14 (by kernel_rfl)
    (of_decide_eq_true (by kernel_rfl)) (by unfold Func.isWrapper; rw [if_neg (of_decide_eq_false (by kernel_rfl))]; exact ⟨rfl, rfl⟩)
    (fun os started H enc _ => law_lifted (C := Try.checked) (f := 14) (fn := Try.f14) (s := Rows.fnFullNetSpec) (tb := 4) Try.own started (by kernel_rfl) Try.func14 Try.laidOut (of_decide_eq_true (by kernel_rfl)) rfl Try.underlying4 rfl
      (fun ds h => by match ds, h with | [_], _ => exact ⟨rfl, rfl, rfl⟩)
      (ChangeSpec.witness6 (enc := enc) (C := Try.checked) false ⟨#[], #[.slice none 0 0], []⟩ 8 (by kernel_rfl) (by kernel_rfl) (by kernel_rfl) (by kernel_rfl))
      fullnet_c)

end Go.Proofs.Ytkigfmkdbgcpeaa

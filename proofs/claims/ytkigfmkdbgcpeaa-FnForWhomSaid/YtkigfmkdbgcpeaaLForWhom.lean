/- The law FnForWhom is true for every input: it returns true, and what it was given reads as before. -/
import Derived.Test.YtkigfmkdbgcpeaaCod
import Derived.Test.YtkigfmkdbgcpeaaLet
import Derived.Test.YtkigfmkdbgcpeaaNn
import Derived.Test.YtkigfmkdbgcpeaaFwp
import Derived.Test.YtkigfmkdbgcpeaaNt7
set_option linter.unusedVariables false
set_option linter.unusedSimpArgs false
namespace Go.Proofs.Ytkigfmkdbgcpeaa
open Go.RowKit Go.Sl

/-- All letters are right, and there are few. -/
def few (ms : List MsgD) (k : Nat) : Prop := (∀ x ∈ ms, msgOk x = true) ∧ ms.length + k ≤ 8
theorem few_ok {ms : List MsgD} {k : Nat} (h : few ms k) : netOk (ms, []) = true := by
  unfold netOk
  simp only [List.length_nil, Bool.and_eq_true, decide_eq_true_eq]
  exact ⟨⟨⟨by have := h.2; omega, by omega⟩, List.all_eq_true.2 h.1⟩, by rfl⟩
theorem few_sent {ms : List MsgD} {k : Nat} {m : MsgD} (h : few ms (k + 1)) (hm : msgOk m = true) : sent (ms, []) m = ((ms ++ [m], []), true) ∧ few (ms ++ [m]) k := by
  refine ⟨?_, ?_, ?_⟩
  · unfold sent
    rw [if_pos ⟨few_ok h, hm⟩, if_neg (by have := h.2; show ¬ ms.length = 60; omega)]
  · intro x hx
    rcases List.mem_append.1 hx with hx | hx
    · exact h.1 x hx
    · rw [List.mem_singleton.1 hx]; exact hm
  · have := h.2
    rw [List.length_append]; simp; omega
/-- The net of the law, in its box. -/
structure GS (nb : Nat) (w : World) (u v : Value) (d : NetD) : Prop where
  net : Bx w nb [u, v]
  no : ∃ lo hi, netC.own lo hi w [u, v] d ∧ nb < lo ∧ hi ≤ w.heap.size
section
variable {W w w' : World} {a : Option Addr} {n cc db nb lo hi g : Nat} {u v : Value} {d : NetD} {M l : List Int}
theorem GS.view (h : GS nb w u v d) : netC.V w [u, v] d := let ⟨_, _, hO, _⟩ := h.no; hO.view
theorem GS.grow (h : GS nb w u v d) (he : Ext w w') : GS nb w' u v d := by
  obtain ⟨l, k, hO, h1, h2⟩ := h.no
  exact ⟨h.net.ext he, l, k, hO.ext he, h1, by have := he.size; omega⟩
theorem GS.dice (h : GS nb w u v d) (hC : Chg db (db + 1) w w') (h1 : db < nb) : GS nb w' u v d := by
  obtain ⟨l, k, hO, h3, h4⟩ := h.no
  exact ⟨h.net.chg hC (by omega), l, k, hO.chg hC (by omega), h3, by have := hC.size; omega⟩
theorem GS.put (h : GS nb w u v d) {u' v' : Value} {d' : NetD} (hO : netC.own lo hi w [u', v'] d') (hlo : nb < lo) (hhi : hi ≤ w.heap.size) : GS nb ((w.setCell ⟨nb, 0, none⟩ u').setCell ⟨nb, 1, none⟩ v') u' v' d' := by
  have hC : Chg nb (nb + 1) w ((w.setCell ⟨nb, 0, none⟩ u').setCell ⟨nb, 1, none⟩ v') := (Chg.setCell w ⟨nb, 0, none⟩ u' (Nat.le_refl _) (Nat.lt_succ_self _)).trans (Chg.setCell _ ⟨nb, 1, none⟩ v' (Nat.le_refl _) (Nat.lt_succ_self _))
  exact ⟨Bx.set21 (Bx.set20 h.net u') v', lo, hi, hO.chg hC (by omega), hlo, by have := hC.size; omega⟩
theorem Dd.put (h : Dd W a n cc db w) (hd : db < nb) (x y : Value) : Dd W a n cc db ((w.setCell ⟨nb, 0, none⟩ x).setCell ⟨nb, 1, none⟩ y) := (h.set hd x).set hd y
/-- And the row of what was met, at block g. -/
structure MS (W : World) (nb g : Nat) (w : World) (u v : Value) (d : NetD) (M : List Int) : Prop where
  ext : Ext W w
  net : Bx w nb [u, v]
  no : ∃ lo hi, netC.own lo hi w [u, v] d ∧ hi ≤ g
  met : ISl w (some ⟨g, 0, none⟩) d.1.length M
  lt : nb < g ∧ W.heap.size ≤ g
theorem MS.view (h : MS W nb g w u v d M) : netC.V w [u, v] d := let ⟨_, _, hO, _⟩ := h.no; hO.view
theorem MS.grow (h : MS W nb g w u v d M) (he : Ext w w') : MS W nb g w' u v d M := by
  obtain ⟨l, k, hO, h1⟩ := h.no
  exact ⟨h.ext.trans he, h.net.ext he, ⟨l, k, hO.ext he, h1⟩, h.met.ext he, h.lt⟩
theorem MS.put (h : MS W nb g w u v d M) {j : Nat} (hj : j < M.length) (x : Int) : MS W nb g (w.setCell ⟨g, j, none⟩ (.int .i64 x)) u v d (M.set j x) := by
  obtain ⟨l, k, hO, h1⟩ := h.no
  have hC : Chg g (g + 1) w (w.setCell ⟨g, j, none⟩ (.int .i64 x)) := Chg.setCell w ⟨g, j, none⟩ _ (Nat.le_refl _) (Nat.lt_succ_self _)
  have hs := ((h.met.store hj).2.2 x).1
  rw [Nat.zero_add] at hs
  exact ⟨Chg.ext h.ext hC h.lt.2, h.net.chg hC (by have := h.lt.1; omega), ⟨l, k, hO.chg hC (by omega), h1⟩, hs, h.lt⟩
theorem MS.cell (h : MS W nb g w u v d M) {j : Nat} {x : Int} (hx : Hid (M[j]? = some x)) : w.cell? ⟨g, j, none⟩ = some (.int .i64 x) ∧ w.frozen? ⟨g, j, none⟩ = false := by
  obtain ⟨hj, he⟩ := List.getElem?_eq_some_iff.1 hx.out
  obtain ⟨⟨y, hy, hy2⟩, hf, _⟩ := h.met.store hj
  rw [Nat.zero_add] at hy hf
  rw [hx.out] at hy2
  cases hy2.out
  exact ⟨hy, hf⟩
theorem own_blk {lo hi : Nat} {w : World} {b o k c : Nat} {s : List Int} (h : rowC.own lo hi w [.slice (some ⟨b, o, none⟩) k c] s) : lo ≤ b ∧ b < hi := by
  obtain ⟨fp, ⟨a, cap, xs, fps, h1, _, _, _, _, rfl⟩, _, h3⟩ := h
  cases h1
  exact h3 b (by simp [ablk])
theorem msgs_at {w : World} {a : Option Addr} {cap : Nat} {ms : List MsgD} {v : Value} (h : netC.V w [.slice a ms.length cap, v] (ms, [])) {j : Nat} {x : MsgD} (hx : Hid (ms[j]? = some x)) :
    ∃ b off, a = some ⟨b, off, none⟩ ∧ w.cell? ⟨b, off + j * 3 + 1, none⟩ = some (.int .i64 x.2.1) := by
  obtain ⟨u', v', e, hu, hv⟩ := net_V.1 h
  cases e
  obtain ⟨a', cap', e2, _, _, hc⟩ := slice_open (R := msgC) (by decide) hu
  cases e2
  obtain ⟨b, off, y, c, ha, hy, hvy, hcell⟩ := hc j (List.getElem?_eq_some_iff.1 hx.out).1
  have : y = x := by have h1 := hy.out; rw [hx.out] at h1; exact (Option.some.inj h1).symm
  subst this
  obtain ⟨z, rfl, _⟩ := msg_V.1 hvy
  exact ⟨b, off, ha, hcell 1 _ rfl⟩
end

set_option maxHeartbeats 4000000 in
set_option maxRecDepth 100000 in
theorem forwhom_c (W : World) (args : Array Value) (hs : args.size = 1) (h : ∀ (j : Nat) t v, Try.f13.params[j]? = some t → args[j]? = some v → ArgOk Try.prog W t v) :
    Calls Try.prog 13 args W fun e W' => e = .returned (.bool true) ∧ Ext W W' := by
  match args, hs with
  | ⟨[a0]⟩, _ =>
    obtain ⟨ca, n, cc, rfl, hn1, hn2, HC⟩ := arg_codeR (h 0 _ a0 rfl rfl)
    clear h
    by_cases hbig : n ≤ 4096
    rotate_left
    · have hb : decide ((4096 : Int) < n) = true := by rw [decide_eq_true_iff]; omega
      have Hb := Lib.hid hb; clear hb
      go_enter Try.func13, Try.ntmps13
      go_wp2_with (go_at_call 48; refine (big_c _ _ _ _).mono ?_; rw [Hb.out]; rintro e w' ⟨rfl, rfl⟩)
      go_ret
      exact ⟨rfl, Ext.refl _⟩
    have hb : decide ((4096 : Int) < n) = false := by rw [decide_eq_false_iff_not]; omega
    have Hb := Lib.hid hb; clear hb
    go_enter Try.func13, Try.ntmps13
    go_wp2_with fail
    refine (big_c _ _ _ _).mono ?_
    rw [Hb.out]
    rintro e w' ⟨rfl, rfl⟩
    go_wp2_with fail
    refine (roll_c n cc ca 903 _ hbig HC.out).mono ?_
    rintro e w1 ⟨db, rfl, hdb, hD, -, X1⟩
    have HD1 : Hid (Dd W ca n cc db w1) := Lib.hid ⟨hD, X1, HC.out, hdb⟩
    have hdl := hD.lt
    clear hD X1
    go_wp2_with fail
    refine (newNet_c _).mono ?_
    rintro e w2 ⟨rfl, X2⟩
    have z2 := X2.size
    have HD2 := Lib.hid (HD1.out.grow X2)
    clear X2 HD1
    go_wp2_with fail
    refine ((HD2.out.grow (Ext.alloc _ _)).below 9 (by decide)).mono ?_
    rintro e w3 ⟨k, hk0, hk1, rfl, hD3, hC3⟩
    obtain ⟨k, rfl⟩ := Int.eq_ofNat_of_zero_le hk0
    have hG : GS w2.heap.size w3 (.slice none 0 0) (.slice none 0 0) ([], []) :=
      ⟨Bx.chg (Bx.new _ _ _ _ rfl) hC3 (by omega), w2.heap.size + 1, w2.heap.size + 1, net_nil _ _ _, Nat.lt_succ_self _, by have := hC3.size; (try simp at this); omega⟩
    have HG := Lib.hid (And.intro hD3 hG)
    have hdn : db < w2.heap.size := by omega
    clear hD3 hC3 hG HD2
    go_wp2
    go_loopw [5] (fun v5 wr => ∃ (k : Nat) (ms : List MsgD) (pa qa : Option Addr) (pc qc : Nat), k ≤ 8 ∧ v5 = .int .i64 k ∧ Hid (few ms k) ∧ Hid (Dd W ca n cc db wr ∧ GS w2.heap.size wr (.slice pa ms.length pc) (.slice qa 0 qc) (ms, []))) (fun v5 _ => (intOf v5).toNat)
    case atStart => exact ⟨k, [], none, none, 0, 0, by omega, rfl, Lib.hid ⟨by simp, by simp; omega⟩, HG⟩
    case round =>
      clear HG hk0 hk1
      obtain ⟨k, ms, pa, qa, pc, qc, hk, rfl, HF, HI⟩ := hrel
      obtain ⟨wa, hwa⟩ : ∃ w, w = wr := ⟨_, rfl⟩
      subst hwa
      have c0 := HI.out.2.net.cell 0 _ rfl; have c1 := HI.out.2.net.cell 1 _ rfl
      by_cases hk0 : 0 < k
      · have hkd : decide ((0 : Int) < k) = true := by rw [decide_eq_true_iff]; omega
        obtain ⟨k, rfl⟩ : ∃ j, k = j + 1 := ⟨k - 1, by omega⟩
        have hw1 : IntKind.i64.wrap (((k + 1 : Nat) : Int) - 1) = (k : Int) := by rw [IntWalk.i64_in _ (by omega)]; omega
        go_wp2
        refine wp_region_held_drew (S := fun _ => True) (by kernel_rfl) trivial (fun hHeld => ?_)
        refine wpAnyH_take (i := 1) (v := ?_) rfl (by kernel_rfl) (by kernel_rfl) (by kernel_rfl) (fun _ _ _ h => h) (Or.inl ⟨by rfl, ?_⟩) (by assumption) ?_
        rotate_left
        · intro w9 hSw; (try dsimp only at hSw); go_simp; (first | done | with_reducible rfl)
        (try simp only [List.getElem_toArray, List.getElem_cons_succ, List.getElem_cons_zero, Act.put, List.setIfInBounds_toArray, List.set_cons_zero, List.set_cons_succ])
        refine wpAnyH_ready (rs := [0, 2]) (by kernel_rfl) (by simp) ?_
        refine AllReadyH.cons rfl (fun K hK => ?_) (AllReadyH.cons rfl (fun K hK => ?_) AllReadyH.nil)
        · go_simp
          refine hK.out _ _ trivial (fun hHeld2 => ?_)
          clear hK K hHeld
          rename _ => hHeld
          (try simp only [List.getElem_toArray, List.getElem_cons_succ, List.getElem_cons_zero, Act.put, List.setIfInBounds_toArray, List.set_cons_zero, List.set_cons_succ])
          refine wpAnyH_ready (rs := [2]) (by kernel_rfl) (by simp) ?_
          refine AllReadyH.cons rfl (fun K hK => ?_) AllReadyH.nil
          go_simp
          refine (w9Letter_c W ca n cc db _ (HI.out.1.grow (Ext.drew _))).mono ?_
          rintro e w5 ⟨lv, ml, rfl, hml, hD5, hC5, hO5⟩
          obtain ⟨la, lc, rfl⟩ : ∃ a c, lv = .slice a ml.2.2.length c := by
            obtain ⟨v9, e9, h9⟩ := msg_own.1 hO5
            cases e9
            exact sl_form h9.view
          have hG5 := (HI.out.2.grow (Ext.drew _)).dice hC5 hdn
          have HS := Lib.hid (few_sent HF.out hml)
          (try go_wp2_with fail)
          refine hK.out _ _ trivial (fun hHeld2 => ?_)
          clear hK K hHeld
          rename _ => hHeld
          (try simp only [List.getElem_toArray, List.getElem_cons_succ, List.getElem_cons_zero, Act.put, List.setIfInBounds_toArray, List.set_cons_zero, List.set_cons_succ])
          refine wpAnyH_ready (rs := [3]) (by kernel_rfl) (by simp) ?_
          refine AllReadyH.cons rfl (fun K hK => ?_) AllReadyH.nil
          go_simp
          refine (implSent_c _ _ (ms, []) ml _ hG5.view hO5.view).mono ?_
          rw [HS.out.1]
          rintro e w6 ⟨x, y, rfl, hE6, hO6⟩
          obtain ⟨⟨ra, rc, rfl⟩, rb, rd, rfl⟩ := net_form hO6
          have hll : (ms ++ [ml]).length = ms.length + 1 := by simp
          (try simp only [List.length_nil] at hO6 ⊢)
          rw [hll] at hO6 ⊢
          have hG6 := hG5.grow hE6
          have hD6 := hD5.grow hE6
          (try go_wp2_with fail)
          refine hK.out _ _ trivial (fun hHeld2 => ?_)
          clear hK K hHeld
          rename _ => hHeld
          (try simp only [List.getElem_toArray, List.getElem_cons_succ, List.getElem_cons_zero, Act.put, List.setIfInBounds_toArray, List.set_cons_zero, List.set_cons_succ])
          refine wpAnyH_take (i := 4) (v := ?_) rfl (by kernel_rfl) (by kernel_rfl) (by kernel_rfl) (fun _ _ _ h => h) (Or.inl ⟨by rfl, ?_⟩) (by assumption) ?_
          rotate_left
          · intro w9 hSw; (try dsimp only at hSw); go_simp; (first | done | with_reducible rfl)
          (try simp only [List.getElem_toArray, List.getElem_cons_succ, List.getElem_cons_zero, Act.put, List.setIfInBounds_toArray, List.set_cons_zero, List.set_cons_succ])
          refine wpAnyH_take (i := 5) (v := ?_) rfl (by kernel_rfl) (by kernel_rfl) (by kernel_rfl) (fun _ _ _ h => h) (Or.inl ⟨by rfl, ?_⟩) (by assumption) ?_
          rotate_left
          · intro w9 hSw; (try dsimp only at hSw); go_simp; (first | done | with_reducible rfl)
          (try simp only [List.getElem_toArray, List.getElem_cons_succ, List.getElem_cons_zero, Act.put, List.setIfInBounds_toArray, List.set_cons_zero, List.set_cons_succ])
          refine wpAnyH_take (i := 6) (v := ?_) rfl (by kernel_rfl) (by kernel_rfl) (by kernel_rfl) (fun _ _ _ h => h) (Or.inl ⟨by rfl, ?_⟩) (by assumption) ?_
          rotate_left
          · intro w9 hSw; (try dsimp only at hSw); go_simp; (first | done | with_reducible rfl)
          (try simp only [List.getElem_toArray, List.getElem_cons_succ, List.getElem_cons_zero, Act.put, List.setIfInBounds_toArray, List.set_cons_zero, List.set_cons_succ])
          have d0 := hG6.net.cell 0 _ rfl; have d1 := hG6.net.cell 1 _ rfl; have fn := hG6.net.fr; have ln := hG6.net.lt
          clear c0 c1
          refine wpAnyH_ready (rs := [7]) (by kernel_rfl) (by simp) ?_
          refine AllReadyH.cons rfl (fun K hK => ?_) AllReadyH.nil
          go_simp
          refine hK.out _ _ trivial (fun hHeld2 => ?_)
          clear hK K hHeld
          rename _ => hHeld
          (try simp only [List.getElem_toArray, List.getElem_cons_succ, List.getElem_cons_zero, Act.put, List.setIfInBounds_toArray, List.set_cons_zero, List.set_cons_succ])
          refine wpAnyH_done (by kernel_rfl) ?_ _
          clear hHeld d0 d1
          have HF7 : Hid (Dd W ca n cc db ((w6.setCell ⟨w2.heap.size, 0, none⟩ (.slice ra (ms.length + 1) rc)).setCell ⟨w2.heap.size, 1, none⟩ (.slice rb 0 rd)) ∧ GS w2.heap.size ((w6.setCell ⟨w2.heap.size, 0, none⟩ (.slice ra (ms.length + 1) rc)).setCell ⟨w2.heap.size, 1, none⟩ (.slice rb 0 rd)) (.slice ra (ms ++ [ml]).length rc) (.slice rb 0 rd) (ms ++ [ml], [])) := by
            rw [hll]
            exact Lib.hid ⟨hD6.put hdn _ _, hG6.put hO6 (by have := hG5.net.lt; omega) (Nat.le_refl _)⟩
          clear hD5 hC5 hO5 hG5 hE6 hO6 hG6 hD6 HI hll fn ln
          go_wp2
          go_roundw
          case rel => exact ⟨k, ms ++ [ml], ra, rb, rc, rd, by omega, by go_num, Lib.hid HS.out.2, HF7⟩
          case measure => (simp [intOf] <;> omega)
        · go_simp
          refine (w9Letter_c W ca n cc db _ (HI.out.1.grow (Ext.drew _))).mono ?_
          rintro e w5 ⟨lv, ml, rfl, hml, hD5, hC5, hO5⟩
          obtain ⟨la, lc, rfl⟩ : ∃ a c, lv = .slice a ml.2.2.length c := by
            obtain ⟨v9, e9, h9⟩ := msg_own.1 hO5
            cases e9
            exact sl_form h9.view
          have hG5 := (HI.out.2.grow (Ext.drew _)).dice hC5 hdn
          have HS := Lib.hid (few_sent HF.out hml)
          (try go_wp2_with fail)
          refine hK.out _ _ trivial (fun hHeld2 => ?_)
          clear hK K hHeld
          rename _ => hHeld
          (try simp only [List.getElem_toArray, List.getElem_cons_succ, List.getElem_cons_zero, Act.put, List.setIfInBounds_toArray, List.set_cons_zero, List.set_cons_succ])
          clear c0 c1
          have c0 := hG5.net.cell 0 _ rfl; have c1 := hG5.net.cell 1 _ rfl
          refine wpAnyH_ready (rs := [0]) (by kernel_rfl) (by simp) ?_
          refine AllReadyH.cons rfl (fun K hK => ?_) AllReadyH.nil
          go_simp
          refine hK.out _ _ trivial (fun hHeld2 => ?_)
          clear hK K hHeld
          rename _ => hHeld
          (try simp only [List.getElem_toArray, List.getElem_cons_succ, List.getElem_cons_zero, Act.put, List.setIfInBounds_toArray, List.set_cons_zero, List.set_cons_succ])
          refine wpAnyH_ready (rs := [3]) (by kernel_rfl) (by simp) ?_
          refine AllReadyH.cons rfl (fun K hK => ?_) AllReadyH.nil
          go_simp
          refine (implSent_c _ _ (ms, []) ml _ hG5.view hO5.view).mono ?_
          rw [HS.out.1]
          rintro e w6 ⟨x, y, rfl, hE6, hO6⟩
          obtain ⟨⟨ra, rc, rfl⟩, rb, rd, rfl⟩ := net_form hO6
          have hll : (ms ++ [ml]).length = ms.length + 1 := by simp
          (try simp only [List.length_nil] at hO6 ⊢)
          rw [hll] at hO6 ⊢
          have hG6 := hG5.grow hE6
          have hD6 := hD5.grow hE6
          (try go_wp2_with fail)
          refine hK.out _ _ trivial (fun hHeld2 => ?_)
          clear hK K hHeld
          rename _ => hHeld
          (try simp only [List.getElem_toArray, List.getElem_cons_succ, List.getElem_cons_zero, Act.put, List.setIfInBounds_toArray, List.set_cons_zero, List.set_cons_succ])
          refine wpAnyH_take (i := 4) (v := ?_) rfl (by kernel_rfl) (by kernel_rfl) (by kernel_rfl) (fun _ _ _ h => h) (Or.inl ⟨by rfl, ?_⟩) (by assumption) ?_
          rotate_left
          · intro w9 hSw; (try dsimp only at hSw); go_simp; (first | done | with_reducible rfl)
          (try simp only [List.getElem_toArray, List.getElem_cons_succ, List.getElem_cons_zero, Act.put, List.setIfInBounds_toArray, List.set_cons_zero, List.set_cons_succ])
          refine wpAnyH_take (i := 5) (v := ?_) rfl (by kernel_rfl) (by kernel_rfl) (by kernel_rfl) (fun _ _ _ h => h) (Or.inl ⟨by rfl, ?_⟩) (by assumption) ?_
          rotate_left
          · intro w9 hSw; (try dsimp only at hSw); go_simp; (first | done | with_reducible rfl)
          (try simp only [List.getElem_toArray, List.getElem_cons_succ, List.getElem_cons_zero, Act.put, List.setIfInBounds_toArray, List.set_cons_zero, List.set_cons_succ])
          refine wpAnyH_take (i := 6) (v := ?_) rfl (by kernel_rfl) (by kernel_rfl) (by kernel_rfl) (fun _ _ _ h => h) (Or.inl ⟨by rfl, ?_⟩) (by assumption) ?_
          rotate_left
          · intro w9 hSw; (try dsimp only at hSw); go_simp; (first | done | with_reducible rfl)
          (try simp only [List.getElem_toArray, List.getElem_cons_succ, List.getElem_cons_zero, Act.put, List.setIfInBounds_toArray, List.set_cons_zero, List.set_cons_succ])
          have d0 := hG6.net.cell 0 _ rfl; have d1 := hG6.net.cell 1 _ rfl; have fn := hG6.net.fr; have ln := hG6.net.lt
          clear c0 c1
          refine wpAnyH_ready (rs := [7]) (by kernel_rfl) (by simp) ?_
          refine AllReadyH.cons rfl (fun K hK => ?_) AllReadyH.nil
          go_simp
          refine hK.out _ _ trivial (fun hHeld2 => ?_)
          clear hK K hHeld
          rename _ => hHeld
          (try simp only [List.getElem_toArray, List.getElem_cons_succ, List.getElem_cons_zero, Act.put, List.setIfInBounds_toArray, List.set_cons_zero, List.set_cons_succ])
          refine wpAnyH_done (by kernel_rfl) ?_ _
          clear hHeld d0 d1
          have HF7 : Hid (Dd W ca n cc db ((w6.setCell ⟨w2.heap.size, 0, none⟩ (.slice ra (ms.length + 1) rc)).setCell ⟨w2.heap.size, 1, none⟩ (.slice rb 0 rd)) ∧ GS w2.heap.size ((w6.setCell ⟨w2.heap.size, 0, none⟩ (.slice ra (ms.length + 1) rc)).setCell ⟨w2.heap.size, 1, none⟩ (.slice rb 0 rd)) (.slice ra (ms ++ [ml]).length rc) (.slice rb 0 rd) (ms ++ [ml], [])) := by
            rw [hll]
            exact Lib.hid ⟨hD6.put hdn _ _, hG6.put hO6 (by have := hG5.net.lt; omega) (Nat.le_refl _)⟩
          clear hD5 hC5 hO5 hG5 hE6 hO6 hG6 hD6 HI hll fn ln
          go_wp2
          go_roundw
          case rel => exact ⟨k, ms ++ [ml], ra, rb, rc, rd, by omega, by go_num, Lib.hid HS.out.2, HF7⟩
          case measure => (simp [intOf] <;> omega)
      · have hkd : decide ((0 : Int) < k) = false := by rw [decide_eq_false_iff_not]; omega
        have hok := Lib.hid (few_ok HF.out)
        have hto : ∀ x ∈ ms, 0 ≤ x.2.1 ∧ x.2.1 < 6 := fun x hx => to_bd (HF.out.1 x hx)
        have HTO := Lib.hid hto
        have hml : ms.length ≤ 8 := by have := HF.out.2; omega
        clear hto
        go_wp2_with (at_make; refine wpList_make_int _ rfl _ _ _ rfl 2 Try.underlying38 Try.infoI ms.length rfl rfl (by omega) ?_)
        intro w4 hI4 hE4 hl4
        obtain ⟨lo, hi, hO, hlo, hhi⟩ := HI.out.2.no
        have hM : MS W w2.heap.size wa.heap.size w4 (.slice pa ms.length pc) (.slice qa 0 qc) (ms, []) (List.replicate ms.length 0) :=
          ⟨HI.out.1.ext.trans hE4, HI.out.2.net.ext hE4, ⟨lo, hi, hO.ext hE4, hhi⟩, hI4, HI.out.2.net.lt, HI.out.1.ext.size⟩
        have HM := Lib.hid (And.intro hM (met_start (ms := ms) (fun x hx => (HTO.out x hx).1)))
        clear hM hO hI4 hE4 HI HF c0 c1 hk hk0
        go_wp2
        go_loopw [7, 8, 9] (fun v7 _ _ wq => ∃ (i : Nat) (M : List Int), i ≤ 6 ∧ v7 = .int .i64 i ∧ Hid (MS W w2.heap.size wa.heap.size wq (.slice pa ms.length pc) (.slice qa 0 qc) (ms, []) M ∧ Met6 ms i [] M) ∧ wa.heap.size < wq.heap.size) (fun v7 _ _ _ => 6 - (intOf v7).toNat)
        case atStart => exact ⟨0, _, by omega, rfl, HM, hl4⟩
        case round =>
          clear HM
          obtain ⟨i, M, hi6, rfl, HJ, zq⟩ := hrel
          obtain ⟨wq, hwq⟩ : ∃ w, w = wr := ⟨_, rfl⟩
          subst hwq
          have c0 := HJ.out.1.net.cell 0 _ rfl; have c1 := HJ.out.1.net.cell 1 _ rfl
          by_cases hli : i < 6
          · have hid : decide ((i : Int) < 6) = true := by rw [decide_eq_true_iff]; omega
            have hiw : IntKind.i64.wrap ((i : Int) + 1) = i + 1 := IntWalk.i64_in _ (by omega)
            go_wp2_with fail
            refine (implLettersTo_c _ (ms, []) i _ HJ.out.1.view).mono ?_
            have hlet : lettersTo (ms, []) i = letK ms i ms.length := by unfold lettersTo; rw [if_pos hok.out]
            rw [hlet]
            have hll := letK_len ms i ms.length
            have hkeep : ∃ l, l = letK ms i ms.length := ⟨_, rfl⟩
            obtain ⟨l, hl⟩ := hkeep
            rw [← hl] at hll ⊢
            rintro e w5 ⟨v5, rfl, hE5, hO5⟩
            obtain ⟨la, lc, rfl, -, -, -⟩ := row_take hO5
            have z5 := hE5.size
            have HL := Lib.hid hl
            have HK : Hid (MS W w2.heap.size wa.heap.size w5 (.slice pa ms.length pc) (.slice qa 0 qc) (ms, []) M ∧ Met6 ms i ((letK ms i ms.length).take 0) M ∧ rowC.own wq.heap.size w5.heap.size w5 [.slice la l.length lc] l) := Lib.hid ⟨HJ.out.1.grow hE5, by rw [List.take_zero]; exact HJ.out.2, hO5⟩
            clear hlet hl hE5 hO5 HJ c0 c1
            go_wp2
            go_loopw [9] (fun v9 wz => ∃ (j : Nat) (M : List Int), j ≤ l.length ∧ v9 = .int .i64 j ∧ Hid (MS W w2.heap.size wa.heap.size wz (.slice pa ms.length pc) (.slice qa 0 qc) (ms, []) M ∧ Met6 ms i ((letK ms i ms.length).take j) M ∧ rowC.own wq.heap.size w5.heap.size wz [.slice la l.length lc] l) ∧ wa.heap.size < wz.heap.size) (fun v9 _ => l.length - (intOf v9).toNat)
            case atStart => exact ⟨0, M, Nat.zero_le _, rfl, HK, by omega⟩
            case round =>
              clear HK
              obtain ⟨j, M, hj, rfl, HK, zz⟩ := hrel
              obtain ⟨wz, hwz⟩ : ∃ w, w = wr := ⟨_, rfl⟩
              subst hwz
              by_cases hjl : j < l.length
              · obtain ⟨la', lc', e9, -, -, hcl⟩ := row_open HK.out.2.2.view
                cases e9
                obtain ⟨lb, lo9, p, rfl, hcp, hp⟩ := hcl j hjl
                obtain ⟨q, x, rfl, hq, hx, hxn, hMq, hMet, hprev⟩ := met_at HK.out.2.1 (by rw [← HL.out]; exact hp)
                obtain ⟨fb, fo, rfl, hcf⟩ := msgs_at HK.out.1.view hx
                rw [hxn] at hcf
                obtain ⟨hcm, hfm⟩ := HK.out.1.cell hMq
                have c0 := HK.out.1.net.cell 0 _ rfl; have c1 := HK.out.1.net.cell 1 _ rfl
                have HN := Lib.hid (And.intro hMet (And.intro hMq hx))
                have hi1 : (0 : Int) ≤ q := by omega
                have hi2 : (q : Int) < ms.length := by omega
                have hqd : decide ((ms.length : Int) ≤ (q : Int)) = false := by rw [decide_eq_false_iff_not]; omega
                have hqn : decide (ms.length ≤ q) = false := by rw [decide_eq_false_iff_not]; omega
                have hq0 : decide ((q : Int) < 0) = false := by rw [decide_eq_false_iff_not]; omega
                have hi3 : (0 : Int) ≤ j := by omega
                have hi4 : (j : Int) < l.length := by omega
                have hjw : IntKind.i64.wrap ((j : Int) + 1) = j + 1 := IntWalk.i64_in _ (by omega)
                have hlb := own_blk HK.out.2.2
                have hne : wa.heap.size ≠ lb := by omega
                have HPV := Lib.hid hprev
                clear hMet hMq hx hxn hp hprev
                by_cases hj0 : 0 < j
                · obtain ⟨lb', lo', r, e8, hcr, hr⟩ := hcl (j - 1) (by omega)
                  cases e8
                  have hrq := HPV.out r hj0 (by rw [← HL.out]; exact hr)
                  have hrd : decide ((q : Int) ≤ r) = false := by rw [decide_eq_false_iff_not]; omega
                  have hi5 : (0 : Int) ≤ (j : Int) - 1 := by omega
                  have hi7 : (1 : Int) ≤ (j : Int) := by omega
                  have hi6 : (j : Int) - 1 < l.length := by omega
                  have hn5 : ((j : Int) - 1).toNat = j - 1 := by omega
                  have hw5 : IntKind.i64.wrap ((j : Int) - 1) = (j : Int) - 1 := IntWalk.i64_in _ (by omega)
                  have hjz : decide ((0 : Int) < j) = true := by rw [decide_eq_true_iff]; omega
                  clear hr hcl
                  have XX := HK.out.1.ext
                  go_wp2
                  refine wp_region_held_drew (S := fun ω => ω.cell? ⟨lb, lo9 + j, none⟩ = some (.int .i64 (q : Int)) ∧ ω.cell? ⟨w2.heap.size, 0, none⟩ = some (.slice (some ⟨fb, fo, none⟩) ms.length pc) ∧ ω.cell? ⟨w2.heap.size, 1, none⟩ = some (.slice qa 0 qc) ∧ ω.cell? ⟨fb, fo + q * 3 + 1, none⟩ = some (.int .i64 (i : Int)) ∧ ω.cell? ⟨lb, lo9 + (j - 1), none⟩ = some (.int .i64 r) ∧ Ext W ω) (by kernel_rfl) ?_ (fun hHeld => ?_)
                  · (try dsimp only); (refine ⟨?_, ?_, ?_, ?_, ?_, ?_⟩ <;> first | (simp [go_sem]; done) | (simp [*, go_sem]; done) | exact XX.trans (Ext.drew _))
                  refine wpAnyH_take (i := 0) (v := ?_) rfl (by kernel_rfl) (by kernel_rfl) (by kernel_rfl) (fun _ _ _ h => h) (Or.inl ⟨by rfl, ?_⟩) (by assumption) ?_
                  rotate_left
                  · intro w9 hSw; (try dsimp only at hSw); go_simp; (first | done | with_reducible rfl)
                  (try simp only [List.getElem_toArray, List.getElem_cons_succ, List.getElem_cons_zero, Act.put, List.setIfInBounds_toArray, List.set_cons_zero, List.set_cons_succ])
                  refine wpAnyH_take (i := 1) (v := ?_) rfl (by kernel_rfl) (by kernel_rfl) (by kernel_rfl) (fun _ _ _ h => h) (Or.inl ⟨by rfl, ?_⟩) (by assumption) ?_
                  rotate_left
                  · intro w9 hSw; (try dsimp only at hSw); go_simp; (first | done | with_reducible rfl)
                  (try simp only [List.getElem_toArray, List.getElem_cons_succ, List.getElem_cons_zero, Act.put, List.setIfInBounds_toArray, List.set_cons_zero, List.set_cons_succ])
                  refine wpAnyH_take (i := 2) (v := ?_) rfl (by kernel_rfl) (by kernel_rfl) (by kernel_rfl) (fun _ _ _ h => h) (Or.inl ⟨by rfl, ?_⟩) (by assumption) ?_
                  rotate_left
                  · intro w9 hSw; (try dsimp only at hSw); go_simp; (first | done | with_reducible rfl)
                  (try simp only [List.getElem_toArray, List.getElem_cons_succ, List.getElem_cons_zero, Act.put, List.setIfInBounds_toArray, List.set_cons_zero, List.set_cons_succ])
                  refine wpAnyH_take (i := 3) (v := ?_) rfl (by kernel_rfl) (by kernel_rfl) (by kernel_rfl) (fun _ _ _ h => h) (Or.inl ⟨by rfl, ?_⟩) (by assumption) ?_
                  rotate_left
                  · intro w9 hSw; (try dsimp only at hSw); go_simp; (first | done | with_reducible rfl)
                  (try simp only [List.getElem_toArray, List.getElem_cons_succ, List.getElem_cons_zero, Act.put, List.setIfInBounds_toArray, List.set_cons_zero, List.set_cons_succ])
                  refine wpAnyH_take (i := 4) (v := ?_) rfl (by kernel_rfl) (by kernel_rfl) (by kernel_rfl) (fun _ _ _ h => h) (Or.inl ⟨by rfl, ?_⟩) (by assumption) ?_
                  rotate_left
                  · intro w9 hSw; (try dsimp only at hSw); go_simp; (first | done | with_reducible rfl)
                  (try simp only [List.getElem_toArray, List.getElem_cons_succ, List.getElem_cons_zero, Act.put, List.setIfInBounds_toArray, List.set_cons_zero, List.set_cons_succ])
                  refine wpAnyH_take (i := 5) (v := ?_) rfl (by kernel_rfl) (by kernel_rfl) (by kernel_rfl) (fun _ _ _ h => h) (Or.inl ⟨by rfl, ?_⟩) (by assumption) ?_
                  rotate_left
                  · intro w9 hSw; (try dsimp only at hSw); go_simp; (first | done | with_reducible rfl)
                  (try simp only [List.getElem_toArray, List.getElem_cons_succ, List.getElem_cons_zero, Act.put, List.setIfInBounds_toArray, List.set_cons_zero, List.set_cons_succ])
                  refine wpAnyH_take (i := 6) (v := ?_) rfl (by kernel_rfl) (by kernel_rfl) (by kernel_rfl) (fun _ _ _ h => h) (Or.inl ⟨by rfl, ?_⟩) (by assumption) ?_
                  rotate_left
                  · intro w9 hSw; (try dsimp only at hSw); go_simp; (first | done | with_reducible rfl)
                  (try simp only [List.getElem_toArray, List.getElem_cons_succ, List.getElem_cons_zero, Act.put, List.setIfInBounds_toArray, List.set_cons_zero, List.set_cons_succ])
                  refine wpAnyH_take (i := 7) (v := ?_) rfl (by kernel_rfl) (by kernel_rfl) (by kernel_rfl) (fun _ _ _ h => h) (Or.inl ⟨by rfl, ?_⟩) (by assumption) ?_
                  rotate_left
                  · intro w9 hSw; (try dsimp only at hSw); go_simp; (first | done | with_reducible rfl)
                  (try simp only [List.getElem_toArray, List.getElem_cons_succ, List.getElem_cons_zero, Act.put, List.setIfInBounds_toArray, List.set_cons_zero, List.set_cons_succ])
                  refine wpAnyH_take (i := 8) (v := ?_) rfl (by kernel_rfl) (by kernel_rfl) (by kernel_rfl) (fun _ _ _ h => h) (Or.inl ⟨by rfl, ?_⟩) (by assumption) ?_
                  rotate_left
                  · intro w9 hSw; (try dsimp only at hSw); go_simp; (first | done | with_reducible rfl)
                  (try simp only [List.getElem_toArray, List.getElem_cons_succ, List.getElem_cons_zero, Act.put, List.setIfInBounds_toArray, List.set_cons_zero, List.set_cons_succ])
                  refine wpAnyH_take (i := 9) (v := ?_) rfl (by kernel_rfl) (by kernel_rfl) (by kernel_rfl) (fun _ _ _ h => h) (Or.inl ⟨by rfl, ?_⟩) (by assumption) ?_
                  rotate_left
                  · intro w9 hSw; (try dsimp only at hSw); go_simp; (first | done | with_reducible rfl)
                  (try simp only [List.getElem_toArray, List.getElem_cons_succ, List.getElem_cons_zero, Act.put, List.setIfInBounds_toArray, List.set_cons_zero, List.set_cons_succ])
                  refine wpAnyH_take (i := 10) (v := ?_) rfl (by kernel_rfl) (by kernel_rfl) (by kernel_rfl) (fun _ _ _ h => h) (Or.inl ⟨by rfl, ?_⟩) (by assumption) ?_
                  rotate_left
                  · intro w9 hSw; (try dsimp only at hSw); go_simp; (first | done | with_reducible rfl)
                  (try simp only [List.getElem_toArray, List.getElem_cons_succ, List.getElem_cons_zero, Act.put, List.setIfInBounds_toArray, List.set_cons_zero, List.set_cons_succ])
                  refine wpAnyH_take (i := 11) (v := ?_) rfl (by kernel_rfl) (by kernel_rfl) (by kernel_rfl) (fun _ _ _ h => h) (Or.inl ⟨by rfl, ?_⟩) (by assumption) ?_
                  rotate_left
                  · intro w9 hSw; (try dsimp only at hSw); go_simp; (first | done | with_reducible rfl)
                  (try simp only [List.getElem_toArray, List.getElem_cons_succ, List.getElem_cons_zero, Act.put, List.setIfInBounds_toArray, List.set_cons_zero, List.set_cons_succ])
                  refine wpAnyH_take (i := 12) (v := ?_) rfl (by kernel_rfl) (by kernel_rfl) (by kernel_rfl) (fun _ _ _ h => h) (Or.inl ⟨by rfl, ?_⟩) (by assumption) ?_
                  rotate_left
                  · intro w9 hSw; (try dsimp only at hSw); go_simp; (first | done | with_reducible rfl)
                  (try simp only [List.getElem_toArray, List.getElem_cons_succ, List.getElem_cons_zero, Act.put, List.setIfInBounds_toArray, List.set_cons_zero, List.set_cons_succ])
                  refine wpAnyH_take (i := 13) (v := ?_) rfl (by kernel_rfl) (by kernel_rfl) (by kernel_rfl) (fun _ _ _ h => h) (Or.inl ⟨by rfl, ?_⟩) (by assumption) ?_
                  rotate_left
                  · intro w9 hSw; (try dsimp only at hSw); go_simp; (first | done | with_reducible rfl)
                  (try simp only [List.getElem_toArray, List.getElem_cons_succ, List.getElem_cons_zero, Act.put, List.setIfInBounds_toArray, List.set_cons_zero, List.set_cons_succ])
                  refine wpAnyH_take (i := 14) (v := ?_) rfl (by kernel_rfl) (by kernel_rfl) (by kernel_rfl) (fun _ _ _ h => h) (Or.inl ⟨by rfl, ?_⟩) (by assumption) ?_
                  rotate_left
                  · intro w9 hSw; (try dsimp only at hSw); go_simp; (first | done | with_reducible rfl)
                  (try simp only [List.getElem_toArray, List.getElem_cons_succ, List.getElem_cons_zero, Act.put, List.setIfInBounds_toArray, List.set_cons_zero, List.set_cons_succ])
                  refine wpAnyH_take (i := 15) (v := ?_) rfl (by kernel_rfl) (by kernel_rfl) (by kernel_rfl) (fun _ _ _ h => h) (Or.inl ⟨by rfl, ?_⟩) (by assumption) ?_
                  rotate_left
                  · intro w9 hSw; (try dsimp only at hSw); go_simp; (first | done | with_reducible rfl)
                  (try simp only [List.getElem_toArray, List.getElem_cons_succ, List.getElem_cons_zero, Act.put, List.setIfInBounds_toArray, List.set_cons_zero, List.set_cons_succ])
                  refine wpAnyH_take (i := 16) (v := ?_) rfl (by kernel_rfl) (by kernel_rfl) (by kernel_rfl) (fun _ _ _ h => h) (Or.inl ⟨by rfl, ?_⟩) (by assumption) ?_
                  rotate_left
                  · intro w9 hSw; (try dsimp only at hSw); go_simp; (first | done | with_reducible rfl)
                  (try simp only [List.getElem_toArray, List.getElem_cons_succ, List.getElem_cons_zero, Act.put, List.setIfInBounds_toArray, List.set_cons_zero, List.set_cons_succ])
                  refine wpAnyH_take (i := 17) (v := ?_) rfl (by kernel_rfl) (by kernel_rfl) (by kernel_rfl) (fun _ _ _ h => h) (Or.inl ⟨by rfl, ?_⟩) (by assumption) ?_
                  rotate_left
                  · intro w9 hSw; (try dsimp only at hSw); go_simp; (first | done | with_reducible rfl)
                  (try simp only [List.getElem_toArray, List.getElem_cons_succ, List.getElem_cons_zero, Act.put, List.setIfInBounds_toArray, List.set_cons_zero, List.set_cons_succ])
                  refine wpAnyH_take (i := 18) (v := ?_) rfl (by kernel_rfl) (by kernel_rfl) (by kernel_rfl) (fun _ _ _ h => h) (Or.inl ⟨by rfl, ?_⟩) (by assumption) ?_
                  rotate_left
                  · intro w9 hSw; (try dsimp only at hSw); go_simp; (first | done | with_reducible rfl)
                  (try simp only [List.getElem_toArray, List.getElem_cons_succ, List.getElem_cons_zero, Act.put, List.setIfInBounds_toArray, List.set_cons_zero, List.set_cons_succ])
                  refine wpAnyH_take (i := 19) (v := ?_) rfl (by kernel_rfl) (by kernel_rfl) (by kernel_rfl) (fun _ _ _ h => h) (Or.inl ⟨by rfl, ?_⟩) (by assumption) ?_
                  rotate_left
                  · intro w9 hSw; (try dsimp only at hSw); go_simp; (first | done | with_reducible rfl)
                  (try simp only [List.getElem_toArray, List.getElem_cons_succ, List.getElem_cons_zero, Act.put, List.setIfInBounds_toArray, List.set_cons_zero, List.set_cons_succ])
                  refine wpAnyH_take (i := 20) (v := ?_) rfl (by kernel_rfl) (by kernel_rfl) (by kernel_rfl) (fun _ _ _ h => h) (Or.inl ⟨by rfl, ?_⟩) (by assumption) ?_
                  rotate_left
                  · intro w9 hSw; (try dsimp only at hSw); go_simp; (first | done | with_reducible rfl)
                  (try simp only [List.getElem_toArray, List.getElem_cons_succ, List.getElem_cons_zero, Act.put, List.setIfInBounds_toArray, List.set_cons_zero, List.set_cons_succ])
                  refine wpAnyH_take (i := 21) (v := ?_) rfl (by kernel_rfl) (by kernel_rfl) (by kernel_rfl) (fun _ _ _ h => h) (Or.inl ⟨by rfl, ?_⟩) (by assumption) ?_
                  rotate_left
                  · intro w9 hSw; (try dsimp only at hSw); go_simp; (first | done | with_reducible rfl)
                  (try simp only [List.getElem_toArray, List.getElem_cons_succ, List.getElem_cons_zero, Act.put, List.setIfInBounds_toArray, List.set_cons_zero, List.set_cons_succ])
                  refine wpAnyH_take (i := 22) (v := ?_) rfl (by kernel_rfl) (by kernel_rfl) (by kernel_rfl) (fun _ _ _ h => h) (Or.inl ⟨by rfl, ?_⟩) (by assumption) ?_
                  rotate_left
                  · intro w9 hSw; (try dsimp only at hSw); go_simp; (first | done | with_reducible rfl)
                  (try simp only [List.getElem_toArray, List.getElem_cons_succ, List.getElem_cons_zero, Act.put, List.setIfInBounds_toArray, List.set_cons_zero, List.set_cons_succ])
                  refine wpAnyH_take (i := 23) (v := ?_) rfl (by kernel_rfl) (by kernel_rfl) (by kernel_rfl) (fun _ _ _ h => h) (Or.inl ⟨by rfl, ?_⟩) (by assumption) ?_
                  rotate_left
                  · intro w9 hSw; (try dsimp only at hSw); go_simp; (first | done | with_reducible rfl)
                  (try simp only [List.getElem_toArray, List.getElem_cons_succ, List.getElem_cons_zero, Act.put, List.setIfInBounds_toArray, List.set_cons_zero, List.set_cons_succ])
                  refine wpAnyH_take (i := 24) (v := ?_) rfl (by kernel_rfl) (by kernel_rfl) (by kernel_rfl) (fun _ _ _ h => h) (Or.inl ⟨by rfl, ?_⟩) (by assumption) ?_
                  rotate_left
                  · intro w9 hSw; (try dsimp only at hSw); go_simp; (first | done | with_reducible rfl)
                  (try simp only [List.getElem_toArray, List.getElem_cons_succ, List.getElem_cons_zero, Act.put, List.setIfInBounds_toArray, List.set_cons_zero, List.set_cons_succ])
                  refine wpAnyH_take (i := 25) (v := ?_) rfl (by kernel_rfl) (by kernel_rfl) (by kernel_rfl) (fun _ _ _ h => h) (Or.inl ⟨by rfl, ?_⟩) (by assumption) ?_
                  rotate_left
                  · intro w9 hSw; (try dsimp only at hSw); go_simp; (first | done | with_reducible rfl)
                  (try simp only [List.getElem_toArray, List.getElem_cons_succ, List.getElem_cons_zero, Act.put, List.setIfInBounds_toArray, List.set_cons_zero, List.set_cons_succ])
                  refine wpAnyH_take (i := 26) (v := ?_) rfl (by kernel_rfl) (by kernel_rfl) (by kernel_rfl) (fun _ _ _ h => h) (Or.inl ⟨by rfl, ?_⟩) (by assumption) ?_
                  rotate_left
                  · intro w9 hSw; (try dsimp only at hSw); go_simp; (first | done | with_reducible rfl)
                  (try simp only [List.getElem_toArray, List.getElem_cons_succ, List.getElem_cons_zero, Act.put, List.setIfInBounds_toArray, List.set_cons_zero, List.set_cons_succ])
                  refine wpAnyH_take (i := 27) (v := ?_) rfl (by kernel_rfl) (by kernel_rfl) (by kernel_rfl) (fun _ _ _ h => h) (Or.inl ⟨by rfl, ?_⟩) (by assumption) ?_
                  rotate_left
                  · intro w9 hSw; (try dsimp only at hSw); go_simp; (first | done | with_reducible rfl)
                  (try simp only [List.getElem_toArray, List.getElem_cons_succ, List.getElem_cons_zero, Act.put, List.setIfInBounds_toArray, List.set_cons_zero, List.set_cons_succ])
                  refine wpAnyH_take (i := 28) (v := ?_) rfl (by kernel_rfl) (by kernel_rfl) (by kernel_rfl) (fun _ _ _ h => h) (Or.inl ⟨by rfl, ?_⟩) (by assumption) ?_
                  rotate_left
                  · intro w9 hSw; (try dsimp only at hSw); go_simp; (first | done | with_reducible rfl)
                  (try simp only [List.getElem_toArray, List.getElem_cons_succ, List.getElem_cons_zero, Act.put, List.setIfInBounds_toArray, List.set_cons_zero, List.set_cons_succ])
                  refine wpAnyH_take (i := 29) (v := ?_) rfl (by kernel_rfl) (by kernel_rfl) (by kernel_rfl) (fun _ _ _ h => h) (Or.inl ⟨by rfl, ?_⟩) (by assumption) ?_
                  rotate_left
                  · intro w9 hSw; (try dsimp only at hSw); go_simp; (first | done | with_reducible rfl)
                  (try simp only [List.getElem_toArray, List.getElem_cons_succ, List.getElem_cons_zero, Act.put, List.setIfInBounds_toArray, List.set_cons_zero, List.set_cons_succ])
                  refine wpAnyH_take (i := 30) (v := ?_) rfl (by kernel_rfl) (by kernel_rfl) (by kernel_rfl) (fun _ _ _ h => h) (Or.inl ⟨by rfl, ?_⟩) (by assumption) ?_
                  rotate_left
                  · intro w9 hSw; (try dsimp only at hSw); go_simp; (first | done | with_reducible rfl)
                  (try simp only [List.getElem_toArray, List.getElem_cons_succ, List.getElem_cons_zero, Act.put, List.setIfInBounds_toArray, List.set_cons_zero, List.set_cons_succ])
                  refine wpAnyH_take (i := 31) (v := ?_) rfl (by kernel_rfl) (by kernel_rfl) (by kernel_rfl) (fun _ _ _ h => h) (Or.inl ⟨by rfl, ?_⟩) (by assumption) ?_
                  rotate_left
                  · intro w9 hSw; (try dsimp only at hSw); go_simp; (first | done | with_reducible rfl)
                  (try simp only [List.getElem_toArray, List.getElem_cons_succ, List.getElem_cons_zero, Act.put, List.setIfInBounds_toArray, List.set_cons_zero, List.set_cons_succ])
                  refine wpAnyH_take (i := 32) (v := ?_) rfl (by kernel_rfl) (by kernel_rfl) (by kernel_rfl) (fun _ _ _ h => h) (Or.inl ⟨by rfl, ?_⟩) (by assumption) ?_
                  rotate_left
                  · intro w9 hSw; (try dsimp only at hSw); go_simp; (first | done | with_reducible rfl)
                  (try simp only [List.getElem_toArray, List.getElem_cons_succ, List.getElem_cons_zero, Act.put, List.setIfInBounds_toArray, List.set_cons_zero, List.set_cons_succ])
                  refine wpAnyH_take (i := 33) (v := ?_) rfl (by kernel_rfl) (by kernel_rfl) (by kernel_rfl) (fun _ _ _ h => h) (Or.inl ⟨by rfl, ?_⟩) (by assumption) ?_
                  rotate_left
                  · intro w9 hSw; (try dsimp only at hSw); go_simp; (first | done | with_reducible rfl)
                  (try simp only [List.getElem_toArray, List.getElem_cons_succ, List.getElem_cons_zero, Act.put, List.setIfInBounds_toArray, List.set_cons_zero, List.set_cons_succ])
                  refine wpAnyH_take (i := 34) (v := ?_) rfl (by kernel_rfl) (by kernel_rfl) (by kernel_rfl) (fun _ _ _ h => h) (Or.inl ⟨by rfl, ?_⟩) (by assumption) ?_
                  rotate_left
                  · intro w9 hSw; (try dsimp only at hSw); go_simp; (first | done | with_reducible rfl)
                  (try simp only [List.getElem_toArray, List.getElem_cons_succ, List.getElem_cons_zero, Act.put, List.setIfInBounds_toArray, List.set_cons_zero, List.set_cons_succ])
                  refine wpAnyH_take (i := 35) (v := ?_) rfl (by kernel_rfl) (by kernel_rfl) (by kernel_rfl) (fun _ _ _ h => h) (Or.inl ⟨by rfl, ?_⟩) (by assumption) ?_
                  rotate_left
                  · intro w9 hSw; (try dsimp only at hSw); go_simp; (first | done | with_reducible rfl)
                  (try simp only [List.getElem_toArray, List.getElem_cons_succ, List.getElem_cons_zero, Act.put, List.setIfInBounds_toArray, List.set_cons_zero, List.set_cons_succ])
                  refine wpAnyH_take (i := 36) (v := ?_) rfl (by kernel_rfl) (by kernel_rfl) (by kernel_rfl) (fun _ _ _ h => h) (Or.inl ⟨by rfl, ?_⟩) (by assumption) ?_
                  rotate_left
                  · intro w9 hSw; (try dsimp only at hSw); go_simp; (first | done | with_reducible rfl)
                  (try simp only [List.getElem_toArray, List.getElem_cons_succ, List.getElem_cons_zero, Act.put, List.setIfInBounds_toArray, List.set_cons_zero, List.set_cons_succ])
                  refine wpAnyH_take (i := 37) (v := ?_) rfl (by kernel_rfl) (by kernel_rfl) (by kernel_rfl) (fun _ _ _ h => h) (Or.inl ⟨by rfl, ?_⟩) (by assumption) ?_
                  rotate_left
                  · intro w9 hSw; (try dsimp only at hSw); go_simp; (first | done | with_reducible rfl)
                  (try simp only [List.getElem_toArray, List.getElem_cons_succ, List.getElem_cons_zero, Act.put, List.setIfInBounds_toArray, List.set_cons_zero, List.set_cons_succ])
                  refine wpAnyH_take (i := 38) (v := ?_) rfl (by kernel_rfl) (by kernel_rfl) (by kernel_rfl) (fun _ _ _ h => h) (Or.inl ⟨by rfl, ?_⟩) (by assumption) ?_
                  rotate_left
                  · intro w9 hSw; (try dsimp only at hSw); go_simp; (first | done | with_reducible rfl)
                  (try simp only [List.getElem_toArray, List.getElem_cons_succ, List.getElem_cons_zero, Act.put, List.setIfInBounds_toArray, List.set_cons_zero, List.set_cons_succ])
                  refine wpAnyH_take (i := 39) (v := ?_) rfl (by kernel_rfl) (by kernel_rfl) (by kernel_rfl) (fun _ _ _ h => h) (Or.inl ⟨by rfl, ?_⟩) (by assumption) ?_
                  rotate_left
                  · intro w9 hSw; (try dsimp only at hSw); go_simp; (first | done | with_reducible rfl)
                  (try simp only [List.getElem_toArray, List.getElem_cons_succ, List.getElem_cons_zero, Act.put, List.setIfInBounds_toArray, List.set_cons_zero, List.set_cons_succ])
                  refine wpAnyH_take (i := 40) (v := ?_) rfl (by kernel_rfl) (by kernel_rfl) (by kernel_rfl) (fun _ _ _ h => h) (Or.inl ⟨by rfl, ?_⟩) (by assumption) ?_
                  rotate_left
                  · intro w9 hSw; (try dsimp only at hSw); go_simp; (first | done | with_reducible rfl)
                  (try simp only [List.getElem_toArray, List.getElem_cons_succ, List.getElem_cons_zero, Act.put, List.setIfInBounds_toArray, List.set_cons_zero, List.set_cons_succ])
                  refine wpAnyH_take (i := 41) (v := ?_) rfl (by kernel_rfl) (by kernel_rfl) (by kernel_rfl) (fun _ _ _ h => h) (Or.inl ⟨by rfl, ?_⟩) (by assumption) ?_
                  rotate_left
                  · intro w9 hSw; (try dsimp only at hSw); go_simp; (first | done | with_reducible rfl)
                  (try simp only [List.getElem_toArray, List.getElem_cons_succ, List.getElem_cons_zero, Act.put, List.setIfInBounds_toArray, List.set_cons_zero, List.set_cons_succ])
                  refine wpAnyH_take (i := 42) (v := ?_) rfl (by kernel_rfl) (by kernel_rfl) (by kernel_rfl) (fun _ _ _ h => h) (Or.inl ⟨by rfl, ?_⟩) (by assumption) ?_
                  rotate_left
                  · intro w9 hSw; (try dsimp only at hSw); go_simp; (first | done | with_reducible rfl)
                  (try simp only [List.getElem_toArray, List.getElem_cons_succ, List.getElem_cons_zero, Act.put, List.setIfInBounds_toArray, List.set_cons_zero, List.set_cons_succ])
                  refine wpAnyH_done (by kernel_rfl) ?_ _
                  clear hHeld
                  have XX2 := XX.trans (Ext.drew _)
                  go_wp2
                  refine wp_region_T (S := fun ω => ω.cell? ⟨lb, lo9 + j, none⟩ = some (.int .i64 (q : Int)) ∧ ω.cell? ⟨wa.heap.size, q, none⟩ = some (.int .i64 0) ∧ Ext W ω) 14 (by kernel_rfl) ?_ (fun hHeld => ?_) (by decide)
                  · (try dsimp only); (refine ⟨?_, ?_, ?_⟩ <;> first | (simp [go_sem]; done) | (simp [*, go_sem]; done) | exact XX2.trans (Ext.drew _))
                  refine wpT_take (i := 0) (v := ?_) rfl (by kernel_rfl) (by decide) (by kernel_rfl) (by kernel_rfl) (by kernel_rfl) (fun _ _ _ h => h) (Or.inl ⟨by rfl, ?_⟩) (by assumption) ?_
                  rotate_left
                  · intro w9 hSw; (try dsimp only at hSw); go_simp; (first | done | with_reducible rfl)
                  (try simp only [List.getElem_toArray, List.getElem_cons_succ, List.getElem_cons_zero, Act.put, List.setIfInBounds_toArray, List.set_cons_zero, List.set_cons_succ])
                  refine wpT_take (i := 1) (v := ?_) rfl (by kernel_rfl) (by decide) (by kernel_rfl) (by kernel_rfl) (by kernel_rfl) (fun _ _ _ h => h) (Or.inl ⟨by rfl, ?_⟩) (by assumption) ?_
                  rotate_left
                  · intro w9 hSw; (try dsimp only at hSw); go_simp; (first | done | with_reducible rfl)
                  (try simp only [List.getElem_toArray, List.getElem_cons_succ, List.getElem_cons_zero, Act.put, List.setIfInBounds_toArray, List.set_cons_zero, List.set_cons_succ])
                  refine wpT_take (i := 2) (v := ?_) rfl (by kernel_rfl) (by decide) (by kernel_rfl) (by kernel_rfl) (by kernel_rfl) (fun _ _ _ h => h) (Or.inl ⟨by rfl, ?_⟩) (by assumption) ?_
                  rotate_left
                  · intro w9 hSw; (try dsimp only at hSw); go_simp; (first | done | with_reducible rfl)
                  (try simp only [List.getElem_toArray, List.getElem_cons_succ, List.getElem_cons_zero, Act.put, List.setIfInBounds_toArray, List.set_cons_zero, List.set_cons_succ])
                  refine wpT_take (i := 3) (v := ?_) rfl (by kernel_rfl) (by decide) (by kernel_rfl) (by kernel_rfl) (by kernel_rfl) (fun _ _ _ h => h) (Or.inl ⟨by rfl, ?_⟩) (by assumption) ?_
                  rotate_left
                  · intro w9 hSw; (try dsimp only at hSw); go_simp; (first | done | with_reducible rfl)
                  (try simp only [List.getElem_toArray, List.getElem_cons_succ, List.getElem_cons_zero, Act.put, List.setIfInBounds_toArray, List.set_cons_zero, List.set_cons_succ])
                  refine wpT_take (i := 4) (v := ?_) rfl (by kernel_rfl) (by decide) (by kernel_rfl) (by kernel_rfl) (by kernel_rfl) (fun _ _ _ h => h) (Or.inl ⟨by rfl, ?_⟩) (by assumption) ?_
                  rotate_left
                  · intro w9 hSw; (try dsimp only at hSw); go_simp; (first | done | with_reducible rfl)
                  (try simp only [List.getElem_toArray, List.getElem_cons_succ, List.getElem_cons_zero, Act.put, List.setIfInBounds_toArray, List.set_cons_zero, List.set_cons_succ])
                  refine wpT_take (i := 5) (v := ?_) rfl (by kernel_rfl) (by decide) (by kernel_rfl) (by kernel_rfl) (by kernel_rfl) (fun _ _ _ h => h) (Or.inl ⟨by rfl, ?_⟩) (by assumption) ?_
                  rotate_left
                  · intro w9 hSw; (try dsimp only at hSw); go_simp; (first | done | with_reducible rfl)
                  (try simp only [List.getElem_toArray, List.getElem_cons_succ, List.getElem_cons_zero, Act.put, List.setIfInBounds_toArray, List.set_cons_zero, List.set_cons_succ])
                  refine wpT_take (i := 6) (v := ?_) rfl (by kernel_rfl) (by decide) (by kernel_rfl) (by kernel_rfl) (by kernel_rfl) (fun _ _ _ h => h) (Or.inl ⟨by rfl, ?_⟩) (by assumption) ?_
                  rotate_left
                  · intro w9 hSw; (try dsimp only at hSw); go_simp; (first | done | with_reducible rfl)
                  (try simp only [List.getElem_toArray, List.getElem_cons_succ, List.getElem_cons_zero, Act.put, List.setIfInBounds_toArray, List.set_cons_zero, List.set_cons_succ])
                  refine wpT_take (i := 7) (v := ?_) rfl (by kernel_rfl) (by decide) (by kernel_rfl) (by kernel_rfl) (by kernel_rfl) (fun _ _ _ h => h) (Or.inl ⟨by rfl, ?_⟩) (by assumption) ?_
                  rotate_left
                  · intro w9 hSw; (try dsimp only at hSw); go_simp; (first | done | with_reducible rfl)
                  (try simp only [List.getElem_toArray, List.getElem_cons_succ, List.getElem_cons_zero, Act.put, List.setIfInBounds_toArray, List.set_cons_zero, List.set_cons_succ])
                  refine wpT_take (i := 8) (v := ?_) rfl (by kernel_rfl) (by decide) (by kernel_rfl) (by kernel_rfl) (by kernel_rfl) (fun _ _ _ h => h) (Or.inl ⟨by rfl, ?_⟩) (by assumption) ?_
                  rotate_left
                  · intro w9 hSw; (try dsimp only at hSw); go_simp; (first | done | with_reducible rfl)
                  (try simp only [List.getElem_toArray, List.getElem_cons_succ, List.getElem_cons_zero, Act.put, List.setIfInBounds_toArray, List.set_cons_zero, List.set_cons_succ])
                  refine wpT_take (i := 9) (v := ?_) rfl (by kernel_rfl) (by decide) (by kernel_rfl) (by kernel_rfl) (by kernel_rfl) (fun _ _ _ h => h) (Or.inl ⟨by rfl, ?_⟩) (by assumption) ?_
                  rotate_left
                  · intro w9 hSw; (try dsimp only at hSw); go_simp; (first | done | with_reducible rfl)
                  (try simp only [List.getElem_toArray, List.getElem_cons_succ, List.getElem_cons_zero, Act.put, List.setIfInBounds_toArray, List.set_cons_zero, List.set_cons_succ])
                  refine wpT_take (i := 10) (v := ?_) rfl (by kernel_rfl) (by decide) (by kernel_rfl) (by kernel_rfl) (by kernel_rfl) (fun _ _ _ h => h) (Or.inl ⟨by rfl, ?_⟩) (by assumption) ?_
                  rotate_left
                  · intro w9 hSw; (try dsimp only at hSw); go_simp; (first | done | with_reducible rfl)
                  (try simp only [List.getElem_toArray, List.getElem_cons_succ, List.getElem_cons_zero, Act.put, List.setIfInBounds_toArray, List.set_cons_zero, List.set_cons_succ])
                  refine wpT_take (i := 11) (v := ?_) rfl (by kernel_rfl) (by decide) (by kernel_rfl) (by kernel_rfl) (by kernel_rfl) (fun _ _ _ h => h) (Or.inl ⟨by rfl, ?_⟩) (by assumption) ?_
                  rotate_left
                  · intro w9 hSw; (try dsimp only at hSw); go_simp; (first | done | with_reducible rfl)
                  (try simp only [List.getElem_toArray, List.getElem_cons_succ, List.getElem_cons_zero, Act.put, List.setIfInBounds_toArray, List.set_cons_zero, List.set_cons_succ])
                  refine wpT_take (i := 12) (v := ?_) rfl (by kernel_rfl) (by decide) (by kernel_rfl) (by kernel_rfl) (by kernel_rfl) (fun _ _ _ h => h) (Or.inl ⟨by rfl, ?_⟩) (by assumption) ?_
                  rotate_left
                  · intro w9 hSw; (try dsimp only at hSw); go_simp; (first | done | with_reducible rfl)
                  (try simp only [List.getElem_toArray, List.getElem_cons_succ, List.getElem_cons_zero, Act.put, List.setIfInBounds_toArray, List.set_cons_zero, List.set_cons_succ])
                  refine wpT_take (i := 13) (v := ?_) rfl (by kernel_rfl) (by decide) (by kernel_rfl) (by kernel_rfl) (by kernel_rfl) (fun _ _ _ h => h) (Or.inl ⟨by rfl, ?_⟩) (by assumption) ?_
                  rotate_left
                  · intro w9 hSw; (try dsimp only at hSw); go_simp; (first | done | with_reducible rfl)
                  (try simp only [List.getElem_toArray, List.getElem_cons_succ, List.getElem_cons_zero, Act.put, List.setIfInBounds_toArray, List.set_cons_zero, List.set_cons_succ])
                  refine wpT_last (by kernel_rfl) (by kernel_rfl) rfl (fun K hK => ?_)
                  clear hHeld
                  go_simp
                  refine hK.out _ _ ?_
                  clear hK K
                  have HM9 := Lib.hid (MS.put (j := q) ((HK.out.1.grow (Ext.drew _)).grow (Ext.drew _)) (by have := HK.out.2.1.1; omega) 1)
                  have hro : rowC.own wq.heap.size w5.heap.size _ _ _ := Cd.own.pSet (a := ⟨wa.heap.size, q, none⟩) (HK.out.2.2.pDrew.pDrew) (.inl zq) (.int .i64 1)
                  have HR9 := Lib.hid hro
                  clear hro hcp hcf hcm hfm c0 c1 XX XX2
                  go_wp2
                  go_roundw
                  case rel => exact ⟨j + 1, M.set q 1, by omega, by go_num, Lib.hid ⟨HM9.out, HN.out.1, HR9.out⟩, by simp [World.setCell]; exact zz⟩
                  case measure => (simp [intOf] <;> omega)
                · have hjz : decide ((0 : Int) < j) = false := by rw [decide_eq_false_iff_not]; omega
                  clear hcl
                  have XX := HK.out.1.ext
                  go_wp2
                  refine wp_region_held_drew (S := fun ω => ω.cell? ⟨lb, lo9 + j, none⟩ = some (.int .i64 (q : Int)) ∧ ω.cell? ⟨w2.heap.size, 0, none⟩ = some (.slice (some ⟨fb, fo, none⟩) ms.length pc) ∧ ω.cell? ⟨w2.heap.size, 1, none⟩ = some (.slice qa 0 qc) ∧ ω.cell? ⟨fb, fo + q * 3 + 1, none⟩ = some (.int .i64 (i : Int)) ∧ Ext W ω) (by kernel_rfl) ?_ (fun hHeld => ?_)
                  · (try dsimp only); (refine ⟨?_, ?_, ?_, ?_, ?_⟩ <;> first | (simp [go_sem]; done) | (simp [*, go_sem]; done) | exact XX.trans (Ext.drew _))
                  refine wpAnyH_take (i := 0) (v := ?_) rfl (by kernel_rfl) (by kernel_rfl) (by kernel_rfl) (fun _ _ _ h => h) (Or.inl ⟨by rfl, ?_⟩) (by assumption) ?_
                  rotate_left
                  · intro w9 hSw; (try dsimp only at hSw); go_simp; (first | done | with_reducible rfl)
                  (try simp only [List.getElem_toArray, List.getElem_cons_succ, List.getElem_cons_zero, Act.put, List.setIfInBounds_toArray, List.set_cons_zero, List.set_cons_succ])
                  refine wpAnyH_take (i := 1) (v := ?_) rfl (by kernel_rfl) (by kernel_rfl) (by kernel_rfl) (fun _ _ _ h => h) (Or.inl ⟨by rfl, ?_⟩) (by assumption) ?_
                  rotate_left
                  · intro w9 hSw; (try dsimp only at hSw); go_simp; (first | done | with_reducible rfl)
                  (try simp only [List.getElem_toArray, List.getElem_cons_succ, List.getElem_cons_zero, Act.put, List.setIfInBounds_toArray, List.set_cons_zero, List.set_cons_succ])
                  refine wpAnyH_take (i := 2) (v := ?_) rfl (by kernel_rfl) (by kernel_rfl) (by kernel_rfl) (fun _ _ _ h => h) (Or.inl ⟨by rfl, ?_⟩) (by assumption) ?_
                  rotate_left
                  · intro w9 hSw; (try dsimp only at hSw); go_simp; (first | done | with_reducible rfl)
                  (try simp only [List.getElem_toArray, List.getElem_cons_succ, List.getElem_cons_zero, Act.put, List.setIfInBounds_toArray, List.set_cons_zero, List.set_cons_succ])
                  refine wpAnyH_take (i := 3) (v := ?_) rfl (by kernel_rfl) (by kernel_rfl) (by kernel_rfl) (fun _ _ _ h => h) (Or.inl ⟨by rfl, ?_⟩) (by assumption) ?_
                  rotate_left
                  · intro w9 hSw; (try dsimp only at hSw); go_simp; (first | done | with_reducible rfl)
                  (try simp only [List.getElem_toArray, List.getElem_cons_succ, List.getElem_cons_zero, Act.put, List.setIfInBounds_toArray, List.set_cons_zero, List.set_cons_succ])
                  refine wpAnyH_take (i := 4) (v := ?_) rfl (by kernel_rfl) (by kernel_rfl) (by kernel_rfl) (fun _ _ _ h => h) (Or.inl ⟨by rfl, ?_⟩) (by assumption) ?_
                  rotate_left
                  · intro w9 hSw; (try dsimp only at hSw); go_simp; (first | done | with_reducible rfl)
                  (try simp only [List.getElem_toArray, List.getElem_cons_succ, List.getElem_cons_zero, Act.put, List.setIfInBounds_toArray, List.set_cons_zero, List.set_cons_succ])
                  refine wpAnyH_take (i := 5) (v := ?_) rfl (by kernel_rfl) (by kernel_rfl) (by kernel_rfl) (fun _ _ _ h => h) (Or.inl ⟨by rfl, ?_⟩) (by assumption) ?_
                  rotate_left
                  · intro w9 hSw; (try dsimp only at hSw); go_simp; (first | done | with_reducible rfl)
                  (try simp only [List.getElem_toArray, List.getElem_cons_succ, List.getElem_cons_zero, Act.put, List.setIfInBounds_toArray, List.set_cons_zero, List.set_cons_succ])
                  refine wpAnyH_take (i := 6) (v := ?_) rfl (by kernel_rfl) (by kernel_rfl) (by kernel_rfl) (fun _ _ _ h => h) (Or.inl ⟨by rfl, ?_⟩) (by assumption) ?_
                  rotate_left
                  · intro w9 hSw; (try dsimp only at hSw); go_simp; (first | done | with_reducible rfl)
                  (try simp only [List.getElem_toArray, List.getElem_cons_succ, List.getElem_cons_zero, Act.put, List.setIfInBounds_toArray, List.set_cons_zero, List.set_cons_succ])
                  refine wpAnyH_take (i := 7) (v := ?_) rfl (by kernel_rfl) (by kernel_rfl) (by kernel_rfl) (fun _ _ _ h => h) (Or.inl ⟨by rfl, ?_⟩) (by assumption) ?_
                  rotate_left
                  · intro w9 hSw; (try dsimp only at hSw); go_simp; (first | done | with_reducible rfl)
                  (try simp only [List.getElem_toArray, List.getElem_cons_succ, List.getElem_cons_zero, Act.put, List.setIfInBounds_toArray, List.set_cons_zero, List.set_cons_succ])
                  refine wpAnyH_take (i := 8) (v := ?_) rfl (by kernel_rfl) (by kernel_rfl) (by kernel_rfl) (fun _ _ _ h => h) (Or.inl ⟨by rfl, ?_⟩) (by assumption) ?_
                  rotate_left
                  · intro w9 hSw; (try dsimp only at hSw); go_simp; (first | done | with_reducible rfl)
                  (try simp only [List.getElem_toArray, List.getElem_cons_succ, List.getElem_cons_zero, Act.put, List.setIfInBounds_toArray, List.set_cons_zero, List.set_cons_succ])
                  refine wpAnyH_take (i := 9) (v := ?_) rfl (by kernel_rfl) (by kernel_rfl) (by kernel_rfl) (fun _ _ _ h => h) (Or.inl ⟨by rfl, ?_⟩) (by assumption) ?_
                  rotate_left
                  · intro w9 hSw; (try dsimp only at hSw); go_simp; (first | done | with_reducible rfl)
                  (try simp only [List.getElem_toArray, List.getElem_cons_succ, List.getElem_cons_zero, Act.put, List.setIfInBounds_toArray, List.set_cons_zero, List.set_cons_succ])
                  refine wpAnyH_take (i := 10) (v := ?_) rfl (by kernel_rfl) (by kernel_rfl) (by kernel_rfl) (fun _ _ _ h => h) (Or.inl ⟨by rfl, ?_⟩) (by assumption) ?_
                  rotate_left
                  · intro w9 hSw; (try dsimp only at hSw); go_simp; (first | done | with_reducible rfl)
                  (try simp only [List.getElem_toArray, List.getElem_cons_succ, List.getElem_cons_zero, Act.put, List.setIfInBounds_toArray, List.set_cons_zero, List.set_cons_succ])
                  refine wpAnyH_take (i := 11) (v := ?_) rfl (by kernel_rfl) (by kernel_rfl) (by kernel_rfl) (fun _ _ _ h => h) (Or.inl ⟨by rfl, ?_⟩) (by assumption) ?_
                  rotate_left
                  · intro w9 hSw; (try dsimp only at hSw); go_simp; (first | done | with_reducible rfl)
                  (try simp only [List.getElem_toArray, List.getElem_cons_succ, List.getElem_cons_zero, Act.put, List.setIfInBounds_toArray, List.set_cons_zero, List.set_cons_succ])
                  refine wpAnyH_take (i := 12) (v := ?_) rfl (by kernel_rfl) (by kernel_rfl) (by kernel_rfl) (fun _ _ _ h => h) (Or.inl ⟨by rfl, ?_⟩) (by assumption) ?_
                  rotate_left
                  · intro w9 hSw; (try dsimp only at hSw); go_simp; (first | done | with_reducible rfl)
                  (try simp only [List.getElem_toArray, List.getElem_cons_succ, List.getElem_cons_zero, Act.put, List.setIfInBounds_toArray, List.set_cons_zero, List.set_cons_succ])
                  refine wpAnyH_take (i := 13) (v := ?_) rfl (by kernel_rfl) (by kernel_rfl) (by kernel_rfl) (fun _ _ _ h => h) (Or.inl ⟨by rfl, ?_⟩) (by assumption) ?_
                  rotate_left
                  · intro w9 hSw; (try dsimp only at hSw); go_simp; (first | done | with_reducible rfl)
                  (try simp only [List.getElem_toArray, List.getElem_cons_succ, List.getElem_cons_zero, Act.put, List.setIfInBounds_toArray, List.set_cons_zero, List.set_cons_succ])
                  refine wpAnyH_take (i := 14) (v := ?_) rfl (by kernel_rfl) (by kernel_rfl) (by kernel_rfl) (fun _ _ _ h => h) (Or.inl ⟨by rfl, ?_⟩) (by assumption) ?_
                  rotate_left
                  · intro w9 hSw; (try dsimp only at hSw); go_simp; (first | done | with_reducible rfl)
                  (try simp only [List.getElem_toArray, List.getElem_cons_succ, List.getElem_cons_zero, Act.put, List.setIfInBounds_toArray, List.set_cons_zero, List.set_cons_succ])
                  refine wpAnyH_take (i := 15) (v := ?_) rfl (by kernel_rfl) (by kernel_rfl) (by kernel_rfl) (fun _ _ _ h => h) (Or.inl ⟨by rfl, ?_⟩) (by assumption) ?_
                  rotate_left
                  · intro w9 hSw; (try dsimp only at hSw); go_simp; (first | done | with_reducible rfl)
                  (try simp only [List.getElem_toArray, List.getElem_cons_succ, List.getElem_cons_zero, Act.put, List.setIfInBounds_toArray, List.set_cons_zero, List.set_cons_succ])
                  refine wpAnyH_take (i := 16) (v := ?_) rfl (by kernel_rfl) (by kernel_rfl) (by kernel_rfl) (fun _ _ _ h => h) (Or.inl ⟨by rfl, ?_⟩) (by assumption) ?_
                  rotate_left
                  · intro w9 hSw; (try dsimp only at hSw); go_simp; (first | done | with_reducible rfl)
                  (try simp only [List.getElem_toArray, List.getElem_cons_succ, List.getElem_cons_zero, Act.put, List.setIfInBounds_toArray, List.set_cons_zero, List.set_cons_succ])
                  refine wpAnyH_take (i := 17) (v := ?_) rfl (by kernel_rfl) (by kernel_rfl) (by kernel_rfl) (fun _ _ _ h => h) (Or.inl ⟨by rfl, ?_⟩) (by assumption) ?_
                  rotate_left
                  · intro w9 hSw; (try dsimp only at hSw); go_simp; (first | done | with_reducible rfl)
                  (try simp only [List.getElem_toArray, List.getElem_cons_succ, List.getElem_cons_zero, Act.put, List.setIfInBounds_toArray, List.set_cons_zero, List.set_cons_succ])
                  refine wpAnyH_take (i := 18) (v := ?_) rfl (by kernel_rfl) (by kernel_rfl) (by kernel_rfl) (fun _ _ _ h => h) (Or.inl ⟨by rfl, ?_⟩) (by assumption) ?_
                  rotate_left
                  · intro w9 hSw; (try dsimp only at hSw); go_simp; (first | done | with_reducible rfl)
                  (try simp only [List.getElem_toArray, List.getElem_cons_succ, List.getElem_cons_zero, Act.put, List.setIfInBounds_toArray, List.set_cons_zero, List.set_cons_succ])
                  refine wpAnyH_take (i := 19) (v := ?_) rfl (by kernel_rfl) (by kernel_rfl) (by kernel_rfl) (fun _ _ _ h => h) (Or.inl ⟨by rfl, ?_⟩) (by assumption) ?_
                  rotate_left
                  · intro w9 hSw; (try dsimp only at hSw); go_simp; (first | done | with_reducible rfl)
                  (try simp only [List.getElem_toArray, List.getElem_cons_succ, List.getElem_cons_zero, Act.put, List.setIfInBounds_toArray, List.set_cons_zero, List.set_cons_succ])
                  refine wpAnyH_take (i := 20) (v := ?_) rfl (by kernel_rfl) (by kernel_rfl) (by kernel_rfl) (fun _ _ _ h => h) (Or.inl ⟨by rfl, ?_⟩) (by assumption) ?_
                  rotate_left
                  · intro w9 hSw; (try dsimp only at hSw); go_simp; (first | done | with_reducible rfl)
                  (try simp only [List.getElem_toArray, List.getElem_cons_succ, List.getElem_cons_zero, Act.put, List.setIfInBounds_toArray, List.set_cons_zero, List.set_cons_succ])
                  refine wpAnyH_take (i := 21) (v := ?_) rfl (by kernel_rfl) (by kernel_rfl) (by kernel_rfl) (fun _ _ _ h => h) (Or.inl ⟨by rfl, ?_⟩) (by assumption) ?_
                  rotate_left
                  · intro w9 hSw; (try dsimp only at hSw); go_simp; (first | done | with_reducible rfl)
                  (try simp only [List.getElem_toArray, List.getElem_cons_succ, List.getElem_cons_zero, Act.put, List.setIfInBounds_toArray, List.set_cons_zero, List.set_cons_succ])
                  refine wpAnyH_take (i := 22) (v := ?_) rfl (by kernel_rfl) (by kernel_rfl) (by kernel_rfl) (fun _ _ _ h => h) (Or.inl ⟨by rfl, ?_⟩) (by assumption) ?_
                  rotate_left
                  · intro w9 hSw; (try dsimp only at hSw); go_simp; (first | done | with_reducible rfl)
                  (try simp only [List.getElem_toArray, List.getElem_cons_succ, List.getElem_cons_zero, Act.put, List.setIfInBounds_toArray, List.set_cons_zero, List.set_cons_succ])
                  refine wpAnyH_take (i := 23) (v := ?_) rfl (by kernel_rfl) (by kernel_rfl) (by kernel_rfl) (fun _ _ _ h => h) (Or.inl ⟨by rfl, ?_⟩) (by assumption) ?_
                  rotate_left
                  · intro w9 hSw; (try dsimp only at hSw); go_simp; (first | done | with_reducible rfl)
                  (try simp only [List.getElem_toArray, List.getElem_cons_succ, List.getElem_cons_zero, Act.put, List.setIfInBounds_toArray, List.set_cons_zero, List.set_cons_succ])
                  refine wpAnyH_take (i := 24) (v := ?_) rfl (by kernel_rfl) (by kernel_rfl) (by kernel_rfl) (fun _ _ _ h => h) (Or.inl ⟨by rfl, ?_⟩) (by assumption) ?_
                  rotate_left
                  · intro w9 hSw; (try dsimp only at hSw); go_simp; (first | done | with_reducible rfl)
                  (try simp only [List.getElem_toArray, List.getElem_cons_succ, List.getElem_cons_zero, Act.put, List.setIfInBounds_toArray, List.set_cons_zero, List.set_cons_succ])
                  refine wpAnyH_take (i := 25) (v := ?_) rfl (by kernel_rfl) (by kernel_rfl) (by kernel_rfl) (fun _ _ _ h => h) (Or.inl ⟨by rfl, ?_⟩) (by assumption) ?_
                  rotate_left
                  · intro w9 hSw; (try dsimp only at hSw); go_simp; (first | done | with_reducible rfl)
                  (try simp only [List.getElem_toArray, List.getElem_cons_succ, List.getElem_cons_zero, Act.put, List.setIfInBounds_toArray, List.set_cons_zero, List.set_cons_succ])
                  refine wpAnyH_take (i := 26) (v := ?_) rfl (by kernel_rfl) (by kernel_rfl) (by kernel_rfl) (fun _ _ _ h => h) (Or.inl ⟨by rfl, ?_⟩) (by assumption) ?_
                  rotate_left
                  · intro w9 hSw; (try dsimp only at hSw); go_simp; (first | done | with_reducible rfl)
                  (try simp only [List.getElem_toArray, List.getElem_cons_succ, List.getElem_cons_zero, Act.put, List.setIfInBounds_toArray, List.set_cons_zero, List.set_cons_succ])
                  refine wpAnyH_take (i := 27) (v := ?_) rfl (by kernel_rfl) (by kernel_rfl) (by kernel_rfl) (fun _ _ _ h => h) (Or.inl ⟨by rfl, ?_⟩) (by assumption) ?_
                  rotate_left
                  · intro w9 hSw; (try dsimp only at hSw); go_simp; (first | done | with_reducible rfl)
                  (try simp only [List.getElem_toArray, List.getElem_cons_succ, List.getElem_cons_zero, Act.put, List.setIfInBounds_toArray, List.set_cons_zero, List.set_cons_succ])
                  refine wpAnyH_take (i := 28) (v := ?_) rfl (by kernel_rfl) (by kernel_rfl) (by kernel_rfl) (fun _ _ _ h => h) (Or.inl ⟨by rfl, ?_⟩) (by assumption) ?_
                  rotate_left
                  · intro w9 hSw; (try dsimp only at hSw); go_simp; (first | done | with_reducible rfl)
                  (try simp only [List.getElem_toArray, List.getElem_cons_succ, List.getElem_cons_zero, Act.put, List.setIfInBounds_toArray, List.set_cons_zero, List.set_cons_succ])
                  refine wpAnyH_take (i := 29) (v := ?_) rfl (by kernel_rfl) (by kernel_rfl) (by kernel_rfl) (fun _ _ _ h => h) (Or.inl ⟨by rfl, ?_⟩) (by assumption) ?_
                  rotate_left
                  · intro w9 hSw; (try dsimp only at hSw); go_simp; (first | done | with_reducible rfl)
                  (try simp only [List.getElem_toArray, List.getElem_cons_succ, List.getElem_cons_zero, Act.put, List.setIfInBounds_toArray, List.set_cons_zero, List.set_cons_succ])
                  refine wpAnyH_take (i := 30) (v := ?_) rfl (by kernel_rfl) (by kernel_rfl) (by kernel_rfl) (fun _ _ _ h => h) (Or.inl ⟨by rfl, ?_⟩) (by assumption) ?_
                  rotate_left
                  · intro w9 hSw; (try dsimp only at hSw); go_simp; (first | done | with_reducible rfl)
                  (try simp only [List.getElem_toArray, List.getElem_cons_succ, List.getElem_cons_zero, Act.put, List.setIfInBounds_toArray, List.set_cons_zero, List.set_cons_succ])
                  refine wpAnyH_take (i := 31) (v := undef) rfl (by kernel_rfl) (by kernel_rfl) (by kernel_rfl) (fun _ _ _ h => h) (Or.inr ⟨by rfl, rfl⟩) (by assumption) ?_
                  (try simp only [List.getElem_toArray, List.getElem_cons_succ, List.getElem_cons_zero, Act.put, List.setIfInBounds_toArray, List.set_cons_zero, List.set_cons_succ])
                  refine wpAnyH_take (i := 32) (v := undef) rfl (by kernel_rfl) (by kernel_rfl) (by kernel_rfl) (fun _ _ _ h => h) (Or.inr ⟨by rfl, rfl⟩) (by assumption) ?_
                  (try simp only [List.getElem_toArray, List.getElem_cons_succ, List.getElem_cons_zero, Act.put, List.setIfInBounds_toArray, List.set_cons_zero, List.set_cons_succ])
                  refine wpAnyH_take (i := 33) (v := undef) rfl (by kernel_rfl) (by kernel_rfl) (by kernel_rfl) (fun _ _ _ h => h) (Or.inr ⟨by rfl, rfl⟩) (by assumption) ?_
                  (try simp only [List.getElem_toArray, List.getElem_cons_succ, List.getElem_cons_zero, Act.put, List.setIfInBounds_toArray, List.set_cons_zero, List.set_cons_succ])
                  refine wpAnyH_take (i := 34) (v := undef) rfl (by kernel_rfl) (by kernel_rfl) (by kernel_rfl) (fun _ _ _ h => h) (Or.inr ⟨by rfl, rfl⟩) (by assumption) ?_
                  (try simp only [List.getElem_toArray, List.getElem_cons_succ, List.getElem_cons_zero, Act.put, List.setIfInBounds_toArray, List.set_cons_zero, List.set_cons_succ])
                  refine wpAnyH_take (i := 35) (v := undef) rfl (by kernel_rfl) (by kernel_rfl) (by kernel_rfl) (fun _ _ _ h => h) (Or.inr ⟨by rfl, rfl⟩) (by assumption) ?_
                  (try simp only [List.getElem_toArray, List.getElem_cons_succ, List.getElem_cons_zero, Act.put, List.setIfInBounds_toArray, List.set_cons_zero, List.set_cons_succ])
                  refine wpAnyH_take (i := 36) (v := undef) rfl (by kernel_rfl) (by kernel_rfl) (by kernel_rfl) (fun _ _ _ h => h) (Or.inr ⟨by rfl, rfl⟩) (by assumption) ?_
                  (try simp only [List.getElem_toArray, List.getElem_cons_succ, List.getElem_cons_zero, Act.put, List.setIfInBounds_toArray, List.set_cons_zero, List.set_cons_succ])
                  refine wpAnyH_take (i := 37) (v := undef) rfl (by kernel_rfl) (by kernel_rfl) (by kernel_rfl) (fun _ _ _ h => h) (Or.inr ⟨by rfl, rfl⟩) (by assumption) ?_
                  (try simp only [List.getElem_toArray, List.getElem_cons_succ, List.getElem_cons_zero, Act.put, List.setIfInBounds_toArray, List.set_cons_zero, List.set_cons_succ])
                  refine wpAnyH_take (i := 38) (v := undef) rfl (by kernel_rfl) (by kernel_rfl) (by kernel_rfl) (fun _ _ _ h => h) (Or.inr ⟨by rfl, rfl⟩) (by assumption) ?_
                  (try simp only [List.getElem_toArray, List.getElem_cons_succ, List.getElem_cons_zero, Act.put, List.setIfInBounds_toArray, List.set_cons_zero, List.set_cons_succ])
                  refine wpAnyH_take (i := 39) (v := undef) rfl (by kernel_rfl) (by kernel_rfl) (by kernel_rfl) (fun _ _ _ h => h) (Or.inr ⟨by rfl, rfl⟩) (by assumption) ?_
                  (try simp only [List.getElem_toArray, List.getElem_cons_succ, List.getElem_cons_zero, Act.put, List.setIfInBounds_toArray, List.set_cons_zero, List.set_cons_succ])
                  refine wpAnyH_take (i := 40) (v := undef) rfl (by kernel_rfl) (by kernel_rfl) (by kernel_rfl) (fun _ _ _ h => h) (Or.inr ⟨by rfl, rfl⟩) (by assumption) ?_
                  (try simp only [List.getElem_toArray, List.getElem_cons_succ, List.getElem_cons_zero, Act.put, List.setIfInBounds_toArray, List.set_cons_zero, List.set_cons_succ])
                  refine wpAnyH_take (i := 41) (v := ?_) rfl (by kernel_rfl) (by kernel_rfl) (by kernel_rfl) (fun _ _ _ h => h) (Or.inl ⟨by rfl, ?_⟩) (by assumption) ?_
                  rotate_left
                  · intro w9 hSw; (try dsimp only at hSw); go_simp; (first | done | with_reducible rfl)
                  (try simp only [List.getElem_toArray, List.getElem_cons_succ, List.getElem_cons_zero, Act.put, List.setIfInBounds_toArray, List.set_cons_zero, List.set_cons_succ])
                  refine wpAnyH_take (i := 42) (v := ?_) rfl (by kernel_rfl) (by kernel_rfl) (by kernel_rfl) (fun _ _ _ h => h) (Or.inl ⟨by rfl, ?_⟩) (by assumption) ?_
                  rotate_left
                  · intro w9 hSw; (try dsimp only at hSw); go_simp; (first | done | with_reducible rfl)
                  (try simp only [List.getElem_toArray, List.getElem_cons_succ, List.getElem_cons_zero, Act.put, List.setIfInBounds_toArray, List.set_cons_zero, List.set_cons_succ])
                  refine wpAnyH_done (by kernel_rfl) ?_ _
                  clear hHeld
                  have XX2 := XX.trans (Ext.drew _)
                  go_wp2
                  refine wp_region_T (S := fun ω => ω.cell? ⟨lb, lo9 + j, none⟩ = some (.int .i64 (q : Int)) ∧ ω.cell? ⟨wa.heap.size, q, none⟩ = some (.int .i64 0) ∧ Ext W ω) 14 (by kernel_rfl) ?_ (fun hHeld => ?_) (by decide)
                  · (try dsimp only); (refine ⟨?_, ?_, ?_⟩ <;> first | (simp [go_sem]; done) | (simp [*, go_sem]; done) | exact XX2.trans (Ext.drew _))
                  refine wpT_take (i := 0) (v := ?_) rfl (by kernel_rfl) (by decide) (by kernel_rfl) (by kernel_rfl) (by kernel_rfl) (fun _ _ _ h => h) (Or.inl ⟨by rfl, ?_⟩) (by assumption) ?_
                  rotate_left
                  · intro w9 hSw; (try dsimp only at hSw); go_simp; (first | done | with_reducible rfl)
                  (try simp only [List.getElem_toArray, List.getElem_cons_succ, List.getElem_cons_zero, Act.put, List.setIfInBounds_toArray, List.set_cons_zero, List.set_cons_succ])
                  refine wpT_take (i := 1) (v := ?_) rfl (by kernel_rfl) (by decide) (by kernel_rfl) (by kernel_rfl) (by kernel_rfl) (fun _ _ _ h => h) (Or.inl ⟨by rfl, ?_⟩) (by assumption) ?_
                  rotate_left
                  · intro w9 hSw; (try dsimp only at hSw); go_simp; (first | done | with_reducible rfl)
                  (try simp only [List.getElem_toArray, List.getElem_cons_succ, List.getElem_cons_zero, Act.put, List.setIfInBounds_toArray, List.set_cons_zero, List.set_cons_succ])
                  refine wpT_take (i := 2) (v := ?_) rfl (by kernel_rfl) (by decide) (by kernel_rfl) (by kernel_rfl) (by kernel_rfl) (fun _ _ _ h => h) (Or.inl ⟨by rfl, ?_⟩) (by assumption) ?_
                  rotate_left
                  · intro w9 hSw; (try dsimp only at hSw); go_simp; (first | done | with_reducible rfl)
                  (try simp only [List.getElem_toArray, List.getElem_cons_succ, List.getElem_cons_zero, Act.put, List.setIfInBounds_toArray, List.set_cons_zero, List.set_cons_succ])
                  refine wpT_take (i := 3) (v := ?_) rfl (by kernel_rfl) (by decide) (by kernel_rfl) (by kernel_rfl) (by kernel_rfl) (fun _ _ _ h => h) (Or.inl ⟨by rfl, ?_⟩) (by assumption) ?_
                  rotate_left
                  · intro w9 hSw; (try dsimp only at hSw); go_simp; (first | done | with_reducible rfl)
                  (try simp only [List.getElem_toArray, List.getElem_cons_succ, List.getElem_cons_zero, Act.put, List.setIfInBounds_toArray, List.set_cons_zero, List.set_cons_succ])
                  refine wpT_take (i := 4) (v := ?_) rfl (by kernel_rfl) (by decide) (by kernel_rfl) (by kernel_rfl) (by kernel_rfl) (fun _ _ _ h => h) (Or.inl ⟨by rfl, ?_⟩) (by assumption) ?_
                  rotate_left
                  · intro w9 hSw; (try dsimp only at hSw); go_simp; (first | done | with_reducible rfl)
                  (try simp only [List.getElem_toArray, List.getElem_cons_succ, List.getElem_cons_zero, Act.put, List.setIfInBounds_toArray, List.set_cons_zero, List.set_cons_succ])
                  refine wpT_take (i := 5) (v := ?_) rfl (by kernel_rfl) (by decide) (by kernel_rfl) (by kernel_rfl) (by kernel_rfl) (fun _ _ _ h => h) (Or.inl ⟨by rfl, ?_⟩) (by assumption) ?_
                  rotate_left
                  · intro w9 hSw; (try dsimp only at hSw); go_simp; (first | done | with_reducible rfl)
                  (try simp only [List.getElem_toArray, List.getElem_cons_succ, List.getElem_cons_zero, Act.put, List.setIfInBounds_toArray, List.set_cons_zero, List.set_cons_succ])
                  refine wpT_take (i := 6) (v := ?_) rfl (by kernel_rfl) (by decide) (by kernel_rfl) (by kernel_rfl) (by kernel_rfl) (fun _ _ _ h => h) (Or.inl ⟨by rfl, ?_⟩) (by assumption) ?_
                  rotate_left
                  · intro w9 hSw; (try dsimp only at hSw); go_simp; (first | done | with_reducible rfl)
                  (try simp only [List.getElem_toArray, List.getElem_cons_succ, List.getElem_cons_zero, Act.put, List.setIfInBounds_toArray, List.set_cons_zero, List.set_cons_succ])
                  refine wpT_take (i := 7) (v := ?_) rfl (by kernel_rfl) (by decide) (by kernel_rfl) (by kernel_rfl) (by kernel_rfl) (fun _ _ _ h => h) (Or.inl ⟨by rfl, ?_⟩) (by assumption) ?_
                  rotate_left
                  · intro w9 hSw; (try dsimp only at hSw); go_simp; (first | done | with_reducible rfl)
                  (try simp only [List.getElem_toArray, List.getElem_cons_succ, List.getElem_cons_zero, Act.put, List.setIfInBounds_toArray, List.set_cons_zero, List.set_cons_succ])
                  refine wpT_take (i := 8) (v := ?_) rfl (by kernel_rfl) (by decide) (by kernel_rfl) (by kernel_rfl) (by kernel_rfl) (fun _ _ _ h => h) (Or.inl ⟨by rfl, ?_⟩) (by assumption) ?_
                  rotate_left
                  · intro w9 hSw; (try dsimp only at hSw); go_simp; (first | done | with_reducible rfl)
                  (try simp only [List.getElem_toArray, List.getElem_cons_succ, List.getElem_cons_zero, Act.put, List.setIfInBounds_toArray, List.set_cons_zero, List.set_cons_succ])
                  refine wpT_take (i := 9) (v := ?_) rfl (by kernel_rfl) (by decide) (by kernel_rfl) (by kernel_rfl) (by kernel_rfl) (fun _ _ _ h => h) (Or.inl ⟨by rfl, ?_⟩) (by assumption) ?_
                  rotate_left
                  · intro w9 hSw; (try dsimp only at hSw); go_simp; (first | done | with_reducible rfl)
                  (try simp only [List.getElem_toArray, List.getElem_cons_succ, List.getElem_cons_zero, Act.put, List.setIfInBounds_toArray, List.set_cons_zero, List.set_cons_succ])
                  refine wpT_take (i := 10) (v := ?_) rfl (by kernel_rfl) (by decide) (by kernel_rfl) (by kernel_rfl) (by kernel_rfl) (fun _ _ _ h => h) (Or.inl ⟨by rfl, ?_⟩) (by assumption) ?_
                  rotate_left
                  · intro w9 hSw; (try dsimp only at hSw); go_simp; (first | done | with_reducible rfl)
                  (try simp only [List.getElem_toArray, List.getElem_cons_succ, List.getElem_cons_zero, Act.put, List.setIfInBounds_toArray, List.set_cons_zero, List.set_cons_succ])
                  refine wpT_take (i := 11) (v := ?_) rfl (by kernel_rfl) (by decide) (by kernel_rfl) (by kernel_rfl) (by kernel_rfl) (fun _ _ _ h => h) (Or.inl ⟨by rfl, ?_⟩) (by assumption) ?_
                  rotate_left
                  · intro w9 hSw; (try dsimp only at hSw); go_simp; (first | done | with_reducible rfl)
                  (try simp only [List.getElem_toArray, List.getElem_cons_succ, List.getElem_cons_zero, Act.put, List.setIfInBounds_toArray, List.set_cons_zero, List.set_cons_succ])
                  refine wpT_take (i := 12) (v := ?_) rfl (by kernel_rfl) (by decide) (by kernel_rfl) (by kernel_rfl) (by kernel_rfl) (fun _ _ _ h => h) (Or.inl ⟨by rfl, ?_⟩) (by assumption) ?_
                  rotate_left
                  · intro w9 hSw; (try dsimp only at hSw); go_simp; (first | done | with_reducible rfl)
                  (try simp only [List.getElem_toArray, List.getElem_cons_succ, List.getElem_cons_zero, Act.put, List.setIfInBounds_toArray, List.set_cons_zero, List.set_cons_succ])
                  refine wpT_take (i := 13) (v := ?_) rfl (by kernel_rfl) (by decide) (by kernel_rfl) (by kernel_rfl) (by kernel_rfl) (fun _ _ _ h => h) (Or.inl ⟨by rfl, ?_⟩) (by assumption) ?_
                  rotate_left
                  · intro w9 hSw; (try dsimp only at hSw); go_simp; (first | done | with_reducible rfl)
                  (try simp only [List.getElem_toArray, List.getElem_cons_succ, List.getElem_cons_zero, Act.put, List.setIfInBounds_toArray, List.set_cons_zero, List.set_cons_succ])
                  refine wpT_last (by kernel_rfl) (by kernel_rfl) rfl (fun K hK => ?_)
                  clear hHeld
                  go_simp
                  refine hK.out _ _ ?_
                  clear hK K
                  have HM9 := Lib.hid (MS.put (j := q) ((HK.out.1.grow (Ext.drew _)).grow (Ext.drew _)) (by have := HK.out.2.1.1; omega) 1)
                  have hro : rowC.own wq.heap.size w5.heap.size _ _ _ := Cd.own.pSet (a := ⟨wa.heap.size, q, none⟩) (HK.out.2.2.pDrew.pDrew) (.inl zq) (.int .i64 1)
                  have HR9 := Lib.hid hro
                  clear hro hcp hcf hcm hfm c0 c1 XX XX2
                  go_wp2
                  go_roundw
                  case rel => exact ⟨j + 1, M.set q 1, by omega, by go_num, Lib.hid ⟨HM9.out, HN.out.1, HR9.out⟩, by simp [World.setCell]; exact zz⟩
                  case measure => (simp [intOf] <;> omega)
              · have hjd : decide ((j : Int) < l.length) = false := by rw [decide_eq_false_iff_not]; omega
                have hj9 : Hid (Met6 ms ((i + 1 : Nat) : Int) [] M) := by
                  have h9 := HK.out.2.1
                  rw [List.take_of_length_le (by rw [← HL.out]; omega)] at h9
                  exact met_next h9
                go_wp2
                go_roundw
                case rel => exact ⟨i + 1, M, by omega, by go_num, Lib.hid ⟨HK.out.1, hj9.out⟩, zz⟩
                case measure => (simp [intOf] <;> omega)
          · have hid : decide ((i : Int) < 6) = false := by rw [decide_eq_false_iff_not]; omega
            have hM6 : Hid (Met6 ms 6 [] M) := (show (i : Int) = 6 by omega) ▸ HJ.out.2
            clear c0 c1
            go_wp2
            go_loopw [10] (fun v10 wy => ∃ t : Nat, t ≤ ms.length ∧ v10 = .int .i64 t ∧ Hid (MS W w2.heap.size wa.heap.size wy (.slice pa ms.length pc) (.slice qa 0 qc) (ms, []) M)) (fun v10 _ => ms.length - (intOf v10).toNat)
            case atStart => exact ⟨0, Nat.zero_le _, rfl, Lib.hid HJ.out.1⟩
            case round =>
              obtain ⟨t, ht, rfl, HY⟩ := hrel
              by_cases htl : t < ms.length
              · obtain ⟨hct, -⟩ := HY.out.cell (met_end hM6.out (fun x hx => (HTO.out x hx).2) (j := t) (by rw [hM6.out.1]; exact htl))
                have ht1 : (0 : Int) ≤ t := by omega
                have ht2 : (t : Int) < ms.length := by omega
                go_wp2
                go_roundw
                case rel => exact ⟨t + 1, by omega, by go_num, HY⟩
                case measure => (simp [intOf] <;> omega)
              · have htd : decide ((t : Int) < ms.length) = false := by rw [decide_eq_false_iff_not]; omega
                have c0 := HY.out.net.cell 0 _ rfl; have c1 := HY.out.net.cell 1 _ rfl
                go_wp2_with fail
                refine (implNetOk_c _ (ms, []) _ HY.out.view).mono ?_
                rw [hok.out]
                rintro e w7 ⟨rfl, X7⟩
                have HZ := Lib.hid (HY.out.grow X7)
                clear X7 c0 c1
                have c0 := HZ.out.net.cell 0 _ rfl; have c1 := HZ.out.net.cell 1 _ rfl
                go_wp2_with fail
                refine (implLettersTo_c _ (ms, []) 6 _ HZ.out.view).mono ?_
                have hl6 : lettersTo (ms, []) 6 = [] := by unfold lettersTo; rw [if_pos hok.out]; exact letters_six (fun x hx => (HTO.out x hx).2)
                rw [hl6]
                rintro e w8 ⟨v8, rfl, X8, O8⟩
                obtain ⟨za, zc, rfl, -, -, -⟩ := row_take O8
                clear hl6
                go_wp2
                go_ret
                exact ⟨rfl, HZ.out.ext.trans X8⟩

set_option maxRecDepth 100000 in
theorem forwhom_holds : Rows.FnForWhomSaid :=
  OpenClaim.holds_of_wide 13 Try.f13 rfl rfl rfl rfl rfl rfl rfl ⟨rfl, rfl, rfl, rfl, rfl⟩ rfl rfl rfl rfl rfl (by kernel_rfl) Try.func13 (by kernel_rfl)
    (of_decide_eq_true (by kernel_rfl)) (by unfold Func.isWrapper; rw [if_neg (of_decide_eq_false (by kernel_rfl))]; exact ⟨rfl, rfl⟩)
    (fun os started H enc _ => law_lifted (C := Try.checked) (f := 13) (fn := Try.f13) (s := Rows.fnForWhomSpec) (tb := 4) Try.own started (by kernel_rfl) Try.func13 Try.laidOut (of_decide_eq_true (by kernel_rfl)) rfl Try.underlying4 rfl
      (fun ds h => by match ds, h with | [_], _ => exact ⟨rfl, rfl, rfl⟩)
      (ChangeSpec.witness6 (enc := enc) (C := Try.checked) false ⟨#[], #[.slice none 0 0], []⟩ 8 (by kernel_rfl) (by kernel_rfl) (by kernel_rfl) (by kernel_rfl))
      forwhom_c)

end Go.Proofs.Ytkigfmkdbgcpeaa

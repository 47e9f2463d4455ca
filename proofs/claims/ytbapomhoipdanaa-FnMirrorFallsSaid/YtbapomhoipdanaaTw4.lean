/- Two disks: what is right at a sector. -/
import Derived.Test.YtbapomhoipdanaaTw2
set_option linter.unusedVariables false
set_option linter.unusedSimpArgs false
namespace Go.Sl
open Go.RowKit
theorem own_of_empty {α : Type} {R : Cd α} {w : World} {b : Nat} (h : Bx w b []) : (sliceC R).own b (b + 1) w [.slice (some ⟨b, 0, none⟩) 0 0] [] := by
  obtain ⟨E, h⟩ := h
  refine ⟨[b], ⟨_, 0, [], [], rfl, Nat.le_refl _, Nat.zero_le _, .inr ⟨b, 0, _, E, rfl, h, by simp, by simp, rfl⟩, ⟨rfl, rfl⟩, rfl⟩, by simp, fun x hx => ?_⟩
  rw [List.mem_singleton.1 hx]
  omega
/-- All that x leads to lies in blocks of P, none twice. -/
def Cd.ownP {α : Type} (R : Cd α) (P : Nat → Prop) (w : World) (cs : List Value) (x : α) : Prop := ∃ fp, R.O w cs x fp ∧ fp.Nodup ∧ ∀ b ∈ fp, P b
theorem Cd.own.ownP {α : Type} {R : Cd α} {lo hi : Nat} {w : World} {cs : List Value} {x : α} (h : R.own lo hi w cs x) : R.ownP (fun b => lo ≤ b ∧ b < hi) w cs x := h
theorem Cd.ownP.own {α : Type} {R : Cd α} {P : Nat → Prop} {lo hi : Nat} {w : World} {cs : List Value} {x : α} (h : R.ownP P w cs x) (hp : ∀ b, P b → lo ≤ b ∧ b < hi) : R.own lo hi w cs x := by
  obtain ⟨fp, a, b, c⟩ := h
  exact ⟨fp, a, b, fun i hi => hp i (c i hi)⟩
theorem Cd.ownP.ext {α : Type} {R : Cd α} {P : Nat → Prop} {w w' : World} {cs : List Value} {x : α} (h : R.ownP P w cs x) (he : Ext w w') : R.ownP P w' cs x := by
  obtain ⟨fp, h1, h2, h3⟩ := h
  exact ⟨fp, R.frame h1 (fun b hb => he.block b (R.lt h1 b hb)), h2, h3⟩

theorem own_snocP {α : Type} {R : Cd α} {D F : Nat → Prop} {w w' : World} {a a' : Option Addr} {cap cap' : Nat} {l : List α} {x : α} {xs cs : List Value} {fps fx : List Nat}
    (hel : elemsO (R.O w) xs l fps) (hn : (ablk a ++ fps).Nodup) (hin : ∀ b ∈ ablk a ++ fps, D b)
    (hx : R.O w cs x fx) (hxn : fx.Nodup) (hxin : ∀ b ∈ fx, F b) (hd : ∀ b, D b → ¬ F b)
    (hs : SlAt w' R.n a' cap' (xs ++ cs)) (hc : l.length + 1 ≤ cap') (hm : cap' ≤ maxLen) (hw : AppW w w' a a') :
    (sliceC R).ownP (fun b => D b ∨ F b ∨ (w.heap.size ≤ b ∧ b < w'.heap.size)) w' [.slice a' (l.length + 1) cap'] (l ++ [x]) := by
  have hne : ∀ b ∈ fps, b ∉ ablk a := fun b hb ha => (List.nodup_append.1 hn).2.2 b ha b hb rfl
  have hnx : ∀ b ∈ fx, b ∉ ablk a := fun b hb ha => hd b (hin b (List.mem_append_left _ ha)) (hxin b hb)
  have hlt := elemsO_lt R hel
  have hltx := R.lt hx
  have h1 := elemsO_frame R (w' := w') hel (fun b hb => hw.block b (hlt b hb) (hne b hb))
  have h2 := R.frame (w' := w') hx (fun b hb => hw.block b (hltx b hb) (hnx b hb))
  refine ⟨ablk a' ++ (fps ++ fx), ⟨a', cap', xs ++ cs, fps ++ fx, by simp, by simpa using hc, hm, hs, (elemsO_append R).2 ⟨xs, cs, fps, fx, rfl, rfl, h1, cs, [], fx, [], by simp, by simp, h2, rfl, rfl⟩, rfl⟩, ?_, ?_⟩
  · have hff : (fps ++ fx).Nodup := by
      rw [List.nodup_append]
      refine ⟨(List.nodup_append.1 hn).2.1, hxn, fun b hb c hc e => ?_⟩
      subst e
      exact hd b (hin b (List.mem_append_right _ hb)) (hxin b hc)
    rw [List.nodup_append]
    refine ⟨by cases a' <;> simp [ablk], hff, fun b hb c hc e => ?_⟩
    subst e
    rcases List.mem_append.1 hc with hc | hc
    · rcases hw.mem hb with hb | ⟨hb, _⟩
      · exact hne b hc hb
      · have := hlt b hc; omega
    · rcases hw.mem hb with hb | ⟨hb, _⟩
      · exact hnx b hc hb
      · have := hltx b hc; omega
  · intro b hb
    rcases List.mem_append.1 hb with hb | hb
    · rcases hw.mem hb with hb | ⟨hb, hs'⟩
      · exact .inl (hin b (List.mem_append_left _ hb))
      · exact .inr (.inr ⟨by omega, hs'⟩)
    · rcases List.mem_append.1 hb with hb | hb
      · exact .inl (hin b (List.mem_append_right _ hb))
      · exact .inr (.inl (hxin b hb))

theorem wpList_snocP {α : Type} {R : Cd α} {P : Program} {w : World} {ops : Array Oper} {rest : List Oper} {o : Oper} {ac : Act} {Q : Exit → Act → World → Prop} (hgd : o.guard = none) (s x : Operand) (t : TypeId)
    (ho : o.op = .call { callee := .builtin .append, args := #[s, x], argTypes := #[t, t] })
    (e : TypeId) (z : Value) (bytes : Nat) (ht : P.underlying t = some (.slice e)) (hinfo : (P.info? e).map (fun i => (i.zero, i.size, i.bytes)) = some (some z, R.n, bytes)) (hzs : z.cells.size = R.n)
    {D F : Nat → Prop} {lo hi : Nat} {sv : Value} {l : List α} {y : α} {cs : List Value} (hO : (sliceC R).ownP D w [sv] l) (hs : ac.eval s = sv)
    (hy : R.ownP F w cs y) (hd : ∀ b, D b → ¬ F b) (hD : ∀ b, D b → lo ≤ b ∧ b < hi)
    (ax : Option Addr) (c : Nat) (hx : ac.eval x = .slice ax 1 c) (hcs : CellsAt w ax cs) (hb : (l.length + 1) * bytes ≤ 140737488355328 ∧ l.length + 1 ≤ 9223372036854775807)
    (h : ∀ v' w', (∃ a' cap', v' = .slice a' (l.length + 1) cap') → (sliceC R).ownP (fun b => D b ∨ F b ∨ (w.heap.size ≤ b ∧ b < w'.heap.size)) w' [v'] (l ++ [y]) → Chg lo hi w w' → wpList P ops Q rest (ac.put o.dst v') w') : wpList P ops Q (o :: rest) ac w := by
  obtain ⟨fp, ⟨a, cap, xs, fps, h1, h2, h3, h4, h5, rfl⟩, hn, hin⟩ := hO
  cases h1
  obtain ⟨fx, hx1, hxn, hxin⟩ := hy
  obtain ⟨i, hi', hz, hsize, hby⟩ := info_parts hinfo
  have hlx : xs.length = l.length * R.n := elemsV_len R (elemsO_view R h5)
  obtain ⟨a', cap', w', hr, g1, g2, g3, g4⟩ := run_append_sl (P := P) w t o.type e i z R.n bytes ht hi' hz hsize hby hzs a l.length cap xs hlx h4 h2 ax 1 c cs (by rw [R.len (R.view hx1)]; omega) hcs (R.one (R.view hx1)) h3 (by simpa [maxLen] using hb.2) hb.1
  refine wpList_plain hgd fun K hK => ?_
  unfold Oper.wp execOp
  simp only [ho, resolve, invoke, builtin, Sem.run_bind, Sem.run_pure, Result.andThen_ok, List.map_toArray, List.map_cons, List.map_nil, hs, hx, hr]
  exact hK _ _ (h _ _ ⟨a', cap', rfl⟩ (own_snocP (cap := cap) h5 hn hin hx1 hxn hxin hd g1 g2 g3 g4) (g4.chg (fun b hb => hD b (hin b (List.mem_append_left _ hb)))))
end Go.Sl
namespace Go.Proofs.Ytbapomhoipdanaa
open Go.RowKit Go.Sl

theorem rightAt_form {t : TwoD} {n : Int} {F1 F2 r1 r2 : List Int} {o1 o2 : Bool} (h : twoOk t = true ∧ inB n 0 ((t.1.1.length : Int) - 1) = true) (h1 : (readAt t.1 n).1 = F1) (h2 : (readAt t.2 n).1 = F2) (h3 : unsum F1 = (r1, o1)) (h4 : unsum F2 = (r2, o2)) :
    rightAt t n = (if o1 = true then [r1] else []) ++ (if o2 = true ∧ ¬ (o1 = true ∧ r1 = r2) then [r2] else []) := by
  unfold rightAt
  rw [if_pos h, h1, h2, h3, h4]

set_option maxHeartbeats 16000000 in
set_option maxRecDepth 20000 in
theorem implRightAt_c (cs : List Value) (m : TwoD) (n : Int) (w : World) (h : twoC.V w cs m) :
    Calls Try.prog 17 #[.agg cs.toArray, .int .i64 n] w fun e w' => ∃ v, e = .returned v ∧ Ext w w' ∧ rowsC.own w.heap.size w'.heap.size w' [v] (rightAt m n) := by
  obtain ⟨u, v, u', v', rfl, hu, hv⟩ := two_V.1 h
  have HT := Lib.hid h
  obtain ⟨d, d'⟩ := m
  simp only at hu hv
  obtain ⟨⟨ua, uc, rfl⟩, va, vc, rfl⟩ := disk_forms hu
  obtain ⟨⟨ua', uc', rfl⟩, va', vc', rfl⟩ := disk_forms hv
  have H := Lib.hid (And.intro hu hv); clear hu hv h
  have hinr : (Try.prog.info? 44).map (fun i => (i.zero, i.size, i.bytes)) = some (some (.slice none 0 0), 1, 24) := by kernel_rfl
  have Hinr := Lib.hid hinr; clear hinr
  cases ht : twoOk (d, d')
  · rw [rightAt_no (by simp [ht])]
    have Ht := Lib.hid ht; clear ht
    go_enter Try.func17, Try.ntmps17
    go_wp2_with fail
    refine (implTwoOk_c _ (d, d') _ (twoC.vext HT.out (by repeat (first | with_reducible exact Ext.refl _ | with_reducible assumption | with_reducible refine Ext.pAlloc ?_ _ | ((with_reducible refine Ext.pSet ?_ ?_ _); rotate_left; (simp <;> omega)) | with_reducible refine Ext.pDrew ?_ | with_reducible refine Ext.pDrewN ?_ _)))).mono ?_
    rw [Ht.out]
    rintro e w1 ⟨rfl, Ew1⟩
    have Xw1 : Ext w w1 := Ext.trans (by repeat (first | with_reducible exact Ext.refl _ | with_reducible assumption | with_reducible refine Ext.pAlloc ?_ _ | ((with_reducible refine Ext.pSet ?_ ?_ _); rotate_left; (simp <;> omega)) | with_reducible refine Ext.pDrew ?_ | with_reducible refine Ext.pDrewN ?_ _)) Ew1
    have zw1 : w.heap.size + 1 ≤ w1.heap.size := by have := Ew1.size; (try simp at this); omega
    have B_t' : Bx w1 w.heap.size [.slice ua d.1.length uc, .slice va d.2.length vc, .slice ua' d'.1.length uc', .slice va' d'.2.length vc'] := Bx.ext (by repeat (first | with_reducible assumption | with_reducible exact Bx.new _ _ _ _ rfl | ((with_reducible refine Bx.new _ _ _ _ ?_); simp; done) | with_reducible refine Bx.pAlloc ?_ _ | with_reducible refine Bx.pDrew ?_ | with_reducible refine Bx.pDrewN ?_ _ | with_reducible apply Bx.set10 | with_reducible apply Bx.set20 | with_reducible apply Bx.set21 | with_reducible apply Bx.set30 | with_reducible apply Bx.set31 | with_reducible apply Bx.set32 | with_reducible apply Bx.set40 | with_reducible apply Bx.set41 | with_reducible apply Bx.set42 | with_reducible apply Bx.set43 | ((with_reducible refine Bx.set_other ?_ ?_ _); rotate_left; (simp <;> omega)))) Ew1
    have B_t := B_t'; clear B_t'
    clear Ew1
    have c_t_0 := B_t.cell 0 _ rfl
    have c_t_1 := B_t.cell 1 _ rfl
    have c_t_2 := B_t.cell 2 _ rfl
    have c_t_3 := B_t.cell 3 _ rfl
    have n_t := B_t.lt
    go_wp2
    go_ret
    exact ⟨_, rfl, by repeat (first | with_reducible exact Ext.refl _ | with_reducible assumption | with_reducible refine Ext.pAlloc ?_ _ | ((with_reducible refine Ext.pSet ?_ ?_ _); rotate_left; (simp <;> omega)) | with_reducible refine Ext.pDrew ?_ | with_reducible refine Ext.pDrewN ?_ _), sl_nil _ _ _⟩
  · cases hs : inB n 0 ((d.1.length : Int) - 1)
    · rw [rightAt_no (by simp [hs])]
      have Ht := Lib.hid ht; have Hs := Lib.hid hs; clear ht hs
      go_enter Try.func17, Try.ntmps17
      go_wp2_with fail
      refine (implTwoOk_c _ (d, d') _ (twoC.vext HT.out (by repeat (first | with_reducible exact Ext.refl _ | with_reducible assumption | with_reducible refine Ext.pAlloc ?_ _ | ((with_reducible refine Ext.pSet ?_ ?_ _); rotate_left; (simp <;> omega)) | with_reducible refine Ext.pDrew ?_ | with_reducible refine Ext.pDrewN ?_ _)))).mono ?_
      rw [Ht.out]
      rintro e w1 ⟨rfl, Ew1⟩
      have Xw1 : Ext w w1 := Ext.trans (by repeat (first | with_reducible exact Ext.refl _ | with_reducible assumption | with_reducible refine Ext.pAlloc ?_ _ | ((with_reducible refine Ext.pSet ?_ ?_ _); rotate_left; (simp <;> omega)) | with_reducible refine Ext.pDrew ?_ | with_reducible refine Ext.pDrewN ?_ _)) Ew1
      have zw1 : w.heap.size + 1 ≤ w1.heap.size := by have := Ew1.size; (try simp at this); omega
      have B_t' : Bx w1 w.heap.size [.slice ua d.1.length uc, .slice va d.2.length vc, .slice ua' d'.1.length uc', .slice va' d'.2.length vc'] := Bx.ext (by repeat (first | with_reducible assumption | with_reducible exact Bx.new _ _ _ _ rfl | ((with_reducible refine Bx.new _ _ _ _ ?_); simp; done) | with_reducible refine Bx.pAlloc ?_ _ | with_reducible refine Bx.pDrew ?_ | with_reducible refine Bx.pDrewN ?_ _ | with_reducible apply Bx.set10 | with_reducible apply Bx.set20 | with_reducible apply Bx.set21 | with_reducible apply Bx.set30 | with_reducible apply Bx.set31 | with_reducible apply Bx.set32 | with_reducible apply Bx.set40 | with_reducible apply Bx.set41 | with_reducible apply Bx.set42 | with_reducible apply Bx.set43 | ((with_reducible refine Bx.set_other ?_ ?_ _); rotate_left; (simp <;> omega)))) Ew1
      have B_t := B_t'; clear B_t'
      clear Ew1
      have c_t_0 := B_t.cell 0 _ rfl
      have c_t_1 := B_t.cell 1 _ rfl
      have c_t_2 := B_t.cell 2 _ rfl
      have c_t_3 := B_t.cell 3 _ rfl
      have n_t := B_t.lt
      go_wp2_with fail
      refine (sectorOk_c _ d _ _ (diskC.vext H.out.1 (by repeat (first | with_reducible exact Ext.refl _ | with_reducible assumption | with_reducible refine Ext.pAlloc ?_ _ | ((with_reducible refine Ext.pSet ?_ ?_ _); rotate_left; (simp <;> omega)) | with_reducible refine Ext.pDrew ?_ | with_reducible refine Ext.pDrewN ?_ _)))).mono ?_
      rw [Hs.out]
      rintro e w2 ⟨rfl, Ew2⟩
      have Xw2 : Ext w w2 := Ext.trans (by repeat (first | with_reducible exact Ext.refl _ | with_reducible assumption | with_reducible refine Ext.pAlloc ?_ _ | ((with_reducible refine Ext.pSet ?_ ?_ _); rotate_left; (simp <;> omega)) | with_reducible refine Ext.pDrew ?_ | with_reducible refine Ext.pDrewN ?_ _)) Ew2
      have zw2 : w1.heap.size ≤ w2.heap.size := by have := Ew2.size; (try simp at this); omega
      have B_t' : Bx w2 w.heap.size [.slice ua d.1.length uc, .slice va d.2.length vc, .slice ua' d'.1.length uc', .slice va' d'.2.length vc'] := Bx.ext (by repeat (first | with_reducible assumption | with_reducible exact Bx.new _ _ _ _ rfl | ((with_reducible refine Bx.new _ _ _ _ ?_); simp; done) | with_reducible refine Bx.pAlloc ?_ _ | with_reducible refine Bx.pDrew ?_ | with_reducible refine Bx.pDrewN ?_ _ | with_reducible apply Bx.set10 | with_reducible apply Bx.set20 | with_reducible apply Bx.set21 | with_reducible apply Bx.set30 | with_reducible apply Bx.set31 | with_reducible apply Bx.set32 | with_reducible apply Bx.set40 | with_reducible apply Bx.set41 | with_reducible apply Bx.set42 | with_reducible apply Bx.set43 | ((with_reducible refine Bx.set_other ?_ ?_ _); rotate_left; (simp <;> omega)))) Ew2
      clear c_t_0 c_t_1 c_t_2 c_t_3 n_t
      clear B_t
      have B_t := B_t'; clear B_t'
      clear Ew2 Xw1
      have c_t_0 := B_t.cell 0 _ rfl
      have c_t_1 := B_t.cell 1 _ rfl
      have c_t_2 := B_t.cell 2 _ rfl
      have c_t_3 := B_t.cell 3 _ rfl
      have n_t := B_t.lt
      go_wp2
      go_ret
      exact ⟨_, rfl, by repeat (first | with_reducible exact Ext.refl _ | with_reducible assumption | with_reducible refine Ext.pAlloc ?_ _ | ((with_reducible refine Ext.pSet ?_ ?_ _); rotate_left; (simp <;> omega)) | with_reducible refine Ext.pDrew ?_ | with_reducible refine Ext.pDrewN ?_ _), sl_nil _ _ _⟩
    · obtain ⟨F1, hF1⟩ : ∃ F, (readAt d n).1 = F := ⟨_, rfl⟩
      obtain ⟨F2, hF2⟩ : ∃ F, (readAt d' n).1 = F := ⟨_, rfl⟩
      obtain ⟨r1, o1, hU1⟩ : ∃ r o, unsum F1 = (r, o) := ⟨_, _, rfl⟩
      obtain ⟨r2, o2, hU2⟩ : ∃ r o, unsum F2 = (r, o) := ⟨_, _, rfl⟩
      rw [rightAt_form ⟨ht, hs⟩ hF1 hF2 hU1 hU2]
      have Ht := Lib.hid ht; have Hs := Lib.hid hs; clear ht hs
      have HF1 := Lib.hid hF1; have HF2 := Lib.hid hF2; have HU1 := Lib.hid hU1; have HU2 := Lib.hid hU2
      clear hF1 hF2 hU1 hU2
      cases o1
      · cases o2
        · rw [show ((if false = true then [r1] else []) ++ (if false = true ∧ ¬ (false = true ∧ r1 = r2) then [r2] else [])) = [] from by simp]
          have hix0 : ∀ (w : World) (a b c e : Option Addr) (n1 m1 n2 m2 n3 m3 n4 m4 : Nat), (Instr.index 75 (.agg #[.slice a n1 m1, .slice b n2 m2, .slice c n3 m3, .slice e n4 m4]) (.int .i64 0)).run Try.prog w = .ok (.agg #[.slice a n1 m1, .slice b n2 m2]) w := fun _ _ _ _ _ _ _ _ _ _ _ _ _ => by kernel_rfl
          have hix1 : ∀ (w : World) (a b c e : Option Addr) (n1 m1 n2 m2 n3 m3 n4 m4 : Nat), (Instr.index 75 (.agg #[.slice a n1 m1, .slice b n2 m2, .slice c n3 m3, .slice e n4 m4]) (.int .i64 1)).run Try.prog w = .ok (.agg #[.slice c n3 m3, .slice e n4 m4]) w := fun _ _ _ _ _ _ _ _ _ _ _ _ _ => by kernel_rfl
          go_enter Try.func17, Try.ntmps17
          go_wp2_with fail
          refine (implTwoOk_c _ (d, d') _ (twoC.vext HT.out (by repeat (first | with_reducible exact Ext.refl _ | with_reducible assumption | with_reducible refine Ext.pAlloc ?_ _ | ((with_reducible refine Ext.pSet ?_ ?_ _); rotate_left; (simp <;> omega)) | with_reducible refine Ext.pDrew ?_ | with_reducible refine Ext.pDrewN ?_ _)))).mono ?_
          rw [Ht.out]
          rintro e w1 ⟨rfl, Ew1⟩
          have Xw1 : Ext w w1 := Ext.trans (by repeat (first | with_reducible exact Ext.refl _ | with_reducible assumption | with_reducible refine Ext.pAlloc ?_ _ | ((with_reducible refine Ext.pSet ?_ ?_ _); rotate_left; (simp <;> omega)) | with_reducible refine Ext.pDrew ?_ | with_reducible refine Ext.pDrewN ?_ _)) Ew1
          have zw1 : w.heap.size + 1 ≤ w1.heap.size := by have := Ew1.size; (try simp at this); omega
          have B_t' : Bx w1 w.heap.size [.slice ua d.1.length uc, .slice va d.2.length vc, .slice ua' d'.1.length uc', .slice va' d'.2.length vc'] := Bx.ext (by repeat (first | with_reducible assumption | with_reducible exact Bx.new _ _ _ _ rfl | ((with_reducible refine Bx.new _ _ _ _ ?_); simp; done) | with_reducible refine Bx.pAlloc ?_ _ | with_reducible refine Bx.pDrew ?_ | with_reducible refine Bx.pDrewN ?_ _ | with_reducible apply Bx.set10 | with_reducible apply Bx.set20 | with_reducible apply Bx.set21 | with_reducible apply Bx.set30 | with_reducible apply Bx.set31 | with_reducible apply Bx.set32 | with_reducible apply Bx.set40 | with_reducible apply Bx.set41 | with_reducible apply Bx.set42 | with_reducible apply Bx.set43 | ((with_reducible refine Bx.set_other ?_ ?_ _); rotate_left; (simp <;> omega)))) Ew1
          have B_t := B_t'; clear B_t'
          clear Ew1
          have c_t_0 := B_t.cell 0 _ rfl
          have c_t_1 := B_t.cell 1 _ rfl
          have c_t_2 := B_t.cell 2 _ rfl
          have c_t_3 := B_t.cell 3 _ rfl
          have n_t := B_t.lt
          go_wp2_with fail
          refine (sectorOk_c _ d _ _ (diskC.vext H.out.1 (by repeat (first | with_reducible exact Ext.refl _ | with_reducible assumption | with_reducible refine Ext.pAlloc ?_ _ | ((with_reducible refine Ext.pSet ?_ ?_ _); rotate_left; (simp <;> omega)) | with_reducible refine Ext.pDrew ?_ | with_reducible refine Ext.pDrewN ?_ _)))).mono ?_
          rw [Hs.out]
          rintro e w2 ⟨rfl, Ew2⟩
          have Xw2 : Ext w w2 := Ext.trans (by repeat (first | with_reducible exact Ext.refl _ | with_reducible assumption | with_reducible refine Ext.pAlloc ?_ _ | ((with_reducible refine Ext.pSet ?_ ?_ _); rotate_left; (simp <;> omega)) | with_reducible refine Ext.pDrew ?_ | with_reducible refine Ext.pDrewN ?_ _)) Ew2
          have zw2 : w1.heap.size ≤ w2.heap.size := by have := Ew2.size; (try simp at this); omega
          have B_t' : Bx w2 w.heap.size [.slice ua d.1.length uc, .slice va d.2.length vc, .slice ua' d'.1.length uc', .slice va' d'.2.length vc'] := Bx.ext (by repeat (first | with_reducible assumption | with_reducible exact Bx.new _ _ _ _ rfl | ((with_reducible refine Bx.new _ _ _ _ ?_); simp; done) | with_reducible refine Bx.pAlloc ?_ _ | with_reducible refine Bx.pDrew ?_ | with_reducible refine Bx.pDrewN ?_ _ | with_reducible apply Bx.set10 | with_reducible apply Bx.set20 | with_reducible apply Bx.set21 | with_reducible apply Bx.set30 | with_reducible apply Bx.set31 | with_reducible apply Bx.set32 | with_reducible apply Bx.set40 | with_reducible apply Bx.set41 | with_reducible apply Bx.set42 | with_reducible apply Bx.set43 | ((with_reducible refine Bx.set_other ?_ ?_ _); rotate_left; (simp <;> omega)))) Ew2
          clear c_t_0 c_t_1 c_t_2 c_t_3 n_t
          clear B_t
          have B_t := B_t'; clear B_t'
          clear Ew2 Xw1
          have c_t_0 := B_t.cell 0 _ rfl
          have c_t_1 := B_t.cell 1 _ rfl
          have c_t_2 := B_t.cell 2 _ rfl
          have c_t_3 := B_t.cell 3 _ rfl
          have n_t := B_t.lt
          go_wp2_with fail
          refine (disks_c _ _ _ _ _ _ _ _ _ _ _ _ _).mono ?_
          rintro e w3 ⟨rfl, Ew3⟩
          have Xw3 : Ext w w3 := Ext.trans (by repeat (first | with_reducible exact Ext.refl _ | with_reducible assumption | with_reducible refine Ext.pAlloc ?_ _ | ((with_reducible refine Ext.pSet ?_ ?_ _); rotate_left; (simp <;> omega)) | with_reducible refine Ext.pDrew ?_ | with_reducible refine Ext.pDrewN ?_ _)) Ew3
          have zw3 : w2.heap.size + 1 ≤ w3.heap.size := by have := Ew3.size; (try simp at this); omega
          have B_t' : Bx w3 w.heap.size [.slice ua d.1.length uc, .slice va d.2.length vc, .slice ua' d'.1.length uc', .slice va' d'.2.length vc'] := Bx.ext (by repeat (first | with_reducible assumption | with_reducible exact Bx.new _ _ _ _ rfl | ((with_reducible refine Bx.new _ _ _ _ ?_); simp; done) | with_reducible refine Bx.pAlloc ?_ _ | with_reducible refine Bx.pDrew ?_ | with_reducible refine Bx.pDrewN ?_ _ | with_reducible apply Bx.set10 | with_reducible apply Bx.set20 | with_reducible apply Bx.set21 | with_reducible apply Bx.set30 | with_reducible apply Bx.set31 | with_reducible apply Bx.set32 | with_reducible apply Bx.set40 | with_reducible apply Bx.set41 | with_reducible apply Bx.set42 | with_reducible apply Bx.set43 | ((with_reducible refine Bx.set_other ?_ ?_ _); rotate_left; (simp <;> omega)))) Ew3
          have B_e' : Bx w3 w2.heap.size [] := Bx.ext (by repeat (first | with_reducible assumption | with_reducible exact Bx.new _ _ _ _ rfl | ((with_reducible refine Bx.new _ _ _ _ ?_); simp; done) | with_reducible refine Bx.pAlloc ?_ _ | with_reducible refine Bx.pDrew ?_ | with_reducible refine Bx.pDrewN ?_ _ | with_reducible apply Bx.set10 | with_reducible apply Bx.set20 | with_reducible apply Bx.set21 | with_reducible apply Bx.set30 | with_reducible apply Bx.set31 | with_reducible apply Bx.set32 | with_reducible apply Bx.set40 | with_reducible apply Bx.set41 | with_reducible apply Bx.set42 | with_reducible apply Bx.set43 | ((with_reducible refine Bx.set_other ?_ ?_ _); rotate_left; (simp <;> omega)))) Ew3
          clear c_t_0 c_t_1 c_t_2 c_t_3 n_t
          clear B_t
          have B_t := B_t'; clear B_t'
          have B_e := B_e'; clear B_e'
          clear Ew3 Xw2
          have c_t_0 := B_t.cell 0 _ rfl
          have c_t_1 := B_t.cell 1 _ rfl
          have c_t_2 := B_t.cell 2 _ rfl
          have c_t_3 := B_t.cell 3 _ rfl
          have n_t := B_t.lt
          have n_e := B_e.lt
          have O_k : rowsC.own w2.heap.size (w2.heap.size + 1) w3 [.slice (some ⟨w2.heap.size, 0, none⟩) 0 0] [] := own_of_empty B_e
          clear B_e
          clear n_e
          go_wp2
          refine wp_loop_rounds 3 ?_
          rw [rounds_succ]
          go_wp2_with fail
          refine (implReadAt_c _ d n _ (diskC.vext H.out.1 (by repeat (first | with_reducible exact Ext.refl _ | with_reducible assumption | with_reducible refine Ext.pAlloc ?_ _ | ((with_reducible refine Ext.pSet ?_ ?_ _); rotate_left; (simp <;> omega)) | with_reducible refine Ext.pDrew ?_ | with_reducible refine Ext.pDrewN ?_ _)))).mono ?_
          rw [HF1.out]
          rintro e w4 ⟨f1, rfl, Ew4, O_f1⟩
          obtain ⟨fa1, fc1, rfl⟩ := u_slice O_f1.view
          have Xw4 : Ext w w4 := Ext.trans (by repeat (first | with_reducible exact Ext.refl _ | with_reducible assumption | with_reducible refine Ext.pAlloc ?_ _ | ((with_reducible refine Ext.pSet ?_ ?_ _); rotate_left; (simp <;> omega)) | with_reducible refine Ext.pDrew ?_ | with_reducible refine Ext.pDrewN ?_ _)) Ew4
          have zw4 : w3.heap.size + 1 ≤ w4.heap.size := by have := Ew4.size; (try simp at this); omega
          have B_t' : Bx w4 w.heap.size [.slice ua d.1.length uc, .slice va d.2.length vc, .slice ua' d'.1.length uc', .slice va' d'.2.length vc'] := Bx.ext (by repeat (first | with_reducible assumption | with_reducible exact Bx.new _ _ _ _ rfl | ((with_reducible refine Bx.new _ _ _ _ ?_); simp; done) | with_reducible refine Bx.pAlloc ?_ _ | with_reducible refine Bx.pDrew ?_ | with_reducible refine Bx.pDrewN ?_ _ | with_reducible apply Bx.set10 | with_reducible apply Bx.set20 | with_reducible apply Bx.set21 | with_reducible apply Bx.set30 | with_reducible apply Bx.set31 | with_reducible apply Bx.set32 | with_reducible apply Bx.set40 | with_reducible apply Bx.set41 | with_reducible apply Bx.set42 | with_reducible apply Bx.set43 | ((with_reducible refine Bx.set_other ?_ ?_ _); rotate_left; (simp <;> omega)))) Ew4
          have B_p' : Bx w4 w3.heap.size [.slice ua d.1.length uc, .slice va d.2.length vc] := Bx.ext (by repeat (first | with_reducible assumption | with_reducible exact Bx.new _ _ _ _ rfl | ((with_reducible refine Bx.new _ _ _ _ ?_); simp; done) | with_reducible refine Bx.pAlloc ?_ _ | with_reducible refine Bx.pDrew ?_ | with_reducible refine Bx.pDrewN ?_ _ | with_reducible apply Bx.set10 | with_reducible apply Bx.set20 | with_reducible apply Bx.set21 | with_reducible apply Bx.set30 | with_reducible apply Bx.set31 | with_reducible apply Bx.set32 | with_reducible apply Bx.set40 | with_reducible apply Bx.set41 | with_reducible apply Bx.set42 | with_reducible apply Bx.set43 | ((with_reducible refine Bx.set_other ?_ ?_ _); rotate_left; (simp <;> omega)))) Ew4
          have O_k' : (rowsC).own (w2.heap.size) (w2.heap.size + 1) w4 [.slice (some ⟨w2.heap.size, 0, none⟩) 0 0] ([]) := Cd.own.ext (by repeat (first | with_reducible assumption | with_reducible refine Cd.own.pAlloc ?_ _ | with_reducible refine Cd.own.pDrew ?_ | with_reducible refine Cd.own.pDrewN ?_ _ | ((with_reducible refine Cd.own.pSet ?_ ?_ _); rotate_left; (simp <;> omega)))) Ew4
          clear c_t_0 c_t_1 c_t_2 c_t_3 n_t
          clear B_t
          have B_t := B_t'; clear B_t'
          have B_p := B_p'; clear B_p'
          clear O_k; have O_k := O_k'; clear O_k'
          replace O_f1 := O_f1.wide (lo' := w3.heap.size + 1) (hi' := w4.heap.size) (by first | omega | (simp <;> omega)) (Nat.le_refl _)
          clear Ew4 Xw3
          have c_t_0 := B_t.cell 0 _ rfl
          have c_t_1 := B_t.cell 1 _ rfl
          have c_t_2 := B_t.cell 2 _ rfl
          have c_t_3 := B_t.cell 3 _ rfl
          have n_t := B_t.lt
          have c_p_0 := B_p.cell 0 _ rfl
          have c_p_1 := B_p.cell 1 _ rfl
          have n_p := B_p.lt
          go_wp2_with fail
          refine (implUnsummed_c _ F1 _ (Cd.own.view (R := rowC) (lo := w3.heap.size + 1) (hi := w4.heap.size) (by repeat (first | with_reducible assumption | with_reducible refine Cd.own.pAlloc ?_ _ | with_reducible refine Cd.own.pDrew ?_ | with_reducible refine Cd.own.pDrewN ?_ _ | ((with_reducible refine Cd.own.pSet ?_ ?_ _); rotate_left; (simp <;> omega)))))).mono ?_
          rw [HU1.out]
          rintro e w5 ⟨g1, rfl, Ew5, O_r1⟩
          obtain ⟨ra1, rc1, rfl⟩ := u_slice O_r1.view
          have Xw5 : Ext w w5 := Ext.trans (by repeat (first | with_reducible exact Ext.refl _ | with_reducible assumption | with_reducible refine Ext.pAlloc ?_ _ | ((with_reducible refine Ext.pSet ?_ ?_ _); rotate_left; (simp <;> omega)) | with_reducible refine Ext.pDrew ?_ | with_reducible refine Ext.pDrewN ?_ _)) Ew5
          have zw5 : w4.heap.size ≤ w5.heap.size := by have := Ew5.size; (try simp at this); omega
          have B_t' : Bx w5 w.heap.size [.slice ua d.1.length uc, .slice va d.2.length vc, .slice ua' d'.1.length uc', .slice va' d'.2.length vc'] := Bx.ext (by repeat (first | with_reducible assumption | with_reducible exact Bx.new _ _ _ _ rfl | ((with_reducible refine Bx.new _ _ _ _ ?_); simp; done) | with_reducible refine Bx.pAlloc ?_ _ | with_reducible refine Bx.pDrew ?_ | with_reducible refine Bx.pDrewN ?_ _ | with_reducible apply Bx.set10 | with_reducible apply Bx.set20 | with_reducible apply Bx.set21 | with_reducible apply Bx.set30 | with_reducible apply Bx.set31 | with_reducible apply Bx.set32 | with_reducible apply Bx.set40 | with_reducible apply Bx.set41 | with_reducible apply Bx.set42 | with_reducible apply Bx.set43 | ((with_reducible refine Bx.set_other ?_ ?_ _); rotate_left; (simp <;> omega)))) Ew5
          have B_p' : Bx w5 w3.heap.size [.slice ua d.1.length uc, .slice va d.2.length vc] := Bx.ext (by repeat (first | with_reducible assumption | with_reducible exact Bx.new _ _ _ _ rfl | ((with_reducible refine Bx.new _ _ _ _ ?_); simp; done) | with_reducible refine Bx.pAlloc ?_ _ | with_reducible refine Bx.pDrew ?_ | with_reducible refine Bx.pDrewN ?_ _ | with_reducible apply Bx.set10 | with_reducible apply Bx.set20 | with_reducible apply Bx.set21 | with_reducible apply Bx.set30 | with_reducible apply Bx.set31 | with_reducible apply Bx.set32 | with_reducible apply Bx.set40 | with_reducible apply Bx.set41 | with_reducible apply Bx.set42 | with_reducible apply Bx.set43 | ((with_reducible refine Bx.set_other ?_ ?_ _); rotate_left; (simp <;> omega)))) Ew5
          have O_k' : (rowsC).own (w2.heap.size) (w2.heap.size + 1) w5 [.slice (some ⟨w2.heap.size, 0, none⟩) 0 0] ([]) := Cd.own.ext (by repeat (first | with_reducible assumption | with_reducible refine Cd.own.pAlloc ?_ _ | with_reducible refine Cd.own.pDrew ?_ | with_reducible refine Cd.own.pDrewN ?_ _ | ((with_reducible refine Cd.own.pSet ?_ ?_ _); rotate_left; (simp <;> omega)))) Ew5
          have O_f1' : (rowC).own (w3.heap.size + 1) (w4.heap.size) w5 [.slice fa1 F1.length fc1] (F1) := Cd.own.ext (by repeat (first | with_reducible assumption | with_reducible refine Cd.own.pAlloc ?_ _ | with_reducible refine Cd.own.pDrew ?_ | with_reducible refine Cd.own.pDrewN ?_ _ | ((with_reducible refine Cd.own.pSet ?_ ?_ _); rotate_left; (simp <;> omega)))) Ew5
          clear c_t_0 c_t_1 c_t_2 c_t_3 n_t c_p_0 c_p_1 n_p
          clear B_t
          have B_t := B_t'; clear B_t'
          clear B_p
          have B_p := B_p'; clear B_p'
          clear O_k; have O_k := O_k'; clear O_k'
          clear O_f1; have O_f1 := O_f1'; clear O_f1'
          replace O_r1 := O_r1.wide (lo' := w4.heap.size) (hi' := w5.heap.size) (by first | omega | (simp <;> omega)) (Nat.le_refl _)
          clear Ew5 Xw4
          have c_t_0 := B_t.cell 0 _ rfl
          have c_t_1 := B_t.cell 1 _ rfl
          have c_t_2 := B_t.cell 2 _ rfl
          have c_t_3 := B_t.cell 3 _ rfl
          have n_t := B_t.lt
          have c_p_0 := B_p.cell 0 _ rfl
          have c_p_1 := B_p.cell 1 _ rfl
          have n_p := B_p.lt
          go_wp2
          rw [rounds_succ]
          go_wp2_with fail
          refine (implReadAt_c _ d' n _ (diskC.vext H.out.2 (by repeat (first | with_reducible exact Ext.refl _ | with_reducible assumption | with_reducible refine Ext.pAlloc ?_ _ | ((with_reducible refine Ext.pSet ?_ ?_ _); rotate_left; (simp <;> omega)) | with_reducible refine Ext.pDrew ?_ | with_reducible refine Ext.pDrewN ?_ _)))).mono ?_
          rw [HF2.out]
          rintro e w6 ⟨f2, rfl, Ew6, O_f2⟩
          obtain ⟨fa2, fc2, rfl⟩ := u_slice O_f2.view
          have Xw6 : Ext w w6 := Ext.trans (by repeat (first | with_reducible exact Ext.refl _ | with_reducible assumption | with_reducible refine Ext.pAlloc ?_ _ | ((with_reducible refine Ext.pSet ?_ ?_ _); rotate_left; (simp <;> omega)) | with_reducible refine Ext.pDrew ?_ | with_reducible refine Ext.pDrewN ?_ _)) Ew6
          have zw6 : w5.heap.size + 1 ≤ w6.heap.size := by have := Ew6.size; (try simp at this); omega
          have B_t' : Bx w6 w.heap.size [.slice ua d.1.length uc, .slice va d.2.length vc, .slice ua' d'.1.length uc', .slice va' d'.2.length vc'] := Bx.ext (by repeat (first | with_reducible assumption | with_reducible exact Bx.new _ _ _ _ rfl | ((with_reducible refine Bx.new _ _ _ _ ?_); simp; done) | with_reducible refine Bx.pAlloc ?_ _ | with_reducible refine Bx.pDrew ?_ | with_reducible refine Bx.pDrewN ?_ _ | with_reducible apply Bx.set10 | with_reducible apply Bx.set20 | with_reducible apply Bx.set21 | with_reducible apply Bx.set30 | with_reducible apply Bx.set31 | with_reducible apply Bx.set32 | with_reducible apply Bx.set40 | with_reducible apply Bx.set41 | with_reducible apply Bx.set42 | with_reducible apply Bx.set43 | ((with_reducible refine Bx.set_other ?_ ?_ _); rotate_left; (simp <;> omega)))) Ew6
          have B_p' : Bx w6 w3.heap.size [.slice ua d.1.length uc, .slice va d.2.length vc] := Bx.ext (by repeat (first | with_reducible assumption | with_reducible exact Bx.new _ _ _ _ rfl | ((with_reducible refine Bx.new _ _ _ _ ?_); simp; done) | with_reducible refine Bx.pAlloc ?_ _ | with_reducible refine Bx.pDrew ?_ | with_reducible refine Bx.pDrewN ?_ _ | with_reducible apply Bx.set10 | with_reducible apply Bx.set20 | with_reducible apply Bx.set21 | with_reducible apply Bx.set30 | with_reducible apply Bx.set31 | with_reducible apply Bx.set32 | with_reducible apply Bx.set40 | with_reducible apply Bx.set41 | with_reducible apply Bx.set42 | with_reducible apply Bx.set43 | ((with_reducible refine Bx.set_other ?_ ?_ _); rotate_left; (simp <;> omega)))) Ew6
          have B_q' : Bx w6 w5.heap.size [.slice ua' d'.1.length uc', .slice va' d'.2.length vc'] := Bx.ext (by repeat (first | with_reducible assumption | with_reducible exact Bx.new _ _ _ _ rfl | ((with_reducible refine Bx.new _ _ _ _ ?_); simp; done) | with_reducible refine Bx.pAlloc ?_ _ | with_reducible refine Bx.pDrew ?_ | with_reducible refine Bx.pDrewN ?_ _ | with_reducible apply Bx.set10 | with_reducible apply Bx.set20 | with_reducible apply Bx.set21 | with_reducible apply Bx.set30 | with_reducible apply Bx.set31 | with_reducible apply Bx.set32 | with_reducible apply Bx.set40 | with_reducible apply Bx.set41 | with_reducible apply Bx.set42 | with_reducible apply Bx.set43 | ((with_reducible refine Bx.set_other ?_ ?_ _); rotate_left; (simp <;> omega)))) Ew6
          have O_k' : (rowsC).own (w2.heap.size) (w2.heap.size + 1) w6 [.slice (some ⟨w2.heap.size, 0, none⟩) 0 0] ([]) := Cd.own.ext (by repeat (first | with_reducible assumption | with_reducible refine Cd.own.pAlloc ?_ _ | with_reducible refine Cd.own.pDrew ?_ | with_reducible refine Cd.own.pDrewN ?_ _ | ((with_reducible refine Cd.own.pSet ?_ ?_ _); rotate_left; (simp <;> omega)))) Ew6
          have O_f1' : (rowC).own (w3.heap.size + 1) (w4.heap.size) w6 [.slice fa1 F1.length fc1] (F1) := Cd.own.ext (by repeat (first | with_reducible assumption | with_reducible refine Cd.own.pAlloc ?_ _ | with_reducible refine Cd.own.pDrew ?_ | with_reducible refine Cd.own.pDrewN ?_ _ | ((with_reducible refine Cd.own.pSet ?_ ?_ _); rotate_left; (simp <;> omega)))) Ew6
          have O_r1' : (rowC).own (w4.heap.size) (w5.heap.size) w6 [.slice ra1 r1.length rc1] (r1) := Cd.own.ext (by repeat (first | with_reducible assumption | with_reducible refine Cd.own.pAlloc ?_ _ | with_reducible refine Cd.own.pDrew ?_ | with_reducible refine Cd.own.pDrewN ?_ _ | ((with_reducible refine Cd.own.pSet ?_ ?_ _); rotate_left; (simp <;> omega)))) Ew6
          clear c_t_0 c_t_1 c_t_2 c_t_3 n_t c_p_0 c_p_1 n_p
          clear B_t
          have B_t := B_t'; clear B_t'
          clear B_p
          have B_p := B_p'; clear B_p'
          have B_q := B_q'; clear B_q'
          clear O_k; have O_k := O_k'; clear O_k'
          clear O_f1; have O_f1 := O_f1'; clear O_f1'
          clear O_r1; have O_r1 := O_r1'; clear O_r1'
          replace O_f2 := O_f2.wide (lo' := w5.heap.size + 1) (hi' := w6.heap.size) (by first | omega | (simp <;> omega)) (Nat.le_refl _)
          clear Ew6 Xw5
          have c_t_0 := B_t.cell 0 _ rfl
          have c_t_1 := B_t.cell 1 _ rfl
          have c_t_2 := B_t.cell 2 _ rfl
          have c_t_3 := B_t.cell 3 _ rfl
          have n_t := B_t.lt
          have c_p_0 := B_p.cell 0 _ rfl
          have c_p_1 := B_p.cell 1 _ rfl
          have n_p := B_p.lt
          have c_q_0 := B_q.cell 0 _ rfl
          have c_q_1 := B_q.cell 1 _ rfl
          have n_q := B_q.lt
          go_wp2_with fail
          refine (implUnsummed_c _ F2 _ (Cd.own.view (R := rowC) (lo := w5.heap.size + 1) (hi := w6.heap.size) (by repeat (first | with_reducible assumption | with_reducible refine Cd.own.pAlloc ?_ _ | with_reducible refine Cd.own.pDrew ?_ | with_reducible refine Cd.own.pDrewN ?_ _ | ((with_reducible refine Cd.own.pSet ?_ ?_ _); rotate_left; (simp <;> omega)))))).mono ?_
          rw [HU2.out]
          rintro e w7 ⟨g2, rfl, Ew7, O_r2⟩
          obtain ⟨ra2, rc2, rfl⟩ := u_slice O_r2.view
          have Xw7 : Ext w w7 := Ext.trans (by repeat (first | with_reducible exact Ext.refl _ | with_reducible assumption | with_reducible refine Ext.pAlloc ?_ _ | ((with_reducible refine Ext.pSet ?_ ?_ _); rotate_left; (simp <;> omega)) | with_reducible refine Ext.pDrew ?_ | with_reducible refine Ext.pDrewN ?_ _)) Ew7
          have zw7 : w6.heap.size ≤ w7.heap.size := by have := Ew7.size; (try simp at this); omega
          have B_t' : Bx w7 w.heap.size [.slice ua d.1.length uc, .slice va d.2.length vc, .slice ua' d'.1.length uc', .slice va' d'.2.length vc'] := Bx.ext (by repeat (first | with_reducible assumption | with_reducible exact Bx.new _ _ _ _ rfl | ((with_reducible refine Bx.new _ _ _ _ ?_); simp; done) | with_reducible refine Bx.pAlloc ?_ _ | with_reducible refine Bx.pDrew ?_ | with_reducible refine Bx.pDrewN ?_ _ | with_reducible apply Bx.set10 | with_reducible apply Bx.set20 | with_reducible apply Bx.set21 | with_reducible apply Bx.set30 | with_reducible apply Bx.set31 | with_reducible apply Bx.set32 | with_reducible apply Bx.set40 | with_reducible apply Bx.set41 | with_reducible apply Bx.set42 | with_reducible apply Bx.set43 | ((with_reducible refine Bx.set_other ?_ ?_ _); rotate_left; (simp <;> omega)))) Ew7
          have B_p' : Bx w7 w3.heap.size [.slice ua d.1.length uc, .slice va d.2.length vc] := Bx.ext (by repeat (first | with_reducible assumption | with_reducible exact Bx.new _ _ _ _ rfl | ((with_reducible refine Bx.new _ _ _ _ ?_); simp; done) | with_reducible refine Bx.pAlloc ?_ _ | with_reducible refine Bx.pDrew ?_ | with_reducible refine Bx.pDrewN ?_ _ | with_reducible apply Bx.set10 | with_reducible apply Bx.set20 | with_reducible apply Bx.set21 | with_reducible apply Bx.set30 | with_reducible apply Bx.set31 | with_reducible apply Bx.set32 | with_reducible apply Bx.set40 | with_reducible apply Bx.set41 | with_reducible apply Bx.set42 | with_reducible apply Bx.set43 | ((with_reducible refine Bx.set_other ?_ ?_ _); rotate_left; (simp <;> omega)))) Ew7
          have B_q' : Bx w7 w5.heap.size [.slice ua' d'.1.length uc', .slice va' d'.2.length vc'] := Bx.ext (by repeat (first | with_reducible assumption | with_reducible exact Bx.new _ _ _ _ rfl | ((with_reducible refine Bx.new _ _ _ _ ?_); simp; done) | with_reducible refine Bx.pAlloc ?_ _ | with_reducible refine Bx.pDrew ?_ | with_reducible refine Bx.pDrewN ?_ _ | with_reducible apply Bx.set10 | with_reducible apply Bx.set20 | with_reducible apply Bx.set21 | with_reducible apply Bx.set30 | with_reducible apply Bx.set31 | with_reducible apply Bx.set32 | with_reducible apply Bx.set40 | with_reducible apply Bx.set41 | with_reducible apply Bx.set42 | with_reducible apply Bx.set43 | ((with_reducible refine Bx.set_other ?_ ?_ _); rotate_left; (simp <;> omega)))) Ew7
          have O_k' : (rowsC).own (w2.heap.size) (w2.heap.size + 1) w7 [.slice (some ⟨w2.heap.size, 0, none⟩) 0 0] ([]) := Cd.own.ext (by repeat (first | with_reducible assumption | with_reducible refine Cd.own.pAlloc ?_ _ | with_reducible refine Cd.own.pDrew ?_ | with_reducible refine Cd.own.pDrewN ?_ _ | ((with_reducible refine Cd.own.pSet ?_ ?_ _); rotate_left; (simp <;> omega)))) Ew7
          have O_f1' : (rowC).own (w3.heap.size + 1) (w4.heap.size) w7 [.slice fa1 F1.length fc1] (F1) := Cd.own.ext (by repeat (first | with_reducible assumption | with_reducible refine Cd.own.pAlloc ?_ _ | with_reducible refine Cd.own.pDrew ?_ | with_reducible refine Cd.own.pDrewN ?_ _ | ((with_reducible refine Cd.own.pSet ?_ ?_ _); rotate_left; (simp <;> omega)))) Ew7
          have O_r1' : (rowC).own (w4.heap.size) (w5.heap.size) w7 [.slice ra1 r1.length rc1] (r1) := Cd.own.ext (by repeat (first | with_reducible assumption | with_reducible refine Cd.own.pAlloc ?_ _ | with_reducible refine Cd.own.pDrew ?_ | with_reducible refine Cd.own.pDrewN ?_ _ | ((with_reducible refine Cd.own.pSet ?_ ?_ _); rotate_left; (simp <;> omega)))) Ew7
          have O_f2' : (rowC).own (w5.heap.size + 1) (w6.heap.size) w7 [.slice fa2 F2.length fc2] (F2) := Cd.own.ext (by repeat (first | with_reducible assumption | with_reducible refine Cd.own.pAlloc ?_ _ | with_reducible refine Cd.own.pDrew ?_ | with_reducible refine Cd.own.pDrewN ?_ _ | ((with_reducible refine Cd.own.pSet ?_ ?_ _); rotate_left; (simp <;> omega)))) Ew7
          clear c_t_0 c_t_1 c_t_2 c_t_3 n_t c_p_0 c_p_1 n_p c_q_0 c_q_1 n_q
          clear B_t
          have B_t := B_t'; clear B_t'
          clear B_p
          have B_p := B_p'; clear B_p'
          clear B_q
          have B_q := B_q'; clear B_q'
          clear O_k; have O_k := O_k'; clear O_k'
          clear O_f1; have O_f1 := O_f1'; clear O_f1'
          clear O_r1; have O_r1 := O_r1'; clear O_r1'
          clear O_f2; have O_f2 := O_f2'; clear O_f2'
          replace O_r2 := O_r2.wide (lo' := w6.heap.size) (hi' := w7.heap.size) (by first | omega | (simp <;> omega)) (Nat.le_refl _)
          clear Ew7 Xw6
          have c_t_0 := B_t.cell 0 _ rfl
          have c_t_1 := B_t.cell 1 _ rfl
          have c_t_2 := B_t.cell 2 _ rfl
          have c_t_3 := B_t.cell 3 _ rfl
          have n_t := B_t.lt
          have c_p_0 := B_p.cell 0 _ rfl
          have c_p_1 := B_p.cell 1 _ rfl
          have n_p := B_p.lt
          have c_q_0 := B_q.cell 0 _ rfl
          have c_q_1 := B_q.cell 1 _ rfl
          have n_q := B_q.lt
          go_wp2
          rw [rounds_succ]
          go_wp2
          go_ret
          exact ⟨.slice (some ⟨w2.heap.size, 0, none⟩) 0 0, rfl, by repeat (first | with_reducible exact Ext.refl _ | with_reducible assumption | with_reducible refine Ext.pAlloc ?_ _ | ((with_reducible refine Ext.pSet ?_ ?_ _); rotate_left; (simp <;> omega)) | with_reducible refine Ext.pDrew ?_ | with_reducible refine Ext.pDrewN ?_ _), by (try simp only [reduceIte, Bool.false_eq_true, false_and, not_false_eq_true, and_true, and_self, true_and, List.append_nil, List.nil_append]); exact Cd.own.wide (lo := w2.heap.size) (hi := w2.heap.size + 1) (by repeat (first | with_reducible assumption | with_reducible refine Cd.own.pAlloc ?_ _ | with_reducible refine Cd.own.pDrew ?_ | with_reducible refine Cd.own.pDrewN ?_ _ | ((with_reducible refine Cd.own.pSet ?_ ?_ _); rotate_left; (simp <;> omega)))) (by omega) (by first | omega | (simp <;> omega))⟩
        · rw [show ((if false = true then [r1] else []) ++ (if true = true ∧ ¬ (false = true ∧ r1 = r2) then [r2] else [])) = [r2] from by simp]
          have hix0 : ∀ (w : World) (a b c e : Option Addr) (n1 m1 n2 m2 n3 m3 n4 m4 : Nat), (Instr.index 75 (.agg #[.slice a n1 m1, .slice b n2 m2, .slice c n3 m3, .slice e n4 m4]) (.int .i64 0)).run Try.prog w = .ok (.agg #[.slice a n1 m1, .slice b n2 m2]) w := fun _ _ _ _ _ _ _ _ _ _ _ _ _ => by kernel_rfl
          have hix1 : ∀ (w : World) (a b c e : Option Addr) (n1 m1 n2 m2 n3 m3 n4 m4 : Nat), (Instr.index 75 (.agg #[.slice a n1 m1, .slice b n2 m2, .slice c n3 m3, .slice e n4 m4]) (.int .i64 1)).run Try.prog w = .ok (.agg #[.slice c n3 m3, .slice e n4 m4]) w := fun _ _ _ _ _ _ _ _ _ _ _ _ _ => by kernel_rfl
          go_enter Try.func17, Try.ntmps17
          go_wp2_with fail
          refine (implTwoOk_c _ (d, d') _ (twoC.vext HT.out (by repeat (first | with_reducible exact Ext.refl _ | with_reducible assumption | with_reducible refine Ext.pAlloc ?_ _ | ((with_reducible refine Ext.pSet ?_ ?_ _); rotate_left; (simp <;> omega)) | with_reducible refine Ext.pDrew ?_ | with_reducible refine Ext.pDrewN ?_ _)))).mono ?_
          rw [Ht.out]
          rintro e w1 ⟨rfl, Ew1⟩
          have Xw1 : Ext w w1 := Ext.trans (by repeat (first | with_reducible exact Ext.refl _ | with_reducible assumption | with_reducible refine Ext.pAlloc ?_ _ | ((with_reducible refine Ext.pSet ?_ ?_ _); rotate_left; (simp <;> omega)) | with_reducible refine Ext.pDrew ?_ | with_reducible refine Ext.pDrewN ?_ _)) Ew1
          have zw1 : w.heap.size + 1 ≤ w1.heap.size := by have := Ew1.size; (try simp at this); omega
          have B_t' : Bx w1 w.heap.size [.slice ua d.1.length uc, .slice va d.2.length vc, .slice ua' d'.1.length uc', .slice va' d'.2.length vc'] := Bx.ext (by repeat (first | with_reducible assumption | with_reducible exact Bx.new _ _ _ _ rfl | ((with_reducible refine Bx.new _ _ _ _ ?_); simp; done) | with_reducible refine Bx.pAlloc ?_ _ | with_reducible refine Bx.pDrew ?_ | with_reducible refine Bx.pDrewN ?_ _ | with_reducible apply Bx.set10 | with_reducible apply Bx.set20 | with_reducible apply Bx.set21 | with_reducible apply Bx.set30 | with_reducible apply Bx.set31 | with_reducible apply Bx.set32 | with_reducible apply Bx.set40 | with_reducible apply Bx.set41 | with_reducible apply Bx.set42 | with_reducible apply Bx.set43 | ((with_reducible refine Bx.set_other ?_ ?_ _); rotate_left; (simp <;> omega)))) Ew1
          have B_t := B_t'; clear B_t'
          clear Ew1
          have c_t_0 := B_t.cell 0 _ rfl
          have c_t_1 := B_t.cell 1 _ rfl
          have c_t_2 := B_t.cell 2 _ rfl
          have c_t_3 := B_t.cell 3 _ rfl
          have n_t := B_t.lt
          go_wp2_with fail
          refine (sectorOk_c _ d _ _ (diskC.vext H.out.1 (by repeat (first | with_reducible exact Ext.refl _ | with_reducible assumption | with_reducible refine Ext.pAlloc ?_ _ | ((with_reducible refine Ext.pSet ?_ ?_ _); rotate_left; (simp <;> omega)) | with_reducible refine Ext.pDrew ?_ | with_reducible refine Ext.pDrewN ?_ _)))).mono ?_
          rw [Hs.out]
          rintro e w2 ⟨rfl, Ew2⟩
          have Xw2 : Ext w w2 := Ext.trans (by repeat (first | with_reducible exact Ext.refl _ | with_reducible assumption | with_reducible refine Ext.pAlloc ?_ _ | ((with_reducible refine Ext.pSet ?_ ?_ _); rotate_left; (simp <;> omega)) | with_reducible refine Ext.pDrew ?_ | with_reducible refine Ext.pDrewN ?_ _)) Ew2
          have zw2 : w1.heap.size ≤ w2.heap.size := by have := Ew2.size; (try simp at this); omega
          have B_t' : Bx w2 w.heap.size [.slice ua d.1.length uc, .slice va d.2.length vc, .slice ua' d'.1.length uc', .slice va' d'.2.length vc'] := Bx.ext (by repeat (first | with_reducible assumption | with_reducible exact Bx.new _ _ _ _ rfl | ((with_reducible refine Bx.new _ _ _ _ ?_); simp; done) | with_reducible refine Bx.pAlloc ?_ _ | with_reducible refine Bx.pDrew ?_ | with_reducible refine Bx.pDrewN ?_ _ | with_reducible apply Bx.set10 | with_reducible apply Bx.set20 | with_reducible apply Bx.set21 | with_reducible apply Bx.set30 | with_reducible apply Bx.set31 | with_reducible apply Bx.set32 | with_reducible apply Bx.set40 | with_reducible apply Bx.set41 | with_reducible apply Bx.set42 | with_reducible apply Bx.set43 | ((with_reducible refine Bx.set_other ?_ ?_ _); rotate_left; (simp <;> omega)))) Ew2
          clear c_t_0 c_t_1 c_t_2 c_t_3 n_t
          clear B_t
          have B_t := B_t'; clear B_t'
          clear Ew2 Xw1
          have c_t_0 := B_t.cell 0 _ rfl
          have c_t_1 := B_t.cell 1 _ rfl
          have c_t_2 := B_t.cell 2 _ rfl
          have c_t_3 := B_t.cell 3 _ rfl
          have n_t := B_t.lt
          go_wp2_with fail
          refine (disks_c _ _ _ _ _ _ _ _ _ _ _ _ _).mono ?_
          rintro e w3 ⟨rfl, Ew3⟩
          have Xw3 : Ext w w3 := Ext.trans (by repeat (first | with_reducible exact Ext.refl _ | with_reducible assumption | with_reducible refine Ext.pAlloc ?_ _ | ((with_reducible refine Ext.pSet ?_ ?_ _); rotate_left; (simp <;> omega)) | with_reducible refine Ext.pDrew ?_ | with_reducible refine Ext.pDrewN ?_ _)) Ew3
          have zw3 : w2.heap.size + 1 ≤ w3.heap.size := by have := Ew3.size; (try simp at this); omega
          have B_t' : Bx w3 w.heap.size [.slice ua d.1.length uc, .slice va d.2.length vc, .slice ua' d'.1.length uc', .slice va' d'.2.length vc'] := Bx.ext (by repeat (first | with_reducible assumption | with_reducible exact Bx.new _ _ _ _ rfl | ((with_reducible refine Bx.new _ _ _ _ ?_); simp; done) | with_reducible refine Bx.pAlloc ?_ _ | with_reducible refine Bx.pDrew ?_ | with_reducible refine Bx.pDrewN ?_ _ | with_reducible apply Bx.set10 | with_reducible apply Bx.set20 | with_reducible apply Bx.set21 | with_reducible apply Bx.set30 | with_reducible apply Bx.set31 | with_reducible apply Bx.set32 | with_reducible apply Bx.set40 | with_reducible apply Bx.set41 | with_reducible apply Bx.set42 | with_reducible apply Bx.set43 | ((with_reducible refine Bx.set_other ?_ ?_ _); rotate_left; (simp <;> omega)))) Ew3
          have B_e' : Bx w3 w2.heap.size [] := Bx.ext (by repeat (first | with_reducible assumption | with_reducible exact Bx.new _ _ _ _ rfl | ((with_reducible refine Bx.new _ _ _ _ ?_); simp; done) | with_reducible refine Bx.pAlloc ?_ _ | with_reducible refine Bx.pDrew ?_ | with_reducible refine Bx.pDrewN ?_ _ | with_reducible apply Bx.set10 | with_reducible apply Bx.set20 | with_reducible apply Bx.set21 | with_reducible apply Bx.set30 | with_reducible apply Bx.set31 | with_reducible apply Bx.set32 | with_reducible apply Bx.set40 | with_reducible apply Bx.set41 | with_reducible apply Bx.set42 | with_reducible apply Bx.set43 | ((with_reducible refine Bx.set_other ?_ ?_ _); rotate_left; (simp <;> omega)))) Ew3
          clear c_t_0 c_t_1 c_t_2 c_t_3 n_t
          clear B_t
          have B_t := B_t'; clear B_t'
          have B_e := B_e'; clear B_e'
          clear Ew3 Xw2
          have c_t_0 := B_t.cell 0 _ rfl
          have c_t_1 := B_t.cell 1 _ rfl
          have c_t_2 := B_t.cell 2 _ rfl
          have c_t_3 := B_t.cell 3 _ rfl
          have n_t := B_t.lt
          have n_e := B_e.lt
          have O_k : rowsC.own w2.heap.size (w2.heap.size + 1) w3 [.slice (some ⟨w2.heap.size, 0, none⟩) 0 0] [] := own_of_empty B_e
          clear B_e
          clear n_e
          go_wp2
          refine wp_loop_rounds 3 ?_
          rw [rounds_succ]
          go_wp2_with fail
          refine (implReadAt_c _ d n _ (diskC.vext H.out.1 (by repeat (first | with_reducible exact Ext.refl _ | with_reducible assumption | with_reducible refine Ext.pAlloc ?_ _ | ((with_reducible refine Ext.pSet ?_ ?_ _); rotate_left; (simp <;> omega)) | with_reducible refine Ext.pDrew ?_ | with_reducible refine Ext.pDrewN ?_ _)))).mono ?_
          rw [HF1.out]
          rintro e w4 ⟨f1, rfl, Ew4, O_f1⟩
          obtain ⟨fa1, fc1, rfl⟩ := u_slice O_f1.view
          have Xw4 : Ext w w4 := Ext.trans (by repeat (first | with_reducible exact Ext.refl _ | with_reducible assumption | with_reducible refine Ext.pAlloc ?_ _ | ((with_reducible refine Ext.pSet ?_ ?_ _); rotate_left; (simp <;> omega)) | with_reducible refine Ext.pDrew ?_ | with_reducible refine Ext.pDrewN ?_ _)) Ew4
          have zw4 : w3.heap.size + 1 ≤ w4.heap.size := by have := Ew4.size; (try simp at this); omega
          have B_t' : Bx w4 w.heap.size [.slice ua d.1.length uc, .slice va d.2.length vc, .slice ua' d'.1.length uc', .slice va' d'.2.length vc'] := Bx.ext (by repeat (first | with_reducible assumption | with_reducible exact Bx.new _ _ _ _ rfl | ((with_reducible refine Bx.new _ _ _ _ ?_); simp; done) | with_reducible refine Bx.pAlloc ?_ _ | with_reducible refine Bx.pDrew ?_ | with_reducible refine Bx.pDrewN ?_ _ | with_reducible apply Bx.set10 | with_reducible apply Bx.set20 | with_reducible apply Bx.set21 | with_reducible apply Bx.set30 | with_reducible apply Bx.set31 | with_reducible apply Bx.set32 | with_reducible apply Bx.set40 | with_reducible apply Bx.set41 | with_reducible apply Bx.set42 | with_reducible apply Bx.set43 | ((with_reducible refine Bx.set_other ?_ ?_ _); rotate_left; (simp <;> omega)))) Ew4
          have B_p' : Bx w4 w3.heap.size [.slice ua d.1.length uc, .slice va d.2.length vc] := Bx.ext (by repeat (first | with_reducible assumption | with_reducible exact Bx.new _ _ _ _ rfl | ((with_reducible refine Bx.new _ _ _ _ ?_); simp; done) | with_reducible refine Bx.pAlloc ?_ _ | with_reducible refine Bx.pDrew ?_ | with_reducible refine Bx.pDrewN ?_ _ | with_reducible apply Bx.set10 | with_reducible apply Bx.set20 | with_reducible apply Bx.set21 | with_reducible apply Bx.set30 | with_reducible apply Bx.set31 | with_reducible apply Bx.set32 | with_reducible apply Bx.set40 | with_reducible apply Bx.set41 | with_reducible apply Bx.set42 | with_reducible apply Bx.set43 | ((with_reducible refine Bx.set_other ?_ ?_ _); rotate_left; (simp <;> omega)))) Ew4
          have O_k' : (rowsC).own (w2.heap.size) (w2.heap.size + 1) w4 [.slice (some ⟨w2.heap.size, 0, none⟩) 0 0] ([]) := Cd.own.ext (by repeat (first | with_reducible assumption | with_reducible refine Cd.own.pAlloc ?_ _ | with_reducible refine Cd.own.pDrew ?_ | with_reducible refine Cd.own.pDrewN ?_ _ | ((with_reducible refine Cd.own.pSet ?_ ?_ _); rotate_left; (simp <;> omega)))) Ew4
          clear c_t_0 c_t_1 c_t_2 c_t_3 n_t
          clear B_t
          have B_t := B_t'; clear B_t'
          have B_p := B_p'; clear B_p'
          clear O_k; have O_k := O_k'; clear O_k'
          replace O_f1 := O_f1.wide (lo' := w3.heap.size + 1) (hi' := w4.heap.size) (by first | omega | (simp <;> omega)) (Nat.le_refl _)
          clear Ew4 Xw3
          have c_t_0 := B_t.cell 0 _ rfl
          have c_t_1 := B_t.cell 1 _ rfl
          have c_t_2 := B_t.cell 2 _ rfl
          have c_t_3 := B_t.cell 3 _ rfl
          have n_t := B_t.lt
          have c_p_0 := B_p.cell 0 _ rfl
          have c_p_1 := B_p.cell 1 _ rfl
          have n_p := B_p.lt
          go_wp2_with fail
          refine (implUnsummed_c _ F1 _ (Cd.own.view (R := rowC) (lo := w3.heap.size + 1) (hi := w4.heap.size) (by repeat (first | with_reducible assumption | with_reducible refine Cd.own.pAlloc ?_ _ | with_reducible refine Cd.own.pDrew ?_ | with_reducible refine Cd.own.pDrewN ?_ _ | ((with_reducible refine Cd.own.pSet ?_ ?_ _); rotate_left; (simp <;> omega)))))).mono ?_
          rw [HU1.out]
          rintro e w5 ⟨g1, rfl, Ew5, O_r1⟩
          obtain ⟨ra1, rc1, rfl⟩ := u_slice O_r1.view
          have Xw5 : Ext w w5 := Ext.trans (by repeat (first | with_reducible exact Ext.refl _ | with_reducible assumption | with_reducible refine Ext.pAlloc ?_ _ | ((with_reducible refine Ext.pSet ?_ ?_ _); rotate_left; (simp <;> omega)) | with_reducible refine Ext.pDrew ?_ | with_reducible refine Ext.pDrewN ?_ _)) Ew5
          have zw5 : w4.heap.size ≤ w5.heap.size := by have := Ew5.size; (try simp at this); omega
          have B_t' : Bx w5 w.heap.size [.slice ua d.1.length uc, .slice va d.2.length vc, .slice ua' d'.1.length uc', .slice va' d'.2.length vc'] := Bx.ext (by repeat (first | with_reducible assumption | with_reducible exact Bx.new _ _ _ _ rfl | ((with_reducible refine Bx.new _ _ _ _ ?_); simp; done) | with_reducible refine Bx.pAlloc ?_ _ | with_reducible refine Bx.pDrew ?_ | with_reducible refine Bx.pDrewN ?_ _ | with_reducible apply Bx.set10 | with_reducible apply Bx.set20 | with_reducible apply Bx.set21 | with_reducible apply Bx.set30 | with_reducible apply Bx.set31 | with_reducible apply Bx.set32 | with_reducible apply Bx.set40 | with_reducible apply Bx.set41 | with_reducible apply Bx.set42 | with_reducible apply Bx.set43 | ((with_reducible refine Bx.set_other ?_ ?_ _); rotate_left; (simp <;> omega)))) Ew5
          have B_p' : Bx w5 w3.heap.size [.slice ua d.1.length uc, .slice va d.2.length vc] := Bx.ext (by repeat (first | with_reducible assumption | with_reducible exact Bx.new _ _ _ _ rfl | ((with_reducible refine Bx.new _ _ _ _ ?_); simp; done) | with_reducible refine Bx.pAlloc ?_ _ | with_reducible refine Bx.pDrew ?_ | with_reducible refine Bx.pDrewN ?_ _ | with_reducible apply Bx.set10 | with_reducible apply Bx.set20 | with_reducible apply Bx.set21 | with_reducible apply Bx.set30 | with_reducible apply Bx.set31 | with_reducible apply Bx.set32 | with_reducible apply Bx.set40 | with_reducible apply Bx.set41 | with_reducible apply Bx.set42 | with_reducible apply Bx.set43 | ((with_reducible refine Bx.set_other ?_ ?_ _); rotate_left; (simp <;> omega)))) Ew5
          have O_k' : (rowsC).own (w2.heap.size) (w2.heap.size + 1) w5 [.slice (some ⟨w2.heap.size, 0, none⟩) 0 0] ([]) := Cd.own.ext (by repeat (first | with_reducible assumption | with_reducible refine Cd.own.pAlloc ?_ _ | with_reducible refine Cd.own.pDrew ?_ | with_reducible refine Cd.own.pDrewN ?_ _ | ((with_reducible refine Cd.own.pSet ?_ ?_ _); rotate_left; (simp <;> omega)))) Ew5
          have O_f1' : (rowC).own (w3.heap.size + 1) (w4.heap.size) w5 [.slice fa1 F1.length fc1] (F1) := Cd.own.ext (by repeat (first | with_reducible assumption | with_reducible refine Cd.own.pAlloc ?_ _ | with_reducible refine Cd.own.pDrew ?_ | with_reducible refine Cd.own.pDrewN ?_ _ | ((with_reducible refine Cd.own.pSet ?_ ?_ _); rotate_left; (simp <;> omega)))) Ew5
          clear c_t_0 c_t_1 c_t_2 c_t_3 n_t c_p_0 c_p_1 n_p
          clear B_t
          have B_t := B_t'; clear B_t'
          clear B_p
          have B_p := B_p'; clear B_p'
          clear O_k; have O_k := O_k'; clear O_k'
          clear O_f1; have O_f1 := O_f1'; clear O_f1'
          replace O_r1 := O_r1.wide (lo' := w4.heap.size) (hi' := w5.heap.size) (by first | omega | (simp <;> omega)) (Nat.le_refl _)
          clear Ew5 Xw4
          have c_t_0 := B_t.cell 0 _ rfl
          have c_t_1 := B_t.cell 1 _ rfl
          have c_t_2 := B_t.cell 2 _ rfl
          have c_t_3 := B_t.cell 3 _ rfl
          have n_t := B_t.lt
          have c_p_0 := B_p.cell 0 _ rfl
          have c_p_1 := B_p.cell 1 _ rfl
          have n_p := B_p.lt
          go_wp2
          rw [rounds_succ]
          go_wp2_with fail
          refine (implReadAt_c _ d' n _ (diskC.vext H.out.2 (by repeat (first | with_reducible exact Ext.refl _ | with_reducible assumption | with_reducible refine Ext.pAlloc ?_ _ | ((with_reducible refine Ext.pSet ?_ ?_ _); rotate_left; (simp <;> omega)) | with_reducible refine Ext.pDrew ?_ | with_reducible refine Ext.pDrewN ?_ _)))).mono ?_
          rw [HF2.out]
          rintro e w6 ⟨f2, rfl, Ew6, O_f2⟩
          obtain ⟨fa2, fc2, rfl⟩ := u_slice O_f2.view
          have Xw6 : Ext w w6 := Ext.trans (by repeat (first | with_reducible exact Ext.refl _ | with_reducible assumption | with_reducible refine Ext.pAlloc ?_ _ | ((with_reducible refine Ext.pSet ?_ ?_ _); rotate_left; (simp <;> omega)) | with_reducible refine Ext.pDrew ?_ | with_reducible refine Ext.pDrewN ?_ _)) Ew6
          have zw6 : w5.heap.size + 1 ≤ w6.heap.size := by have := Ew6.size; (try simp at this); omega
          have B_t' : Bx w6 w.heap.size [.slice ua d.1.length uc, .slice va d.2.length vc, .slice ua' d'.1.length uc', .slice va' d'.2.length vc'] := Bx.ext (by repeat (first | with_reducible assumption | with_reducible exact Bx.new _ _ _ _ rfl | ((with_reducible refine Bx.new _ _ _ _ ?_); simp; done) | with_reducible refine Bx.pAlloc ?_ _ | with_reducible refine Bx.pDrew ?_ | with_reducible refine Bx.pDrewN ?_ _ | with_reducible apply Bx.set10 | with_reducible apply Bx.set20 | with_reducible apply Bx.set21 | with_reducible apply Bx.set30 | with_reducible apply Bx.set31 | with_reducible apply Bx.set32 | with_reducible apply Bx.set40 | with_reducible apply Bx.set41 | with_reducible apply Bx.set42 | with_reducible apply Bx.set43 | ((with_reducible refine Bx.set_other ?_ ?_ _); rotate_left; (simp <;> omega)))) Ew6
          have B_p' : Bx w6 w3.heap.size [.slice ua d.1.length uc, .slice va d.2.length vc] := Bx.ext (by repeat (first | with_reducible assumption | with_reducible exact Bx.new _ _ _ _ rfl | ((with_reducible refine Bx.new _ _ _ _ ?_); simp; done) | with_reducible refine Bx.pAlloc ?_ _ | with_reducible refine Bx.pDrew ?_ | with_reducible refine Bx.pDrewN ?_ _ | with_reducible apply Bx.set10 | with_reducible apply Bx.set20 | with_reducible apply Bx.set21 | with_reducible apply Bx.set30 | with_reducible apply Bx.set31 | with_reducible apply Bx.set32 | with_reducible apply Bx.set40 | with_reducible apply Bx.set41 | with_reducible apply Bx.set42 | with_reducible apply Bx.set43 | ((with_reducible refine Bx.set_other ?_ ?_ _); rotate_left; (simp <;> omega)))) Ew6
          have B_q' : Bx w6 w5.heap.size [.slice ua' d'.1.length uc', .slice va' d'.2.length vc'] := Bx.ext (by repeat (first | with_reducible assumption | with_reducible exact Bx.new _ _ _ _ rfl | ((with_reducible refine Bx.new _ _ _ _ ?_); simp; done) | with_reducible refine Bx.pAlloc ?_ _ | with_reducible refine Bx.pDrew ?_ | with_reducible refine Bx.pDrewN ?_ _ | with_reducible apply Bx.set10 | with_reducible apply Bx.set20 | with_reducible apply Bx.set21 | with_reducible apply Bx.set30 | with_reducible apply Bx.set31 | with_reducible apply Bx.set32 | with_reducible apply Bx.set40 | with_reducible apply Bx.set41 | with_reducible apply Bx.set42 | with_reducible apply Bx.set43 | ((with_reducible refine Bx.set_other ?_ ?_ _); rotate_left; (simp <;> omega)))) Ew6
          have O_k' : (rowsC).own (w2.heap.size) (w2.heap.size + 1) w6 [.slice (some ⟨w2.heap.size, 0, none⟩) 0 0] ([]) := Cd.own.ext (by repeat (first | with_reducible assumption | with_reducible refine Cd.own.pAlloc ?_ _ | with_reducible refine Cd.own.pDrew ?_ | with_reducible refine Cd.own.pDrewN ?_ _ | ((with_reducible refine Cd.own.pSet ?_ ?_ _); rotate_left; (simp <;> omega)))) Ew6
          have O_f1' : (rowC).own (w3.heap.size + 1) (w4.heap.size) w6 [.slice fa1 F1.length fc1] (F1) := Cd.own.ext (by repeat (first | with_reducible assumption | with_reducible refine Cd.own.pAlloc ?_ _ | with_reducible refine Cd.own.pDrew ?_ | with_reducible refine Cd.own.pDrewN ?_ _ | ((with_reducible refine Cd.own.pSet ?_ ?_ _); rotate_left; (simp <;> omega)))) Ew6
          have O_r1' : (rowC).own (w4.heap.size) (w5.heap.size) w6 [.slice ra1 r1.length rc1] (r1) := Cd.own.ext (by repeat (first | with_reducible assumption | with_reducible refine Cd.own.pAlloc ?_ _ | with_reducible refine Cd.own.pDrew ?_ | with_reducible refine Cd.own.pDrewN ?_ _ | ((with_reducible refine Cd.own.pSet ?_ ?_ _); rotate_left; (simp <;> omega)))) Ew6
          clear c_t_0 c_t_1 c_t_2 c_t_3 n_t c_p_0 c_p_1 n_p
          clear B_t
          have B_t := B_t'; clear B_t'
          clear B_p
          have B_p := B_p'; clear B_p'
          have B_q := B_q'; clear B_q'
          clear O_k; have O_k := O_k'; clear O_k'
          clear O_f1; have O_f1 := O_f1'; clear O_f1'
          clear O_r1; have O_r1 := O_r1'; clear O_r1'
          replace O_f2 := O_f2.wide (lo' := w5.heap.size + 1) (hi' := w6.heap.size) (by first | omega | (simp <;> omega)) (Nat.le_refl _)
          clear Ew6 Xw5
          have c_t_0 := B_t.cell 0 _ rfl
          have c_t_1 := B_t.cell 1 _ rfl
          have c_t_2 := B_t.cell 2 _ rfl
          have c_t_3 := B_t.cell 3 _ rfl
          have n_t := B_t.lt
          have c_p_0 := B_p.cell 0 _ rfl
          have c_p_1 := B_p.cell 1 _ rfl
          have n_p := B_p.lt
          have c_q_0 := B_q.cell 0 _ rfl
          have c_q_1 := B_q.cell 1 _ rfl
          have n_q := B_q.lt
          go_wp2_with fail
          refine (implUnsummed_c _ F2 _ (Cd.own.view (R := rowC) (lo := w5.heap.size + 1) (hi := w6.heap.size) (by repeat (first | with_reducible assumption | with_reducible refine Cd.own.pAlloc ?_ _ | with_reducible refine Cd.own.pDrew ?_ | with_reducible refine Cd.own.pDrewN ?_ _ | ((with_reducible refine Cd.own.pSet ?_ ?_ _); rotate_left; (simp <;> omega)))))).mono ?_
          rw [HU2.out]
          rintro e w7 ⟨g2, rfl, Ew7, O_r2⟩
          obtain ⟨ra2, rc2, rfl⟩ := u_slice O_r2.view
          have Xw7 : Ext w w7 := Ext.trans (by repeat (first | with_reducible exact Ext.refl _ | with_reducible assumption | with_reducible refine Ext.pAlloc ?_ _ | ((with_reducible refine Ext.pSet ?_ ?_ _); rotate_left; (simp <;> omega)) | with_reducible refine Ext.pDrew ?_ | with_reducible refine Ext.pDrewN ?_ _)) Ew7
          have zw7 : w6.heap.size ≤ w7.heap.size := by have := Ew7.size; (try simp at this); omega
          have B_t' : Bx w7 w.heap.size [.slice ua d.1.length uc, .slice va d.2.length vc, .slice ua' d'.1.length uc', .slice va' d'.2.length vc'] := Bx.ext (by repeat (first | with_reducible assumption | with_reducible exact Bx.new _ _ _ _ rfl | ((with_reducible refine Bx.new _ _ _ _ ?_); simp; done) | with_reducible refine Bx.pAlloc ?_ _ | with_reducible refine Bx.pDrew ?_ | with_reducible refine Bx.pDrewN ?_ _ | with_reducible apply Bx.set10 | with_reducible apply Bx.set20 | with_reducible apply Bx.set21 | with_reducible apply Bx.set30 | with_reducible apply Bx.set31 | with_reducible apply Bx.set32 | with_reducible apply Bx.set40 | with_reducible apply Bx.set41 | with_reducible apply Bx.set42 | with_reducible apply Bx.set43 | ((with_reducible refine Bx.set_other ?_ ?_ _); rotate_left; (simp <;> omega)))) Ew7
          have B_p' : Bx w7 w3.heap.size [.slice ua d.1.length uc, .slice va d.2.length vc] := Bx.ext (by repeat (first | with_reducible assumption | with_reducible exact Bx.new _ _ _ _ rfl | ((with_reducible refine Bx.new _ _ _ _ ?_); simp; done) | with_reducible refine Bx.pAlloc ?_ _ | with_reducible refine Bx.pDrew ?_ | with_reducible refine Bx.pDrewN ?_ _ | with_reducible apply Bx.set10 | with_reducible apply Bx.set20 | with_reducible apply Bx.set21 | with_reducible apply Bx.set30 | with_reducible apply Bx.set31 | with_reducible apply Bx.set32 | with_reducible apply Bx.set40 | with_reducible apply Bx.set41 | with_reducible apply Bx.set42 | with_reducible apply Bx.set43 | ((with_reducible refine Bx.set_other ?_ ?_ _); rotate_left; (simp <;> omega)))) Ew7
          have B_q' : Bx w7 w5.heap.size [.slice ua' d'.1.length uc', .slice va' d'.2.length vc'] := Bx.ext (by repeat (first | with_reducible assumption | with_reducible exact Bx.new _ _ _ _ rfl | ((with_reducible refine Bx.new _ _ _ _ ?_); simp; done) | with_reducible refine Bx.pAlloc ?_ _ | with_reducible refine Bx.pDrew ?_ | with_reducible refine Bx.pDrewN ?_ _ | with_reducible apply Bx.set10 | with_reducible apply Bx.set20 | with_reducible apply Bx.set21 | with_reducible apply Bx.set30 | with_reducible apply Bx.set31 | with_reducible apply Bx.set32 | with_reducible apply Bx.set40 | with_reducible apply Bx.set41 | with_reducible apply Bx.set42 | with_reducible apply Bx.set43 | ((with_reducible refine Bx.set_other ?_ ?_ _); rotate_left; (simp <;> omega)))) Ew7
          have O_k' : (rowsC).own (w2.heap.size) (w2.heap.size + 1) w7 [.slice (some ⟨w2.heap.size, 0, none⟩) 0 0] ([]) := Cd.own.ext (by repeat (first | with_reducible assumption | with_reducible refine Cd.own.pAlloc ?_ _ | with_reducible refine Cd.own.pDrew ?_ | with_reducible refine Cd.own.pDrewN ?_ _ | ((with_reducible refine Cd.own.pSet ?_ ?_ _); rotate_left; (simp <;> omega)))) Ew7
          have O_f1' : (rowC).own (w3.heap.size + 1) (w4.heap.size) w7 [.slice fa1 F1.length fc1] (F1) := Cd.own.ext (by repeat (first | with_reducible assumption | with_reducible refine Cd.own.pAlloc ?_ _ | with_reducible refine Cd.own.pDrew ?_ | with_reducible refine Cd.own.pDrewN ?_ _ | ((with_reducible refine Cd.own.pSet ?_ ?_ _); rotate_left; (simp <;> omega)))) Ew7
          have O_r1' : (rowC).own (w4.heap.size) (w5.heap.size) w7 [.slice ra1 r1.length rc1] (r1) := Cd.own.ext (by repeat (first | with_reducible assumption | with_reducible refine Cd.own.pAlloc ?_ _ | with_reducible refine Cd.own.pDrew ?_ | with_reducible refine Cd.own.pDrewN ?_ _ | ((with_reducible refine Cd.own.pSet ?_ ?_ _); rotate_left; (simp <;> omega)))) Ew7
          have O_f2' : (rowC).own (w5.heap.size + 1) (w6.heap.size) w7 [.slice fa2 F2.length fc2] (F2) := Cd.own.ext (by repeat (first | with_reducible assumption | with_reducible refine Cd.own.pAlloc ?_ _ | with_reducible refine Cd.own.pDrew ?_ | with_reducible refine Cd.own.pDrewN ?_ _ | ((with_reducible refine Cd.own.pSet ?_ ?_ _); rotate_left; (simp <;> omega)))) Ew7
          clear c_t_0 c_t_1 c_t_2 c_t_3 n_t c_p_0 c_p_1 n_p c_q_0 c_q_1 n_q
          clear B_t
          have B_t := B_t'; clear B_t'
          clear B_p
          have B_p := B_p'; clear B_p'
          clear B_q
          have B_q := B_q'; clear B_q'
          clear O_k; have O_k := O_k'; clear O_k'
          clear O_f1; have O_f1 := O_f1'; clear O_f1'
          clear O_r1; have O_r1 := O_r1'; clear O_r1'
          clear O_f2; have O_f2 := O_f2'; clear O_f2'
          replace O_r2 := O_r2.wide (lo' := w6.heap.size) (hi' := w7.heap.size) (by first | omega | (simp <;> omega)) (Nat.le_refl _)
          clear Ew7 Xw6
          have c_t_0 := B_t.cell 0 _ rfl
          have c_t_1 := B_t.cell 1 _ rfl
          have c_t_2 := B_t.cell 2 _ rfl
          have c_t_3 := B_t.cell 3 _ rfl
          have n_t := B_t.lt
          have c_p_0 := B_p.cell 0 _ rfl
          have c_p_1 := B_p.cell 1 _ rfl
          have n_p := B_p.lt
          have c_q_0 := B_q.cell 0 _ rfl
          have c_q_1 := B_q.cell 1 _ rfl
          have n_q := B_q.lt
          go_wp2_with (at_builtin; refine wpList_snocC (R := rowC) (y := r2) (lo' := w6.heap.size) (hi' := w7.heap.size) rfl _ _ _ rfl 44 _ 24 Try.underlying22 Hinr.out rfl (Cd.own.pAlloc O_k _) rfl (Cd.own.pAlloc O_r2 _) (by omega) (by omega) (by simp; omega) _ _ rfl (CellsAt.lit _ _ _) (by simp) ?_)
          intro v_w8 w8 ka2 kc2 hv_w8 O_n C_w8
          subst hv_w8
          clear B_p
          clear B_q
          have Xw8 : Ext w w8 := Chg.ext (by repeat (first | with_reducible exact Ext.refl _ | with_reducible assumption | with_reducible refine Ext.pAlloc ?_ _ | ((with_reducible refine Ext.pSet ?_ ?_ _); rotate_left; (simp <;> omega)) | with_reducible refine Ext.pDrew ?_ | with_reducible refine Ext.pDrewN ?_ _)) C_w8 (by omega)
          have zw8 : w7.heap.size + 1 ≤ w8.heap.size := by have := C_w8.size; (try simp at this); omega
          have B_t' : Bx w8 w.heap.size [.slice ua d.1.length uc, .slice va d.2.length vc, .slice ua' d'.1.length uc', .slice va' d'.2.length vc'] := Bx.chg (by repeat (first | with_reducible assumption | with_reducible exact Bx.new _ _ _ _ rfl | ((with_reducible refine Bx.new _ _ _ _ ?_); simp; done) | with_reducible refine Bx.pAlloc ?_ _ | with_reducible refine Bx.pDrew ?_ | with_reducible refine Bx.pDrewN ?_ _ | with_reducible apply Bx.set10 | with_reducible apply Bx.set20 | with_reducible apply Bx.set21 | with_reducible apply Bx.set30 | with_reducible apply Bx.set31 | with_reducible apply Bx.set32 | with_reducible apply Bx.set40 | with_reducible apply Bx.set41 | with_reducible apply Bx.set42 | with_reducible apply Bx.set43 | ((with_reducible refine Bx.set_other ?_ ?_ _); rotate_left; (simp <;> omega)))) C_w8 (by omega)
          have O_r1' : (rowC).own (w4.heap.size) (w5.heap.size) w8 [.slice ra1 r1.length rc1] (r1) := Cd.own.chg (by repeat (first | with_reducible assumption | with_reducible refine Cd.own.pAlloc ?_ _ | with_reducible refine Cd.own.pDrew ?_ | with_reducible refine Cd.own.pDrewN ?_ _ | ((with_reducible refine Cd.own.pSet ?_ ?_ _); rotate_left; (simp <;> omega)))) C_w8 (by omega)
          clear c_t_0 c_t_1 c_t_2 c_t_3 n_t c_p_0 c_p_1 n_p c_q_0 c_q_1 n_q
          clear B_t
          have B_t := B_t'; clear B_t'
          clear O_r1; have O_r1 := O_r1'; clear O_r1'
          clear C_w8 Xw7
          have c_t_0 := B_t.cell 0 _ rfl
          have c_t_1 := B_t.cell 1 _ rfl
          have c_t_2 := B_t.cell 2 _ rfl
          have c_t_3 := B_t.cell 3 _ rfl
          have n_t := B_t.lt
          clear O_k; have O_k : rowsC.own (w2.heap.size) w8.heap.size w8 [.slice ka2 (0 + 1) kc2] [r2] := O_n; clear O_n
          go_wp2
          rw [rounds_succ]
          go_wp2
          go_ret
          exact ⟨.slice ka2 (0 + 1) kc2, rfl, by repeat (first | with_reducible exact Ext.refl _ | with_reducible assumption | with_reducible refine Ext.pAlloc ?_ _ | ((with_reducible refine Ext.pSet ?_ ?_ _); rotate_left; (simp <;> omega)) | with_reducible refine Ext.pDrew ?_ | with_reducible refine Ext.pDrewN ?_ _), by (try simp only [reduceIte, Bool.false_eq_true, false_and, not_false_eq_true, and_true, and_self, true_and, List.append_nil, List.nil_append]); exact Cd.own.wide (lo := w2.heap.size) (hi := w8.heap.size) (by repeat (first | with_reducible assumption | with_reducible refine Cd.own.pAlloc ?_ _ | with_reducible refine Cd.own.pDrew ?_ | with_reducible refine Cd.own.pDrewN ?_ _ | ((with_reducible refine Cd.own.pSet ?_ ?_ _); rotate_left; (simp <;> omega)))) (by omega) (by first | omega | (simp <;> omega))⟩
      · cases o2
        · rw [show ((if true = true then [r1] else []) ++ (if false = true ∧ ¬ (true = true ∧ r1 = r2) then [r2] else [])) = [r1] from by simp]
          have hix0 : ∀ (w : World) (a b c e : Option Addr) (n1 m1 n2 m2 n3 m3 n4 m4 : Nat), (Instr.index 75 (.agg #[.slice a n1 m1, .slice b n2 m2, .slice c n3 m3, .slice e n4 m4]) (.int .i64 0)).run Try.prog w = .ok (.agg #[.slice a n1 m1, .slice b n2 m2]) w := fun _ _ _ _ _ _ _ _ _ _ _ _ _ => by kernel_rfl
          have hix1 : ∀ (w : World) (a b c e : Option Addr) (n1 m1 n2 m2 n3 m3 n4 m4 : Nat), (Instr.index 75 (.agg #[.slice a n1 m1, .slice b n2 m2, .slice c n3 m3, .slice e n4 m4]) (.int .i64 1)).run Try.prog w = .ok (.agg #[.slice c n3 m3, .slice e n4 m4]) w := fun _ _ _ _ _ _ _ _ _ _ _ _ _ => by kernel_rfl
          go_enter Try.func17, Try.ntmps17
          go_wp2_with fail
          refine (implTwoOk_c _ (d, d') _ (twoC.vext HT.out (by repeat (first | with_reducible exact Ext.refl _ | with_reducible assumption | with_reducible refine Ext.pAlloc ?_ _ | ((with_reducible refine Ext.pSet ?_ ?_ _); rotate_left; (simp <;> omega)) | with_reducible refine Ext.pDrew ?_ | with_reducible refine Ext.pDrewN ?_ _)))).mono ?_
          rw [Ht.out]
          rintro e w1 ⟨rfl, Ew1⟩
          have Xw1 : Ext w w1 := Ext.trans (by repeat (first | with_reducible exact Ext.refl _ | with_reducible assumption | with_reducible refine Ext.pAlloc ?_ _ | ((with_reducible refine Ext.pSet ?_ ?_ _); rotate_left; (simp <;> omega)) | with_reducible refine Ext.pDrew ?_ | with_reducible refine Ext.pDrewN ?_ _)) Ew1
          have zw1 : w.heap.size + 1 ≤ w1.heap.size := by have := Ew1.size; (try simp at this); omega
          have B_t' : Bx w1 w.heap.size [.slice ua d.1.length uc, .slice va d.2.length vc, .slice ua' d'.1.length uc', .slice va' d'.2.length vc'] := Bx.ext (by repeat (first | with_reducible assumption | with_reducible exact Bx.new _ _ _ _ rfl | ((with_reducible refine Bx.new _ _ _ _ ?_); simp; done) | with_reducible refine Bx.pAlloc ?_ _ | with_reducible refine Bx.pDrew ?_ | with_reducible refine Bx.pDrewN ?_ _ | with_reducible apply Bx.set10 | with_reducible apply Bx.set20 | with_reducible apply Bx.set21 | with_reducible apply Bx.set30 | with_reducible apply Bx.set31 | with_reducible apply Bx.set32 | with_reducible apply Bx.set40 | with_reducible apply Bx.set41 | with_reducible apply Bx.set42 | with_reducible apply Bx.set43 | ((with_reducible refine Bx.set_other ?_ ?_ _); rotate_left; (simp <;> omega)))) Ew1
          have B_t := B_t'; clear B_t'
          clear Ew1
          have c_t_0 := B_t.cell 0 _ rfl
          have c_t_1 := B_t.cell 1 _ rfl
          have c_t_2 := B_t.cell 2 _ rfl
          have c_t_3 := B_t.cell 3 _ rfl
          have n_t := B_t.lt
          go_wp2_with fail
          refine (sectorOk_c _ d _ _ (diskC.vext H.out.1 (by repeat (first | with_reducible exact Ext.refl _ | with_reducible assumption | with_reducible refine Ext.pAlloc ?_ _ | ((with_reducible refine Ext.pSet ?_ ?_ _); rotate_left; (simp <;> omega)) | with_reducible refine Ext.pDrew ?_ | with_reducible refine Ext.pDrewN ?_ _)))).mono ?_
          rw [Hs.out]
          rintro e w2 ⟨rfl, Ew2⟩
          have Xw2 : Ext w w2 := Ext.trans (by repeat (first | with_reducible exact Ext.refl _ | with_reducible assumption | with_reducible refine Ext.pAlloc ?_ _ | ((with_reducible refine Ext.pSet ?_ ?_ _); rotate_left; (simp <;> omega)) | with_reducible refine Ext.pDrew ?_ | with_reducible refine Ext.pDrewN ?_ _)) Ew2
          have zw2 : w1.heap.size ≤ w2.heap.size := by have := Ew2.size; (try simp at this); omega
          have B_t' : Bx w2 w.heap.size [.slice ua d.1.length uc, .slice va d.2.length vc, .slice ua' d'.1.length uc', .slice va' d'.2.length vc'] := Bx.ext (by repeat (first | with_reducible assumption | with_reducible exact Bx.new _ _ _ _ rfl | ((with_reducible refine Bx.new _ _ _ _ ?_); simp; done) | with_reducible refine Bx.pAlloc ?_ _ | with_reducible refine Bx.pDrew ?_ | with_reducible refine Bx.pDrewN ?_ _ | with_reducible apply Bx.set10 | with_reducible apply Bx.set20 | with_reducible apply Bx.set21 | with_reducible apply Bx.set30 | with_reducible apply Bx.set31 | with_reducible apply Bx.set32 | with_reducible apply Bx.set40 | with_reducible apply Bx.set41 | with_reducible apply Bx.set42 | with_reducible apply Bx.set43 | ((with_reducible refine Bx.set_other ?_ ?_ _); rotate_left; (simp <;> omega)))) Ew2
          clear c_t_0 c_t_1 c_t_2 c_t_3 n_t
          clear B_t
          have B_t := B_t'; clear B_t'
          clear Ew2 Xw1
          have c_t_0 := B_t.cell 0 _ rfl
          have c_t_1 := B_t.cell 1 _ rfl
          have c_t_2 := B_t.cell 2 _ rfl
          have c_t_3 := B_t.cell 3 _ rfl
          have n_t := B_t.lt
          go_wp2_with fail
          refine (disks_c _ _ _ _ _ _ _ _ _ _ _ _ _).mono ?_
          rintro e w3 ⟨rfl, Ew3⟩
          have Xw3 : Ext w w3 := Ext.trans (by repeat (first | with_reducible exact Ext.refl _ | with_reducible assumption | with_reducible refine Ext.pAlloc ?_ _ | ((with_reducible refine Ext.pSet ?_ ?_ _); rotate_left; (simp <;> omega)) | with_reducible refine Ext.pDrew ?_ | with_reducible refine Ext.pDrewN ?_ _)) Ew3
          have zw3 : w2.heap.size + 1 ≤ w3.heap.size := by have := Ew3.size; (try simp at this); omega
          have B_t' : Bx w3 w.heap.size [.slice ua d.1.length uc, .slice va d.2.length vc, .slice ua' d'.1.length uc', .slice va' d'.2.length vc'] := Bx.ext (by repeat (first | with_reducible assumption | with_reducible exact Bx.new _ _ _ _ rfl | ((with_reducible refine Bx.new _ _ _ _ ?_); simp; done) | with_reducible refine Bx.pAlloc ?_ _ | with_reducible refine Bx.pDrew ?_ | with_reducible refine Bx.pDrewN ?_ _ | with_reducible apply Bx.set10 | with_reducible apply Bx.set20 | with_reducible apply Bx.set21 | with_reducible apply Bx.set30 | with_reducible apply Bx.set31 | with_reducible apply Bx.set32 | with_reducible apply Bx.set40 | with_reducible apply Bx.set41 | with_reducible apply Bx.set42 | with_reducible apply Bx.set43 | ((with_reducible refine Bx.set_other ?_ ?_ _); rotate_left; (simp <;> omega)))) Ew3
          have B_e' : Bx w3 w2.heap.size [] := Bx.ext (by repeat (first | with_reducible assumption | with_reducible exact Bx.new _ _ _ _ rfl | ((with_reducible refine Bx.new _ _ _ _ ?_); simp; done) | with_reducible refine Bx.pAlloc ?_ _ | with_reducible refine Bx.pDrew ?_ | with_reducible refine Bx.pDrewN ?_ _ | with_reducible apply Bx.set10 | with_reducible apply Bx.set20 | with_reducible apply Bx.set21 | with_reducible apply Bx.set30 | with_reducible apply Bx.set31 | with_reducible apply Bx.set32 | with_reducible apply Bx.set40 | with_reducible apply Bx.set41 | with_reducible apply Bx.set42 | with_reducible apply Bx.set43 | ((with_reducible refine Bx.set_other ?_ ?_ _); rotate_left; (simp <;> omega)))) Ew3
          clear c_t_0 c_t_1 c_t_2 c_t_3 n_t
          clear B_t
          have B_t := B_t'; clear B_t'
          have B_e := B_e'; clear B_e'
          clear Ew3 Xw2
          have c_t_0 := B_t.cell 0 _ rfl
          have c_t_1 := B_t.cell 1 _ rfl
          have c_t_2 := B_t.cell 2 _ rfl
          have c_t_3 := B_t.cell 3 _ rfl
          have n_t := B_t.lt
          have n_e := B_e.lt
          have O_k : rowsC.own w2.heap.size (w2.heap.size + 1) w3 [.slice (some ⟨w2.heap.size, 0, none⟩) 0 0] [] := own_of_empty B_e
          clear B_e
          clear n_e
          go_wp2
          refine wp_loop_rounds 3 ?_
          rw [rounds_succ]
          go_wp2_with fail
          refine (implReadAt_c _ d n _ (diskC.vext H.out.1 (by repeat (first | with_reducible exact Ext.refl _ | with_reducible assumption | with_reducible refine Ext.pAlloc ?_ _ | ((with_reducible refine Ext.pSet ?_ ?_ _); rotate_left; (simp <;> omega)) | with_reducible refine Ext.pDrew ?_ | with_reducible refine Ext.pDrewN ?_ _)))).mono ?_
          rw [HF1.out]
          rintro e w4 ⟨f1, rfl, Ew4, O_f1⟩
          obtain ⟨fa1, fc1, rfl⟩ := u_slice O_f1.view
          have Xw4 : Ext w w4 := Ext.trans (by repeat (first | with_reducible exact Ext.refl _ | with_reducible assumption | with_reducible refine Ext.pAlloc ?_ _ | ((with_reducible refine Ext.pSet ?_ ?_ _); rotate_left; (simp <;> omega)) | with_reducible refine Ext.pDrew ?_ | with_reducible refine Ext.pDrewN ?_ _)) Ew4
          have zw4 : w3.heap.size + 1 ≤ w4.heap.size := by have := Ew4.size; (try simp at this); omega
          have B_t' : Bx w4 w.heap.size [.slice ua d.1.length uc, .slice va d.2.length vc, .slice ua' d'.1.length uc', .slice va' d'.2.length vc'] := Bx.ext (by repeat (first | with_reducible assumption | with_reducible exact Bx.new _ _ _ _ rfl | ((with_reducible refine Bx.new _ _ _ _ ?_); simp; done) | with_reducible refine Bx.pAlloc ?_ _ | with_reducible refine Bx.pDrew ?_ | with_reducible refine Bx.pDrewN ?_ _ | with_reducible apply Bx.set10 | with_reducible apply Bx.set20 | with_reducible apply Bx.set21 | with_reducible apply Bx.set30 | with_reducible apply Bx.set31 | with_reducible apply Bx.set32 | with_reducible apply Bx.set40 | with_reducible apply Bx.set41 | with_reducible apply Bx.set42 | with_reducible apply Bx.set43 | ((with_reducible refine Bx.set_other ?_ ?_ _); rotate_left; (simp <;> omega)))) Ew4
          have B_p' : Bx w4 w3.heap.size [.slice ua d.1.length uc, .slice va d.2.length vc] := Bx.ext (by repeat (first | with_reducible assumption | with_reducible exact Bx.new _ _ _ _ rfl | ((with_reducible refine Bx.new _ _ _ _ ?_); simp; done) | with_reducible refine Bx.pAlloc ?_ _ | with_reducible refine Bx.pDrew ?_ | with_reducible refine Bx.pDrewN ?_ _ | with_reducible apply Bx.set10 | with_reducible apply Bx.set20 | with_reducible apply Bx.set21 | with_reducible apply Bx.set30 | with_reducible apply Bx.set31 | with_reducible apply Bx.set32 | with_reducible apply Bx.set40 | with_reducible apply Bx.set41 | with_reducible apply Bx.set42 | with_reducible apply Bx.set43 | ((with_reducible refine Bx.set_other ?_ ?_ _); rotate_left; (simp <;> omega)))) Ew4
          have O_k' : (rowsC).own (w2.heap.size) (w2.heap.size + 1) w4 [.slice (some ⟨w2.heap.size, 0, none⟩) 0 0] ([]) := Cd.own.ext (by repeat (first | with_reducible assumption | with_reducible refine Cd.own.pAlloc ?_ _ | with_reducible refine Cd.own.pDrew ?_ | with_reducible refine Cd.own.pDrewN ?_ _ | ((with_reducible refine Cd.own.pSet ?_ ?_ _); rotate_left; (simp <;> omega)))) Ew4
          clear c_t_0 c_t_1 c_t_2 c_t_3 n_t
          clear B_t
          have B_t := B_t'; clear B_t'
          have B_p := B_p'; clear B_p'
          clear O_k; have O_k := O_k'; clear O_k'
          replace O_f1 := O_f1.wide (lo' := w3.heap.size + 1) (hi' := w4.heap.size) (by first | omega | (simp <;> omega)) (Nat.le_refl _)
          clear Ew4 Xw3
          have c_t_0 := B_t.cell 0 _ rfl
          have c_t_1 := B_t.cell 1 _ rfl
          have c_t_2 := B_t.cell 2 _ rfl
          have c_t_3 := B_t.cell 3 _ rfl
          have n_t := B_t.lt
          have c_p_0 := B_p.cell 0 _ rfl
          have c_p_1 := B_p.cell 1 _ rfl
          have n_p := B_p.lt
          go_wp2_with fail
          refine (implUnsummed_c _ F1 _ (Cd.own.view (R := rowC) (lo := w3.heap.size + 1) (hi := w4.heap.size) (by repeat (first | with_reducible assumption | with_reducible refine Cd.own.pAlloc ?_ _ | with_reducible refine Cd.own.pDrew ?_ | with_reducible refine Cd.own.pDrewN ?_ _ | ((with_reducible refine Cd.own.pSet ?_ ?_ _); rotate_left; (simp <;> omega)))))).mono ?_
          rw [HU1.out]
          rintro e w5 ⟨g1, rfl, Ew5, O_r1⟩
          obtain ⟨ra1, rc1, rfl⟩ := u_slice O_r1.view
          have Xw5 : Ext w w5 := Ext.trans (by repeat (first | with_reducible exact Ext.refl _ | with_reducible assumption | with_reducible refine Ext.pAlloc ?_ _ | ((with_reducible refine Ext.pSet ?_ ?_ _); rotate_left; (simp <;> omega)) | with_reducible refine Ext.pDrew ?_ | with_reducible refine Ext.pDrewN ?_ _)) Ew5
          have zw5 : w4.heap.size ≤ w5.heap.size := by have := Ew5.size; (try simp at this); omega
          have B_t' : Bx w5 w.heap.size [.slice ua d.1.length uc, .slice va d.2.length vc, .slice ua' d'.1.length uc', .slice va' d'.2.length vc'] := Bx.ext (by repeat (first | with_reducible assumption | with_reducible exact Bx.new _ _ _ _ rfl | ((with_reducible refine Bx.new _ _ _ _ ?_); simp; done) | with_reducible refine Bx.pAlloc ?_ _ | with_reducible refine Bx.pDrew ?_ | with_reducible refine Bx.pDrewN ?_ _ | with_reducible apply Bx.set10 | with_reducible apply Bx.set20 | with_reducible apply Bx.set21 | with_reducible apply Bx.set30 | with_reducible apply Bx.set31 | with_reducible apply Bx.set32 | with_reducible apply Bx.set40 | with_reducible apply Bx.set41 | with_reducible apply Bx.set42 | with_reducible apply Bx.set43 | ((with_reducible refine Bx.set_other ?_ ?_ _); rotate_left; (simp <;> omega)))) Ew5
          have B_p' : Bx w5 w3.heap.size [.slice ua d.1.length uc, .slice va d.2.length vc] := Bx.ext (by repeat (first | with_reducible assumption | with_reducible exact Bx.new _ _ _ _ rfl | ((with_reducible refine Bx.new _ _ _ _ ?_); simp; done) | with_reducible refine Bx.pAlloc ?_ _ | with_reducible refine Bx.pDrew ?_ | with_reducible refine Bx.pDrewN ?_ _ | with_reducible apply Bx.set10 | with_reducible apply Bx.set20 | with_reducible apply Bx.set21 | with_reducible apply Bx.set30 | with_reducible apply Bx.set31 | with_reducible apply Bx.set32 | with_reducible apply Bx.set40 | with_reducible apply Bx.set41 | with_reducible apply Bx.set42 | with_reducible apply Bx.set43 | ((with_reducible refine Bx.set_other ?_ ?_ _); rotate_left; (simp <;> omega)))) Ew5
          have O_k' : (rowsC).own (w2.heap.size) (w2.heap.size + 1) w5 [.slice (some ⟨w2.heap.size, 0, none⟩) 0 0] ([]) := Cd.own.ext (by repeat (first | with_reducible assumption | with_reducible refine Cd.own.pAlloc ?_ _ | with_reducible refine Cd.own.pDrew ?_ | with_reducible refine Cd.own.pDrewN ?_ _ | ((with_reducible refine Cd.own.pSet ?_ ?_ _); rotate_left; (simp <;> omega)))) Ew5
          have O_f1' : (rowC).own (w3.heap.size + 1) (w4.heap.size) w5 [.slice fa1 F1.length fc1] (F1) := Cd.own.ext (by repeat (first | with_reducible assumption | with_reducible refine Cd.own.pAlloc ?_ _ | with_reducible refine Cd.own.pDrew ?_ | with_reducible refine Cd.own.pDrewN ?_ _ | ((with_reducible refine Cd.own.pSet ?_ ?_ _); rotate_left; (simp <;> omega)))) Ew5
          clear c_t_0 c_t_1 c_t_2 c_t_3 n_t c_p_0 c_p_1 n_p
          clear B_t
          have B_t := B_t'; clear B_t'
          clear B_p
          have B_p := B_p'; clear B_p'
          clear O_k; have O_k := O_k'; clear O_k'
          clear O_f1; have O_f1 := O_f1'; clear O_f1'
          replace O_r1 := O_r1.wide (lo' := w4.heap.size) (hi' := w5.heap.size) (by first | omega | (simp <;> omega)) (Nat.le_refl _)
          clear Ew5 Xw4
          have c_t_0 := B_t.cell 0 _ rfl
          have c_t_1 := B_t.cell 1 _ rfl
          have c_t_2 := B_t.cell 2 _ rfl
          have c_t_3 := B_t.cell 3 _ rfl
          have n_t := B_t.lt
          have c_p_0 := B_p.cell 0 _ rfl
          have c_p_1 := B_p.cell 1 _ rfl
          have n_p := B_p.lt
          go_wp2_with (at_builtin; refine wpList_snocC (R := rowC) (y := r1) (lo' := w4.heap.size) (hi' := w5.heap.size) rfl _ _ _ rfl 44 _ 24 Try.underlying22 Hinr.out rfl (Cd.own.pAlloc O_k _) rfl (Cd.own.pAlloc O_r1 _) (by omega) (by omega) (by simp; omega) _ _ rfl (CellsAt.lit _ _ _) (by simp) ?_)
          intro v_w6 w6 ka1 kc1 hv_w6 O_n C_w6
          subst hv_w6
          clear B_p
          have Xw6 : Ext w w6 := Chg.ext (by repeat (first | with_reducible exact Ext.refl _ | with_reducible assumption | with_reducible refine Ext.pAlloc ?_ _ | ((with_reducible refine Ext.pSet ?_ ?_ _); rotate_left; (simp <;> omega)) | with_reducible refine Ext.pDrew ?_ | with_reducible refine Ext.pDrewN ?_ _)) C_w6 (by omega)
          have zw6 : w5.heap.size + 1 ≤ w6.heap.size := by have := C_w6.size; (try simp at this); omega
          have B_t' : Bx w6 w.heap.size [.slice ua d.1.length uc, .slice va d.2.length vc, .slice ua' d'.1.length uc', .slice va' d'.2.length vc'] := Bx.chg (by repeat (first | with_reducible assumption | with_reducible exact Bx.new _ _ _ _ rfl | ((with_reducible refine Bx.new _ _ _ _ ?_); simp; done) | with_reducible refine Bx.pAlloc ?_ _ | with_reducible refine Bx.pDrew ?_ | with_reducible refine Bx.pDrewN ?_ _ | with_reducible apply Bx.set10 | with_reducible apply Bx.set20 | with_reducible apply Bx.set21 | with_reducible apply Bx.set30 | with_reducible apply Bx.set31 | with_reducible apply Bx.set32 | with_reducible apply Bx.set40 | with_reducible apply Bx.set41 | with_reducible apply Bx.set42 | with_reducible apply Bx.set43 | ((with_reducible refine Bx.set_other ?_ ?_ _); rotate_left; (simp <;> omega)))) C_w6 (by omega)
          clear c_t_0 c_t_1 c_t_2 c_t_3 n_t c_p_0 c_p_1 n_p
          clear B_t
          have B_t := B_t'; clear B_t'
          clear C_w6 Xw5
          have c_t_0 := B_t.cell 0 _ rfl
          have c_t_1 := B_t.cell 1 _ rfl
          have c_t_2 := B_t.cell 2 _ rfl
          have c_t_3 := B_t.cell 3 _ rfl
          have n_t := B_t.lt
          clear O_k; have O_k : rowsC.own (w2.heap.size) w6.heap.size w6 [.slice ka1 (0 + 1) kc1] [r1] := O_n; clear O_n
          go_wp2
          rw [rounds_succ]
          go_wp2_with fail
          refine (implReadAt_c _ d' n _ (diskC.vext H.out.2 (by repeat (first | with_reducible exact Ext.refl _ | with_reducible assumption | with_reducible refine Ext.pAlloc ?_ _ | ((with_reducible refine Ext.pSet ?_ ?_ _); rotate_left; (simp <;> omega)) | with_reducible refine Ext.pDrew ?_ | with_reducible refine Ext.pDrewN ?_ _)))).mono ?_
          rw [HF2.out]
          rintro e w7 ⟨f2, rfl, Ew7, O_f2⟩
          obtain ⟨fa2, fc2, rfl⟩ := u_slice O_f2.view
          have Xw7 : Ext w w7 := Ext.trans (by repeat (first | with_reducible exact Ext.refl _ | with_reducible assumption | with_reducible refine Ext.pAlloc ?_ _ | ((with_reducible refine Ext.pSet ?_ ?_ _); rotate_left; (simp <;> omega)) | with_reducible refine Ext.pDrew ?_ | with_reducible refine Ext.pDrewN ?_ _)) Ew7
          have zw7 : w6.heap.size + 1 ≤ w7.heap.size := by have := Ew7.size; (try simp at this); omega
          have B_t' : Bx w7 w.heap.size [.slice ua d.1.length uc, .slice va d.2.length vc, .slice ua' d'.1.length uc', .slice va' d'.2.length vc'] := Bx.ext (by repeat (first | with_reducible assumption | with_reducible exact Bx.new _ _ _ _ rfl | ((with_reducible refine Bx.new _ _ _ _ ?_); simp; done) | with_reducible refine Bx.pAlloc ?_ _ | with_reducible refine Bx.pDrew ?_ | with_reducible refine Bx.pDrewN ?_ _ | with_reducible apply Bx.set10 | with_reducible apply Bx.set20 | with_reducible apply Bx.set21 | with_reducible apply Bx.set30 | with_reducible apply Bx.set31 | with_reducible apply Bx.set32 | with_reducible apply Bx.set40 | with_reducible apply Bx.set41 | with_reducible apply Bx.set42 | with_reducible apply Bx.set43 | ((with_reducible refine Bx.set_other ?_ ?_ _); rotate_left; (simp <;> omega)))) Ew7
          have B_q' : Bx w7 w6.heap.size [.slice ua' d'.1.length uc', .slice va' d'.2.length vc'] := Bx.ext (by repeat (first | with_reducible assumption | with_reducible exact Bx.new _ _ _ _ rfl | ((with_reducible refine Bx.new _ _ _ _ ?_); simp; done) | with_reducible refine Bx.pAlloc ?_ _ | with_reducible refine Bx.pDrew ?_ | with_reducible refine Bx.pDrewN ?_ _ | with_reducible apply Bx.set10 | with_reducible apply Bx.set20 | with_reducible apply Bx.set21 | with_reducible apply Bx.set30 | with_reducible apply Bx.set31 | with_reducible apply Bx.set32 | with_reducible apply Bx.set40 | with_reducible apply Bx.set41 | with_reducible apply Bx.set42 | with_reducible apply Bx.set43 | ((with_reducible refine Bx.set_other ?_ ?_ _); rotate_left; (simp <;> omega)))) Ew7
          have O_k' : (rowsC).own (w2.heap.size) (w6.heap.size) w7 [.slice ka1 (0 + 1) kc1] ([r1]) := Cd.own.ext (by repeat (first | with_reducible assumption | with_reducible refine Cd.own.pAlloc ?_ _ | with_reducible refine Cd.own.pDrew ?_ | with_reducible refine Cd.own.pDrewN ?_ _ | ((with_reducible refine Cd.own.pSet ?_ ?_ _); rotate_left; (simp <;> omega)))) Ew7
          clear c_t_0 c_t_1 c_t_2 c_t_3 n_t
          clear B_t
          have B_t := B_t'; clear B_t'
          have B_q := B_q'; clear B_q'
          clear O_k; have O_k := O_k'; clear O_k'
          replace O_f2 := O_f2.wide (lo' := w6.heap.size + 1) (hi' := w7.heap.size) (by first | omega | (simp <;> omega)) (Nat.le_refl _)
          clear Ew7 Xw6
          have c_t_0 := B_t.cell 0 _ rfl
          have c_t_1 := B_t.cell 1 _ rfl
          have c_t_2 := B_t.cell 2 _ rfl
          have c_t_3 := B_t.cell 3 _ rfl
          have n_t := B_t.lt
          have c_q_0 := B_q.cell 0 _ rfl
          have c_q_1 := B_q.cell 1 _ rfl
          have n_q := B_q.lt
          go_wp2_with fail
          refine (implUnsummed_c _ F2 _ (Cd.own.view (R := rowC) (lo := w6.heap.size + 1) (hi := w7.heap.size) (by repeat (first | with_reducible assumption | with_reducible refine Cd.own.pAlloc ?_ _ | with_reducible refine Cd.own.pDrew ?_ | with_reducible refine Cd.own.pDrewN ?_ _ | ((with_reducible refine Cd.own.pSet ?_ ?_ _); rotate_left; (simp <;> omega)))))).mono ?_
          rw [HU2.out]
          rintro e w8 ⟨g2, rfl, Ew8, O_r2⟩
          obtain ⟨ra2, rc2, rfl⟩ := u_slice O_r2.view
          have Xw8 : Ext w w8 := Ext.trans (by repeat (first | with_reducible exact Ext.refl _ | with_reducible assumption | with_reducible refine Ext.pAlloc ?_ _ | ((with_reducible refine Ext.pSet ?_ ?_ _); rotate_left; (simp <;> omega)) | with_reducible refine Ext.pDrew ?_ | with_reducible refine Ext.pDrewN ?_ _)) Ew8
          have zw8 : w7.heap.size ≤ w8.heap.size := by have := Ew8.size; (try simp at this); omega
          have B_t' : Bx w8 w.heap.size [.slice ua d.1.length uc, .slice va d.2.length vc, .slice ua' d'.1.length uc', .slice va' d'.2.length vc'] := Bx.ext (by repeat (first | with_reducible assumption | with_reducible exact Bx.new _ _ _ _ rfl | ((with_reducible refine Bx.new _ _ _ _ ?_); simp; done) | with_reducible refine Bx.pAlloc ?_ _ | with_reducible refine Bx.pDrew ?_ | with_reducible refine Bx.pDrewN ?_ _ | with_reducible apply Bx.set10 | with_reducible apply Bx.set20 | with_reducible apply Bx.set21 | with_reducible apply Bx.set30 | with_reducible apply Bx.set31 | with_reducible apply Bx.set32 | with_reducible apply Bx.set40 | with_reducible apply Bx.set41 | with_reducible apply Bx.set42 | with_reducible apply Bx.set43 | ((with_reducible refine Bx.set_other ?_ ?_ _); rotate_left; (simp <;> omega)))) Ew8
          have B_q' : Bx w8 w6.heap.size [.slice ua' d'.1.length uc', .slice va' d'.2.length vc'] := Bx.ext (by repeat (first | with_reducible assumption | with_reducible exact Bx.new _ _ _ _ rfl | ((with_reducible refine Bx.new _ _ _ _ ?_); simp; done) | with_reducible refine Bx.pAlloc ?_ _ | with_reducible refine Bx.pDrew ?_ | with_reducible refine Bx.pDrewN ?_ _ | with_reducible apply Bx.set10 | with_reducible apply Bx.set20 | with_reducible apply Bx.set21 | with_reducible apply Bx.set30 | with_reducible apply Bx.set31 | with_reducible apply Bx.set32 | with_reducible apply Bx.set40 | with_reducible apply Bx.set41 | with_reducible apply Bx.set42 | with_reducible apply Bx.set43 | ((with_reducible refine Bx.set_other ?_ ?_ _); rotate_left; (simp <;> omega)))) Ew8
          have O_k' : (rowsC).own (w2.heap.size) (w6.heap.size) w8 [.slice ka1 (0 + 1) kc1] ([r1]) := Cd.own.ext (by repeat (first | with_reducible assumption | with_reducible refine Cd.own.pAlloc ?_ _ | with_reducible refine Cd.own.pDrew ?_ | with_reducible refine Cd.own.pDrewN ?_ _ | ((with_reducible refine Cd.own.pSet ?_ ?_ _); rotate_left; (simp <;> omega)))) Ew8
          have O_f2' : (rowC).own (w6.heap.size + 1) (w7.heap.size) w8 [.slice fa2 F2.length fc2] (F2) := Cd.own.ext (by repeat (first | with_reducible assumption | with_reducible refine Cd.own.pAlloc ?_ _ | with_reducible refine Cd.own.pDrew ?_ | with_reducible refine Cd.own.pDrewN ?_ _ | ((with_reducible refine Cd.own.pSet ?_ ?_ _); rotate_left; (simp <;> omega)))) Ew8
          clear c_t_0 c_t_1 c_t_2 c_t_3 n_t c_q_0 c_q_1 n_q
          clear B_t
          have B_t := B_t'; clear B_t'
          clear B_q
          have B_q := B_q'; clear B_q'
          clear O_k; have O_k := O_k'; clear O_k'
          clear O_f2; have O_f2 := O_f2'; clear O_f2'
          replace O_r2 := O_r2.wide (lo' := w7.heap.size) (hi' := w8.heap.size) (by first | omega | (simp <;> omega)) (Nat.le_refl _)
          clear Ew8 Xw7
          have c_t_0 := B_t.cell 0 _ rfl
          have c_t_1 := B_t.cell 1 _ rfl
          have c_t_2 := B_t.cell 2 _ rfl
          have c_t_3 := B_t.cell 3 _ rfl
          have n_t := B_t.lt
          have c_q_0 := B_q.cell 0 _ rfl
          have c_q_1 := B_q.cell 1 _ rfl
          have n_q := B_q.lt
          go_wp2
          rw [rounds_succ]
          go_wp2
          go_ret
          exact ⟨.slice ka1 (0 + 1) kc1, rfl, by repeat (first | with_reducible exact Ext.refl _ | with_reducible assumption | with_reducible refine Ext.pAlloc ?_ _ | ((with_reducible refine Ext.pSet ?_ ?_ _); rotate_left; (simp <;> omega)) | with_reducible refine Ext.pDrew ?_ | with_reducible refine Ext.pDrewN ?_ _), by (try simp only [reduceIte, Bool.false_eq_true, false_and, not_false_eq_true, and_true, and_self, true_and, List.append_nil, List.nil_append]); exact Cd.own.wide (lo := w2.heap.size) (hi := w6.heap.size) (by repeat (first | with_reducible assumption | with_reducible refine Cd.own.pAlloc ?_ _ | with_reducible refine Cd.own.pDrew ?_ | with_reducible refine Cd.own.pDrewN ?_ _ | ((with_reducible refine Cd.own.pSet ?_ ?_ _); rotate_left; (simp <;> omega)))) (by omega) (by first | omega | (simp <;> omega))⟩
        · cases hd : decide (r1 = r2)
          · rw [show ((if true = true then [r1] else []) ++ (if true = true ∧ ¬ (true = true ∧ r1 = r2) then [r2] else [])) = [r1, r2] from by have := of_decide_eq_false hd; simp [this]]
            have Hd := Lib.hid hd; clear hd
            have hix0 : ∀ (w : World) (a b c e : Option Addr) (n1 m1 n2 m2 n3 m3 n4 m4 : Nat), (Instr.index 75 (.agg #[.slice a n1 m1, .slice b n2 m2, .slice c n3 m3, .slice e n4 m4]) (.int .i64 0)).run Try.prog w = .ok (.agg #[.slice a n1 m1, .slice b n2 m2]) w := fun _ _ _ _ _ _ _ _ _ _ _ _ _ => by kernel_rfl
            have hix1 : ∀ (w : World) (a b c e : Option Addr) (n1 m1 n2 m2 n3 m3 n4 m4 : Nat), (Instr.index 75 (.agg #[.slice a n1 m1, .slice b n2 m2, .slice c n3 m3, .slice e n4 m4]) (.int .i64 1)).run Try.prog w = .ok (.agg #[.slice c n3 m3, .slice e n4 m4]) w := fun _ _ _ _ _ _ _ _ _ _ _ _ _ => by kernel_rfl
            go_enter Try.func17, Try.ntmps17
            go_wp2_with fail
            refine (implTwoOk_c _ (d, d') _ (twoC.vext HT.out (by repeat (first | with_reducible exact Ext.refl _ | with_reducible assumption | with_reducible refine Ext.pAlloc ?_ _ | ((with_reducible refine Ext.pSet ?_ ?_ _); rotate_left; (simp <;> omega)) | with_reducible refine Ext.pDrew ?_ | with_reducible refine Ext.pDrewN ?_ _)))).mono ?_
            rw [Ht.out]
            rintro e w1 ⟨rfl, Ew1⟩
            have Xw1 : Ext w w1 := Ext.trans (by repeat (first | with_reducible exact Ext.refl _ | with_reducible assumption | with_reducible refine Ext.pAlloc ?_ _ | ((with_reducible refine Ext.pSet ?_ ?_ _); rotate_left; (simp <;> omega)) | with_reducible refine Ext.pDrew ?_ | with_reducible refine Ext.pDrewN ?_ _)) Ew1
            have zw1 : w.heap.size + 1 ≤ w1.heap.size := by have := Ew1.size; (try simp at this); omega
            have B_t' : Bx w1 w.heap.size [.slice ua d.1.length uc, .slice va d.2.length vc, .slice ua' d'.1.length uc', .slice va' d'.2.length vc'] := Bx.ext (by repeat (first | with_reducible assumption | with_reducible exact Bx.new _ _ _ _ rfl | ((with_reducible refine Bx.new _ _ _ _ ?_); simp; done) | with_reducible refine Bx.pAlloc ?_ _ | with_reducible refine Bx.pDrew ?_ | with_reducible refine Bx.pDrewN ?_ _ | with_reducible apply Bx.set10 | with_reducible apply Bx.set20 | with_reducible apply Bx.set21 | with_reducible apply Bx.set30 | with_reducible apply Bx.set31 | with_reducible apply Bx.set32 | with_reducible apply Bx.set40 | with_reducible apply Bx.set41 | with_reducible apply Bx.set42 | with_reducible apply Bx.set43 | ((with_reducible refine Bx.set_other ?_ ?_ _); rotate_left; (simp <;> omega)))) Ew1
            have B_t := B_t'; clear B_t'
            clear Ew1
            have c_t_0 := B_t.cell 0 _ rfl
            have c_t_1 := B_t.cell 1 _ rfl
            have c_t_2 := B_t.cell 2 _ rfl
            have c_t_3 := B_t.cell 3 _ rfl
            have n_t := B_t.lt
            go_wp2_with fail
            refine (sectorOk_c _ d _ _ (diskC.vext H.out.1 (by repeat (first | with_reducible exact Ext.refl _ | with_reducible assumption | with_reducible refine Ext.pAlloc ?_ _ | ((with_reducible refine Ext.pSet ?_ ?_ _); rotate_left; (simp <;> omega)) | with_reducible refine Ext.pDrew ?_ | with_reducible refine Ext.pDrewN ?_ _)))).mono ?_
            rw [Hs.out]
            rintro e w2 ⟨rfl, Ew2⟩
            have Xw2 : Ext w w2 := Ext.trans (by repeat (first | with_reducible exact Ext.refl _ | with_reducible assumption | with_reducible refine Ext.pAlloc ?_ _ | ((with_reducible refine Ext.pSet ?_ ?_ _); rotate_left; (simp <;> omega)) | with_reducible refine Ext.pDrew ?_ | with_reducible refine Ext.pDrewN ?_ _)) Ew2
            have zw2 : w1.heap.size ≤ w2.heap.size := by have := Ew2.size; (try simp at this); omega
            have B_t' : Bx w2 w.heap.size [.slice ua d.1.length uc, .slice va d.2.length vc, .slice ua' d'.1.length uc', .slice va' d'.2.length vc'] := Bx.ext (by repeat (first | with_reducible assumption | with_reducible exact Bx.new _ _ _ _ rfl | ((with_reducible refine Bx.new _ _ _ _ ?_); simp; done) | with_reducible refine Bx.pAlloc ?_ _ | with_reducible refine Bx.pDrew ?_ | with_reducible refine Bx.pDrewN ?_ _ | with_reducible apply Bx.set10 | with_reducible apply Bx.set20 | with_reducible apply Bx.set21 | with_reducible apply Bx.set30 | with_reducible apply Bx.set31 | with_reducible apply Bx.set32 | with_reducible apply Bx.set40 | with_reducible apply Bx.set41 | with_reducible apply Bx.set42 | with_reducible apply Bx.set43 | ((with_reducible refine Bx.set_other ?_ ?_ _); rotate_left; (simp <;> omega)))) Ew2
            clear c_t_0 c_t_1 c_t_2 c_t_3 n_t
            clear B_t
            have B_t := B_t'; clear B_t'
            clear Ew2 Xw1
            have c_t_0 := B_t.cell 0 _ rfl
            have c_t_1 := B_t.cell 1 _ rfl
            have c_t_2 := B_t.cell 2 _ rfl
            have c_t_3 := B_t.cell 3 _ rfl
            have n_t := B_t.lt
            go_wp2_with fail
            refine (disks_c _ _ _ _ _ _ _ _ _ _ _ _ _).mono ?_
            rintro e w3 ⟨rfl, Ew3⟩
            have Xw3 : Ext w w3 := Ext.trans (by repeat (first | with_reducible exact Ext.refl _ | with_reducible assumption | with_reducible refine Ext.pAlloc ?_ _ | ((with_reducible refine Ext.pSet ?_ ?_ _); rotate_left; (simp <;> omega)) | with_reducible refine Ext.pDrew ?_ | with_reducible refine Ext.pDrewN ?_ _)) Ew3
            have zw3 : w2.heap.size + 1 ≤ w3.heap.size := by have := Ew3.size; (try simp at this); omega
            have B_t' : Bx w3 w.heap.size [.slice ua d.1.length uc, .slice va d.2.length vc, .slice ua' d'.1.length uc', .slice va' d'.2.length vc'] := Bx.ext (by repeat (first | with_reducible assumption | with_reducible exact Bx.new _ _ _ _ rfl | ((with_reducible refine Bx.new _ _ _ _ ?_); simp; done) | with_reducible refine Bx.pAlloc ?_ _ | with_reducible refine Bx.pDrew ?_ | with_reducible refine Bx.pDrewN ?_ _ | with_reducible apply Bx.set10 | with_reducible apply Bx.set20 | with_reducible apply Bx.set21 | with_reducible apply Bx.set30 | with_reducible apply Bx.set31 | with_reducible apply Bx.set32 | with_reducible apply Bx.set40 | with_reducible apply Bx.set41 | with_reducible apply Bx.set42 | with_reducible apply Bx.set43 | ((with_reducible refine Bx.set_other ?_ ?_ _); rotate_left; (simp <;> omega)))) Ew3
            have B_e' : Bx w3 w2.heap.size [] := Bx.ext (by repeat (first | with_reducible assumption | with_reducible exact Bx.new _ _ _ _ rfl | ((with_reducible refine Bx.new _ _ _ _ ?_); simp; done) | with_reducible refine Bx.pAlloc ?_ _ | with_reducible refine Bx.pDrew ?_ | with_reducible refine Bx.pDrewN ?_ _ | with_reducible apply Bx.set10 | with_reducible apply Bx.set20 | with_reducible apply Bx.set21 | with_reducible apply Bx.set30 | with_reducible apply Bx.set31 | with_reducible apply Bx.set32 | with_reducible apply Bx.set40 | with_reducible apply Bx.set41 | with_reducible apply Bx.set42 | with_reducible apply Bx.set43 | ((with_reducible refine Bx.set_other ?_ ?_ _); rotate_left; (simp <;> omega)))) Ew3
            clear c_t_0 c_t_1 c_t_2 c_t_3 n_t
            clear B_t
            have B_t := B_t'; clear B_t'
            have B_e := B_e'; clear B_e'
            clear Ew3 Xw2
            have c_t_0 := B_t.cell 0 _ rfl
            have c_t_1 := B_t.cell 1 _ rfl
            have c_t_2 := B_t.cell 2 _ rfl
            have c_t_3 := B_t.cell 3 _ rfl
            have n_t := B_t.lt
            have n_e := B_e.lt
            have O_k : rowsC.own w2.heap.size (w2.heap.size + 1) w3 [.slice (some ⟨w2.heap.size, 0, none⟩) 0 0] [] := own_of_empty B_e
            clear B_e
            clear n_e
            go_wp2
            refine wp_loop_rounds 3 ?_
            rw [rounds_succ]
            go_wp2_with fail
            refine (implReadAt_c _ d n _ (diskC.vext H.out.1 (by repeat (first | with_reducible exact Ext.refl _ | with_reducible assumption | with_reducible refine Ext.pAlloc ?_ _ | ((with_reducible refine Ext.pSet ?_ ?_ _); rotate_left; (simp <;> omega)) | with_reducible refine Ext.pDrew ?_ | with_reducible refine Ext.pDrewN ?_ _)))).mono ?_
            rw [HF1.out]
            rintro e w4 ⟨f1, rfl, Ew4, O_f1⟩
            obtain ⟨fa1, fc1, rfl⟩ := u_slice O_f1.view
            have Xw4 : Ext w w4 := Ext.trans (by repeat (first | with_reducible exact Ext.refl _ | with_reducible assumption | with_reducible refine Ext.pAlloc ?_ _ | ((with_reducible refine Ext.pSet ?_ ?_ _); rotate_left; (simp <;> omega)) | with_reducible refine Ext.pDrew ?_ | with_reducible refine Ext.pDrewN ?_ _)) Ew4
            have zw4 : w3.heap.size + 1 ≤ w4.heap.size := by have := Ew4.size; (try simp at this); omega
            have B_t' : Bx w4 w.heap.size [.slice ua d.1.length uc, .slice va d.2.length vc, .slice ua' d'.1.length uc', .slice va' d'.2.length vc'] := Bx.ext (by repeat (first | with_reducible assumption | with_reducible exact Bx.new _ _ _ _ rfl | ((with_reducible refine Bx.new _ _ _ _ ?_); simp; done) | with_reducible refine Bx.pAlloc ?_ _ | with_reducible refine Bx.pDrew ?_ | with_reducible refine Bx.pDrewN ?_ _ | with_reducible apply Bx.set10 | with_reducible apply Bx.set20 | with_reducible apply Bx.set21 | with_reducible apply Bx.set30 | with_reducible apply Bx.set31 | with_reducible apply Bx.set32 | with_reducible apply Bx.set40 | with_reducible apply Bx.set41 | with_reducible apply Bx.set42 | with_reducible apply Bx.set43 | ((with_reducible refine Bx.set_other ?_ ?_ _); rotate_left; (simp <;> omega)))) Ew4
            have B_p' : Bx w4 w3.heap.size [.slice ua d.1.length uc, .slice va d.2.length vc] := Bx.ext (by repeat (first | with_reducible assumption | with_reducible exact Bx.new _ _ _ _ rfl | ((with_reducible refine Bx.new _ _ _ _ ?_); simp; done) | with_reducible refine Bx.pAlloc ?_ _ | with_reducible refine Bx.pDrew ?_ | with_reducible refine Bx.pDrewN ?_ _ | with_reducible apply Bx.set10 | with_reducible apply Bx.set20 | with_reducible apply Bx.set21 | with_reducible apply Bx.set30 | with_reducible apply Bx.set31 | with_reducible apply Bx.set32 | with_reducible apply Bx.set40 | with_reducible apply Bx.set41 | with_reducible apply Bx.set42 | with_reducible apply Bx.set43 | ((with_reducible refine Bx.set_other ?_ ?_ _); rotate_left; (simp <;> omega)))) Ew4
            have O_k' : (rowsC).own (w2.heap.size) (w2.heap.size + 1) w4 [.slice (some ⟨w2.heap.size, 0, none⟩) 0 0] ([]) := Cd.own.ext (by repeat (first | with_reducible assumption | with_reducible refine Cd.own.pAlloc ?_ _ | with_reducible refine Cd.own.pDrew ?_ | with_reducible refine Cd.own.pDrewN ?_ _ | ((with_reducible refine Cd.own.pSet ?_ ?_ _); rotate_left; (simp <;> omega)))) Ew4
            clear c_t_0 c_t_1 c_t_2 c_t_3 n_t
            clear B_t
            have B_t := B_t'; clear B_t'
            have B_p := B_p'; clear B_p'
            clear O_k; have O_k := O_k'; clear O_k'
            replace O_f1 := O_f1.wide (lo' := w3.heap.size + 1) (hi' := w4.heap.size) (by first | omega | (simp <;> omega)) (Nat.le_refl _)
            clear Ew4 Xw3
            have c_t_0 := B_t.cell 0 _ rfl
            have c_t_1 := B_t.cell 1 _ rfl
            have c_t_2 := B_t.cell 2 _ rfl
            have c_t_3 := B_t.cell 3 _ rfl
            have n_t := B_t.lt
            have c_p_0 := B_p.cell 0 _ rfl
            have c_p_1 := B_p.cell 1 _ rfl
            have n_p := B_p.lt
            go_wp2_with fail
            refine (implUnsummed_c _ F1 _ (Cd.own.view (R := rowC) (lo := w3.heap.size + 1) (hi := w4.heap.size) (by repeat (first | with_reducible assumption | with_reducible refine Cd.own.pAlloc ?_ _ | with_reducible refine Cd.own.pDrew ?_ | with_reducible refine Cd.own.pDrewN ?_ _ | ((with_reducible refine Cd.own.pSet ?_ ?_ _); rotate_left; (simp <;> omega)))))).mono ?_
            rw [HU1.out]
            rintro e w5 ⟨g1, rfl, Ew5, O_r1⟩
            obtain ⟨ra1, rc1, rfl⟩ := u_slice O_r1.view
            have Xw5 : Ext w w5 := Ext.trans (by repeat (first | with_reducible exact Ext.refl _ | with_reducible assumption | with_reducible refine Ext.pAlloc ?_ _ | ((with_reducible refine Ext.pSet ?_ ?_ _); rotate_left; (simp <;> omega)) | with_reducible refine Ext.pDrew ?_ | with_reducible refine Ext.pDrewN ?_ _)) Ew5
            have zw5 : w4.heap.size ≤ w5.heap.size := by have := Ew5.size; (try simp at this); omega
            have B_t' : Bx w5 w.heap.size [.slice ua d.1.length uc, .slice va d.2.length vc, .slice ua' d'.1.length uc', .slice va' d'.2.length vc'] := Bx.ext (by repeat (first | with_reducible assumption | with_reducible exact Bx.new _ _ _ _ rfl | ((with_reducible refine Bx.new _ _ _ _ ?_); simp; done) | with_reducible refine Bx.pAlloc ?_ _ | with_reducible refine Bx.pDrew ?_ | with_reducible refine Bx.pDrewN ?_ _ | with_reducible apply Bx.set10 | with_reducible apply Bx.set20 | with_reducible apply Bx.set21 | with_reducible apply Bx.set30 | with_reducible apply Bx.set31 | with_reducible apply Bx.set32 | with_reducible apply Bx.set40 | with_reducible apply Bx.set41 | with_reducible apply Bx.set42 | with_reducible apply Bx.set43 | ((with_reducible refine Bx.set_other ?_ ?_ _); rotate_left; (simp <;> omega)))) Ew5
            have B_p' : Bx w5 w3.heap.size [.slice ua d.1.length uc, .slice va d.2.length vc] := Bx.ext (by repeat (first | with_reducible assumption | with_reducible exact Bx.new _ _ _ _ rfl | ((with_reducible refine Bx.new _ _ _ _ ?_); simp; done) | with_reducible refine Bx.pAlloc ?_ _ | with_reducible refine Bx.pDrew ?_ | with_reducible refine Bx.pDrewN ?_ _ | with_reducible apply Bx.set10 | with_reducible apply Bx.set20 | with_reducible apply Bx.set21 | with_reducible apply Bx.set30 | with_reducible apply Bx.set31 | with_reducible apply Bx.set32 | with_reducible apply Bx.set40 | with_reducible apply Bx.set41 | with_reducible apply Bx.set42 | with_reducible apply Bx.set43 | ((with_reducible refine Bx.set_other ?_ ?_ _); rotate_left; (simp <;> omega)))) Ew5
            have O_k' : (rowsC).own (w2.heap.size) (w2.heap.size + 1) w5 [.slice (some ⟨w2.heap.size, 0, none⟩) 0 0] ([]) := Cd.own.ext (by repeat (first | with_reducible assumption | with_reducible refine Cd.own.pAlloc ?_ _ | with_reducible refine Cd.own.pDrew ?_ | with_reducible refine Cd.own.pDrewN ?_ _ | ((with_reducible refine Cd.own.pSet ?_ ?_ _); rotate_left; (simp <;> omega)))) Ew5
            have O_f1' : (rowC).own (w3.heap.size + 1) (w4.heap.size) w5 [.slice fa1 F1.length fc1] (F1) := Cd.own.ext (by repeat (first | with_reducible assumption | with_reducible refine Cd.own.pAlloc ?_ _ | with_reducible refine Cd.own.pDrew ?_ | with_reducible refine Cd.own.pDrewN ?_ _ | ((with_reducible refine Cd.own.pSet ?_ ?_ _); rotate_left; (simp <;> omega)))) Ew5
            clear c_t_0 c_t_1 c_t_2 c_t_3 n_t c_p_0 c_p_1 n_p
            clear B_t
            have B_t := B_t'; clear B_t'
            clear B_p
            have B_p := B_p'; clear B_p'
            clear O_k; have O_k := O_k'; clear O_k'
            clear O_f1; have O_f1 := O_f1'; clear O_f1'
            replace O_r1 := O_r1.wide (lo' := w4.heap.size) (hi' := w5.heap.size) (by first | omega | (simp <;> omega)) (Nat.le_refl _)
            clear Ew5 Xw4
            have c_t_0 := B_t.cell 0 _ rfl
            have c_t_1 := B_t.cell 1 _ rfl
            have c_t_2 := B_t.cell 2 _ rfl
            have c_t_3 := B_t.cell 3 _ rfl
            have n_t := B_t.lt
            have c_p_0 := B_p.cell 0 _ rfl
            have c_p_1 := B_p.cell 1 _ rfl
            have n_p := B_p.lt
            go_wp2_with (at_builtin; refine wpList_snocC (R := rowC) (y := r1) (lo' := w4.heap.size) (hi' := w5.heap.size) rfl _ _ _ rfl 44 _ 24 Try.underlying22 Hinr.out rfl (Cd.own.pAlloc O_k _) rfl (Cd.own.pAlloc O_r1 _) (by omega) (by omega) (by simp; omega) _ _ rfl (CellsAt.lit _ _ _) (by simp) ?_)
            intro v_w6 w6 ka1 kc1 hv_w6 O_n C_w6
            subst hv_w6
            clear B_p
            have Xw6 : Ext w w6 := Chg.ext (by repeat (first | with_reducible exact Ext.refl _ | with_reducible assumption | with_reducible refine Ext.pAlloc ?_ _ | ((with_reducible refine Ext.pSet ?_ ?_ _); rotate_left; (simp <;> omega)) | with_reducible refine Ext.pDrew ?_ | with_reducible refine Ext.pDrewN ?_ _)) C_w6 (by omega)
            have zw6 : w5.heap.size + 1 ≤ w6.heap.size := by have := C_w6.size; (try simp at this); omega
            have B_t' : Bx w6 w.heap.size [.slice ua d.1.length uc, .slice va d.2.length vc, .slice ua' d'.1.length uc', .slice va' d'.2.length vc'] := Bx.chg (by repeat (first | with_reducible assumption | with_reducible exact Bx.new _ _ _ _ rfl | ((with_reducible refine Bx.new _ _ _ _ ?_); simp; done) | with_reducible refine Bx.pAlloc ?_ _ | with_reducible refine Bx.pDrew ?_ | with_reducible refine Bx.pDrewN ?_ _ | with_reducible apply Bx.set10 | with_reducible apply Bx.set20 | with_reducible apply Bx.set21 | with_reducible apply Bx.set30 | with_reducible apply Bx.set31 | with_reducible apply Bx.set32 | with_reducible apply Bx.set40 | with_reducible apply Bx.set41 | with_reducible apply Bx.set42 | with_reducible apply Bx.set43 | ((with_reducible refine Bx.set_other ?_ ?_ _); rotate_left; (simp <;> omega)))) C_w6 (by omega)
            clear c_t_0 c_t_1 c_t_2 c_t_3 n_t c_p_0 c_p_1 n_p
            clear B_t
            have B_t := B_t'; clear B_t'
            clear C_w6 Xw5
            have c_t_0 := B_t.cell 0 _ rfl
            have c_t_1 := B_t.cell 1 _ rfl
            have c_t_2 := B_t.cell 2 _ rfl
            have c_t_3 := B_t.cell 3 _ rfl
            have n_t := B_t.lt
            clear O_k; have O_k : rowsC.own (w2.heap.size) w6.heap.size w6 [.slice ka1 (0 + 1) kc1] [r1] := O_n; clear O_n
            go_wp2
            rw [rounds_succ]
            go_wp2_with fail
            refine (implReadAt_c _ d' n _ (diskC.vext H.out.2 (by repeat (first | with_reducible exact Ext.refl _ | with_reducible assumption | with_reducible refine Ext.pAlloc ?_ _ | ((with_reducible refine Ext.pSet ?_ ?_ _); rotate_left; (simp <;> omega)) | with_reducible refine Ext.pDrew ?_ | with_reducible refine Ext.pDrewN ?_ _)))).mono ?_
            rw [HF2.out]
            rintro e w7 ⟨f2, rfl, Ew7, O_f2⟩
            obtain ⟨fa2, fc2, rfl⟩ := u_slice O_f2.view
            have Xw7 : Ext w w7 := Ext.trans (by repeat (first | with_reducible exact Ext.refl _ | with_reducible assumption | with_reducible refine Ext.pAlloc ?_ _ | ((with_reducible refine Ext.pSet ?_ ?_ _); rotate_left; (simp <;> omega)) | with_reducible refine Ext.pDrew ?_ | with_reducible refine Ext.pDrewN ?_ _)) Ew7
            have zw7 : w6.heap.size + 1 ≤ w7.heap.size := by have := Ew7.size; (try simp at this); omega
            have B_t' : Bx w7 w.heap.size [.slice ua d.1.length uc, .slice va d.2.length vc, .slice ua' d'.1.length uc', .slice va' d'.2.length vc'] := Bx.ext (by repeat (first | with_reducible assumption | with_reducible exact Bx.new _ _ _ _ rfl | ((with_reducible refine Bx.new _ _ _ _ ?_); simp; done) | with_reducible refine Bx.pAlloc ?_ _ | with_reducible refine Bx.pDrew ?_ | with_reducible refine Bx.pDrewN ?_ _ | with_reducible apply Bx.set10 | with_reducible apply Bx.set20 | with_reducible apply Bx.set21 | with_reducible apply Bx.set30 | with_reducible apply Bx.set31 | with_reducible apply Bx.set32 | with_reducible apply Bx.set40 | with_reducible apply Bx.set41 | with_reducible apply Bx.set42 | with_reducible apply Bx.set43 | ((with_reducible refine Bx.set_other ?_ ?_ _); rotate_left; (simp <;> omega)))) Ew7
            have B_q' : Bx w7 w6.heap.size [.slice ua' d'.1.length uc', .slice va' d'.2.length vc'] := Bx.ext (by repeat (first | with_reducible assumption | with_reducible exact Bx.new _ _ _ _ rfl | ((with_reducible refine Bx.new _ _ _ _ ?_); simp; done) | with_reducible refine Bx.pAlloc ?_ _ | with_reducible refine Bx.pDrew ?_ | with_reducible refine Bx.pDrewN ?_ _ | with_reducible apply Bx.set10 | with_reducible apply Bx.set20 | with_reducible apply Bx.set21 | with_reducible apply Bx.set30 | with_reducible apply Bx.set31 | with_reducible apply Bx.set32 | with_reducible apply Bx.set40 | with_reducible apply Bx.set41 | with_reducible apply Bx.set42 | with_reducible apply Bx.set43 | ((with_reducible refine Bx.set_other ?_ ?_ _); rotate_left; (simp <;> omega)))) Ew7
            have O_k' : (rowsC).own (w2.heap.size) (w6.heap.size) w7 [.slice ka1 (0 + 1) kc1] ([r1]) := Cd.own.ext (by repeat (first | with_reducible assumption | with_reducible refine Cd.own.pAlloc ?_ _ | with_reducible refine Cd.own.pDrew ?_ | with_reducible refine Cd.own.pDrewN ?_ _ | ((with_reducible refine Cd.own.pSet ?_ ?_ _); rotate_left; (simp <;> omega)))) Ew7
            clear c_t_0 c_t_1 c_t_2 c_t_3 n_t
            clear B_t
            have B_t := B_t'; clear B_t'
            have B_q := B_q'; clear B_q'
            clear O_k; have O_k := O_k'; clear O_k'
            replace O_f2 := O_f2.wide (lo' := w6.heap.size + 1) (hi' := w7.heap.size) (by first | omega | (simp <;> omega)) (Nat.le_refl _)
            clear Ew7 Xw6
            have c_t_0 := B_t.cell 0 _ rfl
            have c_t_1 := B_t.cell 1 _ rfl
            have c_t_2 := B_t.cell 2 _ rfl
            have c_t_3 := B_t.cell 3 _ rfl
            have n_t := B_t.lt
            have c_q_0 := B_q.cell 0 _ rfl
            have c_q_1 := B_q.cell 1 _ rfl
            have n_q := B_q.lt
            go_wp2_with fail
            refine (implUnsummed_c _ F2 _ (Cd.own.view (R := rowC) (lo := w6.heap.size + 1) (hi := w7.heap.size) (by repeat (first | with_reducible assumption | with_reducible refine Cd.own.pAlloc ?_ _ | with_reducible refine Cd.own.pDrew ?_ | with_reducible refine Cd.own.pDrewN ?_ _ | ((with_reducible refine Cd.own.pSet ?_ ?_ _); rotate_left; (simp <;> omega)))))).mono ?_
            rw [HU2.out]
            rintro e w8 ⟨g2, rfl, Ew8, O_r2⟩
            obtain ⟨ra2, rc2, rfl⟩ := u_slice O_r2.view
            have Xw8 : Ext w w8 := Ext.trans (by repeat (first | with_reducible exact Ext.refl _ | with_reducible assumption | with_reducible refine Ext.pAlloc ?_ _ | ((with_reducible refine Ext.pSet ?_ ?_ _); rotate_left; (simp <;> omega)) | with_reducible refine Ext.pDrew ?_ | with_reducible refine Ext.pDrewN ?_ _)) Ew8
            have zw8 : w7.heap.size ≤ w8.heap.size := by have := Ew8.size; (try simp at this); omega
            have B_t' : Bx w8 w.heap.size [.slice ua d.1.length uc, .slice va d.2.length vc, .slice ua' d'.1.length uc', .slice va' d'.2.length vc'] := Bx.ext (by repeat (first | with_reducible assumption | with_reducible exact Bx.new _ _ _ _ rfl | ((with_reducible refine Bx.new _ _ _ _ ?_); simp; done) | with_reducible refine Bx.pAlloc ?_ _ | with_reducible refine Bx.pDrew ?_ | with_reducible refine Bx.pDrewN ?_ _ | with_reducible apply Bx.set10 | with_reducible apply Bx.set20 | with_reducible apply Bx.set21 | with_reducible apply Bx.set30 | with_reducible apply Bx.set31 | with_reducible apply Bx.set32 | with_reducible apply Bx.set40 | with_reducible apply Bx.set41 | with_reducible apply Bx.set42 | with_reducible apply Bx.set43 | ((with_reducible refine Bx.set_other ?_ ?_ _); rotate_left; (simp <;> omega)))) Ew8
            have B_q' : Bx w8 w6.heap.size [.slice ua' d'.1.length uc', .slice va' d'.2.length vc'] := Bx.ext (by repeat (first | with_reducible assumption | with_reducible exact Bx.new _ _ _ _ rfl | ((with_reducible refine Bx.new _ _ _ _ ?_); simp; done) | with_reducible refine Bx.pAlloc ?_ _ | with_reducible refine Bx.pDrew ?_ | with_reducible refine Bx.pDrewN ?_ _ | with_reducible apply Bx.set10 | with_reducible apply Bx.set20 | with_reducible apply Bx.set21 | with_reducible apply Bx.set30 | with_reducible apply Bx.set31 | with_reducible apply Bx.set32 | with_reducible apply Bx.set40 | with_reducible apply Bx.set41 | with_reducible apply Bx.set42 | with_reducible apply Bx.set43 | ((with_reducible refine Bx.set_other ?_ ?_ _); rotate_left; (simp <;> omega)))) Ew8
            have O_k' : (rowsC).own (w2.heap.size) (w6.heap.size) w8 [.slice ka1 (0 + 1) kc1] ([r1]) := Cd.own.ext (by repeat (first | with_reducible assumption | with_reducible refine Cd.own.pAlloc ?_ _ | with_reducible refine Cd.own.pDrew ?_ | with_reducible refine Cd.own.pDrewN ?_ _ | ((with_reducible refine Cd.own.pSet ?_ ?_ _); rotate_left; (simp <;> omega)))) Ew8
            have O_f2' : (rowC).own (w6.heap.size + 1) (w7.heap.size) w8 [.slice fa2 F2.length fc2] (F2) := Cd.own.ext (by repeat (first | with_reducible assumption | with_reducible refine Cd.own.pAlloc ?_ _ | with_reducible refine Cd.own.pDrew ?_ | with_reducible refine Cd.own.pDrewN ?_ _ | ((with_reducible refine Cd.own.pSet ?_ ?_ _); rotate_left; (simp <;> omega)))) Ew8
            clear c_t_0 c_t_1 c_t_2 c_t_3 n_t c_q_0 c_q_1 n_q
            clear B_t
            have B_t := B_t'; clear B_t'
            clear B_q
            have B_q := B_q'; clear B_q'
            clear O_k; have O_k := O_k'; clear O_k'
            clear O_f2; have O_f2 := O_f2'; clear O_f2'
            replace O_r2 := O_r2.wide (lo' := w7.heap.size) (hi' := w8.heap.size) (by first | omega | (simp <;> omega)) (Nat.le_refl _)
            clear Ew8 Xw7
            have c_t_0 := B_t.cell 0 _ rfl
            have c_t_1 := B_t.cell 1 _ rfl
            have c_t_2 := B_t.cell 2 _ rfl
            have c_t_3 := B_t.cell 3 _ rfl
            have n_t := B_t.lt
            have c_q_0 := B_q.cell 0 _ rfl
            have c_q_1 := B_q.cell 1 _ rfl
            have n_q := B_q.lt
            obtain ⟨sa, sc, e, _, _, hce⟩ := slice_open1 (R := rowC) rfl O_k.view
            cases e
            obtain ⟨kb, ko, z, zu, rfl, hz, hzv, hzc⟩ := hce 0 (by simp)
            obtain rfl : r1 = z := by simpa using hz.out
            obtain ⟨za, zc, rfl⟩ := u_slice hzv
            rw [Nat.add_zero] at hzc
            have HZ := Lib.hid hzv; have HZ2 := Lib.hid hzc; clear hce hzv hz
            go_wp2_with fail
            refine (implSameRow_c _ _ r1 r2 _ HZ.out (Cd.own.view (R := rowC) (lo := w7.heap.size) (hi := w8.heap.size) (by repeat (first | with_reducible assumption | with_reducible refine Cd.own.pAlloc ?_ _ | with_reducible refine Cd.own.pDrew ?_ | with_reducible refine Cd.own.pDrewN ?_ _ | ((with_reducible refine Cd.own.pSet ?_ ?_ _); rotate_left; (simp <;> omega)))))).mono ?_
            rw [Hd.out]
            rintro e w9 ⟨rfl, Ew9⟩
            clear hzc
            have Xw9 : Ext w w9 := Ext.trans (by repeat (first | with_reducible exact Ext.refl _ | with_reducible assumption | with_reducible refine Ext.pAlloc ?_ _ | ((with_reducible refine Ext.pSet ?_ ?_ _); rotate_left; (simp <;> omega)) | with_reducible refine Ext.pDrew ?_ | with_reducible refine Ext.pDrewN ?_ _)) Ew9
            have zw9 : w8.heap.size ≤ w9.heap.size := by have := Ew9.size; (try simp at this); omega
            have B_t' : Bx w9 w.heap.size [.slice ua d.1.length uc, .slice va d.2.length vc, .slice ua' d'.1.length uc', .slice va' d'.2.length vc'] := Bx.ext (by repeat (first | with_reducible assumption | with_reducible exact Bx.new _ _ _ _ rfl | ((with_reducible refine Bx.new _ _ _ _ ?_); simp; done) | with_reducible refine Bx.pAlloc ?_ _ | with_reducible refine Bx.pDrew ?_ | with_reducible refine Bx.pDrewN ?_ _ | with_reducible apply Bx.set10 | with_reducible apply Bx.set20 | with_reducible apply Bx.set21 | with_reducible apply Bx.set30 | with_reducible apply Bx.set31 | with_reducible apply Bx.set32 | with_reducible apply Bx.set40 | with_reducible apply Bx.set41 | with_reducible apply Bx.set42 | with_reducible apply Bx.set43 | ((with_reducible refine Bx.set_other ?_ ?_ _); rotate_left; (simp <;> omega)))) Ew9
            have B_q' : Bx w9 w6.heap.size [.slice ua' d'.1.length uc', .slice va' d'.2.length vc'] := Bx.ext (by repeat (first | with_reducible assumption | with_reducible exact Bx.new _ _ _ _ rfl | ((with_reducible refine Bx.new _ _ _ _ ?_); simp; done) | with_reducible refine Bx.pAlloc ?_ _ | with_reducible refine Bx.pDrew ?_ | with_reducible refine Bx.pDrewN ?_ _ | with_reducible apply Bx.set10 | with_reducible apply Bx.set20 | with_reducible apply Bx.set21 | with_reducible apply Bx.set30 | with_reducible apply Bx.set31 | with_reducible apply Bx.set32 | with_reducible apply Bx.set40 | with_reducible apply Bx.set41 | with_reducible apply Bx.set42 | with_reducible apply Bx.set43 | ((with_reducible refine Bx.set_other ?_ ?_ _); rotate_left; (simp <;> omega)))) Ew9
            have O_k' : (rowsC).own (w2.heap.size) (w6.heap.size) w9 [.slice (some ⟨kb, ko, none⟩) (0 + 1) kc1] ([r1]) := Cd.own.ext (by repeat (first | with_reducible assumption | with_reducible refine Cd.own.pAlloc ?_ _ | with_reducible refine Cd.own.pDrew ?_ | with_reducible refine Cd.own.pDrewN ?_ _ | ((with_reducible refine Cd.own.pSet ?_ ?_ _); rotate_left; (simp <;> omega)))) Ew9
            have O_f2' : (rowC).own (w6.heap.size + 1) (w7.heap.size) w9 [.slice fa2 F2.length fc2] (F2) := Cd.own.ext (by repeat (first | with_reducible assumption | with_reducible refine Cd.own.pAlloc ?_ _ | with_reducible refine Cd.own.pDrew ?_ | with_reducible refine Cd.own.pDrewN ?_ _ | ((with_reducible refine Cd.own.pSet ?_ ?_ _); rotate_left; (simp <;> omega)))) Ew9
            have O_r2' : (rowC).own (w7.heap.size) (w8.heap.size) w9 [.slice ra2 r2.length rc2] (r2) := Cd.own.ext (by repeat (first | with_reducible assumption | with_reducible refine Cd.own.pAlloc ?_ _ | with_reducible refine Cd.own.pDrew ?_ | with_reducible refine Cd.own.pDrewN ?_ _ | ((with_reducible refine Cd.own.pSet ?_ ?_ _); rotate_left; (simp <;> omega)))) Ew9
            clear c_t_0 c_t_1 c_t_2 c_t_3 n_t c_q_0 c_q_1 n_q
            clear B_t
            have B_t := B_t'; clear B_t'
            clear B_q
            have B_q := B_q'; clear B_q'
            clear O_k; have O_k := O_k'; clear O_k'
            clear O_f2; have O_f2 := O_f2'; clear O_f2'
            clear O_r2; have O_r2 := O_r2'; clear O_r2'
            clear Ew9 Xw8
            have c_t_0 := B_t.cell 0 _ rfl
            have c_t_1 := B_t.cell 1 _ rfl
            have c_t_2 := B_t.cell 2 _ rfl
            have c_t_3 := B_t.cell 3 _ rfl
            have n_t := B_t.lt
            have c_q_0 := B_q.cell 0 _ rfl
            have c_q_1 := B_q.cell 1 _ rfl
            have n_q := B_q.lt
            go_wp2_with (at_builtin; refine wpList_snocC (R := rowC) (y := r2) (lo' := w7.heap.size) (hi' := w8.heap.size) rfl _ _ _ rfl 44 _ 24 Try.underlying22 Hinr.out rfl (Cd.own.pAlloc O_k _) rfl (Cd.own.pAlloc O_r2 _) (by omega) (by omega) (by simp; omega) _ _ rfl (CellsAt.lit _ _ _) (by simp) ?_)
            intro v_w10 w10 ka2 kc2 hv_w10 O_n C_w10
            subst hv_w10
            clear B_q
            have Xw10 : Ext w w10 := Chg.ext (by repeat (first | with_reducible exact Ext.refl _ | with_reducible assumption | with_reducible refine Ext.pAlloc ?_ _ | ((with_reducible refine Ext.pSet ?_ ?_ _); rotate_left; (simp <;> omega)) | with_reducible refine Ext.pDrew ?_ | with_reducible refine Ext.pDrewN ?_ _)) C_w10 (by omega)
            have zw10 : w9.heap.size + 1 ≤ w10.heap.size := by have := C_w10.size; (try simp at this); omega
            have B_t' : Bx w10 w.heap.size [.slice ua d.1.length uc, .slice va d.2.length vc, .slice ua' d'.1.length uc', .slice va' d'.2.length vc'] := Bx.chg (by repeat (first | with_reducible assumption | with_reducible exact Bx.new _ _ _ _ rfl | ((with_reducible refine Bx.new _ _ _ _ ?_); simp; done) | with_reducible refine Bx.pAlloc ?_ _ | with_reducible refine Bx.pDrew ?_ | with_reducible refine Bx.pDrewN ?_ _ | with_reducible apply Bx.set10 | with_reducible apply Bx.set20 | with_reducible apply Bx.set21 | with_reducible apply Bx.set30 | with_reducible apply Bx.set31 | with_reducible apply Bx.set32 | with_reducible apply Bx.set40 | with_reducible apply Bx.set41 | with_reducible apply Bx.set42 | with_reducible apply Bx.set43 | ((with_reducible refine Bx.set_other ?_ ?_ _); rotate_left; (simp <;> omega)))) C_w10 (by omega)
            clear c_t_0 c_t_1 c_t_2 c_t_3 n_t c_q_0 c_q_1 n_q
            clear B_t
            have B_t := B_t'; clear B_t'
            clear C_w10 Xw9
            have c_t_0 := B_t.cell 0 _ rfl
            have c_t_1 := B_t.cell 1 _ rfl
            have c_t_2 := B_t.cell 2 _ rfl
            have c_t_3 := B_t.cell 3 _ rfl
            have n_t := B_t.lt
            clear O_k; have O_k : rowsC.own (w2.heap.size) w10.heap.size w10 [.slice ka2 (1 + 1) kc2] [r1, r2] := O_n; clear O_n
            go_wp2
            rw [rounds_succ]
            go_wp2
            go_ret
            exact ⟨.slice ka2 (1 + 1) kc2, rfl, by repeat (first | with_reducible exact Ext.refl _ | with_reducible assumption | with_reducible refine Ext.pAlloc ?_ _ | ((with_reducible refine Ext.pSet ?_ ?_ _); rotate_left; (simp <;> omega)) | with_reducible refine Ext.pDrew ?_ | with_reducible refine Ext.pDrewN ?_ _), by (try simp only [reduceIte, Bool.false_eq_true, false_and, not_false_eq_true, and_true, and_self, true_and, List.append_nil, List.nil_append]); exact Cd.own.wide (lo := w2.heap.size) (hi := w10.heap.size) (by repeat (first | with_reducible assumption | with_reducible refine Cd.own.pAlloc ?_ _ | with_reducible refine Cd.own.pDrew ?_ | with_reducible refine Cd.own.pDrewN ?_ _ | ((with_reducible refine Cd.own.pSet ?_ ?_ _); rotate_left; (simp <;> omega)))) (by omega) (by first | omega | (simp <;> omega))⟩
          · rw [show ((if true = true then [r1] else []) ++ (if true = true ∧ ¬ (true = true ∧ r1 = r2) then [r2] else [])) = [r1] from by have := of_decide_eq_true hd; simp [this]]
            have Hd := Lib.hid hd; clear hd
            have hix0 : ∀ (w : World) (a b c e : Option Addr) (n1 m1 n2 m2 n3 m3 n4 m4 : Nat), (Instr.index 75 (.agg #[.slice a n1 m1, .slice b n2 m2, .slice c n3 m3, .slice e n4 m4]) (.int .i64 0)).run Try.prog w = .ok (.agg #[.slice a n1 m1, .slice b n2 m2]) w := fun _ _ _ _ _ _ _ _ _ _ _ _ _ => by kernel_rfl
            have hix1 : ∀ (w : World) (a b c e : Option Addr) (n1 m1 n2 m2 n3 m3 n4 m4 : Nat), (Instr.index 75 (.agg #[.slice a n1 m1, .slice b n2 m2, .slice c n3 m3, .slice e n4 m4]) (.int .i64 1)).run Try.prog w = .ok (.agg #[.slice c n3 m3, .slice e n4 m4]) w := fun _ _ _ _ _ _ _ _ _ _ _ _ _ => by kernel_rfl
            go_enter Try.func17, Try.ntmps17
            go_wp2_with fail
            refine (implTwoOk_c _ (d, d') _ (twoC.vext HT.out (by repeat (first | with_reducible exact Ext.refl _ | with_reducible assumption | with_reducible refine Ext.pAlloc ?_ _ | ((with_reducible refine Ext.pSet ?_ ?_ _); rotate_left; (simp <;> omega)) | with_reducible refine Ext.pDrew ?_ | with_reducible refine Ext.pDrewN ?_ _)))).mono ?_
            rw [Ht.out]
            rintro e w1 ⟨rfl, Ew1⟩
            have Xw1 : Ext w w1 := Ext.trans (by repeat (first | with_reducible exact Ext.refl _ | with_reducible assumption | with_reducible refine Ext.pAlloc ?_ _ | ((with_reducible refine Ext.pSet ?_ ?_ _); rotate_left; (simp <;> omega)) | with_reducible refine Ext.pDrew ?_ | with_reducible refine Ext.pDrewN ?_ _)) Ew1
            have zw1 : w.heap.size + 1 ≤ w1.heap.size := by have := Ew1.size; (try simp at this); omega
            have B_t' : Bx w1 w.heap.size [.slice ua d.1.length uc, .slice va d.2.length vc, .slice ua' d'.1.length uc', .slice va' d'.2.length vc'] := Bx.ext (by repeat (first | with_reducible assumption | with_reducible exact Bx.new _ _ _ _ rfl | ((with_reducible refine Bx.new _ _ _ _ ?_); simp; done) | with_reducible refine Bx.pAlloc ?_ _ | with_reducible refine Bx.pDrew ?_ | with_reducible refine Bx.pDrewN ?_ _ | with_reducible apply Bx.set10 | with_reducible apply Bx.set20 | with_reducible apply Bx.set21 | with_reducible apply Bx.set30 | with_reducible apply Bx.set31 | with_reducible apply Bx.set32 | with_reducible apply Bx.set40 | with_reducible apply Bx.set41 | with_reducible apply Bx.set42 | with_reducible apply Bx.set43 | ((with_reducible refine Bx.set_other ?_ ?_ _); rotate_left; (simp <;> omega)))) Ew1
            have B_t := B_t'; clear B_t'
            clear Ew1
            have c_t_0 := B_t.cell 0 _ rfl
            have c_t_1 := B_t.cell 1 _ rfl
            have c_t_2 := B_t.cell 2 _ rfl
            have c_t_3 := B_t.cell 3 _ rfl
            have n_t := B_t.lt
            go_wp2_with fail
            refine (sectorOk_c _ d _ _ (diskC.vext H.out.1 (by repeat (first | with_reducible exact Ext.refl _ | with_reducible assumption | with_reducible refine Ext.pAlloc ?_ _ | ((with_reducible refine Ext.pSet ?_ ?_ _); rotate_left; (simp <;> omega)) | with_reducible refine Ext.pDrew ?_ | with_reducible refine Ext.pDrewN ?_ _)))).mono ?_
            rw [Hs.out]
            rintro e w2 ⟨rfl, Ew2⟩
            have Xw2 : Ext w w2 := Ext.trans (by repeat (first | with_reducible exact Ext.refl _ | with_reducible assumption | with_reducible refine Ext.pAlloc ?_ _ | ((with_reducible refine Ext.pSet ?_ ?_ _); rotate_left; (simp <;> omega)) | with_reducible refine Ext.pDrew ?_ | with_reducible refine Ext.pDrewN ?_ _)) Ew2
            have zw2 : w1.heap.size ≤ w2.heap.size := by have := Ew2.size; (try simp at this); omega
            have B_t' : Bx w2 w.heap.size [.slice ua d.1.length uc, .slice va d.2.length vc, .slice ua' d'.1.length uc', .slice va' d'.2.length vc'] := Bx.ext (by repeat (first | with_reducible assumption | with_reducible exact Bx.new _ _ _ _ rfl | ((with_reducible refine Bx.new _ _ _ _ ?_); simp; done) | with_reducible refine Bx.pAlloc ?_ _ | with_reducible refine Bx.pDrew ?_ | with_reducible refine Bx.pDrewN ?_ _ | with_reducible apply Bx.set10 | with_reducible apply Bx.set20 | with_reducible apply Bx.set21 | with_reducible apply Bx.set30 | with_reducible apply Bx.set31 | with_reducible apply Bx.set32 | with_reducible apply Bx.set40 | with_reducible apply Bx.set41 | with_reducible apply Bx.set42 | with_reducible apply Bx.set43 | ((with_reducible refine Bx.set_other ?_ ?_ _); rotate_left; (simp <;> omega)))) Ew2
            clear c_t_0 c_t_1 c_t_2 c_t_3 n_t
            clear B_t
            have B_t := B_t'; clear B_t'
            clear Ew2 Xw1
            have c_t_0 := B_t.cell 0 _ rfl
            have c_t_1 := B_t.cell 1 _ rfl
            have c_t_2 := B_t.cell 2 _ rfl
            have c_t_3 := B_t.cell 3 _ rfl
            have n_t := B_t.lt
            go_wp2_with fail
            refine (disks_c _ _ _ _ _ _ _ _ _ _ _ _ _).mono ?_
            rintro e w3 ⟨rfl, Ew3⟩
            have Xw3 : Ext w w3 := Ext.trans (by repeat (first | with_reducible exact Ext.refl _ | with_reducible assumption | with_reducible refine Ext.pAlloc ?_ _ | ((with_reducible refine Ext.pSet ?_ ?_ _); rotate_left; (simp <;> omega)) | with_reducible refine Ext.pDrew ?_ | with_reducible refine Ext.pDrewN ?_ _)) Ew3
            have zw3 : w2.heap.size + 1 ≤ w3.heap.size := by have := Ew3.size; (try simp at this); omega
            have B_t' : Bx w3 w.heap.size [.slice ua d.1.length uc, .slice va d.2.length vc, .slice ua' d'.1.length uc', .slice va' d'.2.length vc'] := Bx.ext (by repeat (first | with_reducible assumption | with_reducible exact Bx.new _ _ _ _ rfl | ((with_reducible refine Bx.new _ _ _ _ ?_); simp; done) | with_reducible refine Bx.pAlloc ?_ _ | with_reducible refine Bx.pDrew ?_ | with_reducible refine Bx.pDrewN ?_ _ | with_reducible apply Bx.set10 | with_reducible apply Bx.set20 | with_reducible apply Bx.set21 | with_reducible apply Bx.set30 | with_reducible apply Bx.set31 | with_reducible apply Bx.set32 | with_reducible apply Bx.set40 | with_reducible apply Bx.set41 | with_reducible apply Bx.set42 | with_reducible apply Bx.set43 | ((with_reducible refine Bx.set_other ?_ ?_ _); rotate_left; (simp <;> omega)))) Ew3
            have B_e' : Bx w3 w2.heap.size [] := Bx.ext (by repeat (first | with_reducible assumption | with_reducible exact Bx.new _ _ _ _ rfl | ((with_reducible refine Bx.new _ _ _ _ ?_); simp; done) | with_reducible refine Bx.pAlloc ?_ _ | with_reducible refine Bx.pDrew ?_ | with_reducible refine Bx.pDrewN ?_ _ | with_reducible apply Bx.set10 | with_reducible apply Bx.set20 | with_reducible apply Bx.set21 | with_reducible apply Bx.set30 | with_reducible apply Bx.set31 | with_reducible apply Bx.set32 | with_reducible apply Bx.set40 | with_reducible apply Bx.set41 | with_reducible apply Bx.set42 | with_reducible apply Bx.set43 | ((with_reducible refine Bx.set_other ?_ ?_ _); rotate_left; (simp <;> omega)))) Ew3
            clear c_t_0 c_t_1 c_t_2 c_t_3 n_t
            clear B_t
            have B_t := B_t'; clear B_t'
            have B_e := B_e'; clear B_e'
            clear Ew3 Xw2
            have c_t_0 := B_t.cell 0 _ rfl
            have c_t_1 := B_t.cell 1 _ rfl
            have c_t_2 := B_t.cell 2 _ rfl
            have c_t_3 := B_t.cell 3 _ rfl
            have n_t := B_t.lt
            have n_e := B_e.lt
            have O_k : rowsC.own w2.heap.size (w2.heap.size + 1) w3 [.slice (some ⟨w2.heap.size, 0, none⟩) 0 0] [] := own_of_empty B_e
            clear B_e
            clear n_e
            go_wp2
            refine wp_loop_rounds 3 ?_
            rw [rounds_succ]
            go_wp2_with fail
            refine (implReadAt_c _ d n _ (diskC.vext H.out.1 (by repeat (first | with_reducible exact Ext.refl _ | with_reducible assumption | with_reducible refine Ext.pAlloc ?_ _ | ((with_reducible refine Ext.pSet ?_ ?_ _); rotate_left; (simp <;> omega)) | with_reducible refine Ext.pDrew ?_ | with_reducible refine Ext.pDrewN ?_ _)))).mono ?_
            rw [HF1.out]
            rintro e w4 ⟨f1, rfl, Ew4, O_f1⟩
            obtain ⟨fa1, fc1, rfl⟩ := u_slice O_f1.view
            have Xw4 : Ext w w4 := Ext.trans (by repeat (first | with_reducible exact Ext.refl _ | with_reducible assumption | with_reducible refine Ext.pAlloc ?_ _ | ((with_reducible refine Ext.pSet ?_ ?_ _); rotate_left; (simp <;> omega)) | with_reducible refine Ext.pDrew ?_ | with_reducible refine Ext.pDrewN ?_ _)) Ew4
            have zw4 : w3.heap.size + 1 ≤ w4.heap.size := by have := Ew4.size; (try simp at this); omega
            have B_t' : Bx w4 w.heap.size [.slice ua d.1.length uc, .slice va d.2.length vc, .slice ua' d'.1.length uc', .slice va' d'.2.length vc'] := Bx.ext (by repeat (first | with_reducible assumption | with_reducible exact Bx.new _ _ _ _ rfl | ((with_reducible refine Bx.new _ _ _ _ ?_); simp; done) | with_reducible refine Bx.pAlloc ?_ _ | with_reducible refine Bx.pDrew ?_ | with_reducible refine Bx.pDrewN ?_ _ | with_reducible apply Bx.set10 | with_reducible apply Bx.set20 | with_reducible apply Bx.set21 | with_reducible apply Bx.set30 | with_reducible apply Bx.set31 | with_reducible apply Bx.set32 | with_reducible apply Bx.set40 | with_reducible apply Bx.set41 | with_reducible apply Bx.set42 | with_reducible apply Bx.set43 | ((with_reducible refine Bx.set_other ?_ ?_ _); rotate_left; (simp <;> omega)))) Ew4
            have B_p' : Bx w4 w3.heap.size [.slice ua d.1.length uc, .slice va d.2.length vc] := Bx.ext (by repeat (first | with_reducible assumption | with_reducible exact Bx.new _ _ _ _ rfl | ((with_reducible refine Bx.new _ _ _ _ ?_); simp; done) | with_reducible refine Bx.pAlloc ?_ _ | with_reducible refine Bx.pDrew ?_ | with_reducible refine Bx.pDrewN ?_ _ | with_reducible apply Bx.set10 | with_reducible apply Bx.set20 | with_reducible apply Bx.set21 | with_reducible apply Bx.set30 | with_reducible apply Bx.set31 | with_reducible apply Bx.set32 | with_reducible apply Bx.set40 | with_reducible apply Bx.set41 | with_reducible apply Bx.set42 | with_reducible apply Bx.set43 | ((with_reducible refine Bx.set_other ?_ ?_ _); rotate_left; (simp <;> omega)))) Ew4
            have O_k' : (rowsC).own (w2.heap.size) (w2.heap.size + 1) w4 [.slice (some ⟨w2.heap.size, 0, none⟩) 0 0] ([]) := Cd.own.ext (by repeat (first | with_reducible assumption | with_reducible refine Cd.own.pAlloc ?_ _ | with_reducible refine Cd.own.pDrew ?_ | with_reducible refine Cd.own.pDrewN ?_ _ | ((with_reducible refine Cd.own.pSet ?_ ?_ _); rotate_left; (simp <;> omega)))) Ew4
            clear c_t_0 c_t_1 c_t_2 c_t_3 n_t
            clear B_t
            have B_t := B_t'; clear B_t'
            have B_p := B_p'; clear B_p'
            clear O_k; have O_k := O_k'; clear O_k'
            replace O_f1 := O_f1.wide (lo' := w3.heap.size + 1) (hi' := w4.heap.size) (by first | omega | (simp <;> omega)) (Nat.le_refl _)
            clear Ew4 Xw3
            have c_t_0 := B_t.cell 0 _ rfl
            have c_t_1 := B_t.cell 1 _ rfl
            have c_t_2 := B_t.cell 2 _ rfl
            have c_t_3 := B_t.cell 3 _ rfl
            have n_t := B_t.lt
            have c_p_0 := B_p.cell 0 _ rfl
            have c_p_1 := B_p.cell 1 _ rfl
            have n_p := B_p.lt
            go_wp2_with fail
            refine (implUnsummed_c _ F1 _ (Cd.own.view (R := rowC) (lo := w3.heap.size + 1) (hi := w4.heap.size) (by repeat (first | with_reducible assumption | with_reducible refine Cd.own.pAlloc ?_ _ | with_reducible refine Cd.own.pDrew ?_ | with_reducible refine Cd.own.pDrewN ?_ _ | ((with_reducible refine Cd.own.pSet ?_ ?_ _); rotate_left; (simp <;> omega)))))).mono ?_
            rw [HU1.out]
            rintro e w5 ⟨g1, rfl, Ew5, O_r1⟩
            obtain ⟨ra1, rc1, rfl⟩ := u_slice O_r1.view
            have Xw5 : Ext w w5 := Ext.trans (by repeat (first | with_reducible exact Ext.refl _ | with_reducible assumption | with_reducible refine Ext.pAlloc ?_ _ | ((with_reducible refine Ext.pSet ?_ ?_ _); rotate_left; (simp <;> omega)) | with_reducible refine Ext.pDrew ?_ | with_reducible refine Ext.pDrewN ?_ _)) Ew5
            have zw5 : w4.heap.size ≤ w5.heap.size := by have := Ew5.size; (try simp at this); omega
            have B_t' : Bx w5 w.heap.size [.slice ua d.1.length uc, .slice va d.2.length vc, .slice ua' d'.1.length uc', .slice va' d'.2.length vc'] := Bx.ext (by repeat (first | with_reducible assumption | with_reducible exact Bx.new _ _ _ _ rfl | ((with_reducible refine Bx.new _ _ _ _ ?_); simp; done) | with_reducible refine Bx.pAlloc ?_ _ | with_reducible refine Bx.pDrew ?_ | with_reducible refine Bx.pDrewN ?_ _ | with_reducible apply Bx.set10 | with_reducible apply Bx.set20 | with_reducible apply Bx.set21 | with_reducible apply Bx.set30 | with_reducible apply Bx.set31 | with_reducible apply Bx.set32 | with_reducible apply Bx.set40 | with_reducible apply Bx.set41 | with_reducible apply Bx.set42 | with_reducible apply Bx.set43 | ((with_reducible refine Bx.set_other ?_ ?_ _); rotate_left; (simp <;> omega)))) Ew5
            have B_p' : Bx w5 w3.heap.size [.slice ua d.1.length uc, .slice va d.2.length vc] := Bx.ext (by repeat (first | with_reducible assumption | with_reducible exact Bx.new _ _ _ _ rfl | ((with_reducible refine Bx.new _ _ _ _ ?_); simp; done) | with_reducible refine Bx.pAlloc ?_ _ | with_reducible refine Bx.pDrew ?_ | with_reducible refine Bx.pDrewN ?_ _ | with_reducible apply Bx.set10 | with_reducible apply Bx.set20 | with_reducible apply Bx.set21 | with_reducible apply Bx.set30 | with_reducible apply Bx.set31 | with_reducible apply Bx.set32 | with_reducible apply Bx.set40 | with_reducible apply Bx.set41 | with_reducible apply Bx.set42 | with_reducible apply Bx.set43 | ((with_reducible refine Bx.set_other ?_ ?_ _); rotate_left; (simp <;> omega)))) Ew5
            have O_k' : (rowsC).own (w2.heap.size) (w2.heap.size + 1) w5 [.slice (some ⟨w2.heap.size, 0, none⟩) 0 0] ([]) := Cd.own.ext (by repeat (first | with_reducible assumption | with_reducible refine Cd.own.pAlloc ?_ _ | with_reducible refine Cd.own.pDrew ?_ | with_reducible refine Cd.own.pDrewN ?_ _ | ((with_reducible refine Cd.own.pSet ?_ ?_ _); rotate_left; (simp <;> omega)))) Ew5
            have O_f1' : (rowC).own (w3.heap.size + 1) (w4.heap.size) w5 [.slice fa1 F1.length fc1] (F1) := Cd.own.ext (by repeat (first | with_reducible assumption | with_reducible refine Cd.own.pAlloc ?_ _ | with_reducible refine Cd.own.pDrew ?_ | with_reducible refine Cd.own.pDrewN ?_ _ | ((with_reducible refine Cd.own.pSet ?_ ?_ _); rotate_left; (simp <;> omega)))) Ew5
            clear c_t_0 c_t_1 c_t_2 c_t_3 n_t c_p_0 c_p_1 n_p
            clear B_t
            have B_t := B_t'; clear B_t'
            clear B_p
            have B_p := B_p'; clear B_p'
            clear O_k; have O_k := O_k'; clear O_k'
            clear O_f1; have O_f1 := O_f1'; clear O_f1'
            replace O_r1 := O_r1.wide (lo' := w4.heap.size) (hi' := w5.heap.size) (by first | omega | (simp <;> omega)) (Nat.le_refl _)
            clear Ew5 Xw4
            have c_t_0 := B_t.cell 0 _ rfl
            have c_t_1 := B_t.cell 1 _ rfl
            have c_t_2 := B_t.cell 2 _ rfl
            have c_t_3 := B_t.cell 3 _ rfl
            have n_t := B_t.lt
            have c_p_0 := B_p.cell 0 _ rfl
            have c_p_1 := B_p.cell 1 _ rfl
            have n_p := B_p.lt
            go_wp2_with (at_builtin; refine wpList_snocC (R := rowC) (y := r1) (lo' := w4.heap.size) (hi' := w5.heap.size) rfl _ _ _ rfl 44 _ 24 Try.underlying22 Hinr.out rfl (Cd.own.pAlloc O_k _) rfl (Cd.own.pAlloc O_r1 _) (by omega) (by omega) (by simp; omega) _ _ rfl (CellsAt.lit _ _ _) (by simp) ?_)
            intro v_w6 w6 ka1 kc1 hv_w6 O_n C_w6
            subst hv_w6
            clear B_p
            have Xw6 : Ext w w6 := Chg.ext (by repeat (first | with_reducible exact Ext.refl _ | with_reducible assumption | with_reducible refine Ext.pAlloc ?_ _ | ((with_reducible refine Ext.pSet ?_ ?_ _); rotate_left; (simp <;> omega)) | with_reducible refine Ext.pDrew ?_ | with_reducible refine Ext.pDrewN ?_ _)) C_w6 (by omega)
            have zw6 : w5.heap.size + 1 ≤ w6.heap.size := by have := C_w6.size; (try simp at this); omega
            have B_t' : Bx w6 w.heap.size [.slice ua d.1.length uc, .slice va d.2.length vc, .slice ua' d'.1.length uc', .slice va' d'.2.length vc'] := Bx.chg (by repeat (first | with_reducible assumption | with_reducible exact Bx.new _ _ _ _ rfl | ((with_reducible refine Bx.new _ _ _ _ ?_); simp; done) | with_reducible refine Bx.pAlloc ?_ _ | with_reducible refine Bx.pDrew ?_ | with_reducible refine Bx.pDrewN ?_ _ | with_reducible apply Bx.set10 | with_reducible apply Bx.set20 | with_reducible apply Bx.set21 | with_reducible apply Bx.set30 | with_reducible apply Bx.set31 | with_reducible apply Bx.set32 | with_reducible apply Bx.set40 | with_reducible apply Bx.set41 | with_reducible apply Bx.set42 | with_reducible apply Bx.set43 | ((with_reducible refine Bx.set_other ?_ ?_ _); rotate_left; (simp <;> omega)))) C_w6 (by omega)
            clear c_t_0 c_t_1 c_t_2 c_t_3 n_t c_p_0 c_p_1 n_p
            clear B_t
            have B_t := B_t'; clear B_t'
            clear C_w6 Xw5
            have c_t_0 := B_t.cell 0 _ rfl
            have c_t_1 := B_t.cell 1 _ rfl
            have c_t_2 := B_t.cell 2 _ rfl
            have c_t_3 := B_t.cell 3 _ rfl
            have n_t := B_t.lt
            clear O_k; have O_k : rowsC.own (w2.heap.size) w6.heap.size w6 [.slice ka1 (0 + 1) kc1] [r1] := O_n; clear O_n
            go_wp2
            rw [rounds_succ]
            go_wp2_with fail
            refine (implReadAt_c _ d' n _ (diskC.vext H.out.2 (by repeat (first | with_reducible exact Ext.refl _ | with_reducible assumption | with_reducible refine Ext.pAlloc ?_ _ | ((with_reducible refine Ext.pSet ?_ ?_ _); rotate_left; (simp <;> omega)) | with_reducible refine Ext.pDrew ?_ | with_reducible refine Ext.pDrewN ?_ _)))).mono ?_
            rw [HF2.out]
            rintro e w7 ⟨f2, rfl, Ew7, O_f2⟩
            obtain ⟨fa2, fc2, rfl⟩ := u_slice O_f2.view
            have Xw7 : Ext w w7 := Ext.trans (by repeat (first | with_reducible exact Ext.refl _ | with_reducible assumption | with_reducible refine Ext.pAlloc ?_ _ | ((with_reducible refine Ext.pSet ?_ ?_ _); rotate_left; (simp <;> omega)) | with_reducible refine Ext.pDrew ?_ | with_reducible refine Ext.pDrewN ?_ _)) Ew7
            have zw7 : w6.heap.size + 1 ≤ w7.heap.size := by have := Ew7.size; (try simp at this); omega
            have B_t' : Bx w7 w.heap.size [.slice ua d.1.length uc, .slice va d.2.length vc, .slice ua' d'.1.length uc', .slice va' d'.2.length vc'] := Bx.ext (by repeat (first | with_reducible assumption | with_reducible exact Bx.new _ _ _ _ rfl | ((with_reducible refine Bx.new _ _ _ _ ?_); simp; done) | with_reducible refine Bx.pAlloc ?_ _ | with_reducible refine Bx.pDrew ?_ | with_reducible refine Bx.pDrewN ?_ _ | with_reducible apply Bx.set10 | with_reducible apply Bx.set20 | with_reducible apply Bx.set21 | with_reducible apply Bx.set30 | with_reducible apply Bx.set31 | with_reducible apply Bx.set32 | with_reducible apply Bx.set40 | with_reducible apply Bx.set41 | with_reducible apply Bx.set42 | with_reducible apply Bx.set43 | ((with_reducible refine Bx.set_other ?_ ?_ _); rotate_left; (simp <;> omega)))) Ew7
            have B_q' : Bx w7 w6.heap.size [.slice ua' d'.1.length uc', .slice va' d'.2.length vc'] := Bx.ext (by repeat (first | with_reducible assumption | with_reducible exact Bx.new _ _ _ _ rfl | ((with_reducible refine Bx.new _ _ _ _ ?_); simp; done) | with_reducible refine Bx.pAlloc ?_ _ | with_reducible refine Bx.pDrew ?_ | with_reducible refine Bx.pDrewN ?_ _ | with_reducible apply Bx.set10 | with_reducible apply Bx.set20 | with_reducible apply Bx.set21 | with_reducible apply Bx.set30 | with_reducible apply Bx.set31 | with_reducible apply Bx.set32 | with_reducible apply Bx.set40 | with_reducible apply Bx.set41 | with_reducible apply Bx.set42 | with_reducible apply Bx.set43 | ((with_reducible refine Bx.set_other ?_ ?_ _); rotate_left; (simp <;> omega)))) Ew7
            have O_k' : (rowsC).own (w2.heap.size) (w6.heap.size) w7 [.slice ka1 (0 + 1) kc1] ([r1]) := Cd.own.ext (by repeat (first | with_reducible assumption | with_reducible refine Cd.own.pAlloc ?_ _ | with_reducible refine Cd.own.pDrew ?_ | with_reducible refine Cd.own.pDrewN ?_ _ | ((with_reducible refine Cd.own.pSet ?_ ?_ _); rotate_left; (simp <;> omega)))) Ew7
            clear c_t_0 c_t_1 c_t_2 c_t_3 n_t
            clear B_t
            have B_t := B_t'; clear B_t'
            have B_q := B_q'; clear B_q'
            clear O_k; have O_k := O_k'; clear O_k'
            replace O_f2 := O_f2.wide (lo' := w6.heap.size + 1) (hi' := w7.heap.size) (by first | omega | (simp <;> omega)) (Nat.le_refl _)
            clear Ew7 Xw6
            have c_t_0 := B_t.cell 0 _ rfl
            have c_t_1 := B_t.cell 1 _ rfl
            have c_t_2 := B_t.cell 2 _ rfl
            have c_t_3 := B_t.cell 3 _ rfl
            have n_t := B_t.lt
            have c_q_0 := B_q.cell 0 _ rfl
            have c_q_1 := B_q.cell 1 _ rfl
            have n_q := B_q.lt
            go_wp2_with fail
            refine (implUnsummed_c _ F2 _ (Cd.own.view (R := rowC) (lo := w6.heap.size + 1) (hi := w7.heap.size) (by repeat (first | with_reducible assumption | with_reducible refine Cd.own.pAlloc ?_ _ | with_reducible refine Cd.own.pDrew ?_ | with_reducible refine Cd.own.pDrewN ?_ _ | ((with_reducible refine Cd.own.pSet ?_ ?_ _); rotate_left; (simp <;> omega)))))).mono ?_
            rw [HU2.out]
            rintro e w8 ⟨g2, rfl, Ew8, O_r2⟩
            obtain ⟨ra2, rc2, rfl⟩ := u_slice O_r2.view
            have Xw8 : Ext w w8 := Ext.trans (by repeat (first | with_reducible exact Ext.refl _ | with_reducible assumption | with_reducible refine Ext.pAlloc ?_ _ | ((with_reducible refine Ext.pSet ?_ ?_ _); rotate_left; (simp <;> omega)) | with_reducible refine Ext.pDrew ?_ | with_reducible refine Ext.pDrewN ?_ _)) Ew8
            have zw8 : w7.heap.size ≤ w8.heap.size := by have := Ew8.size; (try simp at this); omega
            have B_t' : Bx w8 w.heap.size [.slice ua d.1.length uc, .slice va d.2.length vc, .slice ua' d'.1.length uc', .slice va' d'.2.length vc'] := Bx.ext (by repeat (first | with_reducible assumption | with_reducible exact Bx.new _ _ _ _ rfl | ((with_reducible refine Bx.new _ _ _ _ ?_); simp; done) | with_reducible refine Bx.pAlloc ?_ _ | with_reducible refine Bx.pDrew ?_ | with_reducible refine Bx.pDrewN ?_ _ | with_reducible apply Bx.set10 | with_reducible apply Bx.set20 | with_reducible apply Bx.set21 | with_reducible apply Bx.set30 | with_reducible apply Bx.set31 | with_reducible apply Bx.set32 | with_reducible apply Bx.set40 | with_reducible apply Bx.set41 | with_reducible apply Bx.set42 | with_reducible apply Bx.set43 | ((with_reducible refine Bx.set_other ?_ ?_ _); rotate_left; (simp <;> omega)))) Ew8
            have B_q' : Bx w8 w6.heap.size [.slice ua' d'.1.length uc', .slice va' d'.2.length vc'] := Bx.ext (by repeat (first | with_reducible assumption | with_reducible exact Bx.new _ _ _ _ rfl | ((with_reducible refine Bx.new _ _ _ _ ?_); simp; done) | with_reducible refine Bx.pAlloc ?_ _ | with_reducible refine Bx.pDrew ?_ | with_reducible refine Bx.pDrewN ?_ _ | with_reducible apply Bx.set10 | with_reducible apply Bx.set20 | with_reducible apply Bx.set21 | with_reducible apply Bx.set30 | with_reducible apply Bx.set31 | with_reducible apply Bx.set32 | with_reducible apply Bx.set40 | with_reducible apply Bx.set41 | with_reducible apply Bx.set42 | with_reducible apply Bx.set43 | ((with_reducible refine Bx.set_other ?_ ?_ _); rotate_left; (simp <;> omega)))) Ew8
            have O_k' : (rowsC).own (w2.heap.size) (w6.heap.size) w8 [.slice ka1 (0 + 1) kc1] ([r1]) := Cd.own.ext (by repeat (first | with_reducible assumption | with_reducible refine Cd.own.pAlloc ?_ _ | with_reducible refine Cd.own.pDrew ?_ | with_reducible refine Cd.own.pDrewN ?_ _ | ((with_reducible refine Cd.own.pSet ?_ ?_ _); rotate_left; (simp <;> omega)))) Ew8
            have O_f2' : (rowC).own (w6.heap.size + 1) (w7.heap.size) w8 [.slice fa2 F2.length fc2] (F2) := Cd.own.ext (by repeat (first | with_reducible assumption | with_reducible refine Cd.own.pAlloc ?_ _ | with_reducible refine Cd.own.pDrew ?_ | with_reducible refine Cd.own.pDrewN ?_ _ | ((with_reducible refine Cd.own.pSet ?_ ?_ _); rotate_left; (simp <;> omega)))) Ew8
            clear c_t_0 c_t_1 c_t_2 c_t_3 n_t c_q_0 c_q_1 n_q
            clear B_t
            have B_t := B_t'; clear B_t'
            clear B_q
            have B_q := B_q'; clear B_q'
            clear O_k; have O_k := O_k'; clear O_k'
            clear O_f2; have O_f2 := O_f2'; clear O_f2'
            replace O_r2 := O_r2.wide (lo' := w7.heap.size) (hi' := w8.heap.size) (by first | omega | (simp <;> omega)) (Nat.le_refl _)
            clear Ew8 Xw7
            have c_t_0 := B_t.cell 0 _ rfl
            have c_t_1 := B_t.cell 1 _ rfl
            have c_t_2 := B_t.cell 2 _ rfl
            have c_t_3 := B_t.cell 3 _ rfl
            have n_t := B_t.lt
            have c_q_0 := B_q.cell 0 _ rfl
            have c_q_1 := B_q.cell 1 _ rfl
            have n_q := B_q.lt
            obtain ⟨sa, sc, e, _, _, hce⟩ := slice_open1 (R := rowC) rfl O_k.view
            cases e
            obtain ⟨kb, ko, z, zu, rfl, hz, hzv, hzc⟩ := hce 0 (by simp)
            obtain rfl : r1 = z := by simpa using hz.out
            obtain ⟨za, zc, rfl⟩ := u_slice hzv
            rw [Nat.add_zero] at hzc
            have HZ := Lib.hid hzv; have HZ2 := Lib.hid hzc; clear hce hzv hz
            go_wp2_with fail
            refine (implSameRow_c _ _ r1 r2 _ HZ.out (Cd.own.view (R := rowC) (lo := w7.heap.size) (hi := w8.heap.size) (by repeat (first | with_reducible assumption | with_reducible refine Cd.own.pAlloc ?_ _ | with_reducible refine Cd.own.pDrew ?_ | with_reducible refine Cd.own.pDrewN ?_ _ | ((with_reducible refine Cd.own.pSet ?_ ?_ _); rotate_left; (simp <;> omega)))))).mono ?_
            rw [Hd.out]
            rintro e w9 ⟨rfl, Ew9⟩
            clear hzc
            have Xw9 : Ext w w9 := Ext.trans (by repeat (first | with_reducible exact Ext.refl _ | with_reducible assumption | with_reducible refine Ext.pAlloc ?_ _ | ((with_reducible refine Ext.pSet ?_ ?_ _); rotate_left; (simp <;> omega)) | with_reducible refine Ext.pDrew ?_ | with_reducible refine Ext.pDrewN ?_ _)) Ew9
            have zw9 : w8.heap.size ≤ w9.heap.size := by have := Ew9.size; (try simp at this); omega
            have B_t' : Bx w9 w.heap.size [.slice ua d.1.length uc, .slice va d.2.length vc, .slice ua' d'.1.length uc', .slice va' d'.2.length vc'] := Bx.ext (by repeat (first | with_reducible assumption | with_reducible exact Bx.new _ _ _ _ rfl | ((with_reducible refine Bx.new _ _ _ _ ?_); simp; done) | with_reducible refine Bx.pAlloc ?_ _ | with_reducible refine Bx.pDrew ?_ | with_reducible refine Bx.pDrewN ?_ _ | with_reducible apply Bx.set10 | with_reducible apply Bx.set20 | with_reducible apply Bx.set21 | with_reducible apply Bx.set30 | with_reducible apply Bx.set31 | with_reducible apply Bx.set32 | with_reducible apply Bx.set40 | with_reducible apply Bx.set41 | with_reducible apply Bx.set42 | with_reducible apply Bx.set43 | ((with_reducible refine Bx.set_other ?_ ?_ _); rotate_left; (simp <;> omega)))) Ew9
            have B_q' : Bx w9 w6.heap.size [.slice ua' d'.1.length uc', .slice va' d'.2.length vc'] := Bx.ext (by repeat (first | with_reducible assumption | with_reducible exact Bx.new _ _ _ _ rfl | ((with_reducible refine Bx.new _ _ _ _ ?_); simp; done) | with_reducible refine Bx.pAlloc ?_ _ | with_reducible refine Bx.pDrew ?_ | with_reducible refine Bx.pDrewN ?_ _ | with_reducible apply Bx.set10 | with_reducible apply Bx.set20 | with_reducible apply Bx.set21 | with_reducible apply Bx.set30 | with_reducible apply Bx.set31 | with_reducible apply Bx.set32 | with_reducible apply Bx.set40 | with_reducible apply Bx.set41 | with_reducible apply Bx.set42 | with_reducible apply Bx.set43 | ((with_reducible refine Bx.set_other ?_ ?_ _); rotate_left; (simp <;> omega)))) Ew9
            have O_k' : (rowsC).own (w2.heap.size) (w6.heap.size) w9 [.slice (some ⟨kb, ko, none⟩) (0 + 1) kc1] ([r1]) := Cd.own.ext (by repeat (first | with_reducible assumption | with_reducible refine Cd.own.pAlloc ?_ _ | with_reducible refine Cd.own.pDrew ?_ | with_reducible refine Cd.own.pDrewN ?_ _ | ((with_reducible refine Cd.own.pSet ?_ ?_ _); rotate_left; (simp <;> omega)))) Ew9
            have O_f2' : (rowC).own (w6.heap.size + 1) (w7.heap.size) w9 [.slice fa2 F2.length fc2] (F2) := Cd.own.ext (by repeat (first | with_reducible assumption | with_reducible refine Cd.own.pAlloc ?_ _ | with_reducible refine Cd.own.pDrew ?_ | with_reducible refine Cd.own.pDrewN ?_ _ | ((with_reducible refine Cd.own.pSet ?_ ?_ _); rotate_left; (simp <;> omega)))) Ew9
            have O_r2' : (rowC).own (w7.heap.size) (w8.heap.size) w9 [.slice ra2 r2.length rc2] (r2) := Cd.own.ext (by repeat (first | with_reducible assumption | with_reducible refine Cd.own.pAlloc ?_ _ | with_reducible refine Cd.own.pDrew ?_ | with_reducible refine Cd.own.pDrewN ?_ _ | ((with_reducible refine Cd.own.pSet ?_ ?_ _); rotate_left; (simp <;> omega)))) Ew9
            clear c_t_0 c_t_1 c_t_2 c_t_3 n_t c_q_0 c_q_1 n_q
            clear B_t
            have B_t := B_t'; clear B_t'
            clear B_q
            have B_q := B_q'; clear B_q'
            clear O_k; have O_k := O_k'; clear O_k'
            clear O_f2; have O_f2 := O_f2'; clear O_f2'
            clear O_r2; have O_r2 := O_r2'; clear O_r2'
            clear Ew9 Xw8
            have c_t_0 := B_t.cell 0 _ rfl
            have c_t_1 := B_t.cell 1 _ rfl
            have c_t_2 := B_t.cell 2 _ rfl
            have c_t_3 := B_t.cell 3 _ rfl
            have n_t := B_t.lt
            have c_q_0 := B_q.cell 0 _ rfl
            have c_q_1 := B_q.cell 1 _ rfl
            have n_q := B_q.lt
            go_wp2
            rw [rounds_succ]
            go_wp2
            go_ret
            exact ⟨.slice (some ⟨kb, ko, none⟩) (0 + 1) kc1, rfl, by repeat (first | with_reducible exact Ext.refl _ | with_reducible assumption | with_reducible refine Ext.pAlloc ?_ _ | ((with_reducible refine Ext.pSet ?_ ?_ _); rotate_left; (simp <;> omega)) | with_reducible refine Ext.pDrew ?_ | with_reducible refine Ext.pDrewN ?_ _), by (try simp only [reduceIte, Bool.false_eq_true, false_and, not_false_eq_true, and_true, and_self, true_and, List.append_nil, List.nil_append]); exact Cd.own.wide (lo := w2.heap.size) (hi := w6.heap.size) (by repeat (first | with_reducible assumption | with_reducible refine Cd.own.pAlloc ?_ _ | with_reducible refine Cd.own.pDrew ?_ | with_reducible refine Cd.own.pDrewN ?_ _ | ((with_reducible refine Cd.own.pSet ?_ ?_ _); rotate_left; (simp <;> omega)))) (by omega) (by first | omega | (simp <;> omega))⟩

set_option maxHeartbeats 16000000 in
set_option maxRecDepth 20000 in
theorem specRightAt_c (cs : List Value) (m : TwoD) (n : Int) (w : World) (h : twoC.V w cs m) :
    Calls Try.prog 16 #[.agg cs.toArray, .int .i64 n] w fun e w' => ∃ v, e = .returned v ∧ Ext w w' ∧ rowsC.own w.heap.size w'.heap.size w' [v] (rightAt m n) := by
  obtain ⟨u, v, u', v', rfl, hu, hv⟩ := two_V.1 h
  have HT := Lib.hid h
  obtain ⟨d, d'⟩ := m
  simp only at hu hv
  obtain ⟨⟨ua, uc, rfl⟩, va, vc, rfl⟩ := disk_forms hu
  obtain ⟨⟨ua', uc', rfl⟩, va', vc', rfl⟩ := disk_forms hv
  have H := Lib.hid (And.intro hu hv); clear hu hv h
  have hinr : (Try.prog.info? 44).map (fun i => (i.zero, i.size, i.bytes)) = some (some (.slice none 0 0), 1, 24) := by kernel_rfl
  have Hinr := Lib.hid hinr; clear hinr
  cases ht : twoOk (d, d')
  · rw [rightAt_no (by simp [ht])]
    have Ht := Lib.hid ht; clear ht
    go_enter Try.func16, Try.ntmps16
    go_wp2_with fail
    refine (specTwoOk_c _ (d, d') _ (twoC.vext HT.out (by repeat (first | with_reducible exact Ext.refl _ | with_reducible assumption | with_reducible refine Ext.pAlloc ?_ _ | ((with_reducible refine Ext.pSet ?_ ?_ _); rotate_left; (simp <;> omega)) | with_reducible refine Ext.pDrew ?_ | with_reducible refine Ext.pDrewN ?_ _)))).mono ?_
    rw [Ht.out]
    rintro e w1 ⟨rfl, Ew1⟩
    have Xw1 : Ext w w1 := Ext.trans (by repeat (first | with_reducible exact Ext.refl _ | with_reducible assumption | with_reducible refine Ext.pAlloc ?_ _ | ((with_reducible refine Ext.pSet ?_ ?_ _); rotate_left; (simp <;> omega)) | with_reducible refine Ext.pDrew ?_ | with_reducible refine Ext.pDrewN ?_ _)) Ew1
    have zw1 : w.heap.size + 1 + 1 ≤ w1.heap.size := by have := Ew1.size; (try simp at this); omega
    have B_t' : Bx w1 w.heap.size [.slice ua d.1.length uc, .slice va d.2.length vc, .slice ua' d'.1.length uc', .slice va' d'.2.length vc'] := Bx.ext (by repeat (first | with_reducible assumption | with_reducible exact Bx.new _ _ _ _ rfl | ((with_reducible refine Bx.new _ _ _ _ ?_); simp; done) | with_reducible refine Bx.pAlloc ?_ _ | with_reducible refine Bx.pDrew ?_ | with_reducible refine Bx.pDrewN ?_ _ | with_reducible apply Bx.set10 | with_reducible apply Bx.set20 | with_reducible apply Bx.set21 | with_reducible apply Bx.set30 | with_reducible apply Bx.set31 | with_reducible apply Bx.set32 | with_reducible apply Bx.set40 | with_reducible apply Bx.set41 | with_reducible apply Bx.set42 | with_reducible apply Bx.set43 | ((with_reducible refine Bx.set_other ?_ ?_ _); rotate_left; (simp <;> omega)))) Ew1
    have B_e' : Bx w1 (w.heap.size + 1) [] := Bx.ext (by repeat (first | with_reducible assumption | with_reducible exact Bx.new _ _ _ _ rfl | ((with_reducible refine Bx.new _ _ _ _ ?_); simp; done) | with_reducible refine Bx.pAlloc ?_ _ | with_reducible refine Bx.pDrew ?_ | with_reducible refine Bx.pDrewN ?_ _ | with_reducible apply Bx.set10 | with_reducible apply Bx.set20 | with_reducible apply Bx.set21 | with_reducible apply Bx.set30 | with_reducible apply Bx.set31 | with_reducible apply Bx.set32 | with_reducible apply Bx.set40 | with_reducible apply Bx.set41 | with_reducible apply Bx.set42 | with_reducible apply Bx.set43 | ((with_reducible refine Bx.set_other ?_ ?_ _); rotate_left; (simp <;> omega)))) Ew1
    have B_t := B_t'; clear B_t'
    have B_e := B_e'; clear B_e'
    clear Ew1
    have c_t_0 := B_t.cell 0 _ rfl
    have c_t_1 := B_t.cell 1 _ rfl
    have c_t_2 := B_t.cell 2 _ rfl
    have c_t_3 := B_t.cell 3 _ rfl
    have n_t := B_t.lt
    have n_e := B_e.lt
    go_wp2
    go_ret
    exact ⟨_, rfl, by repeat (first | with_reducible exact Ext.refl _ | with_reducible assumption | with_reducible refine Ext.pAlloc ?_ _ | ((with_reducible refine Ext.pSet ?_ ?_ _); rotate_left; (simp <;> omega)) | with_reducible refine Ext.pDrew ?_ | with_reducible refine Ext.pDrewN ?_ _), (own_of_empty B_e).wide (by omega) (by omega)⟩
  · cases hs : inB n 0 ((d.1.length : Int) - 1)
    · rw [rightAt_no (by simp [hs])]
      have Ht := Lib.hid ht; have Hs := Lib.hid hs; clear ht hs
      go_enter Try.func16, Try.ntmps16
      go_wp2_with fail
      refine (specTwoOk_c _ (d, d') _ (twoC.vext HT.out (by repeat (first | with_reducible exact Ext.refl _ | with_reducible assumption | with_reducible refine Ext.pAlloc ?_ _ | ((with_reducible refine Ext.pSet ?_ ?_ _); rotate_left; (simp <;> omega)) | with_reducible refine Ext.pDrew ?_ | with_reducible refine Ext.pDrewN ?_ _)))).mono ?_
      rw [Ht.out]
      rintro e w1 ⟨rfl, Ew1⟩
      have Xw1 : Ext w w1 := Ext.trans (by repeat (first | with_reducible exact Ext.refl _ | with_reducible assumption | with_reducible refine Ext.pAlloc ?_ _ | ((with_reducible refine Ext.pSet ?_ ?_ _); rotate_left; (simp <;> omega)) | with_reducible refine Ext.pDrew ?_ | with_reducible refine Ext.pDrewN ?_ _)) Ew1
      have zw1 : w.heap.size + 1 + 1 ≤ w1.heap.size := by have := Ew1.size; (try simp at this); omega
      have B_t' : Bx w1 w.heap.size [.slice ua d.1.length uc, .slice va d.2.length vc, .slice ua' d'.1.length uc', .slice va' d'.2.length vc'] := Bx.ext (by repeat (first | with_reducible assumption | with_reducible exact Bx.new _ _ _ _ rfl | ((with_reducible refine Bx.new _ _ _ _ ?_); simp; done) | with_reducible refine Bx.pAlloc ?_ _ | with_reducible refine Bx.pDrew ?_ | with_reducible refine Bx.pDrewN ?_ _ | with_reducible apply Bx.set10 | with_reducible apply Bx.set20 | with_reducible apply Bx.set21 | with_reducible apply Bx.set30 | with_reducible apply Bx.set31 | with_reducible apply Bx.set32 | with_reducible apply Bx.set40 | with_reducible apply Bx.set41 | with_reducible apply Bx.set42 | with_reducible apply Bx.set43 | ((with_reducible refine Bx.set_other ?_ ?_ _); rotate_left; (simp <;> omega)))) Ew1
      have B_e' : Bx w1 (w.heap.size + 1) [] := Bx.ext (by repeat (first | with_reducible assumption | with_reducible exact Bx.new _ _ _ _ rfl | ((with_reducible refine Bx.new _ _ _ _ ?_); simp; done) | with_reducible refine Bx.pAlloc ?_ _ | with_reducible refine Bx.pDrew ?_ | with_reducible refine Bx.pDrewN ?_ _ | with_reducible apply Bx.set10 | with_reducible apply Bx.set20 | with_reducible apply Bx.set21 | with_reducible apply Bx.set30 | with_reducible apply Bx.set31 | with_reducible apply Bx.set32 | with_reducible apply Bx.set40 | with_reducible apply Bx.set41 | with_reducible apply Bx.set42 | with_reducible apply Bx.set43 | ((with_reducible refine Bx.set_other ?_ ?_ _); rotate_left; (simp <;> omega)))) Ew1
      have B_t := B_t'; clear B_t'
      have B_e := B_e'; clear B_e'
      clear Ew1
      have c_t_0 := B_t.cell 0 _ rfl
      have c_t_1 := B_t.cell 1 _ rfl
      have c_t_2 := B_t.cell 2 _ rfl
      have c_t_3 := B_t.cell 3 _ rfl
      have n_t := B_t.lt
      have n_e := B_e.lt
      go_wp2_with fail
      refine (l3Has_c _ d _ _ (diskC.vext H.out.1 (by repeat (first | with_reducible exact Ext.refl _ | with_reducible assumption | with_reducible refine Ext.pAlloc ?_ _ | ((with_reducible refine Ext.pSet ?_ ?_ _); rotate_left; (simp <;> omega)) | with_reducible refine Ext.pDrew ?_ | with_reducible refine Ext.pDrewN ?_ _)))).mono ?_
      rw [Hs.out]
      rintro e w2 ⟨rfl, Ew2⟩
      have Xw2 : Ext w w2 := Ext.trans (by repeat (first | with_reducible exact Ext.refl _ | with_reducible assumption | with_reducible refine Ext.pAlloc ?_ _ | ((with_reducible refine Ext.pSet ?_ ?_ _); rotate_left; (simp <;> omega)) | with_reducible refine Ext.pDrew ?_ | with_reducible refine Ext.pDrewN ?_ _)) Ew2
      have zw2 : w1.heap.size ≤ w2.heap.size := by have := Ew2.size; (try simp at this); omega
      have B_t' : Bx w2 w.heap.size [.slice ua d.1.length uc, .slice va d.2.length vc, .slice ua' d'.1.length uc', .slice va' d'.2.length vc'] := Bx.ext (by repeat (first | with_reducible assumption | with_reducible exact Bx.new _ _ _ _ rfl | ((with_reducible refine Bx.new _ _ _ _ ?_); simp; done) | with_reducible refine Bx.pAlloc ?_ _ | with_reducible refine Bx.pDrew ?_ | with_reducible refine Bx.pDrewN ?_ _ | with_reducible apply Bx.set10 | with_reducible apply Bx.set20 | with_reducible apply Bx.set21 | with_reducible apply Bx.set30 | with_reducible apply Bx.set31 | with_reducible apply Bx.set32 | with_reducible apply Bx.set40 | with_reducible apply Bx.set41 | with_reducible apply Bx.set42 | with_reducible apply Bx.set43 | ((with_reducible refine Bx.set_other ?_ ?_ _); rotate_left; (simp <;> omega)))) Ew2
      have B_e' : Bx w2 (w.heap.size + 1) [] := Bx.ext (by repeat (first | with_reducible assumption | with_reducible exact Bx.new _ _ _ _ rfl | ((with_reducible refine Bx.new _ _ _ _ ?_); simp; done) | with_reducible refine Bx.pAlloc ?_ _ | with_reducible refine Bx.pDrew ?_ | with_reducible refine Bx.pDrewN ?_ _ | with_reducible apply Bx.set10 | with_reducible apply Bx.set20 | with_reducible apply Bx.set21 | with_reducible apply Bx.set30 | with_reducible apply Bx.set31 | with_reducible apply Bx.set32 | with_reducible apply Bx.set40 | with_reducible apply Bx.set41 | with_reducible apply Bx.set42 | with_reducible apply Bx.set43 | ((with_reducible refine Bx.set_other ?_ ?_ _); rotate_left; (simp <;> omega)))) Ew2
      clear c_t_0 c_t_1 c_t_2 c_t_3 n_t n_e
      clear B_t
      have B_t := B_t'; clear B_t'
      clear B_e
      have B_e := B_e'; clear B_e'
      clear Ew2 Xw1
      have c_t_0 := B_t.cell 0 _ rfl
      have c_t_1 := B_t.cell 1 _ rfl
      have c_t_2 := B_t.cell 2 _ rfl
      have c_t_3 := B_t.cell 3 _ rfl
      have n_t := B_t.lt
      have n_e := B_e.lt
      go_wp2
      go_ret
      exact ⟨_, rfl, by repeat (first | with_reducible exact Ext.refl _ | with_reducible assumption | with_reducible refine Ext.pAlloc ?_ _ | ((with_reducible refine Ext.pSet ?_ ?_ _); rotate_left; (simp <;> omega)) | with_reducible refine Ext.pDrew ?_ | with_reducible refine Ext.pDrewN ?_ _), (own_of_empty B_e).wide (by omega) (by omega)⟩
    · obtain ⟨F1, hF1⟩ : ∃ F, (readAt d n).1 = F := ⟨_, rfl⟩
      obtain ⟨F2, hF2⟩ : ∃ F, (readAt d' n).1 = F := ⟨_, rfl⟩
      obtain ⟨r1, o1, hU1⟩ : ∃ r o, unsum F1 = (r, o) := ⟨_, _, rfl⟩
      obtain ⟨r2, o2, hU2⟩ : ∃ r o, unsum F2 = (r, o) := ⟨_, _, rfl⟩
      rw [rightAt_form ⟨ht, hs⟩ hF1 hF2 hU1 hU2]
      have Ht := Lib.hid ht; have Hs := Lib.hid hs; clear ht hs
      have HF1 := Lib.hid hF1; have HF2 := Lib.hid hF2; have HU1 := Lib.hid hU1; have HU2 := Lib.hid hU2
      clear hF1 hF2 hU1 hU2
      cases o1
      · cases o2
        · rw [show ((if false = true then [r1] else []) ++ (if false = true ∧ ¬ (false = true ∧ r1 = r2) then [r2] else [])) = [] from by simp]
          go_enter Try.func16, Try.ntmps16
          go_wp2_with fail
          refine (specTwoOk_c _ (d, d') _ (twoC.vext HT.out (by repeat (first | with_reducible exact Ext.refl _ | with_reducible assumption | with_reducible refine Ext.pAlloc ?_ _ | ((with_reducible refine Ext.pSet ?_ ?_ _); rotate_left; (simp <;> omega)) | with_reducible refine Ext.pDrew ?_ | with_reducible refine Ext.pDrewN ?_ _)))).mono ?_
          rw [Ht.out]
          rintro e w1 ⟨rfl, Ew1⟩
          have Xw1 : Ext w w1 := Ext.trans (by repeat (first | with_reducible exact Ext.refl _ | with_reducible assumption | with_reducible refine Ext.pAlloc ?_ _ | ((with_reducible refine Ext.pSet ?_ ?_ _); rotate_left; (simp <;> omega)) | with_reducible refine Ext.pDrew ?_ | with_reducible refine Ext.pDrewN ?_ _)) Ew1
          have zw1 : w.heap.size + 1 + 1 ≤ w1.heap.size := by have := Ew1.size; (try simp at this); omega
          have B_t' : Bx w1 w.heap.size [.slice ua d.1.length uc, .slice va d.2.length vc, .slice ua' d'.1.length uc', .slice va' d'.2.length vc'] := Bx.ext (by repeat (first | with_reducible assumption | with_reducible exact Bx.new _ _ _ _ rfl | ((with_reducible refine Bx.new _ _ _ _ ?_); simp; done) | with_reducible refine Bx.pAlloc ?_ _ | with_reducible refine Bx.pDrew ?_ | with_reducible refine Bx.pDrewN ?_ _ | with_reducible apply Bx.set10 | with_reducible apply Bx.set20 | with_reducible apply Bx.set21 | with_reducible apply Bx.set30 | with_reducible apply Bx.set31 | with_reducible apply Bx.set32 | with_reducible apply Bx.set40 | with_reducible apply Bx.set41 | with_reducible apply Bx.set42 | with_reducible apply Bx.set43 | ((with_reducible refine Bx.set_other ?_ ?_ _); rotate_left; (simp <;> omega)))) Ew1
          have B_e' : Bx w1 (w.heap.size + 1) [] := Bx.ext (by repeat (first | with_reducible assumption | with_reducible exact Bx.new _ _ _ _ rfl | ((with_reducible refine Bx.new _ _ _ _ ?_); simp; done) | with_reducible refine Bx.pAlloc ?_ _ | with_reducible refine Bx.pDrew ?_ | with_reducible refine Bx.pDrewN ?_ _ | with_reducible apply Bx.set10 | with_reducible apply Bx.set20 | with_reducible apply Bx.set21 | with_reducible apply Bx.set30 | with_reducible apply Bx.set31 | with_reducible apply Bx.set32 | with_reducible apply Bx.set40 | with_reducible apply Bx.set41 | with_reducible apply Bx.set42 | with_reducible apply Bx.set43 | ((with_reducible refine Bx.set_other ?_ ?_ _); rotate_left; (simp <;> omega)))) Ew1
          have B_t := B_t'; clear B_t'
          have B_e := B_e'; clear B_e'
          clear Ew1
          have c_t_0 := B_t.cell 0 _ rfl
          have c_t_1 := B_t.cell 1 _ rfl
          have c_t_2 := B_t.cell 2 _ rfl
          have c_t_3 := B_t.cell 3 _ rfl
          have n_t := B_t.lt
          have n_e := B_e.lt
          go_wp2_with fail
          refine (l3Has_c _ d _ _ (diskC.vext H.out.1 (by repeat (first | with_reducible exact Ext.refl _ | with_reducible assumption | with_reducible refine Ext.pAlloc ?_ _ | ((with_reducible refine Ext.pSet ?_ ?_ _); rotate_left; (simp <;> omega)) | with_reducible refine Ext.pDrew ?_ | with_reducible refine Ext.pDrewN ?_ _)))).mono ?_
          rw [Hs.out]
          rintro e w2 ⟨rfl, Ew2⟩
          have Xw2 : Ext w w2 := Ext.trans (by repeat (first | with_reducible exact Ext.refl _ | with_reducible assumption | with_reducible refine Ext.pAlloc ?_ _ | ((with_reducible refine Ext.pSet ?_ ?_ _); rotate_left; (simp <;> omega)) | with_reducible refine Ext.pDrew ?_ | with_reducible refine Ext.pDrewN ?_ _)) Ew2
          have zw2 : w1.heap.size ≤ w2.heap.size := by have := Ew2.size; (try simp at this); omega
          have B_t' : Bx w2 w.heap.size [.slice ua d.1.length uc, .slice va d.2.length vc, .slice ua' d'.1.length uc', .slice va' d'.2.length vc'] := Bx.ext (by repeat (first | with_reducible assumption | with_reducible exact Bx.new _ _ _ _ rfl | ((with_reducible refine Bx.new _ _ _ _ ?_); simp; done) | with_reducible refine Bx.pAlloc ?_ _ | with_reducible refine Bx.pDrew ?_ | with_reducible refine Bx.pDrewN ?_ _ | with_reducible apply Bx.set10 | with_reducible apply Bx.set20 | with_reducible apply Bx.set21 | with_reducible apply Bx.set30 | with_reducible apply Bx.set31 | with_reducible apply Bx.set32 | with_reducible apply Bx.set40 | with_reducible apply Bx.set41 | with_reducible apply Bx.set42 | with_reducible apply Bx.set43 | ((with_reducible refine Bx.set_other ?_ ?_ _); rotate_left; (simp <;> omega)))) Ew2
          have B_e' : Bx w2 (w.heap.size + 1) [] := Bx.ext (by repeat (first | with_reducible assumption | with_reducible exact Bx.new _ _ _ _ rfl | ((with_reducible refine Bx.new _ _ _ _ ?_); simp; done) | with_reducible refine Bx.pAlloc ?_ _ | with_reducible refine Bx.pDrew ?_ | with_reducible refine Bx.pDrewN ?_ _ | with_reducible apply Bx.set10 | with_reducible apply Bx.set20 | with_reducible apply Bx.set21 | with_reducible apply Bx.set30 | with_reducible apply Bx.set31 | with_reducible apply Bx.set32 | with_reducible apply Bx.set40 | with_reducible apply Bx.set41 | with_reducible apply Bx.set42 | with_reducible apply Bx.set43 | ((with_reducible refine Bx.set_other ?_ ?_ _); rotate_left; (simp <;> omega)))) Ew2
          clear c_t_0 c_t_1 c_t_2 c_t_3 n_t n_e
          clear B_t
          have B_t := B_t'; clear B_t'
          clear B_e
          have B_e := B_e'; clear B_e'
          clear Ew2 Xw1
          have c_t_0 := B_t.cell 0 _ rfl
          have c_t_1 := B_t.cell 1 _ rfl
          have c_t_2 := B_t.cell 2 _ rfl
          have c_t_3 := B_t.cell 3 _ rfl
          have n_t := B_t.lt
          have n_e := B_e.lt
          have O_k : rowsC.own (w.heap.size + 1) (w.heap.size + 1 + 1) w2 [.slice (some ⟨w.heap.size + 1, 0, none⟩) 0 0] [] := own_of_empty B_e
          clear B_e
          clear n_e
          go_wp2_with fail
          refine (specReadAt_c _ d n _ (diskC.vext H.out.1 (by repeat (first | with_reducible exact Ext.refl _ | with_reducible assumption | with_reducible refine Ext.pAlloc ?_ _ | ((with_reducible refine Ext.pSet ?_ ?_ _); rotate_left; (simp <;> omega)) | with_reducible refine Ext.pDrew ?_ | with_reducible refine Ext.pDrewN ?_ _)))).mono ?_
          rw [HF1.out]
          rintro e w3 ⟨f1, rfl, Ew3, O_f1⟩
          obtain ⟨fa1, fc1, rfl⟩ := u_slice O_f1.view
          have Xw3 : Ext w w3 := Ext.trans (by repeat (first | with_reducible exact Ext.refl _ | with_reducible assumption | with_reducible refine Ext.pAlloc ?_ _ | ((with_reducible refine Ext.pSet ?_ ?_ _); rotate_left; (simp <;> omega)) | with_reducible refine Ext.pDrew ?_ | with_reducible refine Ext.pDrewN ?_ _)) Ew3
          have zw3 : w2.heap.size ≤ w3.heap.size := by have := Ew3.size; (try simp at this); omega
          have B_t' : Bx w3 w.heap.size [.slice ua d.1.length uc, .slice va d.2.length vc, .slice ua' d'.1.length uc', .slice va' d'.2.length vc'] := Bx.ext (by repeat (first | with_reducible assumption | with_reducible exact Bx.new _ _ _ _ rfl | ((with_reducible refine Bx.new _ _ _ _ ?_); simp; done) | with_reducible refine Bx.pAlloc ?_ _ | with_reducible refine Bx.pDrew ?_ | with_reducible refine Bx.pDrewN ?_ _ | with_reducible apply Bx.set10 | with_reducible apply Bx.set20 | with_reducible apply Bx.set21 | with_reducible apply Bx.set30 | with_reducible apply Bx.set31 | with_reducible apply Bx.set32 | with_reducible apply Bx.set40 | with_reducible apply Bx.set41 | with_reducible apply Bx.set42 | with_reducible apply Bx.set43 | ((with_reducible refine Bx.set_other ?_ ?_ _); rotate_left; (simp <;> omega)))) Ew3
          have O_k' : (rowsC).own (w.heap.size + 1) (w.heap.size + 1 + 1) w3 [.slice (some ⟨w.heap.size + 1, 0, none⟩) 0 0] ([]) := Cd.own.ext (by repeat (first | with_reducible assumption | with_reducible refine Cd.own.pAlloc ?_ _ | with_reducible refine Cd.own.pDrew ?_ | with_reducible refine Cd.own.pDrewN ?_ _ | ((with_reducible refine Cd.own.pSet ?_ ?_ _); rotate_left; (simp <;> omega)))) Ew3
          clear c_t_0 c_t_1 c_t_2 c_t_3 n_t
          clear B_t
          have B_t := B_t'; clear B_t'
          clear O_k; have O_k := O_k'; clear O_k'
          replace O_f1 := O_f1.wide (lo' := w2.heap.size) (hi' := w3.heap.size) (by first | omega | (simp <;> omega)) (Nat.le_refl _)
          clear Ew3 Xw2
          have c_t_0 := B_t.cell 0 _ rfl
          have c_t_1 := B_t.cell 1 _ rfl
          have c_t_2 := B_t.cell 2 _ rfl
          have c_t_3 := B_t.cell 3 _ rfl
          have n_t := B_t.lt
          go_wp2_with fail
          refine (specReadAt_c _ d' n _ (diskC.vext H.out.2 (by repeat (first | with_reducible exact Ext.refl _ | with_reducible assumption | with_reducible refine Ext.pAlloc ?_ _ | ((with_reducible refine Ext.pSet ?_ ?_ _); rotate_left; (simp <;> omega)) | with_reducible refine Ext.pDrew ?_ | with_reducible refine Ext.pDrewN ?_ _)))).mono ?_
          rw [HF2.out]
          rintro e w4 ⟨f2, rfl, Ew4, O_f2⟩
          obtain ⟨fa2, fc2, rfl⟩ := u_slice O_f2.view
          have Xw4 : Ext w w4 := Ext.trans (by repeat (first | with_reducible exact Ext.refl _ | with_reducible assumption | with_reducible refine Ext.pAlloc ?_ _ | ((with_reducible refine Ext.pSet ?_ ?_ _); rotate_left; (simp <;> omega)) | with_reducible refine Ext.pDrew ?_ | with_reducible refine Ext.pDrewN ?_ _)) Ew4
          have zw4 : w3.heap.size ≤ w4.heap.size := by have := Ew4.size; (try simp at this); omega
          have B_t' : Bx w4 w.heap.size [.slice ua d.1.length uc, .slice va d.2.length vc, .slice ua' d'.1.length uc', .slice va' d'.2.length vc'] := Bx.ext (by repeat (first | with_reducible assumption | with_reducible exact Bx.new _ _ _ _ rfl | ((with_reducible refine Bx.new _ _ _ _ ?_); simp; done) | with_reducible refine Bx.pAlloc ?_ _ | with_reducible refine Bx.pDrew ?_ | with_reducible refine Bx.pDrewN ?_ _ | with_reducible apply Bx.set10 | with_reducible apply Bx.set20 | with_reducible apply Bx.set21 | with_reducible apply Bx.set30 | with_reducible apply Bx.set31 | with_reducible apply Bx.set32 | with_reducible apply Bx.set40 | with_reducible apply Bx.set41 | with_reducible apply Bx.set42 | with_reducible apply Bx.set43 | ((with_reducible refine Bx.set_other ?_ ?_ _); rotate_left; (simp <;> omega)))) Ew4
          have O_k' : (rowsC).own (w.heap.size + 1) (w.heap.size + 1 + 1) w4 [.slice (some ⟨w.heap.size + 1, 0, none⟩) 0 0] ([]) := Cd.own.ext (by repeat (first | with_reducible assumption | with_reducible refine Cd.own.pAlloc ?_ _ | with_reducible refine Cd.own.pDrew ?_ | with_reducible refine Cd.own.pDrewN ?_ _ | ((with_reducible refine Cd.own.pSet ?_ ?_ _); rotate_left; (simp <;> omega)))) Ew4
          have O_f1' : (rowC).own (w2.heap.size) (w3.heap.size) w4 [.slice fa1 F1.length fc1] (F1) := Cd.own.ext (by repeat (first | with_reducible assumption | with_reducible refine Cd.own.pAlloc ?_ _ | with_reducible refine Cd.own.pDrew ?_ | with_reducible refine Cd.own.pDrewN ?_ _ | ((with_reducible refine Cd.own.pSet ?_ ?_ _); rotate_left; (simp <;> omega)))) Ew4
          clear c_t_0 c_t_1 c_t_2 c_t_3 n_t
          clear B_t
          have B_t := B_t'; clear B_t'
          clear O_k; have O_k := O_k'; clear O_k'
          clear O_f1; have O_f1 := O_f1'; clear O_f1'
          replace O_f2 := O_f2.wide (lo' := w3.heap.size) (hi' := w4.heap.size) (by first | omega | (simp <;> omega)) (Nat.le_refl _)
          clear Ew4 Xw3
          have c_t_0 := B_t.cell 0 _ rfl
          have c_t_1 := B_t.cell 1 _ rfl
          have c_t_2 := B_t.cell 2 _ rfl
          have c_t_3 := B_t.cell 3 _ rfl
          have n_t := B_t.lt
          go_wp2_with fail
          refine (specUnsummed_c _ F1 _ (Cd.own.view (R := rowC) (lo := w2.heap.size) (hi := w3.heap.size) (by repeat (first | with_reducible assumption | with_reducible refine Cd.own.pAlloc ?_ _ | with_reducible refine Cd.own.pDrew ?_ | with_reducible refine Cd.own.pDrewN ?_ _ | ((with_reducible refine Cd.own.pSet ?_ ?_ _); rotate_left; (simp <;> omega)))))).mono ?_
          rw [HU1.out]
          rintro e w5 ⟨g1, rfl, Ew5, O_r1⟩
          obtain ⟨ra1, rc1, rfl⟩ := u_slice O_r1.view
          have Xw5 : Ext w w5 := Ext.trans (by repeat (first | with_reducible exact Ext.refl _ | with_reducible assumption | with_reducible refine Ext.pAlloc ?_ _ | ((with_reducible refine Ext.pSet ?_ ?_ _); rotate_left; (simp <;> omega)) | with_reducible refine Ext.pDrew ?_ | with_reducible refine Ext.pDrewN ?_ _)) Ew5
          have zw5 : w4.heap.size ≤ w5.heap.size := by have := Ew5.size; (try simp at this); omega
          have B_t' : Bx w5 w.heap.size [.slice ua d.1.length uc, .slice va d.2.length vc, .slice ua' d'.1.length uc', .slice va' d'.2.length vc'] := Bx.ext (by repeat (first | with_reducible assumption | with_reducible exact Bx.new _ _ _ _ rfl | ((with_reducible refine Bx.new _ _ _ _ ?_); simp; done) | with_reducible refine Bx.pAlloc ?_ _ | with_reducible refine Bx.pDrew ?_ | with_reducible refine Bx.pDrewN ?_ _ | with_reducible apply Bx.set10 | with_reducible apply Bx.set20 | with_reducible apply Bx.set21 | with_reducible apply Bx.set30 | with_reducible apply Bx.set31 | with_reducible apply Bx.set32 | with_reducible apply Bx.set40 | with_reducible apply Bx.set41 | with_reducible apply Bx.set42 | with_reducible apply Bx.set43 | ((with_reducible refine Bx.set_other ?_ ?_ _); rotate_left; (simp <;> omega)))) Ew5
          have O_k' : (rowsC).own (w.heap.size + 1) (w.heap.size + 1 + 1) w5 [.slice (some ⟨w.heap.size + 1, 0, none⟩) 0 0] ([]) := Cd.own.ext (by repeat (first | with_reducible assumption | with_reducible refine Cd.own.pAlloc ?_ _ | with_reducible refine Cd.own.pDrew ?_ | with_reducible refine Cd.own.pDrewN ?_ _ | ((with_reducible refine Cd.own.pSet ?_ ?_ _); rotate_left; (simp <;> omega)))) Ew5
          have O_f1' : (rowC).own (w2.heap.size) (w3.heap.size) w5 [.slice fa1 F1.length fc1] (F1) := Cd.own.ext (by repeat (first | with_reducible assumption | with_reducible refine Cd.own.pAlloc ?_ _ | with_reducible refine Cd.own.pDrew ?_ | with_reducible refine Cd.own.pDrewN ?_ _ | ((with_reducible refine Cd.own.pSet ?_ ?_ _); rotate_left; (simp <;> omega)))) Ew5
          have O_f2' : (rowC).own (w3.heap.size) (w4.heap.size) w5 [.slice fa2 F2.length fc2] (F2) := Cd.own.ext (by repeat (first | with_reducible assumption | with_reducible refine Cd.own.pAlloc ?_ _ | with_reducible refine Cd.own.pDrew ?_ | with_reducible refine Cd.own.pDrewN ?_ _ | ((with_reducible refine Cd.own.pSet ?_ ?_ _); rotate_left; (simp <;> omega)))) Ew5
          clear c_t_0 c_t_1 c_t_2 c_t_3 n_t
          clear B_t
          have B_t := B_t'; clear B_t'
          clear O_k; have O_k := O_k'; clear O_k'
          clear O_f1; have O_f1 := O_f1'; clear O_f1'
          clear O_f2; have O_f2 := O_f2'; clear O_f2'
          replace O_r1 := O_r1.wide (lo' := w4.heap.size) (hi' := w5.heap.size) (by first | omega | (simp <;> omega)) (Nat.le_refl _)
          clear Ew5 Xw4
          have c_t_0 := B_t.cell 0 _ rfl
          have c_t_1 := B_t.cell 1 _ rfl
          have c_t_2 := B_t.cell 2 _ rfl
          have c_t_3 := B_t.cell 3 _ rfl
          have n_t := B_t.lt
          go_wp2_with fail
          refine (specUnsummed_c _ F2 _ (Cd.own.view (R := rowC) (lo := w3.heap.size) (hi := w4.heap.size) (by repeat (first | with_reducible assumption | with_reducible refine Cd.own.pAlloc ?_ _ | with_reducible refine Cd.own.pDrew ?_ | with_reducible refine Cd.own.pDrewN ?_ _ | ((with_reducible refine Cd.own.pSet ?_ ?_ _); rotate_left; (simp <;> omega)))))).mono ?_
          rw [HU2.out]
          rintro e w6 ⟨g2, rfl, Ew6, O_r2⟩
          obtain ⟨ra2, rc2, rfl⟩ := u_slice O_r2.view
          have Xw6 : Ext w w6 := Ext.trans (by repeat (first | with_reducible exact Ext.refl _ | with_reducible assumption | with_reducible refine Ext.pAlloc ?_ _ | ((with_reducible refine Ext.pSet ?_ ?_ _); rotate_left; (simp <;> omega)) | with_reducible refine Ext.pDrew ?_ | with_reducible refine Ext.pDrewN ?_ _)) Ew6
          have zw6 : w5.heap.size ≤ w6.heap.size := by have := Ew6.size; (try simp at this); omega
          have B_t' : Bx w6 w.heap.size [.slice ua d.1.length uc, .slice va d.2.length vc, .slice ua' d'.1.length uc', .slice va' d'.2.length vc'] := Bx.ext (by repeat (first | with_reducible assumption | with_reducible exact Bx.new _ _ _ _ rfl | ((with_reducible refine Bx.new _ _ _ _ ?_); simp; done) | with_reducible refine Bx.pAlloc ?_ _ | with_reducible refine Bx.pDrew ?_ | with_reducible refine Bx.pDrewN ?_ _ | with_reducible apply Bx.set10 | with_reducible apply Bx.set20 | with_reducible apply Bx.set21 | with_reducible apply Bx.set30 | with_reducible apply Bx.set31 | with_reducible apply Bx.set32 | with_reducible apply Bx.set40 | with_reducible apply Bx.set41 | with_reducible apply Bx.set42 | with_reducible apply Bx.set43 | ((with_reducible refine Bx.set_other ?_ ?_ _); rotate_left; (simp <;> omega)))) Ew6
          have O_k' : (rowsC).own (w.heap.size + 1) (w.heap.size + 1 + 1) w6 [.slice (some ⟨w.heap.size + 1, 0, none⟩) 0 0] ([]) := Cd.own.ext (by repeat (first | with_reducible assumption | with_reducible refine Cd.own.pAlloc ?_ _ | with_reducible refine Cd.own.pDrew ?_ | with_reducible refine Cd.own.pDrewN ?_ _ | ((with_reducible refine Cd.own.pSet ?_ ?_ _); rotate_left; (simp <;> omega)))) Ew6
          have O_f1' : (rowC).own (w2.heap.size) (w3.heap.size) w6 [.slice fa1 F1.length fc1] (F1) := Cd.own.ext (by repeat (first | with_reducible assumption | with_reducible refine Cd.own.pAlloc ?_ _ | with_reducible refine Cd.own.pDrew ?_ | with_reducible refine Cd.own.pDrewN ?_ _ | ((with_reducible refine Cd.own.pSet ?_ ?_ _); rotate_left; (simp <;> omega)))) Ew6
          have O_f2' : (rowC).own (w3.heap.size) (w4.heap.size) w6 [.slice fa2 F2.length fc2] (F2) := Cd.own.ext (by repeat (first | with_reducible assumption | with_reducible refine Cd.own.pAlloc ?_ _ | with_reducible refine Cd.own.pDrew ?_ | with_reducible refine Cd.own.pDrewN ?_ _ | ((with_reducible refine Cd.own.pSet ?_ ?_ _); rotate_left; (simp <;> omega)))) Ew6
          have O_r1' : (rowC).own (w4.heap.size) (w5.heap.size) w6 [.slice ra1 r1.length rc1] (r1) := Cd.own.ext (by repeat (first | with_reducible assumption | with_reducible refine Cd.own.pAlloc ?_ _ | with_reducible refine Cd.own.pDrew ?_ | with_reducible refine Cd.own.pDrewN ?_ _ | ((with_reducible refine Cd.own.pSet ?_ ?_ _); rotate_left; (simp <;> omega)))) Ew6
          clear c_t_0 c_t_1 c_t_2 c_t_3 n_t
          clear B_t
          have B_t := B_t'; clear B_t'
          clear O_k; have O_k := O_k'; clear O_k'
          clear O_f1; have O_f1 := O_f1'; clear O_f1'
          clear O_f2; have O_f2 := O_f2'; clear O_f2'
          clear O_r1; have O_r1 := O_r1'; clear O_r1'
          replace O_r2 := O_r2.wide (lo' := w5.heap.size) (hi' := w6.heap.size) (by first | omega | (simp <;> omega)) (Nat.le_refl _)
          clear Ew6 Xw5
          have c_t_0 := B_t.cell 0 _ rfl
          have c_t_1 := B_t.cell 1 _ rfl
          have c_t_2 := B_t.cell 2 _ rfl
          have c_t_3 := B_t.cell 3 _ rfl
          have n_t := B_t.lt
          go_wp2
          go_ret
          exact ⟨.slice (some ⟨w.heap.size + 1, 0, none⟩) 0 0, rfl, by repeat (first | with_reducible exact Ext.refl _ | with_reducible assumption | with_reducible refine Ext.pAlloc ?_ _ | ((with_reducible refine Ext.pSet ?_ ?_ _); rotate_left; (simp <;> omega)) | with_reducible refine Ext.pDrew ?_ | with_reducible refine Ext.pDrewN ?_ _), by (try simp only [reduceIte, Bool.false_eq_true, false_and, not_false_eq_true, and_true, and_self, true_and, List.append_nil, List.nil_append]); exact Cd.own.wide (lo := w.heap.size + 1) (hi := w.heap.size + 1 + 1) (by repeat (first | with_reducible assumption | with_reducible refine Cd.own.pAlloc ?_ _ | with_reducible refine Cd.own.pDrew ?_ | with_reducible refine Cd.own.pDrewN ?_ _ | ((with_reducible refine Cd.own.pSet ?_ ?_ _); rotate_left; (simp <;> omega)))) (by omega) (by first | omega | (simp <;> omega))⟩
        · rw [show ((if false = true then [r1] else []) ++ (if true = true ∧ ¬ (false = true ∧ r1 = r2) then [r2] else [])) = [r2] from by simp]
          go_enter Try.func16, Try.ntmps16
          go_wp2_with fail
          refine (specTwoOk_c _ (d, d') _ (twoC.vext HT.out (by repeat (first | with_reducible exact Ext.refl _ | with_reducible assumption | with_reducible refine Ext.pAlloc ?_ _ | ((with_reducible refine Ext.pSet ?_ ?_ _); rotate_left; (simp <;> omega)) | with_reducible refine Ext.pDrew ?_ | with_reducible refine Ext.pDrewN ?_ _)))).mono ?_
          rw [Ht.out]
          rintro e w1 ⟨rfl, Ew1⟩
          have Xw1 : Ext w w1 := Ext.trans (by repeat (first | with_reducible exact Ext.refl _ | with_reducible assumption | with_reducible refine Ext.pAlloc ?_ _ | ((with_reducible refine Ext.pSet ?_ ?_ _); rotate_left; (simp <;> omega)) | with_reducible refine Ext.pDrew ?_ | with_reducible refine Ext.pDrewN ?_ _)) Ew1
          have zw1 : w.heap.size + 1 + 1 ≤ w1.heap.size := by have := Ew1.size; (try simp at this); omega
          have B_t' : Bx w1 w.heap.size [.slice ua d.1.length uc, .slice va d.2.length vc, .slice ua' d'.1.length uc', .slice va' d'.2.length vc'] := Bx.ext (by repeat (first | with_reducible assumption | with_reducible exact Bx.new _ _ _ _ rfl | ((with_reducible refine Bx.new _ _ _ _ ?_); simp; done) | with_reducible refine Bx.pAlloc ?_ _ | with_reducible refine Bx.pDrew ?_ | with_reducible refine Bx.pDrewN ?_ _ | with_reducible apply Bx.set10 | with_reducible apply Bx.set20 | with_reducible apply Bx.set21 | with_reducible apply Bx.set30 | with_reducible apply Bx.set31 | with_reducible apply Bx.set32 | with_reducible apply Bx.set40 | with_reducible apply Bx.set41 | with_reducible apply Bx.set42 | with_reducible apply Bx.set43 | ((with_reducible refine Bx.set_other ?_ ?_ _); rotate_left; (simp <;> omega)))) Ew1
          have B_e' : Bx w1 (w.heap.size + 1) [] := Bx.ext (by repeat (first | with_reducible assumption | with_reducible exact Bx.new _ _ _ _ rfl | ((with_reducible refine Bx.new _ _ _ _ ?_); simp; done) | with_reducible refine Bx.pAlloc ?_ _ | with_reducible refine Bx.pDrew ?_ | with_reducible refine Bx.pDrewN ?_ _ | with_reducible apply Bx.set10 | with_reducible apply Bx.set20 | with_reducible apply Bx.set21 | with_reducible apply Bx.set30 | with_reducible apply Bx.set31 | with_reducible apply Bx.set32 | with_reducible apply Bx.set40 | with_reducible apply Bx.set41 | with_reducible apply Bx.set42 | with_reducible apply Bx.set43 | ((with_reducible refine Bx.set_other ?_ ?_ _); rotate_left; (simp <;> omega)))) Ew1
          have B_t := B_t'; clear B_t'
          have B_e := B_e'; clear B_e'
          clear Ew1
          have c_t_0 := B_t.cell 0 _ rfl
          have c_t_1 := B_t.cell 1 _ rfl
          have c_t_2 := B_t.cell 2 _ rfl
          have c_t_3 := B_t.cell 3 _ rfl
          have n_t := B_t.lt
          have n_e := B_e.lt
          go_wp2_with fail
          refine (l3Has_c _ d _ _ (diskC.vext H.out.1 (by repeat (first | with_reducible exact Ext.refl _ | with_reducible assumption | with_reducible refine Ext.pAlloc ?_ _ | ((with_reducible refine Ext.pSet ?_ ?_ _); rotate_left; (simp <;> omega)) | with_reducible refine Ext.pDrew ?_ | with_reducible refine Ext.pDrewN ?_ _)))).mono ?_
          rw [Hs.out]
          rintro e w2 ⟨rfl, Ew2⟩
          have Xw2 : Ext w w2 := Ext.trans (by repeat (first | with_reducible exact Ext.refl _ | with_reducible assumption | with_reducible refine Ext.pAlloc ?_ _ | ((with_reducible refine Ext.pSet ?_ ?_ _); rotate_left; (simp <;> omega)) | with_reducible refine Ext.pDrew ?_ | with_reducible refine Ext.pDrewN ?_ _)) Ew2
          have zw2 : w1.heap.size ≤ w2.heap.size := by have := Ew2.size; (try simp at this); omega
          have B_t' : Bx w2 w.heap.size [.slice ua d.1.length uc, .slice va d.2.length vc, .slice ua' d'.1.length uc', .slice va' d'.2.length vc'] := Bx.ext (by repeat (first | with_reducible assumption | with_reducible exact Bx.new _ _ _ _ rfl | ((with_reducible refine Bx.new _ _ _ _ ?_); simp; done) | with_reducible refine Bx.pAlloc ?_ _ | with_reducible refine Bx.pDrew ?_ | with_reducible refine Bx.pDrewN ?_ _ | with_reducible apply Bx.set10 | with_reducible apply Bx.set20 | with_reducible apply Bx.set21 | with_reducible apply Bx.set30 | with_reducible apply Bx.set31 | with_reducible apply Bx.set32 | with_reducible apply Bx.set40 | with_reducible apply Bx.set41 | with_reducible apply Bx.set42 | with_reducible apply Bx.set43 | ((with_reducible refine Bx.set_other ?_ ?_ _); rotate_left; (simp <;> omega)))) Ew2
          have B_e' : Bx w2 (w.heap.size + 1) [] := Bx.ext (by repeat (first | with_reducible assumption | with_reducible exact Bx.new _ _ _ _ rfl | ((with_reducible refine Bx.new _ _ _ _ ?_); simp; done) | with_reducible refine Bx.pAlloc ?_ _ | with_reducible refine Bx.pDrew ?_ | with_reducible refine Bx.pDrewN ?_ _ | with_reducible apply Bx.set10 | with_reducible apply Bx.set20 | with_reducible apply Bx.set21 | with_reducible apply Bx.set30 | with_reducible apply Bx.set31 | with_reducible apply Bx.set32 | with_reducible apply Bx.set40 | with_reducible apply Bx.set41 | with_reducible apply Bx.set42 | with_reducible apply Bx.set43 | ((with_reducible refine Bx.set_other ?_ ?_ _); rotate_left; (simp <;> omega)))) Ew2
          clear c_t_0 c_t_1 c_t_2 c_t_3 n_t n_e
          clear B_t
          have B_t := B_t'; clear B_t'
          clear B_e
          have B_e := B_e'; clear B_e'
          clear Ew2 Xw1
          have c_t_0 := B_t.cell 0 _ rfl
          have c_t_1 := B_t.cell 1 _ rfl
          have c_t_2 := B_t.cell 2 _ rfl
          have c_t_3 := B_t.cell 3 _ rfl
          have n_t := B_t.lt
          have n_e := B_e.lt
          have O_k : rowsC.own (w.heap.size + 1) (w.heap.size + 1 + 1) w2 [.slice (some ⟨w.heap.size + 1, 0, none⟩) 0 0] [] := own_of_empty B_e
          clear B_e
          clear n_e
          go_wp2_with fail
          refine (specReadAt_c _ d n _ (diskC.vext H.out.1 (by repeat (first | with_reducible exact Ext.refl _ | with_reducible assumption | with_reducible refine Ext.pAlloc ?_ _ | ((with_reducible refine Ext.pSet ?_ ?_ _); rotate_left; (simp <;> omega)) | with_reducible refine Ext.pDrew ?_ | with_reducible refine Ext.pDrewN ?_ _)))).mono ?_
          rw [HF1.out]
          rintro e w3 ⟨f1, rfl, Ew3, O_f1⟩
          obtain ⟨fa1, fc1, rfl⟩ := u_slice O_f1.view
          have Xw3 : Ext w w3 := Ext.trans (by repeat (first | with_reducible exact Ext.refl _ | with_reducible assumption | with_reducible refine Ext.pAlloc ?_ _ | ((with_reducible refine Ext.pSet ?_ ?_ _); rotate_left; (simp <;> omega)) | with_reducible refine Ext.pDrew ?_ | with_reducible refine Ext.pDrewN ?_ _)) Ew3
          have zw3 : w2.heap.size ≤ w3.heap.size := by have := Ew3.size; (try simp at this); omega
          have B_t' : Bx w3 w.heap.size [.slice ua d.1.length uc, .slice va d.2.length vc, .slice ua' d'.1.length uc', .slice va' d'.2.length vc'] := Bx.ext (by repeat (first | with_reducible assumption | with_reducible exact Bx.new _ _ _ _ rfl | ((with_reducible refine Bx.new _ _ _ _ ?_); simp; done) | with_reducible refine Bx.pAlloc ?_ _ | with_reducible refine Bx.pDrew ?_ | with_reducible refine Bx.pDrewN ?_ _ | with_reducible apply Bx.set10 | with_reducible apply Bx.set20 | with_reducible apply Bx.set21 | with_reducible apply Bx.set30 | with_reducible apply Bx.set31 | with_reducible apply Bx.set32 | with_reducible apply Bx.set40 | with_reducible apply Bx.set41 | with_reducible apply Bx.set42 | with_reducible apply Bx.set43 | ((with_reducible refine Bx.set_other ?_ ?_ _); rotate_left; (simp <;> omega)))) Ew3
          have O_k' : (rowsC).own (w.heap.size + 1) (w.heap.size + 1 + 1) w3 [.slice (some ⟨w.heap.size + 1, 0, none⟩) 0 0] ([]) := Cd.own.ext (by repeat (first | with_reducible assumption | with_reducible refine Cd.own.pAlloc ?_ _ | with_reducible refine Cd.own.pDrew ?_ | with_reducible refine Cd.own.pDrewN ?_ _ | ((with_reducible refine Cd.own.pSet ?_ ?_ _); rotate_left; (simp <;> omega)))) Ew3
          clear c_t_0 c_t_1 c_t_2 c_t_3 n_t
          clear B_t
          have B_t := B_t'; clear B_t'
          clear O_k; have O_k := O_k'; clear O_k'
          replace O_f1 := O_f1.wide (lo' := w2.heap.size) (hi' := w3.heap.size) (by first | omega | (simp <;> omega)) (Nat.le_refl _)
          clear Ew3 Xw2
          have c_t_0 := B_t.cell 0 _ rfl
          have c_t_1 := B_t.cell 1 _ rfl
          have c_t_2 := B_t.cell 2 _ rfl
          have c_t_3 := B_t.cell 3 _ rfl
          have n_t := B_t.lt
          go_wp2_with fail
          refine (specReadAt_c _ d' n _ (diskC.vext H.out.2 (by repeat (first | with_reducible exact Ext.refl _ | with_reducible assumption | with_reducible refine Ext.pAlloc ?_ _ | ((with_reducible refine Ext.pSet ?_ ?_ _); rotate_left; (simp <;> omega)) | with_reducible refine Ext.pDrew ?_ | with_reducible refine Ext.pDrewN ?_ _)))).mono ?_
          rw [HF2.out]
          rintro e w4 ⟨f2, rfl, Ew4, O_f2⟩
          obtain ⟨fa2, fc2, rfl⟩ := u_slice O_f2.view
          have Xw4 : Ext w w4 := Ext.trans (by repeat (first | with_reducible exact Ext.refl _ | with_reducible assumption | with_reducible refine Ext.pAlloc ?_ _ | ((with_reducible refine Ext.pSet ?_ ?_ _); rotate_left; (simp <;> omega)) | with_reducible refine Ext.pDrew ?_ | with_reducible refine Ext.pDrewN ?_ _)) Ew4
          have zw4 : w3.heap.size ≤ w4.heap.size := by have := Ew4.size; (try simp at this); omega
          have B_t' : Bx w4 w.heap.size [.slice ua d.1.length uc, .slice va d.2.length vc, .slice ua' d'.1.length uc', .slice va' d'.2.length vc'] := Bx.ext (by repeat (first | with_reducible assumption | with_reducible exact Bx.new _ _ _ _ rfl | ((with_reducible refine Bx.new _ _ _ _ ?_); simp; done) | with_reducible refine Bx.pAlloc ?_ _ | with_reducible refine Bx.pDrew ?_ | with_reducible refine Bx.pDrewN ?_ _ | with_reducible apply Bx.set10 | with_reducible apply Bx.set20 | with_reducible apply Bx.set21 | with_reducible apply Bx.set30 | with_reducible apply Bx.set31 | with_reducible apply Bx.set32 | with_reducible apply Bx.set40 | with_reducible apply Bx.set41 | with_reducible apply Bx.set42 | with_reducible apply Bx.set43 | ((with_reducible refine Bx.set_other ?_ ?_ _); rotate_left; (simp <;> omega)))) Ew4
          have O_k' : (rowsC).own (w.heap.size + 1) (w.heap.size + 1 + 1) w4 [.slice (some ⟨w.heap.size + 1, 0, none⟩) 0 0] ([]) := Cd.own.ext (by repeat (first | with_reducible assumption | with_reducible refine Cd.own.pAlloc ?_ _ | with_reducible refine Cd.own.pDrew ?_ | with_reducible refine Cd.own.pDrewN ?_ _ | ((with_reducible refine Cd.own.pSet ?_ ?_ _); rotate_left; (simp <;> omega)))) Ew4
          have O_f1' : (rowC).own (w2.heap.size) (w3.heap.size) w4 [.slice fa1 F1.length fc1] (F1) := Cd.own.ext (by repeat (first | with_reducible assumption | with_reducible refine Cd.own.pAlloc ?_ _ | with_reducible refine Cd.own.pDrew ?_ | with_reducible refine Cd.own.pDrewN ?_ _ | ((with_reducible refine Cd.own.pSet ?_ ?_ _); rotate_left; (simp <;> omega)))) Ew4
          clear c_t_0 c_t_1 c_t_2 c_t_3 n_t
          clear B_t
          have B_t := B_t'; clear B_t'
          clear O_k; have O_k := O_k'; clear O_k'
          clear O_f1; have O_f1 := O_f1'; clear O_f1'
          replace O_f2 := O_f2.wide (lo' := w3.heap.size) (hi' := w4.heap.size) (by first | omega | (simp <;> omega)) (Nat.le_refl _)
          clear Ew4 Xw3
          have c_t_0 := B_t.cell 0 _ rfl
          have c_t_1 := B_t.cell 1 _ rfl
          have c_t_2 := B_t.cell 2 _ rfl
          have c_t_3 := B_t.cell 3 _ rfl
          have n_t := B_t.lt
          go_wp2_with fail
          refine (specUnsummed_c _ F1 _ (Cd.own.view (R := rowC) (lo := w2.heap.size) (hi := w3.heap.size) (by repeat (first | with_reducible assumption | with_reducible refine Cd.own.pAlloc ?_ _ | with_reducible refine Cd.own.pDrew ?_ | with_reducible refine Cd.own.pDrewN ?_ _ | ((with_reducible refine Cd.own.pSet ?_ ?_ _); rotate_left; (simp <;> omega)))))).mono ?_
          rw [HU1.out]
          rintro e w5 ⟨g1, rfl, Ew5, O_r1⟩
          obtain ⟨ra1, rc1, rfl⟩ := u_slice O_r1.view
          have Xw5 : Ext w w5 := Ext.trans (by repeat (first | with_reducible exact Ext.refl _ | with_reducible assumption | with_reducible refine Ext.pAlloc ?_ _ | ((with_reducible refine Ext.pSet ?_ ?_ _); rotate_left; (simp <;> omega)) | with_reducible refine Ext.pDrew ?_ | with_reducible refine Ext.pDrewN ?_ _)) Ew5
          have zw5 : w4.heap.size ≤ w5.heap.size := by have := Ew5.size; (try simp at this); omega
          have B_t' : Bx w5 w.heap.size [.slice ua d.1.length uc, .slice va d.2.length vc, .slice ua' d'.1.length uc', .slice va' d'.2.length vc'] := Bx.ext (by repeat (first | with_reducible assumption | with_reducible exact Bx.new _ _ _ _ rfl | ((with_reducible refine Bx.new _ _ _ _ ?_); simp; done) | with_reducible refine Bx.pAlloc ?_ _ | with_reducible refine Bx.pDrew ?_ | with_reducible refine Bx.pDrewN ?_ _ | with_reducible apply Bx.set10 | with_reducible apply Bx.set20 | with_reducible apply Bx.set21 | with_reducible apply Bx.set30 | with_reducible apply Bx.set31 | with_reducible apply Bx.set32 | with_reducible apply Bx.set40 | with_reducible apply Bx.set41 | with_reducible apply Bx.set42 | with_reducible apply Bx.set43 | ((with_reducible refine Bx.set_other ?_ ?_ _); rotate_left; (simp <;> omega)))) Ew5
          have O_k' : (rowsC).own (w.heap.size + 1) (w.heap.size + 1 + 1) w5 [.slice (some ⟨w.heap.size + 1, 0, none⟩) 0 0] ([]) := Cd.own.ext (by repeat (first | with_reducible assumption | with_reducible refine Cd.own.pAlloc ?_ _ | with_reducible refine Cd.own.pDrew ?_ | with_reducible refine Cd.own.pDrewN ?_ _ | ((with_reducible refine Cd.own.pSet ?_ ?_ _); rotate_left; (simp <;> omega)))) Ew5
          have O_f1' : (rowC).own (w2.heap.size) (w3.heap.size) w5 [.slice fa1 F1.length fc1] (F1) := Cd.own.ext (by repeat (first | with_reducible assumption | with_reducible refine Cd.own.pAlloc ?_ _ | with_reducible refine Cd.own.pDrew ?_ | with_reducible refine Cd.own.pDrewN ?_ _ | ((with_reducible refine Cd.own.pSet ?_ ?_ _); rotate_left; (simp <;> omega)))) Ew5
          have O_f2' : (rowC).own (w3.heap.size) (w4.heap.size) w5 [.slice fa2 F2.length fc2] (F2) := Cd.own.ext (by repeat (first | with_reducible assumption | with_reducible refine Cd.own.pAlloc ?_ _ | with_reducible refine Cd.own.pDrew ?_ | with_reducible refine Cd.own.pDrewN ?_ _ | ((with_reducible refine Cd.own.pSet ?_ ?_ _); rotate_left; (simp <;> omega)))) Ew5
          clear c_t_0 c_t_1 c_t_2 c_t_3 n_t
          clear B_t
          have B_t := B_t'; clear B_t'
          clear O_k; have O_k := O_k'; clear O_k'
          clear O_f1; have O_f1 := O_f1'; clear O_f1'
          clear O_f2; have O_f2 := O_f2'; clear O_f2'
          replace O_r1 := O_r1.wide (lo' := w4.heap.size) (hi' := w5.heap.size) (by first | omega | (simp <;> omega)) (Nat.le_refl _)
          clear Ew5 Xw4
          have c_t_0 := B_t.cell 0 _ rfl
          have c_t_1 := B_t.cell 1 _ rfl
          have c_t_2 := B_t.cell 2 _ rfl
          have c_t_3 := B_t.cell 3 _ rfl
          have n_t := B_t.lt
          go_wp2_with fail
          refine (specUnsummed_c _ F2 _ (Cd.own.view (R := rowC) (lo := w3.heap.size) (hi := w4.heap.size) (by repeat (first | with_reducible assumption | with_reducible refine Cd.own.pAlloc ?_ _ | with_reducible refine Cd.own.pDrew ?_ | with_reducible refine Cd.own.pDrewN ?_ _ | ((with_reducible refine Cd.own.pSet ?_ ?_ _); rotate_left; (simp <;> omega)))))).mono ?_
          rw [HU2.out]
          rintro e w6 ⟨g2, rfl, Ew6, O_r2⟩
          obtain ⟨ra2, rc2, rfl⟩ := u_slice O_r2.view
          have Xw6 : Ext w w6 := Ext.trans (by repeat (first | with_reducible exact Ext.refl _ | with_reducible assumption | with_reducible refine Ext.pAlloc ?_ _ | ((with_reducible refine Ext.pSet ?_ ?_ _); rotate_left; (simp <;> omega)) | with_reducible refine Ext.pDrew ?_ | with_reducible refine Ext.pDrewN ?_ _)) Ew6
          have zw6 : w5.heap.size ≤ w6.heap.size := by have := Ew6.size; (try simp at this); omega
          have B_t' : Bx w6 w.heap.size [.slice ua d.1.length uc, .slice va d.2.length vc, .slice ua' d'.1.length uc', .slice va' d'.2.length vc'] := Bx.ext (by repeat (first | with_reducible assumption | with_reducible exact Bx.new _ _ _ _ rfl | ((with_reducible refine Bx.new _ _ _ _ ?_); simp; done) | with_reducible refine Bx.pAlloc ?_ _ | with_reducible refine Bx.pDrew ?_ | with_reducible refine Bx.pDrewN ?_ _ | with_reducible apply Bx.set10 | with_reducible apply Bx.set20 | with_reducible apply Bx.set21 | with_reducible apply Bx.set30 | with_reducible apply Bx.set31 | with_reducible apply Bx.set32 | with_reducible apply Bx.set40 | with_reducible apply Bx.set41 | with_reducible apply Bx.set42 | with_reducible apply Bx.set43 | ((with_reducible refine Bx.set_other ?_ ?_ _); rotate_left; (simp <;> omega)))) Ew6
          have O_k' : (rowsC).own (w.heap.size + 1) (w.heap.size + 1 + 1) w6 [.slice (some ⟨w.heap.size + 1, 0, none⟩) 0 0] ([]) := Cd.own.ext (by repeat (first | with_reducible assumption | with_reducible refine Cd.own.pAlloc ?_ _ | with_reducible refine Cd.own.pDrew ?_ | with_reducible refine Cd.own.pDrewN ?_ _ | ((with_reducible refine Cd.own.pSet ?_ ?_ _); rotate_left; (simp <;> omega)))) Ew6
          have O_f1' : (rowC).own (w2.heap.size) (w3.heap.size) w6 [.slice fa1 F1.length fc1] (F1) := Cd.own.ext (by repeat (first | with_reducible assumption | with_reducible refine Cd.own.pAlloc ?_ _ | with_reducible refine Cd.own.pDrew ?_ | with_reducible refine Cd.own.pDrewN ?_ _ | ((with_reducible refine Cd.own.pSet ?_ ?_ _); rotate_left; (simp <;> omega)))) Ew6
          have O_f2' : (rowC).own (w3.heap.size) (w4.heap.size) w6 [.slice fa2 F2.length fc2] (F2) := Cd.own.ext (by repeat (first | with_reducible assumption | with_reducible refine Cd.own.pAlloc ?_ _ | with_reducible refine Cd.own.pDrew ?_ | with_reducible refine Cd.own.pDrewN ?_ _ | ((with_reducible refine Cd.own.pSet ?_ ?_ _); rotate_left; (simp <;> omega)))) Ew6
          have O_r1' : (rowC).own (w4.heap.size) (w5.heap.size) w6 [.slice ra1 r1.length rc1] (r1) := Cd.own.ext (by repeat (first | with_reducible assumption | with_reducible refine Cd.own.pAlloc ?_ _ | with_reducible refine Cd.own.pDrew ?_ | with_reducible refine Cd.own.pDrewN ?_ _ | ((with_reducible refine Cd.own.pSet ?_ ?_ _); rotate_left; (simp <;> omega)))) Ew6
          clear c_t_0 c_t_1 c_t_2 c_t_3 n_t
          clear B_t
          have B_t := B_t'; clear B_t'
          clear O_k; have O_k := O_k'; clear O_k'
          clear O_f1; have O_f1 := O_f1'; clear O_f1'
          clear O_f2; have O_f2 := O_f2'; clear O_f2'
          clear O_r1; have O_r1 := O_r1'; clear O_r1'
          replace O_r2 := O_r2.wide (lo' := w5.heap.size) (hi' := w6.heap.size) (by first | omega | (simp <;> omega)) (Nat.le_refl _)
          clear Ew6 Xw5
          have c_t_0 := B_t.cell 0 _ rfl
          have c_t_1 := B_t.cell 1 _ rfl
          have c_t_2 := B_t.cell 2 _ rfl
          have c_t_3 := B_t.cell 3 _ rfl
          have n_t := B_t.lt
          go_wp2_with (at_builtin; refine wpList_snocC (R := rowC) (y := r2) (lo' := w5.heap.size) (hi' := w6.heap.size) rfl _ _ _ rfl 44 _ 24 Try.underlying22 Hinr.out rfl (Cd.own.pAlloc O_k _) rfl (Cd.own.pAlloc O_r2 _) (by omega) (by omega) (by simp; omega) _ _ rfl (CellsAt.lit _ _ _) (by simp) ?_)
          intro v_w7 w7 ka2 kc2 hv_w7 O_n C_w7
          subst hv_w7
          have Xw7 : Ext w w7 := Chg.ext (by repeat (first | with_reducible exact Ext.refl _ | with_reducible assumption | with_reducible refine Ext.pAlloc ?_ _ | ((with_reducible refine Ext.pSet ?_ ?_ _); rotate_left; (simp <;> omega)) | with_reducible refine Ext.pDrew ?_ | with_reducible refine Ext.pDrewN ?_ _)) C_w7 (by omega)
          have zw7 : w6.heap.size + 1 ≤ w7.heap.size := by have := C_w7.size; (try simp at this); omega
          have B_t' : Bx w7 w.heap.size [.slice ua d.1.length uc, .slice va d.2.length vc, .slice ua' d'.1.length uc', .slice va' d'.2.length vc'] := Bx.chg (by repeat (first | with_reducible assumption | with_reducible exact Bx.new _ _ _ _ rfl | ((with_reducible refine Bx.new _ _ _ _ ?_); simp; done) | with_reducible refine Bx.pAlloc ?_ _ | with_reducible refine Bx.pDrew ?_ | with_reducible refine Bx.pDrewN ?_ _ | with_reducible apply Bx.set10 | with_reducible apply Bx.set20 | with_reducible apply Bx.set21 | with_reducible apply Bx.set30 | with_reducible apply Bx.set31 | with_reducible apply Bx.set32 | with_reducible apply Bx.set40 | with_reducible apply Bx.set41 | with_reducible apply Bx.set42 | with_reducible apply Bx.set43 | ((with_reducible refine Bx.set_other ?_ ?_ _); rotate_left; (simp <;> omega)))) C_w7 (by omega)
          have O_r1' : (rowC).own (w4.heap.size) (w5.heap.size) w7 [.slice ra1 r1.length rc1] (r1) := Cd.own.chg (by repeat (first | with_reducible assumption | with_reducible refine Cd.own.pAlloc ?_ _ | with_reducible refine Cd.own.pDrew ?_ | with_reducible refine Cd.own.pDrewN ?_ _ | ((with_reducible refine Cd.own.pSet ?_ ?_ _); rotate_left; (simp <;> omega)))) C_w7 (by omega)
          clear c_t_0 c_t_1 c_t_2 c_t_3 n_t
          clear B_t
          have B_t := B_t'; clear B_t'
          clear O_r1; have O_r1 := O_r1'; clear O_r1'
          clear C_w7 Xw6
          have c_t_0 := B_t.cell 0 _ rfl
          have c_t_1 := B_t.cell 1 _ rfl
          have c_t_2 := B_t.cell 2 _ rfl
          have c_t_3 := B_t.cell 3 _ rfl
          have n_t := B_t.lt
          clear O_k; have O_k : rowsC.own (w.heap.size + 1) w7.heap.size w7 [.slice ka2 (0 + 1) kc2] [r2] := O_n; clear O_n
          go_wp2
          go_ret
          exact ⟨.slice ka2 (0 + 1) kc2, rfl, by repeat (first | with_reducible exact Ext.refl _ | with_reducible assumption | with_reducible refine Ext.pAlloc ?_ _ | ((with_reducible refine Ext.pSet ?_ ?_ _); rotate_left; (simp <;> omega)) | with_reducible refine Ext.pDrew ?_ | with_reducible refine Ext.pDrewN ?_ _), by (try simp only [reduceIte, Bool.false_eq_true, false_and, not_false_eq_true, and_true, and_self, true_and, List.append_nil, List.nil_append]); exact Cd.own.wide (lo := w.heap.size + 1) (hi := w7.heap.size) (by repeat (first | with_reducible assumption | with_reducible refine Cd.own.pAlloc ?_ _ | with_reducible refine Cd.own.pDrew ?_ | with_reducible refine Cd.own.pDrewN ?_ _ | ((with_reducible refine Cd.own.pSet ?_ ?_ _); rotate_left; (simp <;> omega)))) (by omega) (by first | omega | (simp <;> omega))⟩
      · cases o2
        · rw [show ((if true = true then [r1] else []) ++ (if false = true ∧ ¬ (true = true ∧ r1 = r2) then [r2] else [])) = [r1] from by simp]
          go_enter Try.func16, Try.ntmps16
          go_wp2_with fail
          refine (specTwoOk_c _ (d, d') _ (twoC.vext HT.out (by repeat (first | with_reducible exact Ext.refl _ | with_reducible assumption | with_reducible refine Ext.pAlloc ?_ _ | ((with_reducible refine Ext.pSet ?_ ?_ _); rotate_left; (simp <;> omega)) | with_reducible refine Ext.pDrew ?_ | with_reducible refine Ext.pDrewN ?_ _)))).mono ?_
          rw [Ht.out]
          rintro e w1 ⟨rfl, Ew1⟩
          have Xw1 : Ext w w1 := Ext.trans (by repeat (first | with_reducible exact Ext.refl _ | with_reducible assumption | with_reducible refine Ext.pAlloc ?_ _ | ((with_reducible refine Ext.pSet ?_ ?_ _); rotate_left; (simp <;> omega)) | with_reducible refine Ext.pDrew ?_ | with_reducible refine Ext.pDrewN ?_ _)) Ew1
          have zw1 : w.heap.size + 1 + 1 ≤ w1.heap.size := by have := Ew1.size; (try simp at this); omega
          have B_t' : Bx w1 w.heap.size [.slice ua d.1.length uc, .slice va d.2.length vc, .slice ua' d'.1.length uc', .slice va' d'.2.length vc'] := Bx.ext (by repeat (first | with_reducible assumption | with_reducible exact Bx.new _ _ _ _ rfl | ((with_reducible refine Bx.new _ _ _ _ ?_); simp; done) | with_reducible refine Bx.pAlloc ?_ _ | with_reducible refine Bx.pDrew ?_ | with_reducible refine Bx.pDrewN ?_ _ | with_reducible apply Bx.set10 | with_reducible apply Bx.set20 | with_reducible apply Bx.set21 | with_reducible apply Bx.set30 | with_reducible apply Bx.set31 | with_reducible apply Bx.set32 | with_reducible apply Bx.set40 | with_reducible apply Bx.set41 | with_reducible apply Bx.set42 | with_reducible apply Bx.set43 | ((with_reducible refine Bx.set_other ?_ ?_ _); rotate_left; (simp <;> omega)))) Ew1
          have B_e' : Bx w1 (w.heap.size + 1) [] := Bx.ext (by repeat (first | with_reducible assumption | with_reducible exact Bx.new _ _ _ _ rfl | ((with_reducible refine Bx.new _ _ _ _ ?_); simp; done) | with_reducible refine Bx.pAlloc ?_ _ | with_reducible refine Bx.pDrew ?_ | with_reducible refine Bx.pDrewN ?_ _ | with_reducible apply Bx.set10 | with_reducible apply Bx.set20 | with_reducible apply Bx.set21 | with_reducible apply Bx.set30 | with_reducible apply Bx.set31 | with_reducible apply Bx.set32 | with_reducible apply Bx.set40 | with_reducible apply Bx.set41 | with_reducible apply Bx.set42 | with_reducible apply Bx.set43 | ((with_reducible refine Bx.set_other ?_ ?_ _); rotate_left; (simp <;> omega)))) Ew1
          have B_t := B_t'; clear B_t'
          have B_e := B_e'; clear B_e'
          clear Ew1
          have c_t_0 := B_t.cell 0 _ rfl
          have c_t_1 := B_t.cell 1 _ rfl
          have c_t_2 := B_t.cell 2 _ rfl
          have c_t_3 := B_t.cell 3 _ rfl
          have n_t := B_t.lt
          have n_e := B_e.lt
          go_wp2_with fail
          refine (l3Has_c _ d _ _ (diskC.vext H.out.1 (by repeat (first | with_reducible exact Ext.refl _ | with_reducible assumption | with_reducible refine Ext.pAlloc ?_ _ | ((with_reducible refine Ext.pSet ?_ ?_ _); rotate_left; (simp <;> omega)) | with_reducible refine Ext.pDrew ?_ | with_reducible refine Ext.pDrewN ?_ _)))).mono ?_
          rw [Hs.out]
          rintro e w2 ⟨rfl, Ew2⟩
          have Xw2 : Ext w w2 := Ext.trans (by repeat (first | with_reducible exact Ext.refl _ | with_reducible assumption | with_reducible refine Ext.pAlloc ?_ _ | ((with_reducible refine Ext.pSet ?_ ?_ _); rotate_left; (simp <;> omega)) | with_reducible refine Ext.pDrew ?_ | with_reducible refine Ext.pDrewN ?_ _)) Ew2
          have zw2 : w1.heap.size ≤ w2.heap.size := by have := Ew2.size; (try simp at this); omega
          have B_t' : Bx w2 w.heap.size [.slice ua d.1.length uc, .slice va d.2.length vc, .slice ua' d'.1.length uc', .slice va' d'.2.length vc'] := Bx.ext (by repeat (first | with_reducible assumption | with_reducible exact Bx.new _ _ _ _ rfl | ((with_reducible refine Bx.new _ _ _ _ ?_); simp; done) | with_reducible refine Bx.pAlloc ?_ _ | with_reducible refine Bx.pDrew ?_ | with_reducible refine Bx.pDrewN ?_ _ | with_reducible apply Bx.set10 | with_reducible apply Bx.set20 | with_reducible apply Bx.set21 | with_reducible apply Bx.set30 | with_reducible apply Bx.set31 | with_reducible apply Bx.set32 | with_reducible apply Bx.set40 | with_reducible apply Bx.set41 | with_reducible apply Bx.set42 | with_reducible apply Bx.set43 | ((with_reducible refine Bx.set_other ?_ ?_ _); rotate_left; (simp <;> omega)))) Ew2
          have B_e' : Bx w2 (w.heap.size + 1) [] := Bx.ext (by repeat (first | with_reducible assumption | with_reducible exact Bx.new _ _ _ _ rfl | ((with_reducible refine Bx.new _ _ _ _ ?_); simp; done) | with_reducible refine Bx.pAlloc ?_ _ | with_reducible refine Bx.pDrew ?_ | with_reducible refine Bx.pDrewN ?_ _ | with_reducible apply Bx.set10 | with_reducible apply Bx.set20 | with_reducible apply Bx.set21 | with_reducible apply Bx.set30 | with_reducible apply Bx.set31 | with_reducible apply Bx.set32 | with_reducible apply Bx.set40 | with_reducible apply Bx.set41 | with_reducible apply Bx.set42 | with_reducible apply Bx.set43 | ((with_reducible refine Bx.set_other ?_ ?_ _); rotate_left; (simp <;> omega)))) Ew2
          clear c_t_0 c_t_1 c_t_2 c_t_3 n_t n_e
          clear B_t
          have B_t := B_t'; clear B_t'
          clear B_e
          have B_e := B_e'; clear B_e'
          clear Ew2 Xw1
          have c_t_0 := B_t.cell 0 _ rfl
          have c_t_1 := B_t.cell 1 _ rfl
          have c_t_2 := B_t.cell 2 _ rfl
          have c_t_3 := B_t.cell 3 _ rfl
          have n_t := B_t.lt
          have n_e := B_e.lt
          have O_k : rowsC.own (w.heap.size + 1) (w.heap.size + 1 + 1) w2 [.slice (some ⟨w.heap.size + 1, 0, none⟩) 0 0] [] := own_of_empty B_e
          clear B_e
          clear n_e
          go_wp2_with fail
          refine (specReadAt_c _ d n _ (diskC.vext H.out.1 (by repeat (first | with_reducible exact Ext.refl _ | with_reducible assumption | with_reducible refine Ext.pAlloc ?_ _ | ((with_reducible refine Ext.pSet ?_ ?_ _); rotate_left; (simp <;> omega)) | with_reducible refine Ext.pDrew ?_ | with_reducible refine Ext.pDrewN ?_ _)))).mono ?_
          rw [HF1.out]
          rintro e w3 ⟨f1, rfl, Ew3, O_f1⟩
          obtain ⟨fa1, fc1, rfl⟩ := u_slice O_f1.view
          have Xw3 : Ext w w3 := Ext.trans (by repeat (first | with_reducible exact Ext.refl _ | with_reducible assumption | with_reducible refine Ext.pAlloc ?_ _ | ((with_reducible refine Ext.pSet ?_ ?_ _); rotate_left; (simp <;> omega)) | with_reducible refine Ext.pDrew ?_ | with_reducible refine Ext.pDrewN ?_ _)) Ew3
          have zw3 : w2.heap.size ≤ w3.heap.size := by have := Ew3.size; (try simp at this); omega
          have B_t' : Bx w3 w.heap.size [.slice ua d.1.length uc, .slice va d.2.length vc, .slice ua' d'.1.length uc', .slice va' d'.2.length vc'] := Bx.ext (by repeat (first | with_reducible assumption | with_reducible exact Bx.new _ _ _ _ rfl | ((with_reducible refine Bx.new _ _ _ _ ?_); simp; done) | with_reducible refine Bx.pAlloc ?_ _ | with_reducible refine Bx.pDrew ?_ | with_reducible refine Bx.pDrewN ?_ _ | with_reducible apply Bx.set10 | with_reducible apply Bx.set20 | with_reducible apply Bx.set21 | with_reducible apply Bx.set30 | with_reducible apply Bx.set31 | with_reducible apply Bx.set32 | with_reducible apply Bx.set40 | with_reducible apply Bx.set41 | with_reducible apply Bx.set42 | with_reducible apply Bx.set43 | ((with_reducible refine Bx.set_other ?_ ?_ _); rotate_left; (simp <;> omega)))) Ew3
          have O_k' : (rowsC).own (w.heap.size + 1) (w.heap.size + 1 + 1) w3 [.slice (some ⟨w.heap.size + 1, 0, none⟩) 0 0] ([]) := Cd.own.ext (by repeat (first | with_reducible assumption | with_reducible refine Cd.own.pAlloc ?_ _ | with_reducible refine Cd.own.pDrew ?_ | with_reducible refine Cd.own.pDrewN ?_ _ | ((with_reducible refine Cd.own.pSet ?_ ?_ _); rotate_left; (simp <;> omega)))) Ew3
          clear c_t_0 c_t_1 c_t_2 c_t_3 n_t
          clear B_t
          have B_t := B_t'; clear B_t'
          clear O_k; have O_k := O_k'; clear O_k'
          replace O_f1 := O_f1.wide (lo' := w2.heap.size) (hi' := w3.heap.size) (by first | omega | (simp <;> omega)) (Nat.le_refl _)
          clear Ew3 Xw2
          have c_t_0 := B_t.cell 0 _ rfl
          have c_t_1 := B_t.cell 1 _ rfl
          have c_t_2 := B_t.cell 2 _ rfl
          have c_t_3 := B_t.cell 3 _ rfl
          have n_t := B_t.lt
          go_wp2_with fail
          refine (specReadAt_c _ d' n _ (diskC.vext H.out.2 (by repeat (first | with_reducible exact Ext.refl _ | with_reducible assumption | with_reducible refine Ext.pAlloc ?_ _ | ((with_reducible refine Ext.pSet ?_ ?_ _); rotate_left; (simp <;> omega)) | with_reducible refine Ext.pDrew ?_ | with_reducible refine Ext.pDrewN ?_ _)))).mono ?_
          rw [HF2.out]
          rintro e w4 ⟨f2, rfl, Ew4, O_f2⟩
          obtain ⟨fa2, fc2, rfl⟩ := u_slice O_f2.view
          have Xw4 : Ext w w4 := Ext.trans (by repeat (first | with_reducible exact Ext.refl _ | with_reducible assumption | with_reducible refine Ext.pAlloc ?_ _ | ((with_reducible refine Ext.pSet ?_ ?_ _); rotate_left; (simp <;> omega)) | with_reducible refine Ext.pDrew ?_ | with_reducible refine Ext.pDrewN ?_ _)) Ew4
          have zw4 : w3.heap.size ≤ w4.heap.size := by have := Ew4.size; (try simp at this); omega
          have B_t' : Bx w4 w.heap.size [.slice ua d.1.length uc, .slice va d.2.length vc, .slice ua' d'.1.length uc', .slice va' d'.2.length vc'] := Bx.ext (by repeat (first | with_reducible assumption | with_reducible exact Bx.new _ _ _ _ rfl | ((with_reducible refine Bx.new _ _ _ _ ?_); simp; done) | with_reducible refine Bx.pAlloc ?_ _ | with_reducible refine Bx.pDrew ?_ | with_reducible refine Bx.pDrewN ?_ _ | with_reducible apply Bx.set10 | with_reducible apply Bx.set20 | with_reducible apply Bx.set21 | with_reducible apply Bx.set30 | with_reducible apply Bx.set31 | with_reducible apply Bx.set32 | with_reducible apply Bx.set40 | with_reducible apply Bx.set41 | with_reducible apply Bx.set42 | with_reducible apply Bx.set43 | ((with_reducible refine Bx.set_other ?_ ?_ _); rotate_left; (simp <;> omega)))) Ew4
          have O_k' : (rowsC).own (w.heap.size + 1) (w.heap.size + 1 + 1) w4 [.slice (some ⟨w.heap.size + 1, 0, none⟩) 0 0] ([]) := Cd.own.ext (by repeat (first | with_reducible assumption | with_reducible refine Cd.own.pAlloc ?_ _ | with_reducible refine Cd.own.pDrew ?_ | with_reducible refine Cd.own.pDrewN ?_ _ | ((with_reducible refine Cd.own.pSet ?_ ?_ _); rotate_left; (simp <;> omega)))) Ew4
          have O_f1' : (rowC).own (w2.heap.size) (w3.heap.size) w4 [.slice fa1 F1.length fc1] (F1) := Cd.own.ext (by repeat (first | with_reducible assumption | with_reducible refine Cd.own.pAlloc ?_ _ | with_reducible refine Cd.own.pDrew ?_ | with_reducible refine Cd.own.pDrewN ?_ _ | ((with_reducible refine Cd.own.pSet ?_ ?_ _); rotate_left; (simp <;> omega)))) Ew4
          clear c_t_0 c_t_1 c_t_2 c_t_3 n_t
          clear B_t
          have B_t := B_t'; clear B_t'
          clear O_k; have O_k := O_k'; clear O_k'
          clear O_f1; have O_f1 := O_f1'; clear O_f1'
          replace O_f2 := O_f2.wide (lo' := w3.heap.size) (hi' := w4.heap.size) (by first | omega | (simp <;> omega)) (Nat.le_refl _)
          clear Ew4 Xw3
          have c_t_0 := B_t.cell 0 _ rfl
          have c_t_1 := B_t.cell 1 _ rfl
          have c_t_2 := B_t.cell 2 _ rfl
          have c_t_3 := B_t.cell 3 _ rfl
          have n_t := B_t.lt
          go_wp2_with fail
          refine (specUnsummed_c _ F1 _ (Cd.own.view (R := rowC) (lo := w2.heap.size) (hi := w3.heap.size) (by repeat (first | with_reducible assumption | with_reducible refine Cd.own.pAlloc ?_ _ | with_reducible refine Cd.own.pDrew ?_ | with_reducible refine Cd.own.pDrewN ?_ _ | ((with_reducible refine Cd.own.pSet ?_ ?_ _); rotate_left; (simp <;> omega)))))).mono ?_
          rw [HU1.out]
          rintro e w5 ⟨g1, rfl, Ew5, O_r1⟩
          obtain ⟨ra1, rc1, rfl⟩ := u_slice O_r1.view
          have Xw5 : Ext w w5 := Ext.trans (by repeat (first | with_reducible exact Ext.refl _ | with_reducible assumption | with_reducible refine Ext.pAlloc ?_ _ | ((with_reducible refine Ext.pSet ?_ ?_ _); rotate_left; (simp <;> omega)) | with_reducible refine Ext.pDrew ?_ | with_reducible refine Ext.pDrewN ?_ _)) Ew5
          have zw5 : w4.heap.size ≤ w5.heap.size := by have := Ew5.size; (try simp at this); omega
          have B_t' : Bx w5 w.heap.size [.slice ua d.1.length uc, .slice va d.2.length vc, .slice ua' d'.1.length uc', .slice va' d'.2.length vc'] := Bx.ext (by repeat (first | with_reducible assumption | with_reducible exact Bx.new _ _ _ _ rfl | ((with_reducible refine Bx.new _ _ _ _ ?_); simp; done) | with_reducible refine Bx.pAlloc ?_ _ | with_reducible refine Bx.pDrew ?_ | with_reducible refine Bx.pDrewN ?_ _ | with_reducible apply Bx.set10 | with_reducible apply Bx.set20 | with_reducible apply Bx.set21 | with_reducible apply Bx.set30 | with_reducible apply Bx.set31 | with_reducible apply Bx.set32 | with_reducible apply Bx.set40 | with_reducible apply Bx.set41 | with_reducible apply Bx.set42 | with_reducible apply Bx.set43 | ((with_reducible refine Bx.set_other ?_ ?_ _); rotate_left; (simp <;> omega)))) Ew5
          have O_k' : (rowsC).own (w.heap.size + 1) (w.heap.size + 1 + 1) w5 [.slice (some ⟨w.heap.size + 1, 0, none⟩) 0 0] ([]) := Cd.own.ext (by repeat (first | with_reducible assumption | with_reducible refine Cd.own.pAlloc ?_ _ | with_reducible refine Cd.own.pDrew ?_ | with_reducible refine Cd.own.pDrewN ?_ _ | ((with_reducible refine Cd.own.pSet ?_ ?_ _); rotate_left; (simp <;> omega)))) Ew5
          have O_f1' : (rowC).own (w2.heap.size) (w3.heap.size) w5 [.slice fa1 F1.length fc1] (F1) := Cd.own.ext (by repeat (first | with_reducible assumption | with_reducible refine Cd.own.pAlloc ?_ _ | with_reducible refine Cd.own.pDrew ?_ | with_reducible refine Cd.own.pDrewN ?_ _ | ((with_reducible refine Cd.own.pSet ?_ ?_ _); rotate_left; (simp <;> omega)))) Ew5
          have O_f2' : (rowC).own (w3.heap.size) (w4.heap.size) w5 [.slice fa2 F2.length fc2] (F2) := Cd.own.ext (by repeat (first | with_reducible assumption | with_reducible refine Cd.own.pAlloc ?_ _ | with_reducible refine Cd.own.pDrew ?_ | with_reducible refine Cd.own.pDrewN ?_ _ | ((with_reducible refine Cd.own.pSet ?_ ?_ _); rotate_left; (simp <;> omega)))) Ew5
          clear c_t_0 c_t_1 c_t_2 c_t_3 n_t
          clear B_t
          have B_t := B_t'; clear B_t'
          clear O_k; have O_k := O_k'; clear O_k'
          clear O_f1; have O_f1 := O_f1'; clear O_f1'
          clear O_f2; have O_f2 := O_f2'; clear O_f2'
          replace O_r1 := O_r1.wide (lo' := w4.heap.size) (hi' := w5.heap.size) (by first | omega | (simp <;> omega)) (Nat.le_refl _)
          clear Ew5 Xw4
          have c_t_0 := B_t.cell 0 _ rfl
          have c_t_1 := B_t.cell 1 _ rfl
          have c_t_2 := B_t.cell 2 _ rfl
          have c_t_3 := B_t.cell 3 _ rfl
          have n_t := B_t.lt
          go_wp2_with fail
          refine (specUnsummed_c _ F2 _ (Cd.own.view (R := rowC) (lo := w3.heap.size) (hi := w4.heap.size) (by repeat (first | with_reducible assumption | with_reducible refine Cd.own.pAlloc ?_ _ | with_reducible refine Cd.own.pDrew ?_ | with_reducible refine Cd.own.pDrewN ?_ _ | ((with_reducible refine Cd.own.pSet ?_ ?_ _); rotate_left; (simp <;> omega)))))).mono ?_
          rw [HU2.out]
          rintro e w6 ⟨g2, rfl, Ew6, O_r2⟩
          obtain ⟨ra2, rc2, rfl⟩ := u_slice O_r2.view
          have Xw6 : Ext w w6 := Ext.trans (by repeat (first | with_reducible exact Ext.refl _ | with_reducible assumption | with_reducible refine Ext.pAlloc ?_ _ | ((with_reducible refine Ext.pSet ?_ ?_ _); rotate_left; (simp <;> omega)) | with_reducible refine Ext.pDrew ?_ | with_reducible refine Ext.pDrewN ?_ _)) Ew6
          have zw6 : w5.heap.size ≤ w6.heap.size := by have := Ew6.size; (try simp at this); omega
          have B_t' : Bx w6 w.heap.size [.slice ua d.1.length uc, .slice va d.2.length vc, .slice ua' d'.1.length uc', .slice va' d'.2.length vc'] := Bx.ext (by repeat (first | with_reducible assumption | with_reducible exact Bx.new _ _ _ _ rfl | ((with_reducible refine Bx.new _ _ _ _ ?_); simp; done) | with_reducible refine Bx.pAlloc ?_ _ | with_reducible refine Bx.pDrew ?_ | with_reducible refine Bx.pDrewN ?_ _ | with_reducible apply Bx.set10 | with_reducible apply Bx.set20 | with_reducible apply Bx.set21 | with_reducible apply Bx.set30 | with_reducible apply Bx.set31 | with_reducible apply Bx.set32 | with_reducible apply Bx.set40 | with_reducible apply Bx.set41 | with_reducible apply Bx.set42 | with_reducible apply Bx.set43 | ((with_reducible refine Bx.set_other ?_ ?_ _); rotate_left; (simp <;> omega)))) Ew6
          have O_k' : (rowsC).own (w.heap.size + 1) (w.heap.size + 1 + 1) w6 [.slice (some ⟨w.heap.size + 1, 0, none⟩) 0 0] ([]) := Cd.own.ext (by repeat (first | with_reducible assumption | with_reducible refine Cd.own.pAlloc ?_ _ | with_reducible refine Cd.own.pDrew ?_ | with_reducible refine Cd.own.pDrewN ?_ _ | ((with_reducible refine Cd.own.pSet ?_ ?_ _); rotate_left; (simp <;> omega)))) Ew6
          have O_f1' : (rowC).own (w2.heap.size) (w3.heap.size) w6 [.slice fa1 F1.length fc1] (F1) := Cd.own.ext (by repeat (first | with_reducible assumption | with_reducible refine Cd.own.pAlloc ?_ _ | with_reducible refine Cd.own.pDrew ?_ | with_reducible refine Cd.own.pDrewN ?_ _ | ((with_reducible refine Cd.own.pSet ?_ ?_ _); rotate_left; (simp <;> omega)))) Ew6
          have O_f2' : (rowC).own (w3.heap.size) (w4.heap.size) w6 [.slice fa2 F2.length fc2] (F2) := Cd.own.ext (by repeat (first | with_reducible assumption | with_reducible refine Cd.own.pAlloc ?_ _ | with_reducible refine Cd.own.pDrew ?_ | with_reducible refine Cd.own.pDrewN ?_ _ | ((with_reducible refine Cd.own.pSet ?_ ?_ _); rotate_left; (simp <;> omega)))) Ew6
          have O_r1' : (rowC).own (w4.heap.size) (w5.heap.size) w6 [.slice ra1 r1.length rc1] (r1) := Cd.own.ext (by repeat (first | with_reducible assumption | with_reducible refine Cd.own.pAlloc ?_ _ | with_reducible refine Cd.own.pDrew ?_ | with_reducible refine Cd.own.pDrewN ?_ _ | ((with_reducible refine Cd.own.pSet ?_ ?_ _); rotate_left; (simp <;> omega)))) Ew6
          clear c_t_0 c_t_1 c_t_2 c_t_3 n_t
          clear B_t
          have B_t := B_t'; clear B_t'
          clear O_k; have O_k := O_k'; clear O_k'
          clear O_f1; have O_f1 := O_f1'; clear O_f1'
          clear O_f2; have O_f2 := O_f2'; clear O_f2'
          clear O_r1; have O_r1 := O_r1'; clear O_r1'
          replace O_r2 := O_r2.wide (lo' := w5.heap.size) (hi' := w6.heap.size) (by first | omega | (simp <;> omega)) (Nat.le_refl _)
          clear Ew6 Xw5
          have c_t_0 := B_t.cell 0 _ rfl
          have c_t_1 := B_t.cell 1 _ rfl
          have c_t_2 := B_t.cell 2 _ rfl
          have c_t_3 := B_t.cell 3 _ rfl
          have n_t := B_t.lt
          go_wp2_with (at_builtin; refine wpList_snocC (R := rowC) (y := r1) (lo' := w4.heap.size) (hi' := w5.heap.size) rfl _ _ _ rfl 44 _ 24 Try.underlying22 Hinr.out rfl (Cd.own.pAlloc O_k _) rfl (Cd.own.pAlloc O_r1 _) (by omega) (by omega) (by simp; omega) _ _ rfl (CellsAt.lit _ _ _) (by simp) ?_)
          intro v_w7 w7 ka1 kc1 hv_w7 O_n C_w7
          subst hv_w7
          have Xw7 : Ext w w7 := Chg.ext (by repeat (first | with_reducible exact Ext.refl _ | with_reducible assumption | with_reducible refine Ext.pAlloc ?_ _ | ((with_reducible refine Ext.pSet ?_ ?_ _); rotate_left; (simp <;> omega)) | with_reducible refine Ext.pDrew ?_ | with_reducible refine Ext.pDrewN ?_ _)) C_w7 (by omega)
          have zw7 : w6.heap.size + 1 ≤ w7.heap.size := by have := C_w7.size; (try simp at this); omega
          have B_t' : Bx w7 w.heap.size [.slice ua d.1.length uc, .slice va d.2.length vc, .slice ua' d'.1.length uc', .slice va' d'.2.length vc'] := Bx.chg (by repeat (first | with_reducible assumption | with_reducible exact Bx.new _ _ _ _ rfl | ((with_reducible refine Bx.new _ _ _ _ ?_); simp; done) | with_reducible refine Bx.pAlloc ?_ _ | with_reducible refine Bx.pDrew ?_ | with_reducible refine Bx.pDrewN ?_ _ | with_reducible apply Bx.set10 | with_reducible apply Bx.set20 | with_reducible apply Bx.set21 | with_reducible apply Bx.set30 | with_reducible apply Bx.set31 | with_reducible apply Bx.set32 | with_reducible apply Bx.set40 | with_reducible apply Bx.set41 | with_reducible apply Bx.set42 | with_reducible apply Bx.set43 | ((with_reducible refine Bx.set_other ?_ ?_ _); rotate_left; (simp <;> omega)))) C_w7 (by omega)
          have O_r2' : (rowC).own (w5.heap.size) (w6.heap.size) w7 [.slice ra2 r2.length rc2] (r2) := Cd.own.chg (by repeat (first | with_reducible assumption | with_reducible refine Cd.own.pAlloc ?_ _ | with_reducible refine Cd.own.pDrew ?_ | with_reducible refine Cd.own.pDrewN ?_ _ | ((with_reducible refine Cd.own.pSet ?_ ?_ _); rotate_left; (simp <;> omega)))) C_w7 (by omega)
          clear c_t_0 c_t_1 c_t_2 c_t_3 n_t
          clear B_t
          have B_t := B_t'; clear B_t'
          clear O_r2; have O_r2 := O_r2'; clear O_r2'
          clear C_w7 Xw6
          have c_t_0 := B_t.cell 0 _ rfl
          have c_t_1 := B_t.cell 1 _ rfl
          have c_t_2 := B_t.cell 2 _ rfl
          have c_t_3 := B_t.cell 3 _ rfl
          have n_t := B_t.lt
          clear O_k; have O_k : rowsC.own (w.heap.size + 1) w7.heap.size w7 [.slice ka1 (0 + 1) kc1] [r1] := O_n; clear O_n
          go_wp2
          go_ret
          exact ⟨.slice ka1 (0 + 1) kc1, rfl, by repeat (first | with_reducible exact Ext.refl _ | with_reducible assumption | with_reducible refine Ext.pAlloc ?_ _ | ((with_reducible refine Ext.pSet ?_ ?_ _); rotate_left; (simp <;> omega)) | with_reducible refine Ext.pDrew ?_ | with_reducible refine Ext.pDrewN ?_ _), by (try simp only [reduceIte, Bool.false_eq_true, false_and, not_false_eq_true, and_true, and_self, true_and, List.append_nil, List.nil_append]); exact Cd.own.wide (lo := w.heap.size + 1) (hi := w7.heap.size) (by repeat (first | with_reducible assumption | with_reducible refine Cd.own.pAlloc ?_ _ | with_reducible refine Cd.own.pDrew ?_ | with_reducible refine Cd.own.pDrewN ?_ _ | ((with_reducible refine Cd.own.pSet ?_ ?_ _); rotate_left; (simp <;> omega)))) (by omega) (by first | omega | (simp <;> omega))⟩
        · cases hd : decide (r1 = r2)
          · rw [show ((if true = true then [r1] else []) ++ (if true = true ∧ ¬ (true = true ∧ r1 = r2) then [r2] else [])) = [r1, r2] from by have := of_decide_eq_false hd; simp [this]]
            have Hd := Lib.hid hd; clear hd
            go_enter Try.func16, Try.ntmps16
            go_wp2_with fail
            refine (specTwoOk_c _ (d, d') _ (twoC.vext HT.out (by repeat (first | with_reducible exact Ext.refl _ | with_reducible assumption | with_reducible refine Ext.pAlloc ?_ _ | ((with_reducible refine Ext.pSet ?_ ?_ _); rotate_left; (simp <;> omega)) | with_reducible refine Ext.pDrew ?_ | with_reducible refine Ext.pDrewN ?_ _)))).mono ?_
            rw [Ht.out]
            rintro e w1 ⟨rfl, Ew1⟩
            have Xw1 : Ext w w1 := Ext.trans (by repeat (first | with_reducible exact Ext.refl _ | with_reducible assumption | with_reducible refine Ext.pAlloc ?_ _ | ((with_reducible refine Ext.pSet ?_ ?_ _); rotate_left; (simp <;> omega)) | with_reducible refine Ext.pDrew ?_ | with_reducible refine Ext.pDrewN ?_ _)) Ew1
            have zw1 : w.heap.size + 1 + 1 ≤ w1.heap.size := by have := Ew1.size; (try simp at this); omega
            have B_t' : Bx w1 w.heap.size [.slice ua d.1.length uc, .slice va d.2.length vc, .slice ua' d'.1.length uc', .slice va' d'.2.length vc'] := Bx.ext (by repeat (first | with_reducible assumption | with_reducible exact Bx.new _ _ _ _ rfl | ((with_reducible refine Bx.new _ _ _ _ ?_); simp; done) | with_reducible refine Bx.pAlloc ?_ _ | with_reducible refine Bx.pDrew ?_ | with_reducible refine Bx.pDrewN ?_ _ | with_reducible apply Bx.set10 | with_reducible apply Bx.set20 | with_reducible apply Bx.set21 | with_reducible apply Bx.set30 | with_reducible apply Bx.set31 | with_reducible apply Bx.set32 | with_reducible apply Bx.set40 | with_reducible apply Bx.set41 | with_reducible apply Bx.set42 | with_reducible apply Bx.set43 | ((with_reducible refine Bx.set_other ?_ ?_ _); rotate_left; (simp <;> omega)))) Ew1
            have B_e' : Bx w1 (w.heap.size + 1) [] := Bx.ext (by repeat (first | with_reducible assumption | with_reducible exact Bx.new _ _ _ _ rfl | ((with_reducible refine Bx.new _ _ _ _ ?_); simp; done) | with_reducible refine Bx.pAlloc ?_ _ | with_reducible refine Bx.pDrew ?_ | with_reducible refine Bx.pDrewN ?_ _ | with_reducible apply Bx.set10 | with_reducible apply Bx.set20 | with_reducible apply Bx.set21 | with_reducible apply Bx.set30 | with_reducible apply Bx.set31 | with_reducible apply Bx.set32 | with_reducible apply Bx.set40 | with_reducible apply Bx.set41 | with_reducible apply Bx.set42 | with_reducible apply Bx.set43 | ((with_reducible refine Bx.set_other ?_ ?_ _); rotate_left; (simp <;> omega)))) Ew1
            have B_t := B_t'; clear B_t'
            have B_e := B_e'; clear B_e'
            clear Ew1
            have c_t_0 := B_t.cell 0 _ rfl
            have c_t_1 := B_t.cell 1 _ rfl
            have c_t_2 := B_t.cell 2 _ rfl
            have c_t_3 := B_t.cell 3 _ rfl
            have n_t := B_t.lt
            have n_e := B_e.lt
            go_wp2_with fail
            refine (l3Has_c _ d _ _ (diskC.vext H.out.1 (by repeat (first | with_reducible exact Ext.refl _ | with_reducible assumption | with_reducible refine Ext.pAlloc ?_ _ | ((with_reducible refine Ext.pSet ?_ ?_ _); rotate_left; (simp <;> omega)) | with_reducible refine Ext.pDrew ?_ | with_reducible refine Ext.pDrewN ?_ _)))).mono ?_
            rw [Hs.out]
            rintro e w2 ⟨rfl, Ew2⟩
            have Xw2 : Ext w w2 := Ext.trans (by repeat (first | with_reducible exact Ext.refl _ | with_reducible assumption | with_reducible refine Ext.pAlloc ?_ _ | ((with_reducible refine Ext.pSet ?_ ?_ _); rotate_left; (simp <;> omega)) | with_reducible refine Ext.pDrew ?_ | with_reducible refine Ext.pDrewN ?_ _)) Ew2
            have zw2 : w1.heap.size ≤ w2.heap.size := by have := Ew2.size; (try simp at this); omega
            have B_t' : Bx w2 w.heap.size [.slice ua d.1.length uc, .slice va d.2.length vc, .slice ua' d'.1.length uc', .slice va' d'.2.length vc'] := Bx.ext (by repeat (first | with_reducible assumption | with_reducible exact Bx.new _ _ _ _ rfl | ((with_reducible refine Bx.new _ _ _ _ ?_); simp; done) | with_reducible refine Bx.pAlloc ?_ _ | with_reducible refine Bx.pDrew ?_ | with_reducible refine Bx.pDrewN ?_ _ | with_reducible apply Bx.set10 | with_reducible apply Bx.set20 | with_reducible apply Bx.set21 | with_reducible apply Bx.set30 | with_reducible apply Bx.set31 | with_reducible apply Bx.set32 | with_reducible apply Bx.set40 | with_reducible apply Bx.set41 | with_reducible apply Bx.set42 | with_reducible apply Bx.set43 | ((with_reducible refine Bx.set_other ?_ ?_ _); rotate_left; (simp <;> omega)))) Ew2
            have B_e' : Bx w2 (w.heap.size + 1) [] := Bx.ext (by repeat (first | with_reducible assumption | with_reducible exact Bx.new _ _ _ _ rfl | ((with_reducible refine Bx.new _ _ _ _ ?_); simp; done) | with_reducible refine Bx.pAlloc ?_ _ | with_reducible refine Bx.pDrew ?_ | with_reducible refine Bx.pDrewN ?_ _ | with_reducible apply Bx.set10 | with_reducible apply Bx.set20 | with_reducible apply Bx.set21 | with_reducible apply Bx.set30 | with_reducible apply Bx.set31 | with_reducible apply Bx.set32 | with_reducible apply Bx.set40 | with_reducible apply Bx.set41 | with_reducible apply Bx.set42 | with_reducible apply Bx.set43 | ((with_reducible refine Bx.set_other ?_ ?_ _); rotate_left; (simp <;> omega)))) Ew2
            clear c_t_0 c_t_1 c_t_2 c_t_3 n_t n_e
            clear B_t
            have B_t := B_t'; clear B_t'
            clear B_e
            have B_e := B_e'; clear B_e'
            clear Ew2 Xw1
            have c_t_0 := B_t.cell 0 _ rfl
            have c_t_1 := B_t.cell 1 _ rfl
            have c_t_2 := B_t.cell 2 _ rfl
            have c_t_3 := B_t.cell 3 _ rfl
            have n_t := B_t.lt
            have n_e := B_e.lt
            have O_k : rowsC.own (w.heap.size + 1) (w.heap.size + 1 + 1) w2 [.slice (some ⟨w.heap.size + 1, 0, none⟩) 0 0] [] := own_of_empty B_e
            clear B_e
            clear n_e
            go_wp2_with fail
            refine (specReadAt_c _ d n _ (diskC.vext H.out.1 (by repeat (first | with_reducible exact Ext.refl _ | with_reducible assumption | with_reducible refine Ext.pAlloc ?_ _ | ((with_reducible refine Ext.pSet ?_ ?_ _); rotate_left; (simp <;> omega)) | with_reducible refine Ext.pDrew ?_ | with_reducible refine Ext.pDrewN ?_ _)))).mono ?_
            rw [HF1.out]
            rintro e w3 ⟨f1, rfl, Ew3, O_f1⟩
            obtain ⟨fa1, fc1, rfl⟩ := u_slice O_f1.view
            have Xw3 : Ext w w3 := Ext.trans (by repeat (first | with_reducible exact Ext.refl _ | with_reducible assumption | with_reducible refine Ext.pAlloc ?_ _ | ((with_reducible refine Ext.pSet ?_ ?_ _); rotate_left; (simp <;> omega)) | with_reducible refine Ext.pDrew ?_ | with_reducible refine Ext.pDrewN ?_ _)) Ew3
            have zw3 : w2.heap.size ≤ w3.heap.size := by have := Ew3.size; (try simp at this); omega
            have B_t' : Bx w3 w.heap.size [.slice ua d.1.length uc, .slice va d.2.length vc, .slice ua' d'.1.length uc', .slice va' d'.2.length vc'] := Bx.ext (by repeat (first | with_reducible assumption | with_reducible exact Bx.new _ _ _ _ rfl | ((with_reducible refine Bx.new _ _ _ _ ?_); simp; done) | with_reducible refine Bx.pAlloc ?_ _ | with_reducible refine Bx.pDrew ?_ | with_reducible refine Bx.pDrewN ?_ _ | with_reducible apply Bx.set10 | with_reducible apply Bx.set20 | with_reducible apply Bx.set21 | with_reducible apply Bx.set30 | with_reducible apply Bx.set31 | with_reducible apply Bx.set32 | with_reducible apply Bx.set40 | with_reducible apply Bx.set41 | with_reducible apply Bx.set42 | with_reducible apply Bx.set43 | ((with_reducible refine Bx.set_other ?_ ?_ _); rotate_left; (simp <;> omega)))) Ew3
            have O_k' : (rowsC).own (w.heap.size + 1) (w.heap.size + 1 + 1) w3 [.slice (some ⟨w.heap.size + 1, 0, none⟩) 0 0] ([]) := Cd.own.ext (by repeat (first | with_reducible assumption | with_reducible refine Cd.own.pAlloc ?_ _ | with_reducible refine Cd.own.pDrew ?_ | with_reducible refine Cd.own.pDrewN ?_ _ | ((with_reducible refine Cd.own.pSet ?_ ?_ _); rotate_left; (simp <;> omega)))) Ew3
            clear c_t_0 c_t_1 c_t_2 c_t_3 n_t
            clear B_t
            have B_t := B_t'; clear B_t'
            clear O_k; have O_k := O_k'; clear O_k'
            replace O_f1 := O_f1.wide (lo' := w2.heap.size) (hi' := w3.heap.size) (by first | omega | (simp <;> omega)) (Nat.le_refl _)
            clear Ew3 Xw2
            have c_t_0 := B_t.cell 0 _ rfl
            have c_t_1 := B_t.cell 1 _ rfl
            have c_t_2 := B_t.cell 2 _ rfl
            have c_t_3 := B_t.cell 3 _ rfl
            have n_t := B_t.lt
            go_wp2_with fail
            refine (specReadAt_c _ d' n _ (diskC.vext H.out.2 (by repeat (first | with_reducible exact Ext.refl _ | with_reducible assumption | with_reducible refine Ext.pAlloc ?_ _ | ((with_reducible refine Ext.pSet ?_ ?_ _); rotate_left; (simp <;> omega)) | with_reducible refine Ext.pDrew ?_ | with_reducible refine Ext.pDrewN ?_ _)))).mono ?_
            rw [HF2.out]
            rintro e w4 ⟨f2, rfl, Ew4, O_f2⟩
            obtain ⟨fa2, fc2, rfl⟩ := u_slice O_f2.view
            have Xw4 : Ext w w4 := Ext.trans (by repeat (first | with_reducible exact Ext.refl _ | with_reducible assumption | with_reducible refine Ext.pAlloc ?_ _ | ((with_reducible refine Ext.pSet ?_ ?_ _); rotate_left; (simp <;> omega)) | with_reducible refine Ext.pDrew ?_ | with_reducible refine Ext.pDrewN ?_ _)) Ew4
            have zw4 : w3.heap.size ≤ w4.heap.size := by have := Ew4.size; (try simp at this); omega
            have B_t' : Bx w4 w.heap.size [.slice ua d.1.length uc, .slice va d.2.length vc, .slice ua' d'.1.length uc', .slice va' d'.2.length vc'] := Bx.ext (by repeat (first | with_reducible assumption | with_reducible exact Bx.new _ _ _ _ rfl | ((with_reducible refine Bx.new _ _ _ _ ?_); simp; done) | with_reducible refine Bx.pAlloc ?_ _ | with_reducible refine Bx.pDrew ?_ | with_reducible refine Bx.pDrewN ?_ _ | with_reducible apply Bx.set10 | with_reducible apply Bx.set20 | with_reducible apply Bx.set21 | with_reducible apply Bx.set30 | with_reducible apply Bx.set31 | with_reducible apply Bx.set32 | with_reducible apply Bx.set40 | with_reducible apply Bx.set41 | with_reducible apply Bx.set42 | with_reducible apply Bx.set43 | ((with_reducible refine Bx.set_other ?_ ?_ _); rotate_left; (simp <;> omega)))) Ew4
            have O_k' : (rowsC).own (w.heap.size + 1) (w.heap.size + 1 + 1) w4 [.slice (some ⟨w.heap.size + 1, 0, none⟩) 0 0] ([]) := Cd.own.ext (by repeat (first | with_reducible assumption | with_reducible refine Cd.own.pAlloc ?_ _ | with_reducible refine Cd.own.pDrew ?_ | with_reducible refine Cd.own.pDrewN ?_ _ | ((with_reducible refine Cd.own.pSet ?_ ?_ _); rotate_left; (simp <;> omega)))) Ew4
            have O_f1' : (rowC).own (w2.heap.size) (w3.heap.size) w4 [.slice fa1 F1.length fc1] (F1) := Cd.own.ext (by repeat (first | with_reducible assumption | with_reducible refine Cd.own.pAlloc ?_ _ | with_reducible refine Cd.own.pDrew ?_ | with_reducible refine Cd.own.pDrewN ?_ _ | ((with_reducible refine Cd.own.pSet ?_ ?_ _); rotate_left; (simp <;> omega)))) Ew4
            clear c_t_0 c_t_1 c_t_2 c_t_3 n_t
            clear B_t
            have B_t := B_t'; clear B_t'
            clear O_k; have O_k := O_k'; clear O_k'
            clear O_f1; have O_f1 := O_f1'; clear O_f1'
            replace O_f2 := O_f2.wide (lo' := w3.heap.size) (hi' := w4.heap.size) (by first | omega | (simp <;> omega)) (Nat.le_refl _)
            clear Ew4 Xw3
            have c_t_0 := B_t.cell 0 _ rfl
            have c_t_1 := B_t.cell 1 _ rfl
            have c_t_2 := B_t.cell 2 _ rfl
            have c_t_3 := B_t.cell 3 _ rfl
            have n_t := B_t.lt
            go_wp2_with fail
            refine (specUnsummed_c _ F1 _ (Cd.own.view (R := rowC) (lo := w2.heap.size) (hi := w3.heap.size) (by repeat (first | with_reducible assumption | with_reducible refine Cd.own.pAlloc ?_ _ | with_reducible refine Cd.own.pDrew ?_ | with_reducible refine Cd.own.pDrewN ?_ _ | ((with_reducible refine Cd.own.pSet ?_ ?_ _); rotate_left; (simp <;> omega)))))).mono ?_
            rw [HU1.out]
            rintro e w5 ⟨g1, rfl, Ew5, O_r1⟩
            obtain ⟨ra1, rc1, rfl⟩ := u_slice O_r1.view
            have Xw5 : Ext w w5 := Ext.trans (by repeat (first | with_reducible exact Ext.refl _ | with_reducible assumption | with_reducible refine Ext.pAlloc ?_ _ | ((with_reducible refine Ext.pSet ?_ ?_ _); rotate_left; (simp <;> omega)) | with_reducible refine Ext.pDrew ?_ | with_reducible refine Ext.pDrewN ?_ _)) Ew5
            have zw5 : w4.heap.size ≤ w5.heap.size := by have := Ew5.size; (try simp at this); omega
            have B_t' : Bx w5 w.heap.size [.slice ua d.1.length uc, .slice va d.2.length vc, .slice ua' d'.1.length uc', .slice va' d'.2.length vc'] := Bx.ext (by repeat (first | with_reducible assumption | with_reducible exact Bx.new _ _ _ _ rfl | ((with_reducible refine Bx.new _ _ _ _ ?_); simp; done) | with_reducible refine Bx.pAlloc ?_ _ | with_reducible refine Bx.pDrew ?_ | with_reducible refine Bx.pDrewN ?_ _ | with_reducible apply Bx.set10 | with_reducible apply Bx.set20 | with_reducible apply Bx.set21 | with_reducible apply Bx.set30 | with_reducible apply Bx.set31 | with_reducible apply Bx.set32 | with_reducible apply Bx.set40 | with_reducible apply Bx.set41 | with_reducible apply Bx.set42 | with_reducible apply Bx.set43 | ((with_reducible refine Bx.set_other ?_ ?_ _); rotate_left; (simp <;> omega)))) Ew5
            have O_k' : (rowsC).own (w.heap.size + 1) (w.heap.size + 1 + 1) w5 [.slice (some ⟨w.heap.size + 1, 0, none⟩) 0 0] ([]) := Cd.own.ext (by repeat (first | with_reducible assumption | with_reducible refine Cd.own.pAlloc ?_ _ | with_reducible refine Cd.own.pDrew ?_ | with_reducible refine Cd.own.pDrewN ?_ _ | ((with_reducible refine Cd.own.pSet ?_ ?_ _); rotate_left; (simp <;> omega)))) Ew5
            have O_f1' : (rowC).own (w2.heap.size) (w3.heap.size) w5 [.slice fa1 F1.length fc1] (F1) := Cd.own.ext (by repeat (first | with_reducible assumption | with_reducible refine Cd.own.pAlloc ?_ _ | with_reducible refine Cd.own.pDrew ?_ | with_reducible refine Cd.own.pDrewN ?_ _ | ((with_reducible refine Cd.own.pSet ?_ ?_ _); rotate_left; (simp <;> omega)))) Ew5
            have O_f2' : (rowC).own (w3.heap.size) (w4.heap.size) w5 [.slice fa2 F2.length fc2] (F2) := Cd.own.ext (by repeat (first | with_reducible assumption | with_reducible refine Cd.own.pAlloc ?_ _ | with_reducible refine Cd.own.pDrew ?_ | with_reducible refine Cd.own.pDrewN ?_ _ | ((with_reducible refine Cd.own.pSet ?_ ?_ _); rotate_left; (simp <;> omega)))) Ew5
            clear c_t_0 c_t_1 c_t_2 c_t_3 n_t
            clear B_t
            have B_t := B_t'; clear B_t'
            clear O_k; have O_k := O_k'; clear O_k'
            clear O_f1; have O_f1 := O_f1'; clear O_f1'
            clear O_f2; have O_f2 := O_f2'; clear O_f2'
            replace O_r1 := O_r1.wide (lo' := w4.heap.size) (hi' := w5.heap.size) (by first | omega | (simp <;> omega)) (Nat.le_refl _)
            clear Ew5 Xw4
            have c_t_0 := B_t.cell 0 _ rfl
            have c_t_1 := B_t.cell 1 _ rfl
            have c_t_2 := B_t.cell 2 _ rfl
            have c_t_3 := B_t.cell 3 _ rfl
            have n_t := B_t.lt
            go_wp2_with fail
            refine (specUnsummed_c _ F2 _ (Cd.own.view (R := rowC) (lo := w3.heap.size) (hi := w4.heap.size) (by repeat (first | with_reducible assumption | with_reducible refine Cd.own.pAlloc ?_ _ | with_reducible refine Cd.own.pDrew ?_ | with_reducible refine Cd.own.pDrewN ?_ _ | ((with_reducible refine Cd.own.pSet ?_ ?_ _); rotate_left; (simp <;> omega)))))).mono ?_
            rw [HU2.out]
            rintro e w6 ⟨g2, rfl, Ew6, O_r2⟩
            obtain ⟨ra2, rc2, rfl⟩ := u_slice O_r2.view
            have Xw6 : Ext w w6 := Ext.trans (by repeat (first | with_reducible exact Ext.refl _ | with_reducible assumption | with_reducible refine Ext.pAlloc ?_ _ | ((with_reducible refine Ext.pSet ?_ ?_ _); rotate_left; (simp <;> omega)) | with_reducible refine Ext.pDrew ?_ | with_reducible refine Ext.pDrewN ?_ _)) Ew6
            have zw6 : w5.heap.size ≤ w6.heap.size := by have := Ew6.size; (try simp at this); omega
            have B_t' : Bx w6 w.heap.size [.slice ua d.1.length uc, .slice va d.2.length vc, .slice ua' d'.1.length uc', .slice va' d'.2.length vc'] := Bx.ext (by repeat (first | with_reducible assumption | with_reducible exact Bx.new _ _ _ _ rfl | ((with_reducible refine Bx.new _ _ _ _ ?_); simp; done) | with_reducible refine Bx.pAlloc ?_ _ | with_reducible refine Bx.pDrew ?_ | with_reducible refine Bx.pDrewN ?_ _ | with_reducible apply Bx.set10 | with_reducible apply Bx.set20 | with_reducible apply Bx.set21 | with_reducible apply Bx.set30 | with_reducible apply Bx.set31 | with_reducible apply Bx.set32 | with_reducible apply Bx.set40 | with_reducible apply Bx.set41 | with_reducible apply Bx.set42 | with_reducible apply Bx.set43 | ((with_reducible refine Bx.set_other ?_ ?_ _); rotate_left; (simp <;> omega)))) Ew6
            have O_k' : (rowsC).own (w.heap.size + 1) (w.heap.size + 1 + 1) w6 [.slice (some ⟨w.heap.size + 1, 0, none⟩) 0 0] ([]) := Cd.own.ext (by repeat (first | with_reducible assumption | with_reducible refine Cd.own.pAlloc ?_ _ | with_reducible refine Cd.own.pDrew ?_ | with_reducible refine Cd.own.pDrewN ?_ _ | ((with_reducible refine Cd.own.pSet ?_ ?_ _); rotate_left; (simp <;> omega)))) Ew6
            have O_f1' : (rowC).own (w2.heap.size) (w3.heap.size) w6 [.slice fa1 F1.length fc1] (F1) := Cd.own.ext (by repeat (first | with_reducible assumption | with_reducible refine Cd.own.pAlloc ?_ _ | with_reducible refine Cd.own.pDrew ?_ | with_reducible refine Cd.own.pDrewN ?_ _ | ((with_reducible refine Cd.own.pSet ?_ ?_ _); rotate_left; (simp <;> omega)))) Ew6
            have O_f2' : (rowC).own (w3.heap.size) (w4.heap.size) w6 [.slice fa2 F2.length fc2] (F2) := Cd.own.ext (by repeat (first | with_reducible assumption | with_reducible refine Cd.own.pAlloc ?_ _ | with_reducible refine Cd.own.pDrew ?_ | with_reducible refine Cd.own.pDrewN ?_ _ | ((with_reducible refine Cd.own.pSet ?_ ?_ _); rotate_left; (simp <;> omega)))) Ew6
            have O_r1' : (rowC).own (w4.heap.size) (w5.heap.size) w6 [.slice ra1 r1.length rc1] (r1) := Cd.own.ext (by repeat (first | with_reducible assumption | with_reducible refine Cd.own.pAlloc ?_ _ | with_reducible refine Cd.own.pDrew ?_ | with_reducible refine Cd.own.pDrewN ?_ _ | ((with_reducible refine Cd.own.pSet ?_ ?_ _); rotate_left; (simp <;> omega)))) Ew6
            clear c_t_0 c_t_1 c_t_2 c_t_3 n_t
            clear B_t
            have B_t := B_t'; clear B_t'
            clear O_k; have O_k := O_k'; clear O_k'
            clear O_f1; have O_f1 := O_f1'; clear O_f1'
            clear O_f2; have O_f2 := O_f2'; clear O_f2'
            clear O_r1; have O_r1 := O_r1'; clear O_r1'
            replace O_r2 := O_r2.wide (lo' := w5.heap.size) (hi' := w6.heap.size) (by first | omega | (simp <;> omega)) (Nat.le_refl _)
            clear Ew6 Xw5
            have c_t_0 := B_t.cell 0 _ rfl
            have c_t_1 := B_t.cell 1 _ rfl
            have c_t_2 := B_t.cell 2 _ rfl
            have c_t_3 := B_t.cell 3 _ rfl
            have n_t := B_t.lt
            go_wp2_with (at_builtin; refine wpList_snocP (R := rowC) (y := r1) (lo := w.heap.size + 1) (hi := w.heap.size + 1 + 1) rfl _ _ _ rfl 44 _ 24 Try.underlying22 Hinr.out rfl (Cd.own.ownP (Cd.own.pAlloc O_k _)) rfl (Cd.own.ownP (Cd.own.pAlloc O_r1 _)) (fun b h1 h2 => by omega) (fun b h => h) _ _ rfl (CellsAt.lit _ _ _) (by simp) ?_)
            intro v_w7 w7 ka1 kc1 hv_w7 P_k C_w7
            subst hv_w7
            have P_k : rowsC.ownP (fun b => (w.heap.size + 1 ≤ b ∧ b < w.heap.size + 1 + 1) ∨ (w4.heap.size ≤ b ∧ b < w5.heap.size) ∨ (w6.heap.size + 1 ≤ b ∧ b < w7.heap.size)) w7 [.slice ka1 (0 + 1) kc1] [r1] := by simpa using P_k
            have Xw7 : Ext w w7 := Chg.ext (by repeat (first | with_reducible exact Ext.refl _ | with_reducible assumption | with_reducible refine Ext.pAlloc ?_ _ | ((with_reducible refine Ext.pSet ?_ ?_ _); rotate_left; (simp <;> omega)) | with_reducible refine Ext.pDrew ?_ | with_reducible refine Ext.pDrewN ?_ _)) C_w7 (by omega)
            have zw7 : w6.heap.size + 1 ≤ w7.heap.size := by have := C_w7.size; (try simp at this); omega
            have B_t' : Bx w7 w.heap.size [.slice ua d.1.length uc, .slice va d.2.length vc, .slice ua' d'.1.length uc', .slice va' d'.2.length vc'] := Bx.chg (by repeat (first | with_reducible assumption | with_reducible exact Bx.new _ _ _ _ rfl | ((with_reducible refine Bx.new _ _ _ _ ?_); simp; done) | with_reducible refine Bx.pAlloc ?_ _ | with_reducible refine Bx.pDrew ?_ | with_reducible refine Bx.pDrewN ?_ _ | with_reducible apply Bx.set10 | with_reducible apply Bx.set20 | with_reducible apply Bx.set21 | with_reducible apply Bx.set30 | with_reducible apply Bx.set31 | with_reducible apply Bx.set32 | with_reducible apply Bx.set40 | with_reducible apply Bx.set41 | with_reducible apply Bx.set42 | with_reducible apply Bx.set43 | ((with_reducible refine Bx.set_other ?_ ?_ _); rotate_left; (simp <;> omega)))) C_w7 (by omega)
            have O_r1' : (rowC).own (w4.heap.size) (w5.heap.size) w7 [.slice ra1 r1.length rc1] (r1) := Cd.own.chg (by repeat (first | with_reducible assumption | with_reducible refine Cd.own.pAlloc ?_ _ | with_reducible refine Cd.own.pDrew ?_ | with_reducible refine Cd.own.pDrewN ?_ _ | ((with_reducible refine Cd.own.pSet ?_ ?_ _); rotate_left; (simp <;> omega)))) C_w7 (by omega)
            have O_r2' : (rowC).own (w5.heap.size) (w6.heap.size) w7 [.slice ra2 r2.length rc2] (r2) := Cd.own.chg (by repeat (first | with_reducible assumption | with_reducible refine Cd.own.pAlloc ?_ _ | with_reducible refine Cd.own.pDrew ?_ | with_reducible refine Cd.own.pDrewN ?_ _ | ((with_reducible refine Cd.own.pSet ?_ ?_ _); rotate_left; (simp <;> omega)))) C_w7 (by omega)
            clear c_t_0 c_t_1 c_t_2 c_t_3 n_t
            clear B_t
            have B_t := B_t'; clear B_t'
            clear O_r1; have O_r1 := O_r1'; clear O_r1'
            clear O_r2; have O_r2 := O_r2'; clear O_r2'
            clear C_w7 Xw6
            have c_t_0 := B_t.cell 0 _ rfl
            have c_t_1 := B_t.cell 1 _ rfl
            have c_t_2 := B_t.cell 2 _ rfl
            have c_t_3 := B_t.cell 3 _ rfl
            have n_t := B_t.lt
            go_wp2_with fail
            refine (specSameRow_c _ _ r1 r2 _ (Cd.own.view (R := rowC) (lo := w4.heap.size) (hi := w5.heap.size) (by repeat (first | with_reducible assumption | with_reducible refine Cd.own.pAlloc ?_ _ | with_reducible refine Cd.own.pDrew ?_ | with_reducible refine Cd.own.pDrewN ?_ _ | ((with_reducible refine Cd.own.pSet ?_ ?_ _); rotate_left; (simp <;> omega))))) (Cd.own.view (R := rowC) (lo := w5.heap.size) (hi := w6.heap.size) (by repeat (first | with_reducible assumption | with_reducible refine Cd.own.pAlloc ?_ _ | with_reducible refine Cd.own.pDrew ?_ | with_reducible refine Cd.own.pDrewN ?_ _ | ((with_reducible refine Cd.own.pSet ?_ ?_ _); rotate_left; (simp <;> omega)))))).mono ?_
            rw [Hd.out]
            rintro e w8 ⟨rfl, Ew8⟩
            replace P_k := P_k.ext Ew8
            have Xw8 : Ext w w8 := Ext.trans (by repeat (first | with_reducible exact Ext.refl _ | with_reducible assumption | with_reducible refine Ext.pAlloc ?_ _ | ((with_reducible refine Ext.pSet ?_ ?_ _); rotate_left; (simp <;> omega)) | with_reducible refine Ext.pDrew ?_ | with_reducible refine Ext.pDrewN ?_ _)) Ew8
            have zw8 : w7.heap.size ≤ w8.heap.size := by have := Ew8.size; (try simp at this); omega
            have B_t' : Bx w8 w.heap.size [.slice ua d.1.length uc, .slice va d.2.length vc, .slice ua' d'.1.length uc', .slice va' d'.2.length vc'] := Bx.ext (by repeat (first | with_reducible assumption | with_reducible exact Bx.new _ _ _ _ rfl | ((with_reducible refine Bx.new _ _ _ _ ?_); simp; done) | with_reducible refine Bx.pAlloc ?_ _ | with_reducible refine Bx.pDrew ?_ | with_reducible refine Bx.pDrewN ?_ _ | with_reducible apply Bx.set10 | with_reducible apply Bx.set20 | with_reducible apply Bx.set21 | with_reducible apply Bx.set30 | with_reducible apply Bx.set31 | with_reducible apply Bx.set32 | with_reducible apply Bx.set40 | with_reducible apply Bx.set41 | with_reducible apply Bx.set42 | with_reducible apply Bx.set43 | ((with_reducible refine Bx.set_other ?_ ?_ _); rotate_left; (simp <;> omega)))) Ew8
            have O_r2' : (rowC).own (w5.heap.size) (w6.heap.size) w8 [.slice ra2 r2.length rc2] (r2) := Cd.own.ext (by repeat (first | with_reducible assumption | with_reducible refine Cd.own.pAlloc ?_ _ | with_reducible refine Cd.own.pDrew ?_ | with_reducible refine Cd.own.pDrewN ?_ _ | ((with_reducible refine Cd.own.pSet ?_ ?_ _); rotate_left; (simp <;> omega)))) Ew8
            clear c_t_0 c_t_1 c_t_2 c_t_3 n_t
            clear B_t
            have B_t := B_t'; clear B_t'
            clear O_r2; have O_r2 := O_r2'; clear O_r2'
            clear Ew8 Xw7
            have c_t_0 := B_t.cell 0 _ rfl
            have c_t_1 := B_t.cell 1 _ rfl
            have c_t_2 := B_t.cell 2 _ rfl
            have c_t_3 := B_t.cell 3 _ rfl
            have n_t := B_t.lt
            go_wp2_with (at_builtin; refine wpList_snocP (R := rowC) (y := r2) (lo := w.heap.size + 1) (hi := w7.heap.size) rfl _ _ _ rfl 44 _ 24 Try.underlying22 Hinr.out rfl (P_k.ext (Ext.alloc _ _)) rfl (Cd.own.ownP (Cd.own.pAlloc O_r2 _)) (fun b h1 h2 => by omega) (fun b h => by omega) _ _ rfl (CellsAt.lit _ _ _) (by simp) ?_)
            intro v_w9 w9 ka2 kc2 hv_w9 P_n C_w9
            subst hv_w9
            clear P_k
            have Xw9 : Ext w w9 := Chg.ext (by repeat (first | with_reducible exact Ext.refl _ | with_reducible assumption | with_reducible refine Ext.pAlloc ?_ _ | ((with_reducible refine Ext.pSet ?_ ?_ _); rotate_left; (simp <;> omega)) | with_reducible refine Ext.pDrew ?_ | with_reducible refine Ext.pDrewN ?_ _)) C_w9 (by omega)
            have zw9 : w8.heap.size + 1 ≤ w9.heap.size := by have := C_w9.size; (try simp at this); omega
            have B_t' : Bx w9 w.heap.size [.slice ua d.1.length uc, .slice va d.2.length vc, .slice ua' d'.1.length uc', .slice va' d'.2.length vc'] := Bx.chg (by repeat (first | with_reducible assumption | with_reducible exact Bx.new _ _ _ _ rfl | ((with_reducible refine Bx.new _ _ _ _ ?_); simp; done) | with_reducible refine Bx.pAlloc ?_ _ | with_reducible refine Bx.pDrew ?_ | with_reducible refine Bx.pDrewN ?_ _ | with_reducible apply Bx.set10 | with_reducible apply Bx.set20 | with_reducible apply Bx.set21 | with_reducible apply Bx.set30 | with_reducible apply Bx.set31 | with_reducible apply Bx.set32 | with_reducible apply Bx.set40 | with_reducible apply Bx.set41 | with_reducible apply Bx.set42 | with_reducible apply Bx.set43 | ((with_reducible refine Bx.set_other ?_ ?_ _); rotate_left; (simp <;> omega)))) C_w9 (by omega)
            clear c_t_0 c_t_1 c_t_2 c_t_3 n_t
            clear B_t
            have B_t := B_t'; clear B_t'
            clear C_w9 Xw8
            have c_t_0 := B_t.cell 0 _ rfl
            have c_t_1 := B_t.cell 1 _ rfl
            have c_t_2 := B_t.cell 2 _ rfl
            have c_t_3 := B_t.cell 3 _ rfl
            have n_t := B_t.lt
            have O_k : rowsC.own (w.heap.size + 1) w9.heap.size w9 [.slice ka2 (1 + 1) kc2] [r1, r2] := P_n.own (fun b h => by (try simp at h); omega)
            go_wp2
            go_ret
            exact ⟨.slice ka2 (1 + 1) kc2, rfl, by repeat (first | with_reducible exact Ext.refl _ | with_reducible assumption | with_reducible refine Ext.pAlloc ?_ _ | ((with_reducible refine Ext.pSet ?_ ?_ _); rotate_left; (simp <;> omega)) | with_reducible refine Ext.pDrew ?_ | with_reducible refine Ext.pDrewN ?_ _), by (try simp only [reduceIte, Bool.false_eq_true, false_and, not_false_eq_true, and_true, and_self, true_and, List.append_nil, List.nil_append]); exact Cd.own.wide (lo := w.heap.size + 1) (hi := w9.heap.size) (by repeat (first | with_reducible assumption | with_reducible refine Cd.own.pAlloc ?_ _ | with_reducible refine Cd.own.pDrew ?_ | with_reducible refine Cd.own.pDrewN ?_ _ | ((with_reducible refine Cd.own.pSet ?_ ?_ _); rotate_left; (simp <;> omega)))) (by omega) (by first | omega | (simp <;> omega))⟩
          · rw [show ((if true = true then [r1] else []) ++ (if true = true ∧ ¬ (true = true ∧ r1 = r2) then [r2] else [])) = [r1] from by have := of_decide_eq_true hd; simp [this]]
            have Hd := Lib.hid hd; clear hd
            go_enter Try.func16, Try.ntmps16
            go_wp2_with fail
            refine (specTwoOk_c _ (d, d') _ (twoC.vext HT.out (by repeat (first | with_reducible exact Ext.refl _ | with_reducible assumption | with_reducible refine Ext.pAlloc ?_ _ | ((with_reducible refine Ext.pSet ?_ ?_ _); rotate_left; (simp <;> omega)) | with_reducible refine Ext.pDrew ?_ | with_reducible refine Ext.pDrewN ?_ _)))).mono ?_
            rw [Ht.out]
            rintro e w1 ⟨rfl, Ew1⟩
            have Xw1 : Ext w w1 := Ext.trans (by repeat (first | with_reducible exact Ext.refl _ | with_reducible assumption | with_reducible refine Ext.pAlloc ?_ _ | ((with_reducible refine Ext.pSet ?_ ?_ _); rotate_left; (simp <;> omega)) | with_reducible refine Ext.pDrew ?_ | with_reducible refine Ext.pDrewN ?_ _)) Ew1
            have zw1 : w.heap.size + 1 + 1 ≤ w1.heap.size := by have := Ew1.size; (try simp at this); omega
            have B_t' : Bx w1 w.heap.size [.slice ua d.1.length uc, .slice va d.2.length vc, .slice ua' d'.1.length uc', .slice va' d'.2.length vc'] := Bx.ext (by repeat (first | with_reducible assumption | with_reducible exact Bx.new _ _ _ _ rfl | ((with_reducible refine Bx.new _ _ _ _ ?_); simp; done) | with_reducible refine Bx.pAlloc ?_ _ | with_reducible refine Bx.pDrew ?_ | with_reducible refine Bx.pDrewN ?_ _ | with_reducible apply Bx.set10 | with_reducible apply Bx.set20 | with_reducible apply Bx.set21 | with_reducible apply Bx.set30 | with_reducible apply Bx.set31 | with_reducible apply Bx.set32 | with_reducible apply Bx.set40 | with_reducible apply Bx.set41 | with_reducible apply Bx.set42 | with_reducible apply Bx.set43 | ((with_reducible refine Bx.set_other ?_ ?_ _); rotate_left; (simp <;> omega)))) Ew1
            have B_e' : Bx w1 (w.heap.size + 1) [] := Bx.ext (by repeat (first | with_reducible assumption | with_reducible exact Bx.new _ _ _ _ rfl | ((with_reducible refine Bx.new _ _ _ _ ?_); simp; done) | with_reducible refine Bx.pAlloc ?_ _ | with_reducible refine Bx.pDrew ?_ | with_reducible refine Bx.pDrewN ?_ _ | with_reducible apply Bx.set10 | with_reducible apply Bx.set20 | with_reducible apply Bx.set21 | with_reducible apply Bx.set30 | with_reducible apply Bx.set31 | with_reducible apply Bx.set32 | with_reducible apply Bx.set40 | with_reducible apply Bx.set41 | with_reducible apply Bx.set42 | with_reducible apply Bx.set43 | ((with_reducible refine Bx.set_other ?_ ?_ _); rotate_left; (simp <;> omega)))) Ew1
            have B_t := B_t'; clear B_t'
            have B_e := B_e'; clear B_e'
            clear Ew1
            have c_t_0 := B_t.cell 0 _ rfl
            have c_t_1 := B_t.cell 1 _ rfl
            have c_t_2 := B_t.cell 2 _ rfl
            have c_t_3 := B_t.cell 3 _ rfl
            have n_t := B_t.lt
            have n_e := B_e.lt
            go_wp2_with fail
            refine (l3Has_c _ d _ _ (diskC.vext H.out.1 (by repeat (first | with_reducible exact Ext.refl _ | with_reducible assumption | with_reducible refine Ext.pAlloc ?_ _ | ((with_reducible refine Ext.pSet ?_ ?_ _); rotate_left; (simp <;> omega)) | with_reducible refine Ext.pDrew ?_ | with_reducible refine Ext.pDrewN ?_ _)))).mono ?_
            rw [Hs.out]
            rintro e w2 ⟨rfl, Ew2⟩
            have Xw2 : Ext w w2 := Ext.trans (by repeat (first | with_reducible exact Ext.refl _ | with_reducible assumption | with_reducible refine Ext.pAlloc ?_ _ | ((with_reducible refine Ext.pSet ?_ ?_ _); rotate_left; (simp <;> omega)) | with_reducible refine Ext.pDrew ?_ | with_reducible refine Ext.pDrewN ?_ _)) Ew2
            have zw2 : w1.heap.size ≤ w2.heap.size := by have := Ew2.size; (try simp at this); omega
            have B_t' : Bx w2 w.heap.size [.slice ua d.1.length uc, .slice va d.2.length vc, .slice ua' d'.1.length uc', .slice va' d'.2.length vc'] := Bx.ext (by repeat (first | with_reducible assumption | with_reducible exact Bx.new _ _ _ _ rfl | ((with_reducible refine Bx.new _ _ _ _ ?_); simp; done) | with_reducible refine Bx.pAlloc ?_ _ | with_reducible refine Bx.pDrew ?_ | with_reducible refine Bx.pDrewN ?_ _ | with_reducible apply Bx.set10 | with_reducible apply Bx.set20 | with_reducible apply Bx.set21 | with_reducible apply Bx.set30 | with_reducible apply Bx.set31 | with_reducible apply Bx.set32 | with_reducible apply Bx.set40 | with_reducible apply Bx.set41 | with_reducible apply Bx.set42 | with_reducible apply Bx.set43 | ((with_reducible refine Bx.set_other ?_ ?_ _); rotate_left; (simp <;> omega)))) Ew2
            have B_e' : Bx w2 (w.heap.size + 1) [] := Bx.ext (by repeat (first | with_reducible assumption | with_reducible exact Bx.new _ _ _ _ rfl | ((with_reducible refine Bx.new _ _ _ _ ?_); simp; done) | with_reducible refine Bx.pAlloc ?_ _ | with_reducible refine Bx.pDrew ?_ | with_reducible refine Bx.pDrewN ?_ _ | with_reducible apply Bx.set10 | with_reducible apply Bx.set20 | with_reducible apply Bx.set21 | with_reducible apply Bx.set30 | with_reducible apply Bx.set31 | with_reducible apply Bx.set32 | with_reducible apply Bx.set40 | with_reducible apply Bx.set41 | with_reducible apply Bx.set42 | with_reducible apply Bx.set43 | ((with_reducible refine Bx.set_other ?_ ?_ _); rotate_left; (simp <;> omega)))) Ew2
            clear c_t_0 c_t_1 c_t_2 c_t_3 n_t n_e
            clear B_t
            have B_t := B_t'; clear B_t'
            clear B_e
            have B_e := B_e'; clear B_e'
            clear Ew2 Xw1
            have c_t_0 := B_t.cell 0 _ rfl
            have c_t_1 := B_t.cell 1 _ rfl
            have c_t_2 := B_t.cell 2 _ rfl
            have c_t_3 := B_t.cell 3 _ rfl
            have n_t := B_t.lt
            have n_e := B_e.lt
            have O_k : rowsC.own (w.heap.size + 1) (w.heap.size + 1 + 1) w2 [.slice (some ⟨w.heap.size + 1, 0, none⟩) 0 0] [] := own_of_empty B_e
            clear B_e
            clear n_e
            go_wp2_with fail
            refine (specReadAt_c _ d n _ (diskC.vext H.out.1 (by repeat (first | with_reducible exact Ext.refl _ | with_reducible assumption | with_reducible refine Ext.pAlloc ?_ _ | ((with_reducible refine Ext.pSet ?_ ?_ _); rotate_left; (simp <;> omega)) | with_reducible refine Ext.pDrew ?_ | with_reducible refine Ext.pDrewN ?_ _)))).mono ?_
            rw [HF1.out]
            rintro e w3 ⟨f1, rfl, Ew3, O_f1⟩
            obtain ⟨fa1, fc1, rfl⟩ := u_slice O_f1.view
            have Xw3 : Ext w w3 := Ext.trans (by repeat (first | with_reducible exact Ext.refl _ | with_reducible assumption | with_reducible refine Ext.pAlloc ?_ _ | ((with_reducible refine Ext.pSet ?_ ?_ _); rotate_left; (simp <;> omega)) | with_reducible refine Ext.pDrew ?_ | with_reducible refine Ext.pDrewN ?_ _)) Ew3
            have zw3 : w2.heap.size ≤ w3.heap.size := by have := Ew3.size; (try simp at this); omega
            have B_t' : Bx w3 w.heap.size [.slice ua d.1.length uc, .slice va d.2.length vc, .slice ua' d'.1.length uc', .slice va' d'.2.length vc'] := Bx.ext (by repeat (first | with_reducible assumption | with_reducible exact Bx.new _ _ _ _ rfl | ((with_reducible refine Bx.new _ _ _ _ ?_); simp; done) | with_reducible refine Bx.pAlloc ?_ _ | with_reducible refine Bx.pDrew ?_ | with_reducible refine Bx.pDrewN ?_ _ | with_reducible apply Bx.set10 | with_reducible apply Bx.set20 | with_reducible apply Bx.set21 | with_reducible apply Bx.set30 | with_reducible apply Bx.set31 | with_reducible apply Bx.set32 | with_reducible apply Bx.set40 | with_reducible apply Bx.set41 | with_reducible apply Bx.set42 | with_reducible apply Bx.set43 | ((with_reducible refine Bx.set_other ?_ ?_ _); rotate_left; (simp <;> omega)))) Ew3
            have O_k' : (rowsC).own (w.heap.size + 1) (w.heap.size + 1 + 1) w3 [.slice (some ⟨w.heap.size + 1, 0, none⟩) 0 0] ([]) := Cd.own.ext (by repeat (first | with_reducible assumption | with_reducible refine Cd.own.pAlloc ?_ _ | with_reducible refine Cd.own.pDrew ?_ | with_reducible refine Cd.own.pDrewN ?_ _ | ((with_reducible refine Cd.own.pSet ?_ ?_ _); rotate_left; (simp <;> omega)))) Ew3
            clear c_t_0 c_t_1 c_t_2 c_t_3 n_t
            clear B_t
            have B_t := B_t'; clear B_t'
            clear O_k; have O_k := O_k'; clear O_k'
            replace O_f1 := O_f1.wide (lo' := w2.heap.size) (hi' := w3.heap.size) (by first | omega | (simp <;> omega)) (Nat.le_refl _)
            clear Ew3 Xw2
            have c_t_0 := B_t.cell 0 _ rfl
            have c_t_1 := B_t.cell 1 _ rfl
            have c_t_2 := B_t.cell 2 _ rfl
            have c_t_3 := B_t.cell 3 _ rfl
            have n_t := B_t.lt
            go_wp2_with fail
            refine (specReadAt_c _ d' n _ (diskC.vext H.out.2 (by repeat (first | with_reducible exact Ext.refl _ | with_reducible assumption | with_reducible refine Ext.pAlloc ?_ _ | ((with_reducible refine Ext.pSet ?_ ?_ _); rotate_left; (simp <;> omega)) | with_reducible refine Ext.pDrew ?_ | with_reducible refine Ext.pDrewN ?_ _)))).mono ?_
            rw [HF2.out]
            rintro e w4 ⟨f2, rfl, Ew4, O_f2⟩
            obtain ⟨fa2, fc2, rfl⟩ := u_slice O_f2.view
            have Xw4 : Ext w w4 := Ext.trans (by repeat (first | with_reducible exact Ext.refl _ | with_reducible assumption | with_reducible refine Ext.pAlloc ?_ _ | ((with_reducible refine Ext.pSet ?_ ?_ _); rotate_left; (simp <;> omega)) | with_reducible refine Ext.pDrew ?_ | with_reducible refine Ext.pDrewN ?_ _)) Ew4
            have zw4 : w3.heap.size ≤ w4.heap.size := by have := Ew4.size; (try simp at this); omega
            have B_t' : Bx w4 w.heap.size [.slice ua d.1.length uc, .slice va d.2.length vc, .slice ua' d'.1.length uc', .slice va' d'.2.length vc'] := Bx.ext (by repeat (first | with_reducible assumption | with_reducible exact Bx.new _ _ _ _ rfl | ((with_reducible refine Bx.new _ _ _ _ ?_); simp; done) | with_reducible refine Bx.pAlloc ?_ _ | with_reducible refine Bx.pDrew ?_ | with_reducible refine Bx.pDrewN ?_ _ | with_reducible apply Bx.set10 | with_reducible apply Bx.set20 | with_reducible apply Bx.set21 | with_reducible apply Bx.set30 | with_reducible apply Bx.set31 | with_reducible apply Bx.set32 | with_reducible apply Bx.set40 | with_reducible apply Bx.set41 | with_reducible apply Bx.set42 | with_reducible apply Bx.set43 | ((with_reducible refine Bx.set_other ?_ ?_ _); rotate_left; (simp <;> omega)))) Ew4
            have O_k' : (rowsC).own (w.heap.size + 1) (w.heap.size + 1 + 1) w4 [.slice (some ⟨w.heap.size + 1, 0, none⟩) 0 0] ([]) := Cd.own.ext (by repeat (first | with_reducible assumption | with_reducible refine Cd.own.pAlloc ?_ _ | with_reducible refine Cd.own.pDrew ?_ | with_reducible refine Cd.own.pDrewN ?_ _ | ((with_reducible refine Cd.own.pSet ?_ ?_ _); rotate_left; (simp <;> omega)))) Ew4
            have O_f1' : (rowC).own (w2.heap.size) (w3.heap.size) w4 [.slice fa1 F1.length fc1] (F1) := Cd.own.ext (by repeat (first | with_reducible assumption | with_reducible refine Cd.own.pAlloc ?_ _ | with_reducible refine Cd.own.pDrew ?_ | with_reducible refine Cd.own.pDrewN ?_ _ | ((with_reducible refine Cd.own.pSet ?_ ?_ _); rotate_left; (simp <;> omega)))) Ew4
            clear c_t_0 c_t_1 c_t_2 c_t_3 n_t
            clear B_t
            have B_t := B_t'; clear B_t'
            clear O_k; have O_k := O_k'; clear O_k'
            clear O_f1; have O_f1 := O_f1'; clear O_f1'
            replace O_f2 := O_f2.wide (lo' := w3.heap.size) (hi' := w4.heap.size) (by first | omega | (simp <;> omega)) (Nat.le_refl _)
            clear Ew4 Xw3
            have c_t_0 := B_t.cell 0 _ rfl
            have c_t_1 := B_t.cell 1 _ rfl
            have c_t_2 := B_t.cell 2 _ rfl
            have c_t_3 := B_t.cell 3 _ rfl
            have n_t := B_t.lt
            go_wp2_with fail
            refine (specUnsummed_c _ F1 _ (Cd.own.view (R := rowC) (lo := w2.heap.size) (hi := w3.heap.size) (by repeat (first | with_reducible assumption | with_reducible refine Cd.own.pAlloc ?_ _ | with_reducible refine Cd.own.pDrew ?_ | with_reducible refine Cd.own.pDrewN ?_ _ | ((with_reducible refine Cd.own.pSet ?_ ?_ _); rotate_left; (simp <;> omega)))))).mono ?_
            rw [HU1.out]
            rintro e w5 ⟨g1, rfl, Ew5, O_r1⟩
            obtain ⟨ra1, rc1, rfl⟩ := u_slice O_r1.view
            have Xw5 : Ext w w5 := Ext.trans (by repeat (first | with_reducible exact Ext.refl _ | with_reducible assumption | with_reducible refine Ext.pAlloc ?_ _ | ((with_reducible refine Ext.pSet ?_ ?_ _); rotate_left; (simp <;> omega)) | with_reducible refine Ext.pDrew ?_ | with_reducible refine Ext.pDrewN ?_ _)) Ew5
            have zw5 : w4.heap.size ≤ w5.heap.size := by have := Ew5.size; (try simp at this); omega
            have B_t' : Bx w5 w.heap.size [.slice ua d.1.length uc, .slice va d.2.length vc, .slice ua' d'.1.length uc', .slice va' d'.2.length vc'] := Bx.ext (by repeat (first | with_reducible assumption | with_reducible exact Bx.new _ _ _ _ rfl | ((with_reducible refine Bx.new _ _ _ _ ?_); simp; done) | with_reducible refine Bx.pAlloc ?_ _ | with_reducible refine Bx.pDrew ?_ | with_reducible refine Bx.pDrewN ?_ _ | with_reducible apply Bx.set10 | with_reducible apply Bx.set20 | with_reducible apply Bx.set21 | with_reducible apply Bx.set30 | with_reducible apply Bx.set31 | with_reducible apply Bx.set32 | with_reducible apply Bx.set40 | with_reducible apply Bx.set41 | with_reducible apply Bx.set42 | with_reducible apply Bx.set43 | ((with_reducible refine Bx.set_other ?_ ?_ _); rotate_left; (simp <;> omega)))) Ew5
            have O_k' : (rowsC).own (w.heap.size + 1) (w.heap.size + 1 + 1) w5 [.slice (some ⟨w.heap.size + 1, 0, none⟩) 0 0] ([]) := Cd.own.ext (by repeat (first | with_reducible assumption | with_reducible refine Cd.own.pAlloc ?_ _ | with_reducible refine Cd.own.pDrew ?_ | with_reducible refine Cd.own.pDrewN ?_ _ | ((with_reducible refine Cd.own.pSet ?_ ?_ _); rotate_left; (simp <;> omega)))) Ew5
            have O_f1' : (rowC).own (w2.heap.size) (w3.heap.size) w5 [.slice fa1 F1.length fc1] (F1) := Cd.own.ext (by repeat (first | with_reducible assumption | with_reducible refine Cd.own.pAlloc ?_ _ | with_reducible refine Cd.own.pDrew ?_ | with_reducible refine Cd.own.pDrewN ?_ _ | ((with_reducible refine Cd.own.pSet ?_ ?_ _); rotate_left; (simp <;> omega)))) Ew5
            have O_f2' : (rowC).own (w3.heap.size) (w4.heap.size) w5 [.slice fa2 F2.length fc2] (F2) := Cd.own.ext (by repeat (first | with_reducible assumption | with_reducible refine Cd.own.pAlloc ?_ _ | with_reducible refine Cd.own.pDrew ?_ | with_reducible refine Cd.own.pDrewN ?_ _ | ((with_reducible refine Cd.own.pSet ?_ ?_ _); rotate_left; (simp <;> omega)))) Ew5
            clear c_t_0 c_t_1 c_t_2 c_t_3 n_t
            clear B_t
            have B_t := B_t'; clear B_t'
            clear O_k; have O_k := O_k'; clear O_k'
            clear O_f1; have O_f1 := O_f1'; clear O_f1'
            clear O_f2; have O_f2 := O_f2'; clear O_f2'
            replace O_r1 := O_r1.wide (lo' := w4.heap.size) (hi' := w5.heap.size) (by first | omega | (simp <;> omega)) (Nat.le_refl _)
            clear Ew5 Xw4
            have c_t_0 := B_t.cell 0 _ rfl
            have c_t_1 := B_t.cell 1 _ rfl
            have c_t_2 := B_t.cell 2 _ rfl
            have c_t_3 := B_t.cell 3 _ rfl
            have n_t := B_t.lt
            go_wp2_with fail
            refine (specUnsummed_c _ F2 _ (Cd.own.view (R := rowC) (lo := w3.heap.size) (hi := w4.heap.size) (by repeat (first | with_reducible assumption | with_reducible refine Cd.own.pAlloc ?_ _ | with_reducible refine Cd.own.pDrew ?_ | with_reducible refine Cd.own.pDrewN ?_ _ | ((with_reducible refine Cd.own.pSet ?_ ?_ _); rotate_left; (simp <;> omega)))))).mono ?_
            rw [HU2.out]
            rintro e w6 ⟨g2, rfl, Ew6, O_r2⟩
            obtain ⟨ra2, rc2, rfl⟩ := u_slice O_r2.view
            have Xw6 : Ext w w6 := Ext.trans (by repeat (first | with_reducible exact Ext.refl _ | with_reducible assumption | with_reducible refine Ext.pAlloc ?_ _ | ((with_reducible refine Ext.pSet ?_ ?_ _); rotate_left; (simp <;> omega)) | with_reducible refine Ext.pDrew ?_ | with_reducible refine Ext.pDrewN ?_ _)) Ew6
            have zw6 : w5.heap.size ≤ w6.heap.size := by have := Ew6.size; (try simp at this); omega
            have B_t' : Bx w6 w.heap.size [.slice ua d.1.length uc, .slice va d.2.length vc, .slice ua' d'.1.length uc', .slice va' d'.2.length vc'] := Bx.ext (by repeat (first | with_reducible assumption | with_reducible exact Bx.new _ _ _ _ rfl | ((with_reducible refine Bx.new _ _ _ _ ?_); simp; done) | with_reducible refine Bx.pAlloc ?_ _ | with_reducible refine Bx.pDrew ?_ | with_reducible refine Bx.pDrewN ?_ _ | with_reducible apply Bx.set10 | with_reducible apply Bx.set20 | with_reducible apply Bx.set21 | with_reducible apply Bx.set30 | with_reducible apply Bx.set31 | with_reducible apply Bx.set32 | with_reducible apply Bx.set40 | with_reducible apply Bx.set41 | with_reducible apply Bx.set42 | with_reducible apply Bx.set43 | ((with_reducible refine Bx.set_other ?_ ?_ _); rotate_left; (simp <;> omega)))) Ew6
            have O_k' : (rowsC).own (w.heap.size + 1) (w.heap.size + 1 + 1) w6 [.slice (some ⟨w.heap.size + 1, 0, none⟩) 0 0] ([]) := Cd.own.ext (by repeat (first | with_reducible assumption | with_reducible refine Cd.own.pAlloc ?_ _ | with_reducible refine Cd.own.pDrew ?_ | with_reducible refine Cd.own.pDrewN ?_ _ | ((with_reducible refine Cd.own.pSet ?_ ?_ _); rotate_left; (simp <;> omega)))) Ew6
            have O_f1' : (rowC).own (w2.heap.size) (w3.heap.size) w6 [.slice fa1 F1.length fc1] (F1) := Cd.own.ext (by repeat (first | with_reducible assumption | with_reducible refine Cd.own.pAlloc ?_ _ | with_reducible refine Cd.own.pDrew ?_ | with_reducible refine Cd.own.pDrewN ?_ _ | ((with_reducible refine Cd.own.pSet ?_ ?_ _); rotate_left; (simp <;> omega)))) Ew6
            have O_f2' : (rowC).own (w3.heap.size) (w4.heap.size) w6 [.slice fa2 F2.length fc2] (F2) := Cd.own.ext (by repeat (first | with_reducible assumption | with_reducible refine Cd.own.pAlloc ?_ _ | with_reducible refine Cd.own.pDrew ?_ | with_reducible refine Cd.own.pDrewN ?_ _ | ((with_reducible refine Cd.own.pSet ?_ ?_ _); rotate_left; (simp <;> omega)))) Ew6
            have O_r1' : (rowC).own (w4.heap.size) (w5.heap.size) w6 [.slice ra1 r1.length rc1] (r1) := Cd.own.ext (by repeat (first | with_reducible assumption | with_reducible refine Cd.own.pAlloc ?_ _ | with_reducible refine Cd.own.pDrew ?_ | with_reducible refine Cd.own.pDrewN ?_ _ | ((with_reducible refine Cd.own.pSet ?_ ?_ _); rotate_left; (simp <;> omega)))) Ew6
            clear c_t_0 c_t_1 c_t_2 c_t_3 n_t
            clear B_t
            have B_t := B_t'; clear B_t'
            clear O_k; have O_k := O_k'; clear O_k'
            clear O_f1; have O_f1 := O_f1'; clear O_f1'
            clear O_f2; have O_f2 := O_f2'; clear O_f2'
            clear O_r1; have O_r1 := O_r1'; clear O_r1'
            replace O_r2 := O_r2.wide (lo' := w5.heap.size) (hi' := w6.heap.size) (by first | omega | (simp <;> omega)) (Nat.le_refl _)
            clear Ew6 Xw5
            have c_t_0 := B_t.cell 0 _ rfl
            have c_t_1 := B_t.cell 1 _ rfl
            have c_t_2 := B_t.cell 2 _ rfl
            have c_t_3 := B_t.cell 3 _ rfl
            have n_t := B_t.lt
            go_wp2_with (at_builtin; refine wpList_snocC (R := rowC) (y := r1) (lo' := w4.heap.size) (hi' := w5.heap.size) rfl _ _ _ rfl 44 _ 24 Try.underlying22 Hinr.out rfl (Cd.own.pAlloc O_k _) rfl (Cd.own.pAlloc O_r1 _) (by omega) (by omega) (by simp; omega) _ _ rfl (CellsAt.lit _ _ _) (by simp) ?_)
            intro v_w7 w7 ka1 kc1 hv_w7 O_n C_w7
            subst hv_w7
            have Xw7 : Ext w w7 := Chg.ext (by repeat (first | with_reducible exact Ext.refl _ | with_reducible assumption | with_reducible refine Ext.pAlloc ?_ _ | ((with_reducible refine Ext.pSet ?_ ?_ _); rotate_left; (simp <;> omega)) | with_reducible refine Ext.pDrew ?_ | with_reducible refine Ext.pDrewN ?_ _)) C_w7 (by omega)
            have zw7 : w6.heap.size + 1 ≤ w7.heap.size := by have := C_w7.size; (try simp at this); omega
            have B_t' : Bx w7 w.heap.size [.slice ua d.1.length uc, .slice va d.2.length vc, .slice ua' d'.1.length uc', .slice va' d'.2.length vc'] := Bx.chg (by repeat (first | with_reducible assumption | with_reducible exact Bx.new _ _ _ _ rfl | ((with_reducible refine Bx.new _ _ _ _ ?_); simp; done) | with_reducible refine Bx.pAlloc ?_ _ | with_reducible refine Bx.pDrew ?_ | with_reducible refine Bx.pDrewN ?_ _ | with_reducible apply Bx.set10 | with_reducible apply Bx.set20 | with_reducible apply Bx.set21 | with_reducible apply Bx.set30 | with_reducible apply Bx.set31 | with_reducible apply Bx.set32 | with_reducible apply Bx.set40 | with_reducible apply Bx.set41 | with_reducible apply Bx.set42 | with_reducible apply Bx.set43 | ((with_reducible refine Bx.set_other ?_ ?_ _); rotate_left; (simp <;> omega)))) C_w7 (by omega)
            have O_r1' : (rowC).own (w4.heap.size) (w5.heap.size) w7 [.slice ra1 r1.length rc1] (r1) := Cd.own.chg (by repeat (first | with_reducible assumption | with_reducible refine Cd.own.pAlloc ?_ _ | with_reducible refine Cd.own.pDrew ?_ | with_reducible refine Cd.own.pDrewN ?_ _ | ((with_reducible refine Cd.own.pSet ?_ ?_ _); rotate_left; (simp <;> omega)))) C_w7 (by omega)
            have O_r2' : (rowC).own (w5.heap.size) (w6.heap.size) w7 [.slice ra2 r2.length rc2] (r2) := Cd.own.chg (by repeat (first | with_reducible assumption | with_reducible refine Cd.own.pAlloc ?_ _ | with_reducible refine Cd.own.pDrew ?_ | with_reducible refine Cd.own.pDrewN ?_ _ | ((with_reducible refine Cd.own.pSet ?_ ?_ _); rotate_left; (simp <;> omega)))) C_w7 (by omega)
            clear c_t_0 c_t_1 c_t_2 c_t_3 n_t
            clear B_t
            have B_t := B_t'; clear B_t'
            clear O_r1; have O_r1 := O_r1'; clear O_r1'
            clear O_r2; have O_r2 := O_r2'; clear O_r2'
            clear C_w7 Xw6
            have c_t_0 := B_t.cell 0 _ rfl
            have c_t_1 := B_t.cell 1 _ rfl
            have c_t_2 := B_t.cell 2 _ rfl
            have c_t_3 := B_t.cell 3 _ rfl
            have n_t := B_t.lt
            clear O_k; have O_k : rowsC.own (w.heap.size + 1) w7.heap.size w7 [.slice ka1 (0 + 1) kc1] [r1] := O_n; clear O_n
            go_wp2_with fail
            refine (specSameRow_c _ _ r1 r2 _ (Cd.own.view (R := rowC) (lo := w4.heap.size) (hi := w5.heap.size) (by repeat (first | with_reducible assumption | with_reducible refine Cd.own.pAlloc ?_ _ | with_reducible refine Cd.own.pDrew ?_ | with_reducible refine Cd.own.pDrewN ?_ _ | ((with_reducible refine Cd.own.pSet ?_ ?_ _); rotate_left; (simp <;> omega))))) (Cd.own.view (R := rowC) (lo := w5.heap.size) (hi := w6.heap.size) (by repeat (first | with_reducible assumption | with_reducible refine Cd.own.pAlloc ?_ _ | with_reducible refine Cd.own.pDrew ?_ | with_reducible refine Cd.own.pDrewN ?_ _ | ((with_reducible refine Cd.own.pSet ?_ ?_ _); rotate_left; (simp <;> omega)))))).mono ?_
            rw [Hd.out]
            rintro e w8 ⟨rfl, Ew8⟩
            have Xw8 : Ext w w8 := Ext.trans (by repeat (first | with_reducible exact Ext.refl _ | with_reducible assumption | with_reducible refine Ext.pAlloc ?_ _ | ((with_reducible refine Ext.pSet ?_ ?_ _); rotate_left; (simp <;> omega)) | with_reducible refine Ext.pDrew ?_ | with_reducible refine Ext.pDrewN ?_ _)) Ew8
            have zw8 : w7.heap.size ≤ w8.heap.size := by have := Ew8.size; (try simp at this); omega
            have B_t' : Bx w8 w.heap.size [.slice ua d.1.length uc, .slice va d.2.length vc, .slice ua' d'.1.length uc', .slice va' d'.2.length vc'] := Bx.ext (by repeat (first | with_reducible assumption | with_reducible exact Bx.new _ _ _ _ rfl | ((with_reducible refine Bx.new _ _ _ _ ?_); simp; done) | with_reducible refine Bx.pAlloc ?_ _ | with_reducible refine Bx.pDrew ?_ | with_reducible refine Bx.pDrewN ?_ _ | with_reducible apply Bx.set10 | with_reducible apply Bx.set20 | with_reducible apply Bx.set21 | with_reducible apply Bx.set30 | with_reducible apply Bx.set31 | with_reducible apply Bx.set32 | with_reducible apply Bx.set40 | with_reducible apply Bx.set41 | with_reducible apply Bx.set42 | with_reducible apply Bx.set43 | ((with_reducible refine Bx.set_other ?_ ?_ _); rotate_left; (simp <;> omega)))) Ew8
            have O_r2' : (rowC).own (w5.heap.size) (w6.heap.size) w8 [.slice ra2 r2.length rc2] (r2) := Cd.own.ext (by repeat (first | with_reducible assumption | with_reducible refine Cd.own.pAlloc ?_ _ | with_reducible refine Cd.own.pDrew ?_ | with_reducible refine Cd.own.pDrewN ?_ _ | ((with_reducible refine Cd.own.pSet ?_ ?_ _); rotate_left; (simp <;> omega)))) Ew8
            have O_k' : (rowsC).own (w.heap.size + 1) (w7.heap.size) w8 [.slice ka1 (0 + 1) kc1] ([r1]) := Cd.own.ext (by repeat (first | with_reducible assumption | with_reducible refine Cd.own.pAlloc ?_ _ | with_reducible refine Cd.own.pDrew ?_ | with_reducible refine Cd.own.pDrewN ?_ _ | ((with_reducible refine Cd.own.pSet ?_ ?_ _); rotate_left; (simp <;> omega)))) Ew8
            clear c_t_0 c_t_1 c_t_2 c_t_3 n_t
            clear B_t
            have B_t := B_t'; clear B_t'
            clear O_r2; have O_r2 := O_r2'; clear O_r2'
            clear O_k; have O_k := O_k'; clear O_k'
            clear Ew8 Xw7
            have c_t_0 := B_t.cell 0 _ rfl
            have c_t_1 := B_t.cell 1 _ rfl
            have c_t_2 := B_t.cell 2 _ rfl
            have c_t_3 := B_t.cell 3 _ rfl
            have n_t := B_t.lt
            go_wp2
            go_ret
            exact ⟨.slice ka1 (0 + 1) kc1, rfl, by repeat (first | with_reducible exact Ext.refl _ | with_reducible assumption | with_reducible refine Ext.pAlloc ?_ _ | ((with_reducible refine Ext.pSet ?_ ?_ _); rotate_left; (simp <;> omega)) | with_reducible refine Ext.pDrew ?_ | with_reducible refine Ext.pDrewN ?_ _), by (try simp only [reduceIte, Bool.false_eq_true, false_and, not_false_eq_true, and_true, and_self, true_and, List.append_nil, List.nil_append]); exact Cd.own.wide (lo := w.heap.size + 1) (hi := w7.heap.size) (by repeat (first | with_reducible assumption | with_reducible refine Cd.own.pAlloc ?_ _ | with_reducible refine Cd.own.pDrew ?_ | with_reducible refine Cd.own.pDrewN ?_ _ | ((with_reducible refine Cd.own.pSet ?_ ?_ _); rotate_left; (simp <;> omega)))) (by omega) (by first | omega | (simp <;> omega))⟩

end Go.Proofs.Ytbapomhoipdanaa

/- Copies of messages and of networks. -/
import Derived.Test.YtjjeagblgjmcpaaNt3
set_option linter.unusedVariables false
set_option linter.unusedSimpArgs false
namespace Go.Sl
open Go.RowKit
theorem nilN_O {α : Type} {R : Cd α} (w : World) : (sliceC R).O w [.slice none 0 0] [] [] := ⟨none, 0, [], [], rfl, Nat.le_refl _, Nat.zero_le _, .inl ⟨rfl, rfl, rfl⟩, ⟨rfl, rfl⟩, rfl⟩
theorem nilN {α : Type} {R : Cd α} (lo hi : Nat) (w : World) : (sliceC R).own lo hi w [.slice none 0 0] [] := ⟨[], nilN_O w, List.nodup_nil, by simp⟩

theorem opwp_append_sl {P : Program} {w : World} {o : Oper} {ac : Act} {K : Act → World → Prop} {Q : Exit → Act → World → Prop} (s x : Operand) (t : TypeId)
    (ho : o.op = .call { callee := .builtin .append, args := #[s, x], argTypes := #[t, t] })
    (e : TypeId) (z : Value) (n bytes : Nat) (ht : P.underlying t = some (.slice e)) (hinfo : (P.info? e).map (fun i => (i.zero, i.size, i.bytes)) = some (some z, n, bytes)) (hzs : z.cells.size = n)
    (a : Option Addr) (len cap : Nat) (xs : List Value) (hs : ac.eval s = .slice a len cap) (hl : xs.length = len * n) (hsl : SlAt w n a cap xs) (hlc : len ≤ cap) (hcap : cap ≤ 9223372036854775807)
    (ax : Option Addr) (m c : Nat) (news : List Value) (hx : ac.eval x = .slice ax m c) (hnl : news.length = m * n) (hnews : CellsAt w ax news) (h1 : ∀ u ∈ news, u.oneCell' = true)
    (hbytes : (len + m) * bytes ≤ 140737488355328 ∧ len + m ≤ 9223372036854775807)
    (h : ∀ a' cap' w', SlAt w' n a' cap' (xs ++ news) → len + m ≤ cap' → cap' ≤ 9223372036854775807 → AppW w w' a a' → K (ac.put o.dst (.slice a' (len + m) cap')) w') : Oper.wp P o ac w K Q := by
  obtain ⟨i, hi, hz, hsize, hby⟩ := info_parts hinfo
  obtain ⟨a', cap', w', hr, h2, h3, h4, h5⟩ := run_append_sl (P := P) w t o.type e i z n bytes ht hi hz hsize hby hzs a len cap xs hl hsl hlc ax m c news hnl hnews h1 (by simpa [maxLen] using hcap) (by simpa [maxLen] using hbytes.2) hbytes.1
  unfold Oper.wp execOp
  simp only [ho, resolve, invoke, builtin, Sem.run_bind, Sem.run_pure, Result.andThen_ok, List.map_toArray, List.map_cons, List.map_nil, hs, hx, hr]
  exact h a' cap' w' h2 h3 (by simpa [maxLen] using h4) h5

/-- What is read of a slice: its cells, and their number. -/
theorem sl_cells {α : Type} {R : Cd α} {w : World} {v : Value} {l : List α} (h : (sliceC R).V w [v] l) : ∃ a cap xs, v = .slice a l.length cap ∧ l.length ≤ cap ∧ cap ≤ 9223372036854775807 ∧ CellsAt w a xs ∧ elemsV (R.V w) xs l := by
  obtain ⟨a, cap, xs, h1, h2, h3, h4, h5⟩ := h
  exact ⟨a, cap, xs, (List.cons.inj h1).1, h2, by simpa [maxLen] using h3, h4, h5⟩

theorem links_fp {w : World} {xs : List Value} {l : List (Int × Int)} {fp : List Nat} (h : elemsO (linkC.O w) xs l fp) : fp = [] := by
  induction l generalizing xs fp with
  | nil => exact h.2
  | cons x l ih =>
    obtain ⟨c, r, f, g, rfl, rfl, hc, hr⟩ := h
    rw [(link_O.1 hc).2, ih hr]; rfl
theorem elems_links {w w' : World} {xs : List Value} {l : List (Int × Int)} (h : elemsV (linkC.V w) xs l) : elemsO (linkC.O w') xs l [] := by
  induction l generalizing xs with
  | nil => exact ⟨h, rfl⟩
  | cons x l ih =>
    obtain ⟨c, r, rfl, hc, hr⟩ := h
    exact ⟨c, r, [], [], rfl, rfl, link_O.2 ⟨link_V.1 hc, rfl⟩, ih hr⟩

/-- Links behind an append. -/
theorem links_app {lo n : Nat} {w0 w w' : World} {a a' : Option Addr} {cap' : Nat} {l : List (Int × Int)} {xs : List Value} (hs : SlAt w' 2 a' cap' xs) (he : elemsV (linkC.V w0) xs l) (hn : n = l.length) (hc : n ≤ cap') (hm : cap' ≤ 9223372036854775807) (hw : AppW w w' a a') (hlo : lo ≤ w.heap.size) (ha : ∀ b ∈ ablk a, lo ≤ b) :
    (sliceC linkC).own lo w'.heap.size w' [.slice a' n cap'] l := by
  subst hn
  refine ⟨ablk a', ⟨a', cap', xs, [], rfl, hc, by simpa [maxLen] using hm, hs, elems_links he, by simp⟩, by cases a' <;> simp [ablk], fun b hb => ⟨?_, hs.lt b hb⟩⟩
  rcases hw.mem hb with h | ⟨h, _⟩
  · exact ha b h
  · omega
section
variable {P : Program} {ops : Array Oper} {Q : Exit → Act → World → Prop} {md : Region.Mode} {S : World → Prop} {n : Nat}
/-- Either of two may be next. -/
theorem wpT_step2 {i j : Nat} {o o' : Oper} {fuel : Nat} {listed : Array Bool} {a : Act} {w : World} (hr : Region.ready md ops listed = [i, j]) (hin : i < n) (hjn : j < n) (ho : ops[i]? = some o) (ho' : ops[j]? = some o')
    (h : ∀ K' : Act → World → Prop, Shut (∀ a w, S w → (S w → wpT P md ops Q S n fuel (listed.setIfInBounds i true) a w) → K' a w) → if Region.wanted o (yielded ops a.tmps) = true then Oper.wp P o a w K' Q else K' (a.put o.dst undef) w)
    (h' : ∀ K' : Act → World → Prop, Shut (∀ a w, S w → (S w → wpT P md ops Q S n fuel (listed.setIfInBounds j true) a w) → K' a w) → if Region.wanted o' (yielded ops a.tmps) = true then Oper.wp P o' a w K' Q else K' (a.put o'.dst undef) w) :
    wpT P md ops Q S n (fuel + 1) listed a w := by
  intro inv
  have inv1 : HeadInv md ops n (listed.setIfInBounds i true) := inv.set (by rw [hr]; simp) hin
  have inv2 : HeadInv md ops n (listed.setIfInBounds j true) := inv.set (by rw [hr]; simp) hjn
  refine ⟨fun h0 => (by rw [hr] at h0; cases h0), fun k hk => ?_⟩
  rw [hr] at hk
  rcases List.mem_cons.1 hk with rfl | hk
  · refine wpOp_step ho (fun K' hK => h K' (fun a w hS hW => hK a w ?_))
    rw [if_neg (by omega)]
    exact ⟨hS, hW hS inv1⟩
  · rw [List.mem_singleton.1 hk]
    refine wpOp_step ho' (fun K' hK => h' K' (fun a w hS hW => hK a w ?_))
    rw [if_neg (by omega)]
    exact ⟨hS, hW hS inv2⟩
end
theorem SlAt.litAt (w : World) (E : TypeId) (n g : Nat) (hg : g = w.heap.size) : SlAt (w.alloc (.cells #[] E)) n (Option.some ⟨g, 0, none⟩) 0 [] := by
  subst hg; exact SlAt.lit w #[] E n 0 (by simp)
theorem SlAt.ext {w w' : World} {n : Nat} {a : Option Addr} {cap : Nat} {xs : List Value} (h : SlAt w n a cap xs) (he : Ext w w') : SlAt w' n a cap xs := h.frame (fun b hb => he.block b (h.lt b hb))
end Go.Sl
namespace Go.Proofs.Ytjjeagblgjmcpaa
open Go.RowKit Go.Sl

/-- A network that is owned: its letters in one stretch, its cuts in another. -/
def netS (lo hi : Nat) (w : World) (u v : Value) (d : NetD) : Prop := ∃ a1 b1 a2 b2, lo ≤ a1 ∧ a1 ≤ b1 ∧ b1 ≤ hi ∧ lo ≤ a2 ∧ a2 ≤ b2 ∧ b2 ≤ hi ∧ (b1 ≤ a2 ∨ b2 ≤ a1) ∧ msgsC.own a1 b1 w [u] d.1 ∧ linksC.own a2 b2 w [v] d.2
theorem net_own2 {lo hi a1 b1 c1 d1 a2 b2 : Nat} {w : World} {u v : Value} {m : List MsgD} {l : List LinkD} (h1 : msgsC.own2 a1 b1 c1 d1 w [u] m) (h2 : linksC.own a2 b2 w [v] l)
    (hd : (b1 ≤ a2 ∨ b2 ≤ a1) ∧ (d1 ≤ a2 ∨ b2 ≤ c1)) (hb : (lo ≤ a1 ∧ b1 ≤ hi) ∧ (lo ≤ c1 ∧ d1 ≤ hi) ∧ lo ≤ a2 ∧ b2 ≤ hi) : netC.own lo hi w [u, v] (m, l) := by
  obtain ⟨f, hf, nf, bf⟩ := h1
  obtain ⟨g, hg, ng, bg⟩ := h2
  refine ⟨f ++ g, net_O.2 ⟨u, v, f, g, rfl, rfl, hf, hg⟩, List.nodup_append.2 ⟨nf, ng, fun x hx y hy e => ?_⟩, fun x hx => ?_⟩
  · have := bf x hx; have := bg y hy; omega
  · rcases List.mem_append.1 hx with hx | hx
    · have := bf x hx; omega
    · have := bg x hx; omega
theorem netS.own {lo hi : Nat} {w : World} {u v : Value} {d : NetD} (h : netS lo hi w u v d) : netC.own lo hi w [u, v] d := by
  obtain ⟨a1, b1, a2, b2, h1, h2, h3, h4, h5, h6, h7, h8, h9⟩ := h
  exact net_own2 (c1 := b2) (d1 := b2) (by obtain ⟨f, hf, nf, bf⟩ := h8; exact ⟨f, hf, nf, fun b hb => .inl (bf b hb)⟩) h9 ⟨h7, by omega⟩ (by omega)
theorem netOk_msgs {d : NetD} (h : netOk d = true) : ∀ x ∈ d.1, msgOk x = true := by
  unfold netOk at h
  simp only [Bool.and_eq_true, decide_eq_true_eq, List.all_eq_true] at h
  exact h.1.2
theorem msgOk_len {x : MsgD} (h : msgOk x = true) : x.2.2.length ≤ 48 := by
  unfold msgOk at h
  simp only [Bool.and_eq_true] at h
  exact rowOk_len h.2
theorem netOk_rows {d : NetD} (h : netOk d = true) : ∀ x ∈ d.1, x.2.2.length ≤ 48 := fun x hx => msgOk_len (netOk_msgs h x hx)
theorem netOk_lens {d : NetD} (h : netOk d = true) : d.1.length ≤ 60 ∧ d.2.length ≤ 15 := by
  unfold netOk at h
  simp only [Bool.and_eq_true, decide_eq_true_eq] at h
  exact ⟨h.1.1.1, h.1.1.2⟩
set_option maxRecDepth 20000 in
theorem Try.infoM : (Try.prog.info? 40).map (fun i => (i.zero, i.size, i.bytes)) = some (some (.agg #[.int .i64 0, .int .i64 0, .slice none 0 0]), 3, 40) := by kernel_rfl
set_option maxRecDepth 20000 in
theorem Try.infoL : (Try.prog.info? 53).map (fun i => (i.zero, i.size, i.bytes)) = some (some (.agg #[.int .i64 0, .int .i64 0]), 2, 16) := by kernel_rfl


set_option maxHeartbeats 1600000 in
set_option maxRecDepth 20000 in
theorem copyMsg_c (cs : List Value) (m : MsgD) (w : World) (h0 : msgC.V w cs m) (hs : m.2.2.length ≤ 2097152) :
    Calls Try.prog 32 #[.agg cs.toArray] w fun e w' => ∃ v, e = .returned (.agg #[.int .i64 m.1, .int .i64 m.2.1, v]) ∧ Ext w w' ∧ msgC.own w.heap.size w'.heap.size w' [.int .i64 m.1, .int .i64 m.2.1, v] m := by
  obtain ⟨v, rfl, h⟩ := msg_V.1 h0
  obtain ⟨f, t, l⟩ := m
  simp only at h hs ⊢
  have H := Lib.hid h
  obtain ⟨a, cap, rfl, h1, h2, hc⟩ := row_open h
  clear h hc h0
  go_enter Try.func32, Try.ntmps32
  go_wp2
  refine wp_region_T (S := fun ω => ω.cell? ⟨w.heap.size, 0, none⟩ = some (.int .i64 f) ∧ ω.cell? ⟨w.heap.size, 1, none⟩ = some (.int .i64 t) ∧ ω.cell? ⟨w.heap.size, 2, none⟩ = some (.slice a l.length cap) ∧ Bx ω (w.heap.size + 1) [.int .i64 0, .int .i64 0, .slice none 0 0] ∧ Ext w ω) 8 (by kernel_rfl) ?_ (fun hHeld => ?_) (by decide)
  · (try dsimp only); (refine ⟨?_, ?_, ?_, ?_, ?_⟩ <;> first | (simp [go_sem]; done) | (simp [*, go_sem]; done) | ((repeat (first | with_reducible assumption | with_reducible exact Bx.new _ _ _ _ rfl | ((with_reducible refine Bx.new _ _ _ _ ?_); simp; done) | with_reducible refine Bx.pAlloc ?_ _ | with_reducible refine Bx.pDrew ?_ | with_reducible refine Bx.pDrewN ?_ _ | with_reducible apply Bx.set10 | with_reducible apply Bx.set20 | with_reducible apply Bx.set21 | with_reducible apply Bx.set30 | with_reducible apply Bx.set31 | with_reducible apply Bx.set32 | with_reducible apply Bx.set40 | with_reducible apply Bx.set41 | with_reducible apply Bx.set42 | with_reducible apply Bx.set43 | ((with_reducible refine Bx.set_other ?_ ?_ _); rotate_left; (simp <;> omega)))); done) | ((repeat (first | with_reducible exact Ext.refl _ | with_reducible assumption | with_reducible refine Ext.pAlloc ?_ _ | ((with_reducible refine Ext.pSet ?_ ?_ _); rotate_left; (simp <;> omega)) | with_reducible refine Ext.pDrew ?_ | with_reducible refine Ext.pDrewN ?_ _)); done))
  refine wpT_take (i := 0) (v := ?_) rfl (by kernel_rfl) (by decide) (by kernel_rfl) (by kernel_rfl) (by kernel_rfl) (fun _ _ _ h => h) (Or.inl ⟨by rfl, ?_⟩) (by assumption) ?_
  rotate_left
  · intro w9 hSw; (try dsimp only at hSw); go_simp; (first | done | with_reducible rfl)
  (try simp only [List.getElem_toArray, List.getElem_cons_succ, List.getElem_cons_zero, Act.put, List.setIfInBounds_toArray, List.set_cons_zero, List.set_cons_succ])
  refine wpT_take (i := 1) (v := ?_) rfl (by kernel_rfl) (by decide) (by kernel_rfl) (by kernel_rfl) (by kernel_rfl) (fun _ _ _ h => h) (Or.inl ⟨by rfl, ?_⟩) (by assumption) ?_
  rotate_left
  · intro w9 hSw; (try dsimp only at hSw); go_simp; (first | done | with_reducible rfl)
  (try simp only [List.getElem_toArray, List.getElem_cons_succ, List.getElem_cons_zero, Act.put, List.setIfInBounds_toArray, List.set_cons_zero, List.set_cons_succ])
  refine wpT_take (i := 2) (v := ?_) rfl (by kernel_rfl) (by decide) (by kernel_rfl) (by kernel_rfl) (by kernel_rfl) (fun _ _ _ h => h) (Or.inl ⟨by rfl, ?_⟩) (by assumption) ?_
  rotate_left
  · intro w9 hSw; (try dsimp only at hSw); go_simp; (first | done | with_reducible rfl)
  (try simp only [List.getElem_toArray, List.getElem_cons_succ, List.getElem_cons_zero, Act.put, List.setIfInBounds_toArray, List.set_cons_zero, List.set_cons_succ])
  refine wpT_take (i := 3) (v := ?_) rfl (by kernel_rfl) (by decide) (by kernel_rfl) (by kernel_rfl) (by kernel_rfl) (fun _ _ _ h => h) (Or.inl ⟨by rfl, ?_⟩) (by assumption) ?_
  rotate_left
  · intro w9 hSw; (try dsimp only at hSw); go_simp; (first | done | with_reducible rfl)
  (try simp only [List.getElem_toArray, List.getElem_cons_succ, List.getElem_cons_zero, Act.put, List.setIfInBounds_toArray, List.set_cons_zero, List.set_cons_succ])
  refine wpT_take (i := 4) (v := ?_) rfl (by kernel_rfl) (by decide) (by kernel_rfl) (by kernel_rfl) (by kernel_rfl) (fun _ _ _ h => h) (Or.inl ⟨by rfl, ?_⟩) (by assumption) ?_
  rotate_left
  · intro w9 hSw; (try dsimp only at hSw); go_simp; (first | done | with_reducible rfl)
  (try simp only [List.getElem_toArray, List.getElem_cons_succ, List.getElem_cons_zero, Act.put, List.setIfInBounds_toArray, List.set_cons_zero, List.set_cons_succ])
  refine wpT_take (i := 5) (v := ?_) rfl (by kernel_rfl) (by decide) (by kernel_rfl) (by kernel_rfl) (by kernel_rfl) (fun _ _ _ h => h) (Or.inl ⟨by rfl, ?_⟩) (by assumption) ?_
  rotate_left
  · intro w9 hSw; (try dsimp only at hSw); go_simp; (first | done | with_reducible rfl)
  (try simp only [List.getElem_toArray, List.getElem_cons_succ, List.getElem_cons_zero, Act.put, List.setIfInBounds_toArray, List.set_cons_zero, List.set_cons_succ])
  refine wpT_step (i := 6) (by kernel_rfl) (by decide) rfl (fun K hK => ?_)
  go_simp
  refine (copyRow_c _ l _ (rowC.vext H.out hHeld.2.2.2.2) hs).mono ?_
  rintro e w2 ⟨u2, rfl, hE2, hO2⟩
  have hEw : Ext w w2 := hHeld.2.2.2.2.trans hE2
  obtain ⟨ua2, uc2, rfl⟩ := u_slice hO2.view
  have hz2 : w.heap.size + 2 ≤ w2.heap.size := by have := hE2.size; (try simp at this); omega
  have HO2 := Lib.hid (Cd.own.wide hO2 (lo' := w.heap.size + 2) (by simp) (Nat.le_refl _)); clear hO2
  (try go_wp2_with fail)
  refine hK.out _ _ ?_ (fun hHeld2 => ?_)
  · (try dsimp only); (obtain ⟨s0, s1, s2, s3, s4⟩ := hHeld; exact ⟨cell_ext s0 hE2, cell_ext s1 hE2, cell_ext s2 hE2, Bx.ext s3 hE2, s4.trans hE2⟩)
  clear hK K hHeld
  rename _ => hHeld
  (try simp only [List.getElem_toArray, List.getElem_cons_succ, List.getElem_cons_zero, Act.put, List.setIfInBounds_toArray, List.set_cons_zero, List.set_cons_succ])
  refine wpT_take (i := 7) (v := ?_) rfl (by kernel_rfl) (by decide) (by kernel_rfl) (by kernel_rfl) (by kernel_rfl) (fun _ _ _ h => h) (Or.inl ⟨by rfl, ?_⟩) (by assumption) ?_
  rotate_left
  · intro w9 hSw; (try dsimp only at hSw); go_simp; (first | done | with_reducible rfl)
  (try simp only [List.getElem_toArray, List.getElem_cons_succ, List.getElem_cons_zero, Act.put, List.setIfInBounds_toArray, List.set_cons_zero, List.set_cons_succ])
  refine wpT_last (by kernel_rfl) (by kernel_rfl) rfl (fun K hK => ?_)
  obtain ⟨e0, e1, e2, e3, e4⟩ := hHeld
  clear e0 e1 e2
  have c0 := e3.cell 0 _ rfl; have c1 := e3.cell 1 _ rfl; have c2 := e3.cell 2 _ rfl; have f3 := e3.fr
  go_simp
  refine hK.out _ _ ?_
  clear hK K
  go_wp2
  refine bodyPost_ret (v := .agg #[.int .i64 f, .int .i64 t, .slice ua2 l.length uc2]) (by simp [results, Try.results32, go_sem, c0, c1, c2]) rfl ⟨_, rfl, ?_, ?_⟩
  · repeat (first | with_reducible exact Ext.refl _ | with_reducible assumption | with_reducible refine Ext.pAlloc ?_ _ | ((with_reducible refine Ext.pSet ?_ ?_ _); rotate_left; (simp <;> omega)) | with_reducible refine Ext.pDrew ?_ | with_reducible refine Ext.pDrewN ?_ _ | with_reducible refine Ext.trans ?_ (by with_reducible assumption))
  · refine msg_own.2 ⟨_, rfl, ?_⟩
    refine Cd.own.wide (lo := w.heap.size + 2) (hi := w2.heap.size) ?_ (by omega) (by simp [World.setCell])
    repeat (refine own_set ?_ (by simp <;> omega) _)
    exact HO2.out




set_option maxHeartbeats 4000000 in
set_option maxRecDepth 20000 in
theorem copyNet_c (cs : List Value) (d : NetD) (w : World) (h : netC.V w cs d) (hok : netOk d = true) :
    Calls Try.prog 20 #[.agg cs.toArray] w fun e w' => ∃ u v, e = .returned (.agg #[u, v]) ∧ Ext w w' ∧ netS w.heap.size w'.heap.size w' u v d := by
  have HD := Lib.hid h
  obtain ⟨u, v, rfl, hu, hv⟩ := net_V.1 h
  obtain ⟨ms, ls⟩ := d
  have z1 := netOk_rows hok
  obtain ⟨z2, z3⟩ := netOk_lens hok
  simp only at hu hv z1 z2 z3
  obtain ⟨a, cap, rfl, h1, h2, hc⟩ := slice_open (R := msgC) (by decide) hu
  obtain ⟨va, vc, xs, rfl, hl1, hl2, hcs, hel⟩ := sl_cells hv
  have Z1 := Lib.hid z1
  have HinfM := Lib.hid Try.infoM
  have Hinf := Lib.hid Try.infoL
  have hxl := elemsV_len linkC hel
  rw [show linkC.n = 2 from rfl] at hxl
  have hxo := elemsV_one linkC hel
  have Hcs := Lib.hid (And.intro hcs hel)
  have Hxl := Lib.hid (And.intro hxl hxo)
  clear hu hv h hok z1 hcs hel hxl hxo
  try simp only at h1 hc
  go_enter Try.func20, Try.ntmps20
  go_wp2_with (at_builtin; go_loud (refine wpList_append_sl _ rfl _ _ _ rfl 53 _ 2 16 Try.underlying28 Hinf.out rfl _ 0 0 [] rfl rfl (SlAt.litAt _ _ _ _ (by simp)) (Nat.le_refl _) (by omega) _ ls.length _ xs rfl Hxl.out.1 (Hcs.out.1.ext (((Ext.alloc _ _).trans (Ext.alloc _ _)).trans (Ext.alloc _ _))) Hxl.out.2 (by omega) ?_))
  intro a4 c4 w1 hs4 hle4 hm4 hA4
  try simp only [Nat.zero_add, List.nil_append] at hs4 hle4
  try simp only [Nat.zero_add]
  have hC4 := hA4.chg (lo := w.heap.size + 2) (hi := w.heap.size + 3) (by simp [ablk])
  have O4 := links_app (lo := w.heap.size + 2) hs4 Hcs.out.2 rfl hle4 hm4 hA4 (by simp) (by simp [ablk])
  have X1 : Ext w w1 := Chg.ext (by repeat (first | with_reducible exact Ext.refl _ | with_reducible assumption | with_reducible refine Ext.pAlloc ?_ _ | ((with_reducible refine Ext.pSet ?_ ?_ _); rotate_left; (simp <;> omega)) | with_reducible refine Ext.pDrew ?_ | with_reducible refine Ext.pDrewN ?_ _ | with_reducible refine Ext.trans ?_ (by with_reducible assumption))) hC4 (by omega)
  have z1 : w.heap.size + 3 ≤ w1.heap.size := by have := hC4.size; (try simp at this); omega
  have B_d : Bx w1 (w.heap.size) [.slice a ms.length cap, .slice va ls.length vc] := Bx.chg (by repeat (first | with_reducible assumption | with_reducible exact Bx.new _ _ _ _ rfl | ((with_reducible refine Bx.new _ _ _ _ ?_); simp; done) | with_reducible refine Bx.pAlloc ?_ _ | with_reducible refine Bx.pDrew ?_ | with_reducible refine Bx.pDrewN ?_ _ | with_reducible apply Bx.set10 | with_reducible apply Bx.set20 | with_reducible apply Bx.set21 | with_reducible apply Bx.set30 | with_reducible apply Bx.set31 | with_reducible apply Bx.set32 | with_reducible apply Bx.set40 | with_reducible apply Bx.set41 | with_reducible apply Bx.set42 | with_reducible apply Bx.set43 | ((with_reducible refine Bx.set_other ?_ ?_ _); rotate_left; (simp <;> omega)))) hC4 (by omega)
  have B_r : Bx w1 (w.heap.size + 1) [.slice none 0 0, .slice none 0 0] := Bx.chg (by repeat (first | with_reducible assumption | with_reducible exact Bx.new _ _ _ _ rfl | ((with_reducible refine Bx.new _ _ _ _ ?_); simp; done) | with_reducible refine Bx.pAlloc ?_ _ | with_reducible refine Bx.pDrew ?_ | with_reducible refine Bx.pDrewN ?_ _ | with_reducible apply Bx.set10 | with_reducible apply Bx.set20 | with_reducible apply Bx.set21 | with_reducible apply Bx.set30 | with_reducible apply Bx.set31 | with_reducible apply Bx.set32 | with_reducible apply Bx.set40 | with_reducible apply Bx.set41 | with_reducible apply Bx.set42 | with_reducible apply Bx.set43 | ((with_reducible refine Bx.set_other ?_ ?_ _); rotate_left; (simp <;> omega)))) hC4 (by omega)
  have HO4 := Lib.hid O4
  have Hle := Lib.hid (And.intro hle4 hm4)
  have HX1 := Lib.hid X1
  clear hs4 hA4 hC4 O4 hle4 hm4 X1
  have c0 := B_d.cell 0 _ rfl
  have n0 := B_d.lt
  go_wp2
  clear c0
  have B_o : Bx (w1.alloc (.cells #[.slice none 0 0, .slice a4 ls.length c4] 30)) w1.heap.size [.slice none 0 0, .slice a4 ls.length c4] := Bx.new _ _ _ _ rfl
  have B_d1 : Bx (w1.alloc (.cells #[.slice none 0 0, .slice a4 ls.length c4] 30)) (w.heap.size) [.slice a ms.length cap, .slice va ls.length vc] := B_d.pAlloc _
  have B_r1 : Bx (w1.alloc (.cells #[.slice none 0 0, .slice a4 ls.length c4] 30)) (w.heap.size + 1) [.slice none 0 0, .slice none 0 0] := B_r.pAlloc _
  clear B_d B_r
  go_loopw [14] (fun i wr => ∃ (k : Nat) (v3 : Value), k ≤ ms.length ∧ i = .int .i64 k ∧ (∃ a c, v3 = .slice a k c) ∧ Bx wr (w.heap.size + 1) [.slice none 0 0, .slice none 0 0] ∧ Bx wr w1.heap.size [v3, .slice a4 ls.length c4] ∧ msgsC.own (w1.heap.size + 1) wr.heap.size wr [v3] (ms.take k) ∧ Ext w1 wr ∧ w1.heap.size + 1 ≤ wr.heap.size) (fun i _ => ms.length - (intOf i).toNat)
  case atStart => exact ⟨0, .slice none 0 0, Nat.zero_le _, rfl, ⟨_, _, rfl⟩, B_r1, B_o, nilN _ _ _, Ext.alloc _ _, by simp⟩
  case round =>
    clear B_o B_d1 B_r1
    obtain ⟨k, v3, hk, rfl, ⟨wa, wc, rfl⟩, B_r, B_o, O_k, X, hzq⟩ := hrel
    by_cases hlt : k < ms.length
    · obtain ⟨b, off, x, c, rfl, hx, hvx, hcell⟩ := hc k hlt
      clear hc
      obtain ⟨y, rfl, hvy⟩ := msg_V.1 hvx
      obtain ⟨xa, xc, rfl⟩ := u_slice hvy
      have hXw := HX1.out.trans X
      have HV := Lib.hid hvx
      have hcw0 : wr.cell? ⟨b, off + k * 3, none⟩ = some (.int .i64 x.1) := cell_ext (hcell 0 _ rfl) hXw
      have hcw1 : wr.cell? ⟨b, off + k * 3 + 1, none⟩ = some (.int .i64 x.2.1) := cell_ext (hcell 1 _ rfl) hXw
      have hcw2 : wr.cell? ⟨b, off + k * 3 + 2, none⟩ = some (.slice xa x.2.2.length xc) := cell_ext (hcell 2 _ rfl) hXw
      have nb := World.block_lt_of_cell? _ _ (hcell 0 _ rfl)
      clear hvx hvy hcell
      have hlen := Z1.out x (List.mem_of_getElem? hx.out)
      have c1 := B_o.cell 0 _ rfl
      have nO := B_o.lt
      go_wp2
      refine wp_region_T (S := fun ω => ω.cell? ⟨w1.heap.size, 0, none⟩ = some (.slice wa k wc) ∧ ω.cell? ⟨wr.heap.size, 0, none⟩ = some (.int .i64 x.1) ∧ ω.cell? ⟨wr.heap.size, 1, none⟩ = some (.int .i64 x.2.1) ∧ ω.cell? ⟨wr.heap.size, 2, none⟩ = some (.slice xa x.2.2.length xc) ∧ Bx ω (w.heap.size + 1) [.slice none 0 0, .slice none 0 0] ∧ Bx ω (w1.heap.size) [.slice wa k wc, .slice a4 ls.length c4] ∧ Ext w1 ω) 7 (by kernel_rfl) ?_ (fun hHeld => ?_) (by decide)
      · (try dsimp only); (refine ⟨?_, ?_, ?_, ?_, ?_, ?_, ?_⟩ <;> first | (simp [go_sem]; done) | (simp [*, go_sem]; done) | ((repeat (first | with_reducible assumption | with_reducible exact Bx.new _ _ _ _ rfl | ((with_reducible refine Bx.new _ _ _ _ ?_); simp; done) | with_reducible refine Bx.pAlloc ?_ _ | with_reducible refine Bx.pDrew ?_ | with_reducible refine Bx.pDrewN ?_ _ | with_reducible apply Bx.set10 | with_reducible apply Bx.set20 | with_reducible apply Bx.set21 | with_reducible apply Bx.set30 | with_reducible apply Bx.set31 | with_reducible apply Bx.set32 | with_reducible apply Bx.set40 | with_reducible apply Bx.set41 | with_reducible apply Bx.set42 | with_reducible apply Bx.set43 | ((with_reducible refine Bx.set_other ?_ ?_ _); rotate_left; (simp <;> omega)))); done) | ((repeat (first | with_reducible exact Ext.refl _ | with_reducible assumption | with_reducible refine Ext.pAlloc ?_ _ | ((with_reducible refine Ext.pSet ?_ ?_ _); rotate_left; (simp <;> omega)) | with_reducible refine Ext.pDrew ?_ | with_reducible refine Ext.pDrewN ?_ _)); done))
      refine wpT_take (i := 0) (v := ?_) rfl (by kernel_rfl) (by decide) (by kernel_rfl) (by kernel_rfl) (by kernel_rfl) (fun _ _ _ h => h) (Or.inl ⟨by rfl, ?_⟩) (by assumption) ?_
      rotate_left
      · intro w9 hSw; (try dsimp only at hSw); go_simp; (first | done | with_reducible rfl)
      (try simp only [List.getElem_toArray, List.getElem_cons_succ, List.getElem_cons_zero, Act.put, List.setIfInBounds_toArray, List.set_cons_zero, List.set_cons_succ])
      refine wpT_take (i := 1) (v := ?_) rfl (by kernel_rfl) (by decide) (by kernel_rfl) (by kernel_rfl) (by kernel_rfl) (fun _ _ _ h => h) (Or.inl ⟨by rfl, ?_⟩) (by assumption) ?_
      rotate_left
      · intro w9 hSw; (try dsimp only at hSw); go_simp; (first | done | with_reducible rfl)
      (try simp only [List.getElem_toArray, List.getElem_cons_succ, List.getElem_cons_zero, Act.put, List.setIfInBounds_toArray, List.set_cons_zero, List.set_cons_succ])
      refine wpT_take (i := 2) (v := ?_) rfl (by kernel_rfl) (by decide) (by kernel_rfl) (by kernel_rfl) (by kernel_rfl) (fun _ _ _ h => h) (Or.inl ⟨by rfl, ?_⟩) (by assumption) ?_
      rotate_left
      · intro w9 hSw; (try dsimp only at hSw); go_simp; (first | done | with_reducible rfl)
      (try simp only [List.getElem_toArray, List.getElem_cons_succ, List.getElem_cons_zero, Act.put, List.setIfInBounds_toArray, List.set_cons_zero, List.set_cons_succ])
      refine wpT_step (i := 3) (by kernel_rfl) (by decide) rfl (fun K hK => ?_)
      go_simp
      refine (copyMsg_c _ x _ (msgC.vext HV.out (HX1.out.trans hHeld.2.2.2.2.2.2)) (by omega)).mono ?_
      rintro e w2 ⟨u2, rfl, hE2, hO2⟩
      have hEw : Ext wr w2 := Ext.trans (by repeat (first | with_reducible exact Ext.refl _ | with_reducible assumption | with_reducible refine Ext.pAlloc ?_ _ | ((with_reducible refine Ext.pSet ?_ ?_ _); rotate_left; (simp <;> omega)) | with_reducible refine Ext.pDrew ?_ | with_reducible refine Ext.pDrewN ?_ _)) hE2
      obtain ⟨u3, e3, hO2r⟩ := msg_own.1 hO2
      cases e3
      obtain ⟨ua2, uc2, rfl⟩ := u_slice hO2r.view
      clear hO2r
      have hz2 : wr.heap.size + 1 ≤ w2.heap.size := by have := hE2.size; (try simp at this); omega
      (try go_wp2_with fail)
      refine hK.out _ _ ?_ (fun hHeld2 => ?_)
      · (try dsimp only); (obtain ⟨s0, s1, s2, s3, s4, s5, s6⟩ := hHeld; exact ⟨cell_ext s0 hE2, cell_ext s1 hE2, cell_ext s2 hE2, cell_ext s3 hE2, Bx.ext s4 hE2, Bx.ext s5 hE2, s6.trans hE2⟩)
      clear hK K hHeld
      rename _ => hHeld
      (try simp only [List.getElem_toArray, List.getElem_cons_succ, List.getElem_cons_zero, Act.put, List.setIfInBounds_toArray, List.set_cons_zero, List.set_cons_succ])
      refine wpT_step (i := 4) (by kernel_rfl) (by decide) rfl (fun K hK => ?_)
      go_simp
      refine hK.out _ _ ?_ (fun hHeld2 => ?_)
      · (try dsimp only); (obtain ⟨s0, s1, s2, s3, s4, s5, s6⟩ := hHeld; exact ⟨cell_ext s0 (Ext.alloc _ _), cell_ext s1 (Ext.alloc _ _), cell_ext s2 (Ext.alloc _ _), cell_ext s3 (Ext.alloc _ _), Bx.ext s4 (Ext.alloc _ _), Bx.ext s5 (Ext.alloc _ _), s6.trans (Ext.alloc _ _)⟩)
      clear hK K hHeld
      rename _ => hHeld
      (try simp only [List.getElem_toArray, List.getElem_cons_succ, List.getElem_cons_zero, Act.put, List.setIfInBounds_toArray, List.set_cons_zero, List.set_cons_succ])
      refine wpT_step (i := 5) (by kernel_rfl) (by decide) rfl (fun K hK => ?_)
      rw [if_pos (by rfl)]
      refine opwp_snocC (R := msgC) (y := x) _ _ _ (by rfl) 40 _ 40 Try.underlying27 HinfM.out (by rfl) (O_k.ext (hEw.trans (Ext.alloc _ _))) (by rfl) (hO2.ext (Ext.alloc _ _)) (by first | omega | (simp <;> omega)) (by first | omega | (simp <;> omega)) (by first | omega | (simp <;> omega)) _ _ (by rfl) (CellsAt.lit _ _ _) (by rw [List.length_take]; omega) ?_
      rintro v4 w4 ⟨a5, c5, rfl⟩ hO5 hC5
      simp only [List.length_take, Nat.min_eq_left hk] at hO5 ⊢
      have z4 := hC5.size
      refine hK.out _ _ ?_ (fun hHeld2 => ?_)
      · (try dsimp only); (obtain ⟨s0, s1, s2, s3, s4, s5, s6⟩ := hHeld; exact ⟨cell_chg s0 hC5 (by omega), cell_chg s1 hC5 (by omega), cell_chg s2 hC5 (by omega), cell_chg s3 hC5 (by omega), Bx.chg s4 hC5 (by omega), Bx.chg s5 hC5 (by omega), Chg.ext s6 hC5 (by omega)⟩)
      clear hK K hHeld
      rename _ => hHeld
      (try simp only [List.getElem_toArray, List.getElem_cons_succ, List.getElem_cons_zero, Act.put, List.setIfInBounds_toArray, List.set_cons_zero, List.set_cons_succ])
      refine wpT_take (i := 6) (v := ?_) rfl (by kernel_rfl) (by decide) (by kernel_rfl) (by kernel_rfl) (by kernel_rfl) (fun _ _ _ h => h) (Or.inl ⟨by rfl, ?_⟩) (by assumption) ?_
      rotate_left
      · intro w9 hSw; (try dsimp only at hSw); go_simp; (first | done | with_reducible rfl)
      (try simp only [List.getElem_toArray, List.getElem_cons_succ, List.getElem_cons_zero, Act.put, List.setIfInBounds_toArray, List.set_cons_zero, List.set_cons_succ])
      refine wpT_last (by kernel_rfl) (by kernel_rfl) rfl (fun K hK => ?_)
      obtain ⟨e0, e1, e2, e3, e4, e5, e6⟩ := hHeld
      have n4 := e5.lt
      clear c1 hcw0 hcw1 hcw2
      have c3 := e5.cell 0 _ rfl; have f3 := e5.fr
      clear e0 e1 e2 e3
      go_simp
      refine hK.out _ _ ?_
      clear hK K
      go_wp2
      go_roundw
      case rel =>
        refine ⟨k + 1, .slice a5 (k + 1) c5, by omega, by go_num, ⟨_, _, rfl⟩, by repeat (first | with_reducible assumption | with_reducible exact Bx.new _ _ _ _ rfl | ((with_reducible refine Bx.new _ _ _ _ ?_); simp; done) | with_reducible refine Bx.pAlloc ?_ _ | with_reducible refine Bx.pDrew ?_ | with_reducible refine Bx.pDrewN ?_ _ | with_reducible apply Bx.set10 | with_reducible apply Bx.set20 | with_reducible apply Bx.set21 | with_reducible apply Bx.set30 | with_reducible apply Bx.set31 | with_reducible apply Bx.set32 | with_reducible apply Bx.set40 | with_reducible apply Bx.set41 | with_reducible apply Bx.set42 | with_reducible apply Bx.set43 | ((with_reducible refine Bx.set_other ?_ ?_ _); rotate_left; (simp <;> omega))), by repeat (first | with_reducible assumption | with_reducible exact Bx.new _ _ _ _ rfl | ((with_reducible refine Bx.new _ _ _ _ ?_); simp; done) | with_reducible refine Bx.pAlloc ?_ _ | with_reducible refine Bx.pDrew ?_ | with_reducible refine Bx.pDrewN ?_ _ | with_reducible apply Bx.set10 | with_reducible apply Bx.set20 | with_reducible apply Bx.set21 | with_reducible apply Bx.set30 | with_reducible apply Bx.set31 | with_reducible apply Bx.set32 | with_reducible apply Bx.set40 | with_reducible apply Bx.set41 | with_reducible apply Bx.set42 | with_reducible apply Bx.set43 | ((with_reducible refine Bx.set_other ?_ ?_ _); rotate_left; (simp <;> omega))), ?_, by repeat (first | with_reducible exact Ext.refl _ | with_reducible assumption | with_reducible refine Ext.pAlloc ?_ _ | ((with_reducible refine Ext.pSet ?_ ?_ _); rotate_left; (simp <;> omega)) | with_reducible refine Ext.pDrew ?_ | with_reducible refine Ext.pDrewN ?_ _), by simp at z4 ⊢; omega⟩
        rw [take_snoc hx]; exact Cd.own.wide (own_set hO5 (by simp) _) (Nat.le_refl _) (by simp [World.setCell])
      case measure => simp [intOf]; omega
    · have he : k = ms.length := by omega
      subst he
      rw [List.take_length] at O_k
      have c2 := B_o.cell 0 _ rfl
      have c3 := B_o.cell 1 _ rfl
      have nO := B_o.lt
      have d0 := B_r.cell 0 _ rfl
      have d1 := B_r.cell 1 _ rfl
      have f1 := B_r.fr
      have n1 := B_r.lt
      have HK := Lib.hid (And.intro O_k X)
      have HC := Lib.hid (HO4.out.ext X)
      clear O_k X
      go_wp2
      refine bodyPost_ret (v := .agg #[.slice wa ms.length wc, .slice a4 ls.length c4]) (by simp [results, Try.results20, go_sem, d0, d1]) rfl ⟨_, _, rfl, ?_, ?_⟩
      · have hX := HX1.out.trans HK.out.2
        repeat (first | with_reducible exact Ext.refl _ | with_reducible assumption | with_reducible refine Ext.pAlloc ?_ _ | ((with_reducible refine Ext.pSet ?_ ?_ _); rotate_left; (simp <;> omega)) | with_reducible refine Ext.pDrew ?_ | with_reducible refine Ext.pDrewN ?_ _)
      · refine ⟨w1.heap.size + 1, wr.heap.size, w.heap.size + 2, w1.heap.size, by omega, by omega, by simp [World.setCell], by omega, by omega, by simp [World.setCell]; omega, by omega, ?_, ?_⟩
        · repeat (refine own_set ?_ (by simp <;> omega) _)
          exact HK.out.1
        · repeat (refine own_set ?_ (by simp <;> omega) _)
          exact HC.out

end Go.Proofs.Ytjjeagblgjmcpaa

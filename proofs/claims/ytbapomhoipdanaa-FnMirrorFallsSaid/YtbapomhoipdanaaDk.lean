/- Disks: how they read, and the laws' helpers on them. -/
import Derived.Test.YtbapomhoipdanaaWr
set_option linter.unusedVariables false
set_option linter.unusedSimpArgs false
namespace Go.Sl
open Go.RowKit
section
variable {α β : Type} {R : Cd α} {S : Cd β}

theorem pair_V (hR : R.n = 1) (hS : S.n = 1) {w : World} {cs : List Value} {m : α × β} : (prodC R S).V w cs m ↔ ∃ u v, cs = [u, v] ∧ R.V w [u] m.1 ∧ S.V w [v] m.2 := by
  constructor
  · rintro ⟨c, d, rfl, h1, h2⟩
    obtain ⟨u, rfl⟩ := one_cell (hR ▸ R.len h1)
    obtain ⟨v, rfl⟩ := one_cell (hS ▸ S.len h2)
    exact ⟨u, v, rfl, h1, h2⟩
  · rintro ⟨u, v, rfl, h1, h2⟩
    exact ⟨[u], [v], rfl, h1, h2⟩

theorem pair_O (hR : R.n = 1) (hS : S.n = 1) {w : World} {cs : List Value} {m : α × β} {fp : List Nat} : (prodC R S).O w cs m fp ↔ ∃ u v f g, cs = [u, v] ∧ fp = f ++ g ∧ R.O w [u] m.1 f ∧ S.O w [v] m.2 g := by
  constructor
  · rintro ⟨c, d, f, g, rfl, rfl, h1, h2⟩
    obtain ⟨u, rfl⟩ := one_cell (hR ▸ R.len (R.view h1))
    obtain ⟨v, rfl⟩ := one_cell (hS ▸ S.len (S.view h2))
    exact ⟨u, v, f, g, rfl, rfl, h1, h2⟩
  · rintro ⟨u, v, f, g, rfl, rfl, h1, h2⟩
    exact ⟨[u], [v], f, g, rfl, rfl, h1, h2⟩

theorem prod_own {lo mid hi : Nat} {w : World} {c d : List Value} {a : α} {b : β} (h1 : R.own lo mid w c a) (h2 : S.own mid hi w d b) (hl : lo ≤ mid) (hh : mid ≤ hi) : (prodC R S).own lo hi w (c ++ d) (a, b) := by
  obtain ⟨f, hf, nf, bf⟩ := h1
  obtain ⟨g, hg, ng, bg⟩ := h2
  refine ⟨f ++ g, ⟨c, d, f, g, rfl, rfl, hf, hg⟩, List.nodup_append.2 ⟨nf, ng, fun x hx y hy e => ?_⟩, fun x hx => ?_⟩
  · have := bf x hx; have := bg y hy; omega
  · rcases List.mem_append.1 hx with hx | hx
    · have := bf x hx; omega
    · have := bg x hx; omega

/-- Old blocks other than fp are as they were; there may be new ones. -/
structure ChgG (fp : List Nat) (w w' : World) : Prop where
  os : w'.os = w.os
  tape : w'.tape = w.tape
  output : w'.output = w.output
  size : w.heap.size ≤ w'.heap.size
  block : ∀ k, k < w.heap.size → k ∉ fp → w'.heap[k]? = w.heap[k]?

theorem ChgG.of_ext {fp : List Nat} {w w' : World} (h : Ext w w') : ChgG fp w w' := ⟨h.os, h.tape, h.output, h.size, fun k hk _ => h.block k hk⟩
theorem ChgG.of_f {fp f : List Nat} {w w' : World} (h : ChgF f w w') (hs : ∀ x ∈ f, x ∈ fp) : ChgG fp w w' := ⟨h.os, h.tape, h.output, Nat.le_of_eq h.size.symm, fun k _ hn => h.block k (fun hm => hn (hs k hm))⟩
theorem ChgG.wide {fp f : List Nat} {w w' : World} (h : ChgG f w w') (hs : ∀ x ∈ f, x ∈ fp) : ChgG fp w w' := ⟨h.os, h.tape, h.output, h.size, fun k hk hn => h.block k hk (fun hm => hn (hs k hm))⟩
theorem ChgG.trans {fp : List Nat} {a b c : World} (h : ChgG fp a b) (k : ChgG fp b c) : ChgG fp a c :=
  ⟨k.os.trans h.os, k.tape.trans h.tape, k.output.trans h.output, Nat.le_trans h.size k.size, fun i hi hn => (k.block i (Nat.lt_of_lt_of_le hi h.size) hn).trans (h.block i hi hn)⟩
theorem ChgG.chg {fp : List Nat} {a b : World} {lo hi : Nat} (h : ChgG fp a b) (hs : ∀ x ∈ fp, lo ≤ x ∧ x < hi) : Chg lo hi a b :=
  ⟨h.os, h.tape, h.output, h.size, fun i hi hn => h.block i hi (fun hm => hn (hs i hm))⟩
theorem ChgG.frame {fp g : List Nat} {w w' : World} {cs : List Value} {x : α} (h : ChgG fp w w') (ho : R.O w cs x g) (hd : ∀ b ∈ g, b ∉ fp) : R.O w' cs x g :=
  R.frame ho (fun b hb => h.block b (R.lt ho b hb) (hd b hb))
theorem ChgG.cell {fp : List Nat} {w w' : World} (h : ChgG fp w w') {b o : Nat} {v : Value} (hc : w.cell? ⟨b, o, none⟩ = some v) (hl : b < w.heap.size) (hn : b ∉ fp) : w'.cell? ⟨b, o, none⟩ = some v := by
  rw [World.cell?_of_block (w := w) (h.block b hl hn)]; exact hc
theorem Cd.O_ext {w w' : World} {cs : List Value} {x : α} {fp : List Nat} (h : R.O w cs x fp) (he : Ext w w') : R.O w' cs x fp := R.frame h (fun b hb => he.block b (R.lt h b hb))

theorem markG_own {w : World} {cs : List Value} {x : α} {lo hi : Nat} {P : Program} {f : FuncId} {args : Array Value} {r : Value} {x' : α} (h : R.own lo hi w cs x)
    (hm : ∀ fp, R.O w cs x fp → fp.Nodup → Calls P f args w fun e w' => e = .returned r ∧ ChgG fp w w' ∧ R.O w' cs x' fp) :
    Calls P f args w fun e w' => e = .returned r ∧ Chg lo hi w w' ∧ R.own lo hi w' cs x' := by
  obtain ⟨fp, h1, h2, h3⟩ := h
  exact (hm fp h1 h2).mono fun e w' ⟨he, hc, ho⟩ => ⟨he, hc.chg h3, fp, ho, h2, h3⟩

theorem sl_form {w : World} {v : Value} {l : List α} (h : (sliceC R).V w [v] l) : ∃ a cap, v = .slice a l.length cap := by
  obtain ⟨a, cap, xs, h1, _⟩ := h
  exact ⟨a, cap, (List.cons.inj h1).1⟩

theorem cntL_mem {cnt : α → Nat} {l : List α} {x : α} (h : x ∈ l) : cnt x ≤ cntL cnt l := by
  induction l with
  | nil => cases h
  | cons y l ih =>
    unfold cntL
    rcases List.mem_cons.1 h with rfl | h
    · omega
    · have := ih h; omega
end
end Go.Sl
namespace Go.Proofs.Ytbapomhoipdanaa
open Go.RowKit Go.Sl

abbrev DiskD := List (List Int) × List WriteD
abbrev diskC : Cd DiskD := prodC rowsC waitC
theorem disk_V {w : World} {cs : List Value} {m : DiskD} : diskC.V w cs m ↔ ∃ u v, cs = [u, v] ∧ rowsC.V w [u] m.1 ∧ waitC.V w [v] m.2 := pair_V rfl rfl
theorem disk_O {w : World} {cs : List Value} {m : DiskD} {fp : List Nat} : diskC.O w cs m fp ↔ ∃ u v f g, cs = [u, v] ∧ fp = f ++ g ∧ rowsC.O w [u] m.1 f ∧ waitC.O w [v] m.2 g := pair_O rfl rfl
def dcnt (d : DiskD) : Nat := cntL rcnt d.1 + cntL wcnt d.2
def dmk (q : Int) (d : DiskD) : DiskD := (mkL rcnt rmk q d.1, mkL wcnt wmk (q + cntL rcnt d.1) d.2)
def dsz (d : DiskD) : Nat := (d.1.length + cntL rcnt d.1) + (d.2.length + cntL wsz d.2)
def dsmall (d : DiskD) : Prop := (d.1.length ≤ 2097152 ∧ ∀ x ∈ d.1, x.length ≤ 2097152) ∧ (d.2.length ≤ 2097152 ∧ ∀ x ∈ d.2, wsz x ≤ 2097152)
theorem dsz_small (m : DiskD) (q : Int) (h0 : -1 ≤ q) (h1 : q ≤ 1048576) : (-1 ≤ szI (dsz m) q ∧ szI (dsz m) q ≤ 1048576) ∧ (¬ szI (dsz m) q < 0 → dsmall m) := by
  unfold szI
  split
  · exact ⟨by omega, by omega⟩
  · rename_i h
    refine ⟨by omega, fun _ => ?_⟩
    unfold dsz at h
    refine ⟨⟨by omega, fun x hx => ?_⟩, by omega, fun x hx => ?_⟩
    · have : rcnt x ≤ _ := cntL_mem hx
      show rcnt x ≤ _
      omega
    · have : wsz x ≤ _ := cntL_mem hx
      omega






end Go.Proofs.Ytbapomhoipdanaa

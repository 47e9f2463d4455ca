/- The dice of the laws as one fact; for seats without letters. -/
import Derived.Test.YtbapomhoipdanaaRol
import Derived.Test.YtbapomhoipdanaaTill
set_option linter.unusedVariables false
set_option linter.unusedSimpArgs false
namespace Go.Proofs.Ytbapomhoipdanaa
open Go.RowKit Go.Sl


theorem Chg.newL {l h lo hi : Nat} {a b c : World} (p : Chg l h a b) (k : Chg lo hi b c) (hl : a.heap.size ≤ lo) : Chg l h a c :=
  ⟨k.os.trans p.os, k.tape.trans p.tape, k.output.trans p.output, Nat.le_trans p.size k.size,
    fun i hi hn => (k.block i (Nat.lt_of_lt_of_le hi p.size) (by omega)).trans (p.block i hi hn)⟩
theorem int_ownL (lo hi : Nat) (w : World) (x : Int) : intC.own lo hi w [.int .i64 x] x := ⟨[], ⟨rfl, rfl⟩, List.nodup_nil, by simp⟩
theorem nil_ownL {α : Type} {R : Cd α} (lo hi : Nat) (w : World) : (sliceC R).own lo hi w [.slice none 0 0] [] :=
  ⟨[], ⟨none, 0, [], [], rfl, Nat.le_refl _, Nat.zero_le _, .inl ⟨rfl, rfl, rfl⟩, ⟨rfl, rfl⟩, rfl⟩, List.nodup_nil, by simp⟩
/-- The dice of a law, at block db, its code as it was at the law's start. -/
structure Dd (W : World) (a : Option Addr) (n cc db : Nat) (w : World) : Prop where
  rd : RD w db a n cc
  ext : Ext W w
  code : CodeR W a n
  hi : W.heap.size ≤ db
section
variable {W w w' : World} {a : Option Addr} {n cc db lo hi : Nat}
theorem Dd.grow (h : Dd W a n cc db w) (he : Ext w w') : Dd W a n cc db w' := ⟨RD.ext h.rd he, h.ext.trans he, h.code, h.hi⟩
theorem Dd.chg (h : Dd W a n cc db w) (hC : Chg lo hi w w') (hd : db < lo) : Dd W a n cc db w' := ⟨RD.chg h.rd hC (.inl hd), Chg.ext h.ext hC (by have := h.hi; omega), h.code, h.hi⟩
theorem Dd.lt (h : Dd W a n cc db w) : db < w.heap.size := h.rd.lt
theorem Dd.set (h : Dd W a n cc db w) {b j : Nat} (hb : db < b) (v : Value) : Dd W a n cc db (w.setCell ⟨b, j, none⟩ v) := h.chg (lo := b) (hi := b + 1) (Chg.setCell w ⟨b, j, none⟩ v (Nat.le_refl _) (Nat.lt_succ_self _)) hb
theorem Dd.size (h : Dd W a n cc db w) : W.heap.size < w.heap.size := by have := h.hi; have := h.lt; omega
theorem Dd.below (h : Dd W a n cc db w) (m : Int) (hm : 0 < m) :
    Calls Try.prog 41 #[.pointer (some ⟨db, 0, none⟩), .int .i64 m] w fun e w' => ∃ x : Int, 0 ≤ x ∧ x < m ∧ e = .returned (.int .i64 x) ∧ Dd W a n cc db w' ∧ Chg db (db + 1) w w' :=
  (below_c db n cc a m w hm h.rd (CodeD.of h.code h.ext h.hi)).mono fun e w' ⟨x, h0, h1, he, hD, hC⟩ => ⟨x, h0, h1, he, ⟨hD, Chg.ext h.ext hC h.hi, h.code, h.hi⟩, hC⟩
end
end Go.Proofs.Ytbapomhoipdanaa

/- The code that the laws draw from: bytes. -/
import Derived.Test.YtbapomhoipdanaaTied
import Derived.Test.YtbapomhoipdanaaGen
import Derived.Test.YtbapomhoipdanaaApd
set_option linter.unusedVariables false
set_option linter.unusedSimpArgs false
namespace Go.Sl
open Go.RowKit Go.ChangeShapes Go.WideShapes Go.ChangeAt
def byteC : Cd Int where
  n := 1
  V := fun _ cs x => cs = [.int .u8 x]
  O := fun _ cs x fp => cs = [.int .u8 x] ∧ fp = []
  view := fun h => h.1
  len := fun h => by rw [h]; rfl
  one := fun h u hu => by rw [h] at hu; simp at hu; subst hu; rfl
  vext := fun h _ => h
  frame := fun h _ => h
  lt := fun h b hb => by rw [h.2] at hb; cases hb
theorem Tied.byte {P : Program} {t : TypeId} (ht : P.underlying t = some (.int .u8)) : Tied P byteC t := by
  intro H enc w base spare held fuel cs x h
  obtain ⟨n, rfl, _⟩ := DataW.trod_int ht h
  exact ⟨n, rfl⟩
end Go.Sl
namespace Go.Proofs.Ytbapomhoipdanaa
open Go.RowKit Go.Sl
set_option maxRecDepth 100000 in
theorem tiedCode : Tied Try.prog (sliceC byteC) 54 := Tied.slice Try.underlying54 rfl (by decide) (Tied.byte Try.underlying5)
/-- The code, as the draws ask it. -/
def CodeIn (W : World) (a : Option Addr) (n : Nat) : Prop := ∀ j, j < n → ∃ (b off : Nat) (x : Int), a = some ⟨b, off, none⟩ ∧ W.cell? ⟨b, off + j, none⟩ = some (.int .u8 x)
theorem arg_code {W : World} {v : Value} (h : ArgOk Try.prog W 54 v) : ∃ (a : Option Addr) (n cap : Nat), v = .slice a n cap ∧ n ≤ cap ∧ cap ≤ 9223372036854775807 ∧ Hid (CodeIn W a n) := by
  obtain ⟨code, hc⟩ := h.slice (R := byteC) Try.underlying54 tiedCode
  obtain ⟨a, cap, rfl, h1, h2, hcc⟩ := slice_open1 (R := byteC) rfl hc
  refine ⟨a, _, cap, rfl, h1, h2, fun j hj => ?_⟩
  obtain ⟨b, off, x, u, ha, _, hv, hcell⟩ := hcc j hj
  have hu : [u] = [Value.int .u8 x] := hv
  cases hu
  exact ⟨b, off, x, ha, hcell⟩
theorem CodeIn.ext {W W' : World} {a : Option Addr} {n : Nat} (h : CodeIn W a n) (he : Ext W W') : CodeIn W' a n := fun j hj => by
  obtain ⟨b, off, x, ha, hc⟩ := h j hj
  exact ⟨b, off, x, ha, cell_ext hc he⟩
set_option maxHeartbeats 400000 in
theorem big_c (a : Option Addr) (n cap : Nat) (w : World) : Calls Try.prog 34 #[.slice a n cap] w fun e w' => e = .returned (.bool (decide ((4096 : Int) < n))) ∧ w = w' := by
  go_enter Try.func34, Try.ntmps34
  go_wp2
  go_ret
  exact ⟨rfl, rfl⟩
end Go.Proofs.Ytbapomhoipdanaa

/-
  Numbers are written into a row of integers, and found there again.
-/
import Derived.Test.YtbhhiodbhlhpmaaEqInts
namespace Go.Proofs.Ytbhhiodbhlhpmaa
open Go.RowKit
set_option linter.unusedSimpArgs false
set_option linter.unusedVariables false

/-- The world w' is w but for the block of one row. -/
def Wrote (row : Option Nat) (w w' : World) : Prop := w.grownBy w' row ∧ w.drawn ≤ w'.drawn
theorem Wrote.refl (row : Option Nat) (w : World) : Wrote row w w := ⟨World.grownBy.refl w row, Nat.le_refl _⟩
theorem Wrote.trans {row : Option Nat} {a b c : World} (h : Wrote row a b) (k : Wrote row b c) : Wrote row a c :=
  ⟨⟨k.1.os.trans h.1.os, k.1.tape.trans h.1.tape, k.1.output.trans h.1.output, Nat.le_trans h.1.size k.1.size,
    fun i hi hne => (k.1.block i (Nat.lt_of_lt_of_le hi h.1.size) hne).trans (h.1.block i hi hne)⟩, Nat.le_trans h.2 k.2⟩
theorem Wrote.set (w : World) (g j : Nat) (v : Value) : Wrote (some g) w (w.setCell ⟨g, j, none⟩ v) :=
  ⟨⟨rfl, rfl, rfl, by simp [World.setCell], fun k hk hne => Below.heap_setCell _ _ _ _ (by intro e; apply hne; rw [e])⟩, Nat.le_refl _⟩
theorem IntsOf.set {w : World} {base n cap g : Nat} {zs : List Int} (h : IntsOf w base (.slice (some ⟨g, 0, none⟩) n cap) zs) (j : Nat) (x : Int) :
    IntsOf (w.setCell ⟨g, j, none⟩ (.int .i64 x)) base (.slice (some ⟨g, 0, none⟩) n cap) (zs.set j x) := by
  have hn := h.len
  subst hn
  have := World.ownsRow.stored h j (.int .i64 x)
  unfold IntsOf
  rw [List.length_set, List.map_set]
  exact this.1


end Go.Proofs.Ytbhhiodbhlhpmaa

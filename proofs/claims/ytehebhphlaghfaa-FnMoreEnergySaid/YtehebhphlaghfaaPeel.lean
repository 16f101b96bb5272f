/-
  What lies in a box behind stores and draws.
-/
import Derived.Test.YtehebhphlaghfaaDrawsE
namespace Go.Proofs.Ytehebhphlaghfaa
open Go.RowKit
set_option linter.unusedSimpArgs false
set_option linter.unusedVariables false

theorem Src.drew {w : World} {g n cp k : Nat} {a : Option Addr} (h : Src w g a n cp k) : Src w.drew g a n cp k := h.ext ((Ext.refl _).drew)
theorem Wrote.drewr {row : Option Nat} {w w1 : World} (h : Wrote row w w1) : Wrote row w w1.drew := h.trans (Wrote.of_ext _ ((Ext.refl _).drew))
theorem cell_same {w : World} {b o : Nat} {u : Value} (h : (w.cell? ⟨b, o, none⟩).isSome = true) : (w.setCell ⟨b, o, none⟩ u).cell? ⟨b, o, none⟩ = some u := by
  obtain ⟨x, hx⟩ := Option.isSome_iff_exists.1 h
  simp [go_sem, hx]
theorem cell_off {w : World} {b b' o o' : Nat} {u v : Value} (hne : o' ≠ o) (h : w.cell? ⟨b, o, none⟩ = some v) : (w.setCell ⟨b', o', none⟩ u).cell? ⟨b, o, none⟩ = some v :=
  (World.cell?_setCell_other w _ _ u (by intro e; apply hne; injection e)).trans h
theorem cell_drew {w : World} {b o : Nat} {v : Value} (h : w.cell? ⟨b, o, none⟩ = some v) : w.drew.cell? ⟨b, o, none⟩ = some v := h
theorem some_drew {w : World} {b o : Nat} (h : (w.cell? ⟨b, o, none⟩).isSome = true) : (w.drew.cell? ⟨b, o, none⟩).isSome = true := h
theorem some_other {w : World} {b o b' o' : Nat} {u : Value} (h : (w.cell? ⟨b, o, none⟩).isSome = true) : ((w.setCell ⟨b', o', none⟩ u).cell? ⟨b, o, none⟩).isSome = true := by
  by_cases e : b' = b ∧ o' = o
  · obtain ⟨rfl, rfl⟩ := e
    rw [cell_same h]; rfl
  · rw [World.cell?_setCell_other w _ _ u (by intro k; apply e; injection k with k1 k2; exact ⟨k1, k2⟩)]
    exact h
end Go.Proofs.Ytehebhphlaghfaa

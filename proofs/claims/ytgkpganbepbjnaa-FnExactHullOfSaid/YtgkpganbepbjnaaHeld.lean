/-
  Words for regions that draw their order: what a cell holds behind an Ext; a box of two cells that is made there.
-/
import Derived.Test.YtgkpganbepbjnaaBase
namespace Go.Proofs.Ytgkpganbepbjnaa
open Go.RowKit
set_option linter.unusedVariables false

theorem keep_ext {W W' : World} {b o : Nat} {v : Value} (x : Ext W W') (hb : b < W.heap.size) (h : W.cell? ⟨b, o, none⟩ = some v) : W'.cell? ⟨b, o, none⟩ = some v := (x.cells.1 b o hb).trans h
/-- Block g is a box of two cells. -/
structure NB (w : World) (g : Nat) (u v : Value) : Prop where
  c0 : w.cell? ⟨g, 0, none⟩ = some u
  c1 : w.cell? ⟨g, 1, none⟩ = some v
  z0 : w.frozen? ⟨g, 0, none⟩ = false
  z1 : w.frozen? ⟨g, 1, none⟩ = false
  lt : g < w.heap.size
theorem NB.made (U : World) (t : TypeId) (u v : Value) : NB (U.alloc (.cells #[u, v] t)) U.heap.size u v :=
  ⟨by simp [go_sem], by simp [go_sem], by simp, by simp, by simp⟩
theorem NB.ext {w w' : World} {g : Nat} {u v : Value} (h : NB w g u v) (x : Ext w w') : NB w' g u v :=
  ⟨(x.cells.1 g 0 h.lt).trans h.c0, (x.cells.1 g 1 h.lt).trans h.c1, (x.cells.2.1 g 0 h.lt).trans h.z0, (x.cells.2.1 g 1 h.lt).trans h.z1, Nat.lt_of_lt_of_le h.lt x.size⟩
theorem NB.new {U w1 : World} {t : TypeId} {u v : Value} (x : Ext (U.alloc (.cells #[u, v] t)) w1) : NB w1 U.heap.size u v := (NB.made U t u v).ext x
theorem NB.newd {U w1 : World} {t : TypeId} {u v : Value} (x : Ext (U.alloc (.cells #[u, v] t)).drew w1) : NB w1 U.heap.size u v := (NB.made U t u v).ext (((Ext.refl _).drew).trans x)
end Go.Proofs.Ytgkpganbepbjnaa

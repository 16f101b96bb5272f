/-
  Rows of integers, beside the source of choices.
-/
import Derived.Test.YtehebhphlaghfaaOver
namespace Go.Proofs.Ytehebhphlaghfaa
open Go.RowKit
set_option linter.unusedSimpArgs false
set_option linter.unusedVariables false

theorem IntsOf.src {w w' : World} {B g : Nat} {v : Value} {zs : List Int} (h : IntsOf w B v zs) (x : Wrote (some g) w w') (hg : g < B) : IntsOf w' B v zs := by
  refine h.wrote x ?_
  cases hv : v.ownBlock with
  | none => exact .inl rfl
  | some k => exact .inr (fun e => by injection e with e; have := (h.lt k hv).1; omega)
theorem IntsOf.apart {w : World} {B g : Nat} {v : Value} {zs : List Int} (h : IntsOf w B v zs) (hg : g < B) : some g ≠ v.ownBlock := fun e => by have := (h.lt g e.symm).1; omega
theorem IntsOf.fresh {w : World} {B : Nat} {v : Value} {zs : List Int} (h : IntsOf w B v zs) : ∀ k, v.ownBlock = some k → B ≤ k := fun k e => (h.lt k e).1
theorem IntsOf.drew {w : World} {B : Nat} {v : Value} {zs : List Int} (h : IntsOf w B v zs) : IntsOf w.drew B v zs := h.ext ((Ext.refl _).drew)
theorem IntsOf.low {w : World} {B B' : Nat} {v : Value} {zs : List Int} (h : IntsOf w B v zs) (hb : B' ≤ B) : IntsOf w B' v zs := own_base h hb
theorem IntsOf.slice {w : World} {B : Nat} {v : Value} {zs : List Int} (h : IntsOf w B v zs) : ∃ a L c, v = .slice a L c ∧ zs.length = L ∧ Row1 w a zs := by
  obtain ⟨a, c, rfl⟩ := h.shape
  exact ⟨a, _, c, rfl, rfl, h.row⟩
end Go.Proofs.Ytehebhphlaghfaa

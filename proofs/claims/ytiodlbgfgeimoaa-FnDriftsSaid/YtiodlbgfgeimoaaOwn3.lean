/-
  Rows of segments, beside the source of choices.
-/
import Derived.Test.YtiodlbgfgeimoaaOver
import Derived.Test.YtiodlbgfgeimoaaOwn2
namespace Go.Proofs.Ytiodlbgfgeimoaa
open Go.RowKit
set_option linter.unusedSimpArgs false
set_option linter.unusedVariables false

theorem PairsOf.src {w w' : World} {B g : Nat} {v : Value} {zs : List (Int × Int)} (h : PairsOf w B v zs) (x : Wrote (some g) w w') (hg : g < B) : PairsOf w' B v zs := by
  refine h.wrote x ?_
  cases hv : v.ownBlock with
  | none => exact .inl rfl
  | some k => exact .inr (fun e => by injection e with e; have := (h.lt k hv).1; omega)
theorem PairsOf.apart {w : World} {B g : Nat} {v : Value} {zs : List (Int × Int)} (h : PairsOf w B v zs) (hg : g < B) : some g ≠ v.ownBlock := fun e => by have := (h.lt g e.symm).1; omega
theorem PairsOf.fresh {w : World} {B : Nat} {v : Value} {zs : List (Int × Int)} (h : PairsOf w B v zs) : ∀ k, v.ownBlock = some k → B ≤ k := fun k e => (h.lt k e).1

/-- Not the nil slice. -/
def NN (v : Value) : Prop := ∃ g L c, v = .slice (some ⟨g, 0, none⟩) L c
theorem PairsOf.nn {w : World} {B : Nat} {v : Value} {zs : List (Int × Int)} (h : PairsOf w B v zs) (h0 : 0 < zs.length) : NN v := by
  rcases h.2 with ⟨rfl, h1⟩ | ⟨g, cap, cur, rfl, _⟩
  · omega
  · exact ⟨_, _, _, rfl⟩
theorem PairsOf.some' {w : World} {B : Nat} {v : Value} {zs : List (Int × Int)} (h : PairsOf w B v zs) (hN : NN v) : ∃ g L c, v = .slice (some ⟨g, 0, none⟩) L c ∧ zs.length = L ∧ L ≤ c ∧ c ≤ maxLen ∧ B ≤ g ∧ g < w.heap.size ∧ RowAt w (some ⟨g, 0, none⟩) zs := by
  rcases h.2 with ⟨rfl, h1⟩ | ⟨g, cap, cur, rfl, hb, hg, h2, h3, _⟩
  · obtain ⟨g, L, c, e⟩ := hN
    cases e
  · exact ⟨g, _, cap, rfl, rfl, h2, h3, hb, (h.lt g rfl).2, PairsOf.row h⟩
def sliceN : Value → Nat
  | .slice _ n _ => n
  | _ => 0
theorem sliceN_slice (a : Option Addr) (n c : Nat) : sliceN (.slice a n c) = n := rfl
end Go.Proofs.Ytiodlbgfgeimoaa

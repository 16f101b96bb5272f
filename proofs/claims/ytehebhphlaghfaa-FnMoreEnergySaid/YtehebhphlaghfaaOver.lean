/-
  What is kept beside a row that grows: what was written before, the source of choices.
-/
import Derived.Test.YtehebhphlaghfaaSrc2
namespace Go.Proofs.Ytehebhphlaghfaa
open Go.RowKit
set_option linter.unusedVariables false

theorem Wrote.over {row r2 : Option Nat} {w wr w1 : World} (h : Wrote row w wr) (x : Wrote r2 wr w1) (hf : ∀ k, r2 = some k → w.heap.size ≤ k) : Wrote row w w1 :=
  ⟨⟨x.1.os.trans h.1.os, x.1.tape.trans h.1.tape, x.1.output.trans h.1.output, Nat.le_trans h.1.size x.1.size, fun k hk hne =>
    (x.1.block k (Nat.lt_of_lt_of_le hk h.1.size) (fun e => by have := hf k e.symm; omega)).trans (h.1.block k hk hne)⟩, Nat.le_trans h.2 x.2⟩
theorem Src.off {w w1 : World} {g n cp k : Nat} {a : Option Addr} {r : Option Nat} (h : Src w g a n cp k) (x : Wrote r w w1) (hr : some g ≠ r) : Src w1 g a n cp k :=
  ⟨Nat.lt_of_lt_of_le h.lt x.size, (x.cell h.lt hr).trans h.c0, by obtain ⟨t, ht, hc⟩ := h.c1; exact ⟨t, ht, (x.cell h.lt hr).trans hc⟩, by obtain ⟨z, hc⟩ := h.c2; exact ⟨z, (x.cell h.lt hr).trans hc⟩, (x.free h.lt hr).trans h.z1, (x.free h.lt hr).trans h.z2⟩
end Go.Proofs.Ytehebhphlaghfaa

/-
  A slice of bytes that came in is a row of bytes.
-/
import Derived.Test.YtehebhphlaghfaaFrame
import Derived.Test.YtehebhphlaghfaaSrc
namespace Go.Proofs.Ytehebhphlaghfaa
open Go.ChangeShapes Go.WideShapes Go.ChangeAt Go.RowKit
set_option linter.unusedVariables false

theorem spot_noneB {w : World} {a : Addr} {v : Value} (h : w.cell? a = some v) : a = ⟨a.block, a.off, none⟩ := by
  obtain ⟨b, o, s⟩ := a
  cases s with
  | none => rfl
  | some s =>
    simp only [World.cell?] at h
    split at h <;> simp at h
theorem u8_bd {n : Int} (h : (Lit.int .u8 n).wf = true) : 0 ≤ n ∧ n ≤ 255 := by
  simp [Lit.wf] at h
  have h1 : IntKind.u8.min = 0 := by decide
  have h2 : IntKind.u8.max = 255 := by decide
  omega
theorem rowB_raw {W : World} {x : Addr} {len cap : Nat} {zs : List Int} (hle : len ≤ cap) (hz : zs.length = cap) (hc : ∀ i, i < zs.length → W.cell? (x.add i) = some (.int .u8 (zs.getD i 0)))
    (hwf : ∀ n ∈ zs, (Lit.int .u8 n).wf = true) : RowB W W.heap.size (some x) len := by
  by_cases h0 : len = 0
  · exact .inl h0
  have hx := spot_noneB (hc 0 (by omega))
  have hlt := World.block_lt_of_cell? _ _ (hc 0 (by omega))
  simp only [Addr.add, if_pos] at hx
  obtain ⟨xb, xo, xs⟩ := x
  simp at hx
  subst hx
  simp [Addr.add] at hlt
  refine .inr ⟨xb, xo, rfl, hlt, by omega, fun j hj => ⟨zs.getD j 0, u8_bd (hwf _ ?_), ?_⟩⟩
  · rw [List.getD_eq_getElem?_getD, List.getElem?_eq_getElem (by omega : j < zs.length)]; exact List.getElem_mem _
  · have c0 := hc j (by omega)
    by_cases hz : j = 0
    · subst hz; simpa [Addr.add] using c0
    · simpa [Addr.add, hz] using c0
end Go.Proofs.Ytehebhphlaghfaa

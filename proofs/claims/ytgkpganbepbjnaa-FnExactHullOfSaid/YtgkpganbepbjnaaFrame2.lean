/-
  What the rows of this seat need of an argument that is a slice of structs of two integers.
-/
import Derived.Test.YtgkpganbepbjnaaFrame
import Derived.Test.YtgkpganbepbjnaaRow2
import Derived.Deep.Slices
namespace Go.Proofs.Ytgkpganbepbjnaa
open Go.ChangeShapes Go.WideShapes Go.ChangeAt Go.RowKit
set_option linter.unusedVariables false

theorem spot_none {w : World} {a : Addr} {v : Value} (h : w.cell? a = some v) : a = ⟨a.block, a.off, none⟩ := by
  obtain ⟨b, o, s⟩ := a
  cases s with
  | none => rfl
  | some s =>
    simp only [World.cell?] at h
    split at h <;> simp at h

theorem open_pairs {H : Type} {enc : TypeId × Value → H} {P : Program} {w : World} {base : Nat} {held : Bool} {r : Reach} {b0 : Nat} {t e : TypeId} {v : Value} {d : DataW H} {p : List MemPlace}
    (ht : P.underlying t = some (.slice e)) (hfl : flatI P 4 e = true) (hC : P.cellsOf e = 2) (hv : Value.okWide P w r b0 t v) (h : DataW.Trod enc P w base (fun _ => true) held t v d p) :
    ∃ (a : Option Addr) (len cap : Nat) (zs : List (Int × Int)), v = .slice a len cap ∧ RowAt w a zs ∧ zs.length = len ∧ len ≤ 9223372036854775807 ∧ ∀ z ∈ zs, ((-9223372036854775808 ≤ z.1 ∧ z.1 ≤ 9223372036854775807) ∧ (-9223372036854775808 ≤ z.2 ∧ z.2 ≤ 9223372036854775807)) := by
  obtain ⟨a, len, cap, rfl⟩ := okWide_slice ht hv
  obtain ⟨fuel, hf⟩ := h
  rcases Deep.open_slice ht hf with ⟨hcs, _⟩ | ⟨x, l, c, m, n, D, Pl, hcs, _, hl, hm, hmm, _, hi⟩
  · simp [Value.cells] at hcs
    obtain ⟨rfl, rfl, rfl⟩ := hcs
    exact ⟨none, 0, 0, [], rfl, .inl rfl, rfl, by omega, by simp⟩
  · simp [Value.cells] at hcs
    obtain ⟨rfl, rfl, rfl⟩ := hcs
    simp only [if_true] at hmm
    subst hmm
    have key : ∀ i, i < len → ∃ z : Int × Int, (w.cell? (x.add (i * 2)) = some (.int .i64 z.1) ∧ w.cell? ((x.add (i * 2)).add 1) = some (.int .i64 z.2)) ∧ ((-9223372036854775808 ≤ z.1 ∧ z.1 ≤ 9223372036854775807) ∧ (-9223372036854775808 ≤ z.2 ∧ z.2 ≤ 9223372036854775807)) := by
      intro i hil
      obtain ⟨cs', hc, ht'⟩ := hi i (by omega)
      rw [hC] at hc
      obtain ⟨_, hcl, hat⟩ := World.cells?_some hc
      have hfc := flat_cells 4 e n _ _ hfl ht'
      obtain ⟨n0, e0, w0⟩ := hfc 0 (by omega)
      obtain ⟨n1, e1, w1⟩ := hfc 1 (by omega)
      have a0 := hat 0 (by omega)
      have a1 := hat 1 (by omega)
      rw [e0] at a0
      rw [e1] at a1
      exact ⟨(n0, n1), ⟨by simpa [Addr.add] using a0, a1⟩, i64_bd w0, i64_bd w1⟩
    obtain ⟨f, hf⟩ : ∃ f : Nat → Int × Int, ∀ i, i < len → (w.cell? (x.add (i * 2)) = some (.int .i64 (f i).1) ∧ w.cell? ((x.add (i * 2)).add 1) = some (.int .i64 (f i).2)) ∧ ((-9223372036854775808 ≤ (f i).1 ∧ (f i).1 ≤ 9223372036854775807) ∧ (-9223372036854775808 ≤ (f i).2 ∧ (f i).2 ≤ 9223372036854775807)) := by
      refine ⟨fun i => if h : i < len then Classical.choose (key i h) else (0, 0), fun i h => ?_⟩
      simp only [dif_pos h]
      exact Classical.choose_spec (key i h)
    have hml : maxLen ≤ 9223372036854775807 := by decide
    refine ⟨some x, len, _, (List.range len).map f, rfl, ?_, by simp, by omega, ?_⟩
    · by_cases h0 : len = 0
      · exact .inl (by simp [h0])
      · have hx := spot_none (hf 0 (by omega)).1.1
        simp only [Addr.add, Nat.zero_mul, if_pos] at hx
        obtain ⟨xb, xo, xs⟩ := x
        simp at hx
        subst hx
        refine .inr ⟨xb, xo, rfl, World.block_lt_of_cell? _ _ (by simpa [Addr.add] using (hf 0 (by omega)).1.1), fun j hj => ?_⟩
        have hj' : j < len := by simpa using hj
        obtain ⟨c0, c1⟩ := (hf j hj').1
        have hg : ((List.range len).map f).getD j (0, 0) = f j := by simp [List.getD_eq_getElem?_getD, hj']
        rw [hg]
        refine ⟨?_, ?_⟩
        · by_cases hz : j = 0
          · subst hz; simpa [Addr.add] using c0
          · simpa [Addr.add, show ¬ j * 2 = 0 by omega] using c0
        · by_cases hz : j = 0
          · subst hz; simpa [Addr.add] using c1
          · simpa [Addr.add, show ¬ j * 2 = 0 by omega] using c1
    · intro z hz
      simp only [List.mem_map, List.mem_range] at hz
      obtain ⟨i, hi, rfl⟩ := hz
      exact (hf i hi).2
end Go.Proofs.Ytgkpganbepbjnaa

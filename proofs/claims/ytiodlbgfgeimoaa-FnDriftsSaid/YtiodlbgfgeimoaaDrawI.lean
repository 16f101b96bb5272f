/-
  Words for what the laws draw: rows of numbers that stand in the text, boxes beside the source.
-/
import Derived.Test.YtiodlbgfgeimoaaSrc2
import Derived.Deep.DeepCutAuto
namespace Go.Proofs.Ytiodlbgfgeimoaa
open Go.RowKit
set_option linter.unusedSimpArgs false
set_option linter.unusedVariables false

theorem Src.other {w : World} {g n cp k : Nat} {a : Option Addr} (h : Src w g a n cp k) {p : Addr} (hp : p.block ≠ g) (u : Value) : Src (w.setCell p u) g a n cp k := by
  have hc : ∀ o, (w.setCell p u).cell? ⟨g, o, none⟩ = w.cell? ⟨g, o, none⟩ := fun o => World.cell?_setCell_other w _ _ u (by intro e; apply hp; rw [e])
  exact ⟨by simpa [World.setCell] using h.lt, by rw [hc]; exact h.c0, by obtain ⟨t, ht, h1⟩ := h.c1; exact ⟨t, ht, by rw [hc]; exact h1⟩, by obtain ⟨z, h2⟩ := h.c2; exact ⟨z, by rw [hc]; exact h2⟩, by simpa using h.z1, by simpa using h.z2⟩
theorem Wrote.fresh {row : Option Nat} {w w1 : World} (h : Wrote row w w1) {p : Addr} (hp : w.heap.size ≤ p.block) (u : Value) : Wrote row w (w1.setCell p u) :=
  ⟨⟨h.1.os, h.1.tape, h.1.output, by simpa [World.setCell] using h.1.size, fun k hk hne => (Below.heap_setCell _ _ _ _ (by omega)).trans (h.1.block k hk hne)⟩, h.2⟩
theorem lit2 (w : World) (a b : Int) : IntsOf (w.alloc (.cells #[.int .i64 a, .int .i64 b] 2)) w.heap.size (.slice (some ⟨w.heap.size, 0, none⟩) 2 2) [a, b] :=
  ⟨by simp, .inr ⟨w.heap.size, 2, _, rfl, Nat.le_refl _, heap_alloc_new w _, Nat.le_refl _, by decide, by simp, by simp⟩⟩
theorem lit3 (w : World) (a b c : Int) : IntsOf (w.alloc (.cells #[.int .i64 a, .int .i64 b, .int .i64 c] 2)) w.heap.size (.slice (some ⟨w.heap.size, 0, none⟩) 3 3) [a, b, c] :=
  ⟨by simp, .inr ⟨w.heap.size, 3, _, rfl, Nat.le_refl _, heap_alloc_new w _, Nat.le_refl _, by decide, by simp, by simp⟩⟩
theorem lit4 (w : World) (a b c d : Int) : IntsOf (w.alloc (.cells #[.int .i64 a, .int .i64 b, .int .i64 c, .int .i64 d] 2)) w.heap.size (.slice (some ⟨w.heap.size, 0, none⟩) 4 4) [a, b, c, d] :=
  ⟨by simp, .inr ⟨w.heap.size, 4, _, rfl, Nat.le_refl _, heap_alloc_new w _, Nat.le_refl _, by decide, by simp, by simp⟩⟩
theorem lit5 (w : World) (a b c d e : Int) : IntsOf (w.alloc (.cells #[.int .i64 a, .int .i64 b, .int .i64 c, .int .i64 d, .int .i64 e] 2)) w.heap.size (.slice (some ⟨w.heap.size, 0, none⟩) 5 5) [a, b, c, d, e] :=
  ⟨by simp, .inr ⟨w.heap.size, 5, _, rfl, Nat.le_refl _, heap_alloc_new w _, Nat.le_refl _, by decide, by simp, by simp⟩⟩
theorem lit8 (w : World) (a b c d e f g h : Int) : IntsOf (w.alloc (.cells #[.int .i64 a, .int .i64 b, .int .i64 c, .int .i64 d, .int .i64 e, .int .i64 f, .int .i64 g, .int .i64 h] 2)) w.heap.size (.slice (some ⟨w.heap.size, 0, none⟩) 8 8) [a, b, c, d, e, f, g, h] :=
  ⟨by simp, .inr ⟨w.heap.size, 8, _, rfl, Nat.le_refl _, heap_alloc_new w _, Nat.le_refl _, by decide, by simp, by simp⟩⟩
theorem RowB.to {w w' : World} {g g' n : Nat} {a : Option Addr} (h : RowB w g a n) (x : Ext w w') (hg : w.heap.size ≤ g') : RowB w' g' a n := by
  rcases h with h | ⟨b, off, ha, hb, hne, hc⟩
  · exact .inl h
  · exact .inr ⟨b, off, ha, Nat.lt_of_lt_of_le hb x.size, by omega, fun j hj => by obtain ⟨v, hv, h⟩ := hc j hj; exact ⟨v, hv, (x.cells.1 _ _ hb).trans h⟩⟩
theorem keep_other {w : World} {b o b' o' : Nat} {u v : Value} (hne : b' ≠ b) (h : w.cell? ⟨b, o, none⟩ = some v) : (w.setCell ⟨b', o', none⟩ u).cell? ⟨b, o, none⟩ = some v :=
  (World.cell?_setCell_other w _ _ u (by intro e; apply hne; injection e)).trans h
theorem Src.drew {w : World} {g n cp k : Nat} {a : Option Addr} (h : Src w g a n cp k) : Src w.drew g a n cp k := h.ext ((Ext.refl _).drew)
theorem Wrote.drewr {row : Option Nat} {w w1 : World} (h : Wrote row w w1) : Wrote row w w1.drew := h.trans (Wrote.of_ext _ ((Ext.refl _).drew))
theorem cell_same {w : World} {b o : Nat} {u : Value} (h : (w.cell? ⟨b, o, none⟩).isSome = true) : (w.setCell ⟨b, o, none⟩ u).cell? ⟨b, o, none⟩ = some u := by
  obtain ⟨x, hx⟩ := Option.isSome_iff_exists.1 h
  simp [go_sem, hx]
theorem cell_off {w : World} {b b' o o' : Nat} {u v : Value} (hne : o' ≠ o) (h : w.cell? ⟨b, o, none⟩ = some v) : (w.setCell ⟨b', o', none⟩ u).cell? ⟨b, o, none⟩ = some v :=
  (World.cell?_setCell_other w _ _ u (by intro e; apply hne; injection e)).trans h
theorem cell_drew {w : World} {b o : Nat} {v : Value} (h : w.cell? ⟨b, o, none⟩ = some v) : w.drew.cell? ⟨b, o, none⟩ = some v := h
theorem some_drew {w : World} {b o : Nat} (h : (w.cell? ⟨b, o, none⟩).isSome = true) : (w.drew.cell? ⟨b, o, none⟩).isSome = true := h
theorem some_other {w : World} {b o b' o' : Nat} {u : Value} (h : (w.cell? ⟨b, o, none⟩).isSome = true) : ((w.setCell ⟨b', o', none⟩ u).cell? ⟨b, o, none⟩).isSome = true := by
  by_cases e : b' = b ∧ o' = o
  · obtain ⟨rfl, rfl⟩ := e
    rw [cell_same h]; rfl
  · rw [World.cell?_setCell_other w _ _ u (by intro k; apply e; injection k with k1 k2; exact ⟨k1, k2⟩)]
    exact h
theorem Wrote.old {W w1 : World} {g b o : Nat} {v : Value} (h : Wrote (some g) W w1) (hb : b < W.heap.size) (hne : b ≠ g) (c : W.cell? ⟨b, o, none⟩ = some v) : w1.cell? ⟨b, o, none⟩ = some v :=
  (h.cell hb (fun e => hne (by injection e))).trans c
theorem Wrote.oldf {W w1 : World} {g b o : Nat} (h : Wrote (some g) W w1) (hb : b < W.heap.size) (hne : b ≠ g) (c : W.frozen? ⟨b, o, none⟩ = false) : w1.frozen? ⟨b, o, none⟩ = false :=
  (h.free hb (fun e => hne (by injection e))).trans c
end Go.Proofs.Ytiodlbgfgeimoaa

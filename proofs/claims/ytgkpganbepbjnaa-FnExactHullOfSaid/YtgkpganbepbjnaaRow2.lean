/-
  Words for slices of structs of two integers.
-/
import Derived.Test.YtgkpganbepbjnaaNum
import Derived.Laws.MakeOwn
import Derived.Laws.Entries
namespace Go.Proofs.Ytgkpganbepbjnaa
open Go.RowKit
set_option linter.unusedVariables false

/-- The slice at a holds these pairs. -/
def RowAt (w : World) (a : Option Addr) (zs : List (Int × Int)) : Prop :=
  zs.length = 0 ∨ ∃ b off, a = some ⟨b, off, none⟩ ∧ b < w.heap.size ∧ ∀ j, j < zs.length → w.cell? ⟨b, off + j * 2, none⟩ = some (.int .i64 (zs.getD j (0, 0)).1) ∧ w.cell? ⟨b, off + j * 2 + 1, none⟩ = some (.int .i64 (zs.getD j (0, 0)).2)
theorem RowAt.ext {w w' : World} {a : Option Addr} {zs : List (Int × Int)} (h : RowAt w a zs) (x : Ext w w') : RowAt w' a zs := by
  rcases h with h | ⟨b, off, ha, hb, hc⟩
  · exact .inl h
  · exact .inr ⟨b, off, ha, Nat.lt_of_lt_of_le hb x.size, fun j hj => ⟨(x.cells.1 b _ hb).trans (hc j hj).1, (x.cells.1 b _ hb).trans (hc j hj).2⟩⟩
theorem RowAt.get {w : World} {a : Option Addr} {zs : List (Int × Int)} (h : RowAt w a zs) {j : Nat} (hj : j < zs.length) :
    ∃ b off, a = some ⟨b, off, none⟩ ∧ b < w.heap.size ∧ w.cell? ⟨b, off + j * 2, none⟩ = some (.int .i64 (zs.getD j (0, 0)).1) ∧ w.cell? ⟨b, off + j * 2 + 1, none⟩ = some (.int .i64 (zs.getD j (0, 0)).2) := by
  rcases h with h | ⟨b, off, ha, hb, hc⟩
  · omega
  · exact ⟨b, off, ha, hb, (hc j hj).1, (hc j hj).2⟩
theorem RowAt.look {w : World} {a : Option Addr} {zs : List (Int × Int)} (h : RowAt w a zs) {j : Nat} (hj : j < zs.length) :
    ∃ b off, a = some ⟨b, off, none⟩ ∧ b < w.heap.size ∧ ∃ x y, Hid ((zs.getD j (0, 0)).1 = x) ∧ Hid ((zs.getD j (0, 0)).2 = y) ∧ w.cell? ⟨b, off + j * 2, none⟩ = some (.int .i64 x) ∧ w.cell? ⟨b, off + j * 2 + 1, none⟩ = some (.int .i64 y) := by
  obtain ⟨b, off, ha, hb, h0, h1⟩ := h.get hj
  exact ⟨b, off, ha, hb, _, _, Lib.hid rfl, Lib.hid rfl, h0, h1⟩

/-- Block B is a row of n pairs of the call's own, of which the first i are laid. -/
structure Fill (w : World) (B n i : Nat) (zs : List (Int × Int)) : Prop where
  lt : B < w.heap.size
  there : ∀ j, j < n * 2 → ∃ v, w.cell? ⟨B, j, none⟩ = some v
  free : ∀ j, w.frozen? ⟨B, j, none⟩ = false
  laid : ∀ j, j < i → w.cell? ⟨B, j * 2, none⟩ = some (.int .i64 (zs.getD j (0, 0)).1) ∧ w.cell? ⟨B, j * 2 + 1, none⟩ = some (.int .i64 (zs.getD j (0, 0)).2)
theorem Fill.ext {w w' : World} {B n i : Nat} {zs : List (Int × Int)} (h : Fill w B n i zs) (x : Ext w w') : Fill w' B n i zs :=
  ⟨Nat.lt_of_lt_of_le h.lt x.size, fun j hj => by obtain ⟨v, hv⟩ := h.there j hj; exact ⟨v, (x.cells.1 B _ h.lt).trans hv⟩, fun j => (x.cells.2.1 B _ h.lt).trans (h.free j),
    fun j hj => ⟨(x.cells.1 B _ h.lt).trans (h.laid j hj).1, (x.cells.1 B _ h.lt).trans (h.laid j hj).2⟩⟩
theorem cell_set_ne (w : World) (b i j : Nat) (v : Value) (h : i ≠ j) : (w.setCell ⟨b, i, none⟩ v).cell? ⟨b, j, none⟩ = w.cell? ⟨b, j, none⟩ :=
  World.cell?_setCell_other w _ _ v (by intro e; injection e with _ e2; exact h e2)
theorem cell_set_eq (w : World) (b i : Nat) (v u : Value) (h : w.cell? ⟨b, i, none⟩ = some u) : (w.setCell ⟨b, i, none⟩ v).cell? ⟨b, i, none⟩ = some v := by
  simp [go_sem, h]
theorem frozen_set (w : World) (a p : Addr) (v : Value) : (w.setCell a v).frozen? p = w.frozen? p := by simp
theorem Fill.step {w : World} {B n i : Nat} {zs : List (Int × Int)} (h : Fill w B n i zs) (hi : i < n) {x y : Int} (hx : (zs.getD i (0, 0)).1 = x) (hy : (zs.getD i (0, 0)).2 = y) :
    Fill ((w.setCell ⟨B, i * 2, none⟩ (.int .i64 x)).setCell ⟨B, i * 2 + 1, none⟩ (.int .i64 y)) B n (i + 1) zs := by
  obtain ⟨u, hu⟩ := h.there (i * 2) (by omega)
  obtain ⟨v, hv⟩ := h.there (i * 2 + 1) (by omega)
  have e0 : ((w.setCell ⟨B, i * 2, none⟩ (.int .i64 x)).setCell ⟨B, i * 2 + 1, none⟩ (.int .i64 y)).cell? ⟨B, i * 2, none⟩ = some (.int .i64 x) := by
    rw [cell_set_ne _ _ _ _ _ (by omega), cell_set_eq _ _ _ _ _ hu]
  have e1 : ((w.setCell ⟨B, i * 2, none⟩ (.int .i64 x)).setCell ⟨B, i * 2 + 1, none⟩ (.int .i64 y)).cell? ⟨B, i * 2 + 1, none⟩ = some (.int .i64 y) := by
    rw [cell_set_eq _ _ _ _ v (by rw [cell_set_ne _ _ _ _ _ (by omega)]; exact hv)]
  have eo : ∀ j, j ≠ i * 2 → j ≠ i * 2 + 1 → ((w.setCell ⟨B, i * 2, none⟩ (.int .i64 x)).setCell ⟨B, i * 2 + 1, none⟩ (.int .i64 y)).cell? ⟨B, j, none⟩ = w.cell? ⟨B, j, none⟩ := fun j h1 h2 => by
    rw [cell_set_ne _ _ _ _ _ (by omega), cell_set_ne _ _ _ _ _ (by omega)]
  refine ⟨by simpa [World.setCell] using h.lt, fun j hj => ?_, fun j => by rw [frozen_set, frozen_set]; exact h.free j, fun j hj => ?_⟩
  · by_cases h1 : j = i * 2
    · rw [h1]; exact ⟨_, e0⟩
    · by_cases h2 : j = i * 2 + 1
      · rw [h2]; exact ⟨_, e1⟩
      · rw [eo j h1 h2]; exact h.there j hj
  · by_cases h1 : j = i
    · subst h1
      rw [hx, hy]
      exact ⟨e0, e1⟩
    · rw [eo _ (by omega) (by omega), eo _ (by omega) (by omega)]
      exact h.laid j (by omega)
theorem Fill.start (w : World) (n : Nat) (t : TypeId) (zs : List (Int × Int)) (C : Array Value) (hC : C.size = n * 2) : Fill (w.alloc (.cells C t)) w.heap.size n 0 zs :=
  ⟨by simp, fun j hj => ⟨C[j]'(by omega), by simp [go_sem, hC, hj]⟩, fun j => by simp, fun j hj => by omega⟩
theorem Fill.row {w : World} {B n : Nat} {zs : List (Int × Int)} (h : Fill w B n n zs) (hn : n = zs.length) : RowAt w (some ⟨B, 0, none⟩) zs :=
  .inr ⟨B, 0, rfl, h.lt, fun j hj => by simpa using h.laid j (by omega)⟩

theorem run_make_rowN {P : Program} (t e : TypeId) (i : TypeInfo) (z : Value) (ht : P.underlying t = some (.slice e)) (hi : P.info? e = some i) (hz : i.zero = some z)
    (kl kc : IntKind) (n c : Nat) (hnc : n ≤ c) (hbytes : i.bytes * c ≤ 281474976710656) (h63 : c ≤ 9223372036854775807) (w : World) :
    (Instr.makeSlice t (.int kl (n : Int)) (.int kc (c : Int))).run P w = .ok (.slice (some ⟨w.heap.size, 0, none⟩) n c) (w.alloc (.cells (madeCells z.cells (c * i.size)) e)) := by
  have hb : (i.bytes : Int) * (c : Int) ≤ 281474976710656 := by
    have h : ((i.bytes * c : Nat) : Int) ≤ 281474976710656 := by omega
    rwa [Int.natCast_mul] at h
  have hr := run_make (P := P) w t e i z ht hi hz kl kc n c (by omega) (by omega) hb (by omega)
  simp only [Int.toNat_natCast] at hr
  exact hr

def szOf (n : Nat) : Int := if n ≤ 1048576 then 1048576 - (n : Int) else -1
def pairZero : Value := .agg #[.int .i64 0, .int .i64 0]
theorem run_make_pairs {P : Program} (t e : TypeId) (ht : P.underlying t = some (.slice e)) (he : (P.info? e).map (fun i => (i.zero, i.size, i.bytes)) = some (some pairZero, 2, 16))
    (n c : Nat) (hnc : n ≤ c) (hc : c ≤ 17000000) (w : World) :
    (Instr.makeSlice t (.int .i64 (n : Int)) (.int .i64 (c : Int))).run P w = .ok (.slice (some ⟨w.heap.size, 0, none⟩) n c) (w.alloc (.cells (madeCells pairZero.cells (c * 2)) e)) := by
  cases hi : P.info? e with
  | none => rw [hi] at he; simp at he
  | some i =>
    rw [hi] at he
    simp only [Option.map_some, Option.some.injEq, Prod.mk.injEq] at he
    have := run_make_rowN (P := P) t e i pairZero ht hi he.1 .i64 .i64 n c hnc (by rw [he.2.2]; omega) (by omega) w
    rw [he.2.1] at this
    exact this
end Go.Proofs.Ytgkpganbepbjnaa

/-
  Words for slices of sites.
-/
import Derived.Test.YtgkpganbepbjnaaRow2
namespace Go.Proofs.Ytgkpganbepbjnaa
open Go.RowKit
set_option linter.unusedVariables false

structure Sit where
  s : ByteArray
  x : Int
  y : Int
  wh : Int
  st : Int
def Sit.d : Sit := ⟨⟨#[]⟩, 0, 0, 0, 0⟩
def Sit.row (z : Sit) : List Value := [.string z.s, .int .i64 z.x, .int .i64 z.y, .int .i64 z.wh, .int .i64 z.st]
/-- The five cells from c on in block b hold this site. -/
structure SAt (w : World) (b c : Nat) (s : ByteArray) (x y wh st : Int) : Prop where
  c0 : w.cell? ⟨b, c, none⟩ = some (.string s)
  c1 : w.cell? ⟨b, c + 1, none⟩ = some (.int .i64 x)
  c2 : w.cell? ⟨b, c + 2, none⟩ = some (.int .i64 y)
  c3 : w.cell? ⟨b, c + 3, none⟩ = some (.int .i64 wh)
  c4 : w.cell? ⟨b, c + 4, none⟩ = some (.int .i64 st)
theorem SAt.same {w w' : World} {b c : Nat} {s : ByteArray} {x y wh st : Int} (h : SAt w b c s x y wh st) (e : ∀ o, c ≤ o → o < c + 5 → w'.cell? ⟨b, o, none⟩ = w.cell? ⟨b, o, none⟩) : SAt w' b c s x y wh st :=
  ⟨(e _ (by omega) (by omega)).trans h.c0, (e _ (by omega) (by omega)).trans h.c1, (e _ (by omega) (by omega)).trans h.c2, (e _ (by omega) (by omega)).trans h.c3, (e _ (by omega) (by omega)).trans h.c4⟩
theorem SAt.ext {w w' : World} {b c : Nat} {s : ByteArray} {x y wh st : Int} (h : SAt w b c s x y wh st) (hb : b < w.heap.size) (xx : Ext w w') : SAt w' b c s x y wh st :=
  h.same fun o _ _ => xx.cells.1 b o hb
/-- The slice at a holds these sites. -/
def SRow (w : World) (a : Option Addr) (zs : List Sit) : Prop :=
  zs.length = 0 ∨ ∃ b off, a = some ⟨b, off, none⟩ ∧ b < w.heap.size ∧ ∀ j, j < zs.length → SAt w b (off + j * 5) (zs.getD j Sit.d).s (zs.getD j Sit.d).x (zs.getD j Sit.d).y (zs.getD j Sit.d).wh (zs.getD j Sit.d).st
theorem SRow.ext {w w' : World} {a : Option Addr} {zs : List Sit} (h : SRow w a zs) (x : Ext w w') : SRow w' a zs := by
  rcases h with h | ⟨b, off, ha, hb, hc⟩
  · exact .inl h
  · exact .inr ⟨b, off, ha, Nat.lt_of_lt_of_le hb x.size, fun j hj => (hc j hj).ext hb x⟩
theorem SRow.look {w : World} {a : Option Addr} {zs : List Sit} (h : SRow w a zs) {j : Nat} (hj : j < zs.length) :
    ∃ b off, a = some ⟨b, off, none⟩ ∧ b < w.heap.size ∧ ∃ s x y wh st, Hid (zs.getD j Sit.d = ⟨s, x, y, wh, st⟩) ∧ SAt w b (off + j * 5) s x y wh st := by
  rcases h with h | ⟨b, off, ha, hb, hc⟩
  · omega
  · exact ⟨b, off, ha, hb, _, _, _, _, _, Lib.hid rfl, hc j hj⟩
/-- Block B is a row of n sites of the call's own, of which the first i are laid. -/
structure SFill (w : World) (B n i : Nat) (zs : List Sit) : Prop where
  lt : B < w.heap.size
  there : ∀ j, j < n * 5 → ∃ v, w.cell? ⟨B, j, none⟩ = some v
  free : ∀ j, w.frozen? ⟨B, j, none⟩ = false
  laid : ∀ j, j < i → SAt w B (j * 5) (zs.getD j Sit.d).s (zs.getD j Sit.d).x (zs.getD j Sit.d).y (zs.getD j Sit.d).wh (zs.getD j Sit.d).st
theorem SFill.ext {w w' : World} {B n i : Nat} {zs : List Sit} (h : SFill w B n i zs) (x : Ext w w') : SFill w' B n i zs :=
  ⟨Nat.lt_of_lt_of_le h.lt x.size, fun j hj => by obtain ⟨v, hv⟩ := h.there j hj; exact ⟨v, (x.cells.1 B _ h.lt).trans hv⟩, fun j => (x.cells.2.1 B _ h.lt).trans (h.free j),
    fun j hj => (h.laid j hj).ext h.lt x⟩
/-- Five cells of block B are written. -/
def set5 (w : World) (B c : Nat) (s : ByteArray) (x y wh st : Int) : World :=
  ((((w.setCell ⟨B, c, none⟩ (.string s)).setCell ⟨B, c + 1, none⟩ (.int .i64 x)).setCell ⟨B, c + 2, none⟩ (.int .i64 y)).setCell ⟨B, c + 3, none⟩ (.int .i64 wh)).setCell ⟨B, c + 4, none⟩ (.int .i64 st)
theorem set5_other (w : World) (B c : Nat) (s : ByteArray) (x y wh st : Int) {o : Nat} (h : o < c ∨ c + 5 ≤ o) : (set5 w B c s x y wh st).cell? ⟨B, o, none⟩ = w.cell? ⟨B, o, none⟩ := by
  unfold set5
  rw [cell_set_ne _ _ _ _ _ (by omega), cell_set_ne _ _ _ _ _ (by omega), cell_set_ne _ _ _ _ _ (by omega), cell_set_ne _ _ _ _ _ (by omega), cell_set_ne _ _ _ _ _ (by omega)]
theorem set5_at (w : World) (B c : Nat) (s : ByteArray) (x y wh st : Int) (h : ∀ o, c ≤ o → o < c + 5 → ∃ v, w.cell? ⟨B, o, none⟩ = some v) : SAt (set5 w B c s x y wh st) B c s x y wh st := by
  obtain ⟨v0, h0⟩ := h c (by omega) (by omega)
  obtain ⟨v1, h1⟩ := h (c + 1) (by omega) (by omega)
  obtain ⟨v2, h2⟩ := h (c + 2) (by omega) (by omega)
  obtain ⟨v3, h3⟩ := h (c + 3) (by omega) (by omega)
  obtain ⟨v4, h4⟩ := h (c + 4) (by omega) (by omega)
  unfold set5
  refine ⟨?_, ?_, ?_, ?_, ?_⟩
  · rw [cell_set_ne _ _ _ _ _ (by omega), cell_set_ne _ _ _ _ _ (by omega), cell_set_ne _ _ _ _ _ (by omega), cell_set_ne _ _ _ _ _ (by omega)]
    exact cell_set_eq _ _ _ _ _ h0
  · rw [cell_set_ne _ _ _ _ _ (by omega), cell_set_ne _ _ _ _ _ (by omega), cell_set_ne _ _ _ _ _ (by omega)]
    exact cell_set_eq _ _ _ _ v1 (by rw [cell_set_ne _ _ _ _ _ (by omega)]; exact h1)
  · rw [cell_set_ne _ _ _ _ _ (by omega), cell_set_ne _ _ _ _ _ (by omega)]
    exact cell_set_eq _ _ _ _ v2 (by rw [cell_set_ne _ _ _ _ _ (by omega), cell_set_ne _ _ _ _ _ (by omega)]; exact h2)
  · rw [cell_set_ne _ _ _ _ _ (by omega)]
    exact cell_set_eq _ _ _ _ v3 (by rw [cell_set_ne _ _ _ _ _ (by omega), cell_set_ne _ _ _ _ _ (by omega), cell_set_ne _ _ _ _ _ (by omega)]; exact h3)
  · exact cell_set_eq _ _ _ _ v4 (by rw [cell_set_ne _ _ _ _ _ (by omega), cell_set_ne _ _ _ _ _ (by omega), cell_set_ne _ _ _ _ _ (by omega), cell_set_ne _ _ _ _ _ (by omega)]; exact h4)
theorem set5_frozen (w : World) (B c : Nat) (s : ByteArray) (x y wh st : Int) (p : Addr) : (set5 w B c s x y wh st).frozen? p = w.frozen? p := by
  unfold set5
  rw [frozen_set, frozen_set, frozen_set, frozen_set, frozen_set]
theorem set5_size (w : World) (B c : Nat) (s : ByteArray) (x y wh st : Int) : (set5 w B c s x y wh st).heap.size = w.heap.size := by
  unfold set5
  simp [World.setCell]
theorem SFill.step {w : World} {B n i : Nat} {zs : List Sit} (h : SFill w B n i zs) (hi : i < n) {s : ByteArray} {x y wh st : Int} (hz : zs.getD i Sit.d = ⟨s, x, y, wh, st⟩) : SFill (set5 w B (i * 5) s x y wh st) B n (i + 1) zs := by
  have h5 := set5_at w B (i * 5) s x y wh st (fun o h1 h2 => h.there o (by omega))
  refine ⟨by rw [set5_size]; exact h.lt, fun j hj => ?_, fun j => by rw [set5_frozen]; exact h.free j, fun j hj => ?_⟩
  · by_cases h1 : i * 5 ≤ j ∧ j < i * 5 + 5
    · have : j = i * 5 ∨ j = i * 5 + 1 ∨ j = i * 5 + 2 ∨ j = i * 5 + 3 ∨ j = i * 5 + 4 := by omega
      rcases this with e | e | e | e | e <;> rw [e]
      · exact ⟨_, h5.c0⟩
      · exact ⟨_, h5.c1⟩
      · exact ⟨_, h5.c2⟩
      · exact ⟨_, h5.c3⟩
      · exact ⟨_, h5.c4⟩
    · rw [set5_other _ _ _ _ _ _ _ _ (by omega)]; exact h.there j hj
  · by_cases h1 : j = i
    · subst h1
      rw [hz]
      exact h5
    · exact (h.laid j (by omega)).same fun o h1 h2 => set5_other _ _ _ _ _ _ _ _ (by omega)
theorem SFill.start (w : World) (n : Nat) (t : TypeId) (zs : List Sit) (C : Array Value) (hC : C.size = n * 5) : SFill (w.alloc (.cells C t)) w.heap.size n 0 zs :=
  ⟨by simp, fun j hj => ⟨C[j]'(by omega), by simp [go_sem, hC, hj]⟩, fun j => by simp, fun j hj => by omega⟩
theorem SFill.row {w : World} {B n : Nat} {zs : List Sit} (h : SFill w B n n zs) (hn : n = zs.length) : SRow w (some ⟨B, 0, none⟩) zs :=
  .inr ⟨B, 0, rfl, h.lt, fun j hj => by rw [Nat.zero_add]; exact h.laid j (by omega)⟩
end Go.Proofs.Ytgkpganbepbjnaa

/-
  The source of choices that the laws draw from: what each choice leaves behind.
-/
import Derived.Test.YtehebhphlaghfaaRow1
import Derived.Test.YtehebhphlaghfaaHeld
import Derived.Laws.Bits64b
import Derived.Deep.DeepCutAuto
namespace Go.Proofs.Ytehebhphlaghfaa
open Go.RowKit
set_option linter.unusedSimpArgs false
set_option linter.unusedVariables false

/-- Block g is a source over n bytes at a, of which at most k have been taken. -/
structure Src (w : World) (g : Nat) (a : Option Addr) (n cp k : Nat) : Prop where
  lt : g < w.heap.size
  c0 : w.cell? ⟨g, 0, none⟩ = some (.slice a n cp)
  c1 : ∃ t : Nat, t ≤ k ∧ w.cell? ⟨g, 1, none⟩ = some (.int .i64 t)
  c2 : ∃ z : Int, w.cell? ⟨g, 2, none⟩ = some (.int .u64 z)
  z1 : w.frozen? ⟨g, 1, none⟩ = false
  z2 : w.frozen? ⟨g, 2, none⟩ = false
/-- n bytes lie at a, and not in block g. -/
def RowB (w : World) (g : Nat) (a : Option Addr) (n : Nat) : Prop :=
  n = 0 ∨ ∃ b off, a = some ⟨b, off, none⟩ ∧ b < w.heap.size ∧ b ≠ g ∧ ∀ j, j < n → ∃ v : Int, (0 ≤ v ∧ v ≤ 255) ∧ w.cell? ⟨b, off + j, none⟩ = some (.int .u8 v)
theorem Src.ext {w w' : World} {g n cp k : Nat} {a : Option Addr} (h : Src w g a n cp k) (x : Ext w w') : Src w' g a n cp k :=
  ⟨Nat.lt_of_lt_of_le h.lt x.size, (x.cells.1 _ _ h.lt).trans h.c0, by obtain ⟨t, ht, hc⟩ := h.c1; exact ⟨t, ht, (x.cells.1 _ _ h.lt).trans hc⟩, by obtain ⟨z, hc⟩ := h.c2; exact ⟨z, (x.cells.1 _ _ h.lt).trans hc⟩,
    (x.cells.2.1 _ _ h.lt).trans h.z1, (x.cells.2.1 _ _ h.lt).trans h.z2⟩
theorem RowB.ext {w w' : World} {g n : Nat} {a : Option Addr} (h : RowB w g a n) (x : Ext w w') : RowB w' g a n := by
  rcases h with h | ⟨b, off, ha, hb, hne, hc⟩
  · exact .inl h
  · exact .inr ⟨b, off, ha, Nat.lt_of_lt_of_le hb x.size, hne, fun j hj => by obtain ⟨v, hv, h⟩ := hc j hj; exact ⟨v, hv, (x.cells.1 _ _ hb).trans h⟩⟩
theorem RowB.wrote {w w' : World} {g n : Nat} {a : Option Addr} (h : RowB w g a n) (x : Wrote (some g) w w') : RowB w' g a n := by
  rcases h with h | ⟨b, off, ha, hb, hne, hc⟩
  · exact .inl h
  · exact .inr ⟨b, off, ha, Nat.lt_of_lt_of_le hb x.size, hne, fun j hj => by obtain ⟨v, hv, h⟩ := hc j hj; exact ⟨v, hv, (x.cell hb (fun e => hne (by injection e))).trans h⟩⟩
theorem Wrote.of_ext {w w' : World} (row : Option Nat) (x : Ext w w') : Wrote row w w' :=
  ⟨⟨x.1.os, x.1.tape, x.1.output, x.size, fun k hk _ => x.1.block k hk⟩, x.2⟩
theorem and255 (z : Int) : 0 ≤ bits .and .u64 z 255 ∧ bits .and .u64 z 255 ≤ 255 := by
  show 0 ≤ IntKind.u64.wrap ((BitVec.ofInt 64 z &&& BitVec.ofInt 64 255).toNat : Int) ∧ IntKind.u64.wrap ((BitVec.ofInt 64 z &&& BitVec.ofInt 64 255).toNat : Int) ≤ 255
  rw [BitVec.toNat_and, IntKind.wrap_u64]
  have h1 : (BitVec.ofInt 64 z).toNat &&& (BitVec.ofInt 64 255).toNat ≤ (BitVec.ofInt 64 255).toNat := Nat.and_le_right
  have h2 : (BitVec.ofInt 64 255).toNat = 255 := by decide
  omega
theorem Src.stored {U : World} {g n cp k : Nat} {a : Option Addr} {t : Nat} {z : Int} (ht : t ≤ k) (hl : g < U.heap.size) (c0 : U.cell? ⟨g, 0, none⟩ = some (.slice a n cp)) (c1 : (U.cell? ⟨g, 1, none⟩).isSome = true) (c2 : (U.cell? ⟨g, 2, none⟩).isSome = true)
    (z1 : U.frozen? ⟨g, 1, none⟩ = false) (z2 : U.frozen? ⟨g, 2, none⟩ = false) :
    Src ((U.setCell ⟨g, 1, none⟩ (.int .i64 t)).setCell ⟨g, 2, none⟩ (.int .u64 z)) g a n cp k := by
  obtain ⟨x1, h1⟩ := Option.isSome_iff_exists.1 c1
  obtain ⟨x2, h2⟩ := Option.isSome_iff_exists.1 c2
  exact ⟨by simpa [World.setCell] using hl, by simp [go_sem, c0], ⟨t, ht, by simp [go_sem, h1]⟩, ⟨z, by simp [go_sem, h2]⟩, by simp [z1], by simp [z2]⟩

set_option maxRecDepth 100000 in
set_option maxHeartbeats 4000000 in
theorem next_any (g n cp k : Nat) (a : Option Addr) (w : World) (h : Src w g a n cp k) (hb : RowB w g a n) (hk : k ≤ 1000000) (hn : n ≤ 1048576) :
    Calls Try.prog 89 #[.pointer (some ⟨g, 0, none⟩)] w fun e w' => ∃ x, e = .returned (.int .i64 x) ∧ (0 ≤ x ∧ x ≤ 255) ∧ Src w' g a n cp (k + 1) ∧ Wrote (some g) w w' := by
  have hl := h.lt
  have c0 := h.c0
  obtain ⟨t, ht, c1⟩ := h.c1
  obtain ⟨z, c2⟩ := h.c2
  have z1 := h.z1
  have z2 := h.z2
  have qa := fun z => IntWalk.i64_in (bits .and .u64 z 255) (by have := and255 z; omega)
  have q1 : IntKind.i64.wrap ((t : Int) + 1) = (t : Int) + 1 := IntWalk.i64_in _ (by omega)
  by_cases h0 : t < n
  · rcases hb with hb | ⟨b, off, rfl, hbb, hne, hcs⟩
    · omega
    obtain ⟨v, hv, cv⟩ := hcs t h0
    have t1 : (t : Int) < (n : Int) := by omega
    have t2 : (t : Int) + 1 ≤ (n : Int) := by omega
    have qv : IntKind.i64.wrap v = v := IntWalk.i64_in _ (by omega)
    clear h hcs
    go_enter Try.func89, Try.ntmps89
    go_wp2_with fail
    go_quiet (fail)
    go_upto_region 3 with fail
    go_quiet (fail)
    go_upto_region 4 with fail
    generalize hU : World.drewN _ _ = U
    have xU : Ext w U := by rw [← hU]; first | exact (Ext.refl _).drewN _ | exact ((Ext.refl _).drewN _).drewN _
    clear hU
    replace c0 := (xU.cells.1 _ _ hl).trans c0
    replace c1 := (xU.cells.1 _ _ hl).trans c1
    replace c2 := (xU.cells.1 _ _ hl).trans c2
    replace z1 := (xU.cells.2.1 _ _ hl).trans z1
    replace z2 := (xU.cells.2.1 _ _ hl).trans z2
    replace hl := Nat.lt_of_lt_of_le hl xU.size
    go_upto_region 6 with fail
    generalize hZ : IntKind.u64.wrap (_ + 1442695040888963407) = Z
    generalize hV : World.setCell _ _ _ = V
    have hS : Src V g (some ⟨b, off, none⟩) n cp (k + 1) := by rw [← hV]; exact Src.stored (t := t + 1) (by omega) hl c0 (by rw [c1]; rfl) (by rw [c2]; rfl) z1 z2
    have hW : Wrote (some g) w V := by rw [← hV]; exact (Wrote.of_ext _ xU).trans ((Wrote.set _ _ _ _).trans (Wrote.set _ _ _ _))
    have d0 := hS.c0
    have d1 : V.cell? ⟨g, 1, none⟩ = some (.int .i64 ((t : Int) + 1)) := by rw [← hV]; simp [go_sem, c1]
    have d2 : V.cell? ⟨g, 2, none⟩ = some (.int .u64 Z) := by rw [← hV]; simp [go_sem, c2]
    clear hV hZ c0 c1 c2 z1 z2 hl
    go_quiet (fail)
    go_wp2_with fail
    go_ret
    exact ⟨v, rfl, hv, hS.ext ((Ext.refl _).drewN _), hW.trans (Wrote.of_ext _ ((Ext.refl _).drewN _))⟩
  · have t1 : ¬ (t : Int) < (n : Int) := by omega
    have t2 : ¬ (t : Int) + 1 ≤ (n : Int) := by omega
    clear h hb
    go_enter Try.func89, Try.ntmps89
    go_wp2_with fail
    go_quiet (fail)
    go_upto_region 4 with fail
    generalize hU : World.drewN _ _ = U
    have xU : Ext w U := by rw [← hU]; first | exact (Ext.refl _).drewN _ | exact ((Ext.refl _).drewN _).drewN _
    clear hU
    replace c0 := (xU.cells.1 _ _ hl).trans c0
    replace c1 := (xU.cells.1 _ _ hl).trans c1
    replace c2 := (xU.cells.1 _ _ hl).trans c2
    replace z1 := (xU.cells.2.1 _ _ hl).trans z1
    replace z2 := (xU.cells.2.1 _ _ hl).trans z2
    replace hl := Nat.lt_of_lt_of_le hl xU.size
    go_upto_region 6 with fail
    generalize hZ : IntKind.u64.wrap (_ + 1442695040888963407) = Z
    generalize hV : World.setCell _ _ _ = V
    have hS : Src V g a n cp (k + 1) := by rw [← hV]; exact Src.stored (t := t + 1) (by omega) hl c0 (by rw [c1]; rfl) (by rw [c2]; rfl) z1 z2
    have hW : Wrote (some g) w V := by rw [← hV]; exact (Wrote.of_ext _ xU).trans ((Wrote.set _ _ _ _).trans (Wrote.set _ _ _ _))
    have d0 := hS.c0
    have d1 : V.cell? ⟨g, 1, none⟩ = some (.int .i64 ((t : Int) + 1)) := by rw [← hV]; simp [go_sem, c1]
    have d2 : V.cell? ⟨g, 2, none⟩ = some (.int .u64 Z) := by rw [← hV]; simp [go_sem, c2]
    clear hV hZ c0 c1 c2 z1 z2 hl
    go_quiet (fail)
    go_wp2_with fail
    go_ret
    exact ⟨_, rfl, and255 _, hS.ext ((Ext.refl _).drewN _), hW.trans (Wrote.of_ext _ ((Ext.refl _).drewN _))⟩
end Go.Proofs.Ytehebhphlaghfaa

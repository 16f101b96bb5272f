/-
  Springs: what the laws make of them.
-/
import Derived.Test.YtgkpganbepbjnaaSpring2
namespace Go.Proofs.Ytgkpganbepbjnaa
open Go.RowKit
set_option linter.unusedSimpArgs false
set_option linter.unusedVariables false

theorem Fill.other {w : World} {B n i : Nat} {zs : List (Int × Int)} (h : Fill w B n i zs) {p : Addr} (hp : p.block ≠ B) (v : Value) : Fill (w.setCell p v) B n i zs := by
  have hc : ∀ o, (w.setCell p v).cell? ⟨B, o, none⟩ = w.cell? ⟨B, o, none⟩ := fun o => World.cell?_setCell_other w _ _ v (by intro e; apply hp; rw [e])
  exact ⟨by simpa [World.setCell] using h.lt, fun j hj => by rw [hc]; exact h.there j hj, fun j => by rw [frozen_set]; exact h.free j, fun j hj => by rw [hc, hc]; exact h.laid j hj⟩

set_option maxHeartbeats 1000000 in
theorem toSpring_any (a : Option Addr) (n c : Nat) (zs : List (Int × Int)) (w : World) (hr : RowAt w a zs) (hn : zs.length = n) (hm : n ≤ 1048576) :
    Calls Try.prog 21 #[.agg #[.slice a n c]] w fun e w' => ∃ g, e = .returned (.agg #[.slice (some ⟨g, 0, none⟩) n n]) ∧ Fill w' g n n zs ∧ w.heap.size ≤ g ∧ Ext w w' := by
  go_enter Try.func21, Try.ntmps21
  go_wp2_with fail
  generalize hW : World.alloc _ _ = W
  have hE : Ext w W := by rw [← hW]; exact (((Ext.refl _).alloc _).alloc _).alloc _
  have l1 : w.heap.size + 1 < W.heap.size := by rw [← hW]; simp
  have l2 : w.heap.size + 1 + 1 < W.heap.size := by rw [← hW]; simp
  have c1 : W.cell? ⟨w.heap.size + 1, 0, none⟩ = some (.slice none 0 0) := by rw [← hW]; simp [go_sem]
  have c2 : W.cell? ⟨w.heap.size + 1 + 1, 0, none⟩ = some (.slice none 0 0) := by rw [← hW]; simp [go_sem]
  have z1 : W.frozen? ⟨w.heap.size + 1, 0, none⟩ = false := by rw [← hW]; simp [go_sem]
  have z2 : W.frozen? ⟨w.heap.size + 1 + 1, 0, none⟩ = false := by rw [← hW]; simp [go_sem]
  clear hW
  go_wp2_with (go_at_call 61; refine (toBendS_any _ _ _ zs _ (hr.ext hE) hn hm).mono ?_; rintro e w1 ⟨rfl, hf, x1⟩; replace c1 := (x1.cells.1 _ _ l1).trans c1; replace c2 := (x1.cells.1 _ _ l2).trans c2; replace z1 := (x1.cells.2.1 _ _ l1).trans z1; replace z2 := (x1.cells.2.1 _ _ l2).trans z2)
  exact bodyPost_ret (v := .agg #[.slice (some ⟨W.heap.size, 0, none⟩) n n]) (by simp [results, Try.results21, go_sem, *]) rfl ⟨_, rfl, (hf.other (by simp; omega) _).other (by simp; omega) _, hE.size, ((hE.trans x1).setCell (by simp; try omega) _).setCell (by simp; try omega) _⟩

set_option maxHeartbeats 1000000 in
theorem szSpring_any (a : Option Addr) (n c : Nat) (w : World) (hn : n ≤ 9223372036854775807) :
    Calls Try.prog 19 #[.agg #[.slice a n c], .int .i64 1048576] w fun e w' => e = .returned (.int .i64 (szOf n)) ∧ Ext w w' := by
  by_cases h : szOf n < 0
  · have e := Lib.hid (show -1 = szOf n by unfold szOf at h ⊢; split <;> simp_all <;> omega)
    go_enter Try.func19, Try.ntmps19
    go_wp2_with (go_at_call 59; refine (szBendS_any _ _ _ _ hn).mono ?_; rintro e w1 ⟨rfl, rfl⟩)
    go_ret
    exact ⟨ret_int e.out, (Ext.refl _).alloc _⟩
  · go_enter Try.func19, Try.ntmps19
    go_wp2_with (go_at_call 59; refine (szBendS_any _ _ _ _ hn).mono ?_; rintro e w1 ⟨rfl, rfl⟩)
    go_ret
    exact ⟨rfl, (Ext.refl _).alloc _⟩

set_option maxHeartbeats 1000000 in
theorem eqSpring_any (a a1 : Option Addr) (n c c1 : Nat) (zs : List (Int × Int)) (w : World) (hr : RowAt w a zs) (hr1 : RowAt w a1 zs) (hn : zs.length = n) (hm : n ≤ 1048576) :
    Calls Try.prog 23 #[.agg #[.slice a n c], .agg #[.slice a1 n c1]] w fun e w' => e = .returned (.bool true) ∧ Ext w w' := by
  have x0 : ∀ o u, Ext w ((w.alloc o).alloc u) := fun o u => ((Ext.refl _).alloc _).alloc _
  go_enter Try.func23, Try.ntmps23
  go_wp2_with (go_at_call 63; refine (eqBendS_any _ _ _ _ _ zs _ (hr.ext (x0 _ _)) (hr1.ext (x0 _ _)) hn hm).mono ?_; rintro e w1 ⟨rfl, x1⟩)
  go_ret
  exact ⟨rfl, (x0 _ _).trans x1⟩
end Go.Proofs.Ytgkpganbepbjnaa

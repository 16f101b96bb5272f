/-
  Plates: converted, sized, compared.
-/
import Derived.Test.YtgkpganbepbjnaaSiteS
import Derived.Deep.DeepCutAuto
namespace Go.Proofs.Ytgkpganbepbjnaa
open Go.RowKit
set_option linter.unusedSimpArgs false
set_option linter.unusedVariables false

theorem SFill.other {w : World} {B n i : Nat} {zs : List Sit} (h : SFill w B n i zs) {p : Addr} (hp : p.block ≠ B) (v : Value) : SFill (w.setCell p v) B n i zs := by
  have hc : ∀ o, (w.setCell p v).cell? ⟨B, o, none⟩ = w.cell? ⟨B, o, none⟩ := fun o => World.cell?_setCell_other w _ _ v (by intro e; apply hp; rw [e])
  exact ⟨by simpa [World.setCell] using h.lt, fun j hj => by rw [hc]; exact h.there j hj, fun j => by simpa using h.free j, fun j hj => (h.laid j hj).same fun o _ _ => hc o⟩
set_option maxHeartbeats 2000000 in
theorem toPlate_any (pw ph pm pg : Int) (a : Option Addr) (n c : Nat) (zs : List Sit) (w : World) (hr : SRow w a zs) (hn : zs.length = n) (hm : n ≤ 1048576) :
    Calls Try.prog 45 #[.agg #[.int .i64 pw, .int .i64 ph, .int .i64 pm, .int .i64 pg, .slice a n c]] w fun e w' => ∃ g, e = .returned (.agg #[.int .i64 pw, .int .i64 ph, .int .i64 pm, .int .i64 pg, .slice (some ⟨g, 0, none⟩) n n]) ∧ SFill w' g n n zs ∧ w.heap.size ≤ g ∧ Ext w w' := by
  go_enter Try.func45, Try.ntmps45
  go_upto_region 6 with fail
  generalize hW : World.alloc _ _ = W
  have hE : Ext w W := by rw [← hW]; exact (((Ext.refl _).alloc _).alloc _).alloc _
  have l1 : w.heap.size + 1 < W.heap.size := by rw [← hW]; simp
  have l2 : w.heap.size + 1 + 1 < W.heap.size := by rw [← hW]; simp
  have l0 : w.heap.size < W.heap.size := by rw [← hW]; simp; omega
  have b4 : W.cell? ⟨w.heap.size, 4, none⟩ = some (.slice a n c) := by rw [← hW]; simp [go_sem]
  have c0 : W.cell? ⟨w.heap.size + 1, 0, none⟩ = some (.int .i64 0) := by rw [← hW]; simp [go_sem]
  have cz0 : W.frozen? ⟨w.heap.size + 1, 0, none⟩ = false := by rw [← hW]; simp [go_sem]
  have c1 : W.cell? ⟨w.heap.size + 1, 1, none⟩ = some (.int .i64 0) := by rw [← hW]; simp [go_sem]
  have cz1 : W.frozen? ⟨w.heap.size + 1, 1, none⟩ = false := by rw [← hW]; simp [go_sem]
  have c2 : W.cell? ⟨w.heap.size + 1, 2, none⟩ = some (.int .i64 0) := by rw [← hW]; simp [go_sem]
  have cz2 : W.frozen? ⟨w.heap.size + 1, 2, none⟩ = false := by rw [← hW]; simp [go_sem]
  have c3 : W.cell? ⟨w.heap.size + 1, 3, none⟩ = some (.int .i64 0) := by rw [← hW]; simp [go_sem]
  have cz3 : W.frozen? ⟨w.heap.size + 1, 3, none⟩ = false := by rw [← hW]; simp [go_sem]
  have c4 : W.cell? ⟨w.heap.size + 1, 4, none⟩ = some (.slice none 0 0) := by rw [← hW]; simp [go_sem]
  have cz4 : W.frozen? ⟨w.heap.size + 1, 4, none⟩ = false := by rw [← hW]; simp [go_sem]
  have e0 : W.cell? ⟨w.heap.size + 1 + 1, 0, none⟩ = some (.int .i64 pw) := by rw [← hW]; simp [go_sem]
  have ez0 : W.frozen? ⟨w.heap.size + 1 + 1, 0, none⟩ = false := by rw [← hW]; simp [go_sem]
  have e1 : W.cell? ⟨w.heap.size + 1 + 1, 1, none⟩ = some (.int .i64 ph) := by rw [← hW]; simp [go_sem]
  have ez1 : W.frozen? ⟨w.heap.size + 1 + 1, 1, none⟩ = false := by rw [← hW]; simp [go_sem]
  have e2 : W.cell? ⟨w.heap.size + 1 + 1, 2, none⟩ = some (.int .i64 pm) := by rw [← hW]; simp [go_sem]
  have ez2 : W.frozen? ⟨w.heap.size + 1 + 1, 2, none⟩ = false := by rw [← hW]; simp [go_sem]
  have e3 : W.cell? ⟨w.heap.size + 1 + 1, 3, none⟩ = some (.int .i64 pg) := by rw [← hW]; simp [go_sem]
  have ez3 : W.frozen? ⟨w.heap.size + 1 + 1, 3, none⟩ = false := by rw [← hW]; simp [go_sem]
  have e4 : W.cell? ⟨w.heap.size + 1 + 1, 4, none⟩ = some (.slice none 0 0) := by rw [← hW]; simp [go_sem]
  have ez4 : W.frozen? ⟨w.heap.size + 1 + 1, 4, none⟩ = false := by rw [← hW]; simp [go_sem]
  clear hW
  go_wp2_with (first | (go_at_call 83; refine (toSiteS_any _ _ _ zs _ (hr.ext hE) hn hm).mono ?_; rintro e w1 ⟨rfl, hf, x1⟩; replace c0 := (x1.cells.1 _ _ l1).trans c0; replace cz0 := (x1.cells.2.1 _ _ l1).trans cz0; replace c1 := (x1.cells.1 _ _ l1).trans c1; replace cz1 := (x1.cells.2.1 _ _ l1).trans cz1; replace c2 := (x1.cells.1 _ _ l1).trans c2; replace cz2 := (x1.cells.2.1 _ _ l1).trans cz2; replace c3 := (x1.cells.1 _ _ l1).trans c3; replace cz3 := (x1.cells.2.1 _ _ l1).trans cz3; replace c4 := (x1.cells.1 _ _ l1).trans c4; replace cz4 := (x1.cells.2.1 _ _ l1).trans cz4; replace e0 := (x1.cells.1 _ _ l2).trans e0; replace ez0 := (x1.cells.2.1 _ _ l2).trans ez0; replace e1 := (x1.cells.1 _ _ l2).trans e1; replace ez1 := (x1.cells.2.1 _ _ l2).trans ez1; replace e2 := (x1.cells.1 _ _ l2).trans e2; replace ez2 := (x1.cells.2.1 _ _ l2).trans ez2; replace e3 := (x1.cells.1 _ _ l2).trans e3; replace ez3 := (x1.cells.2.1 _ _ l2).trans ez3; replace e4 := (x1.cells.1 _ _ l2).trans e4; replace ez4 := (x1.cells.2.1 _ _ l2).trans ez4))
  have hs1 := x1.size
  refine bodyPost_ret (v := .agg #[.int .i64 pw, .int .i64 ph, .int .i64 pm, .int .i64 pg, .slice (some ⟨W.heap.size, 0, none⟩) n n]) ?_ rfl ⟨_, rfl, ?_, hE.size, ?_⟩
  · simp [results, Try.results45, go_sem, *]
  · (repeat (refine SFill.other ?_ ?_ _; rotate_left; focus (first | (simp; done) | (simp; omega) | omega))); exact hf
  · (repeat (first | (with_reducible refine Ext.drew ?_) | (with_reducible refine Ext.setCell ?_ ?_ _; rotate_left; focus (first | (simp; done) | (simp; omega) | omega)))); exact hE.trans x1
set_option maxHeartbeats 1000000 in
theorem szPlate_any (pw ph pm pg : Int) (a : Option Addr) (n c : Nat) (zs : List Sit) (w : World) (hr : SRow w a zs) (hn : zs.length = n) (hm : n ≤ 9223372036854775807) (hs : ∀ j, j < n → (zs.getD j Sit.d).s.size ≤ 9223372036854775807) :
    Calls Try.prog 43 #[.agg #[.int .i64 pw, .int .i64 ph, .int .i64 pm, .int .i64 pg, .slice a n c], .int .i64 1048576] w fun e w' => (∃ r, e = .returned (.int .i64 r) ∧ (r = -1 ∨ (0 ≤ r ∧ n ≤ 1048576))) ∧ Ext w w' := by
  go_enter Try.func43, Try.ntmps43
  go_upto_region 2 with (first | (go_at_call 80; refine (szSiteS_any a n c zs _ (hr.ext ((Ext.refl _).alloc _)) hn hm hs).mono ?_; rintro e w1 ⟨⟨r, rfl, hr2⟩, x1⟩))
  have hE := ((Ext.refl w).alloc _).trans x1
  rcases hr2 with rfl | ⟨k1, k2⟩
  · go_wp2
    go_ret
    exact ⟨⟨-1, rfl, .inl rfl⟩, hE⟩
  · have t2 : ¬ r < 0 := by omega
    go_wp2
    go_ret
    exact ⟨⟨r, rfl, by omega⟩, hE⟩
set_option maxHeartbeats 2000000 in
theorem eqPlate_any (pw ph pm pg : Int) (a a1 : Option Addr) (n c c1 : Nat) (zs : List Sit) (w : World) (hr : SRow w a zs) (hr1 : SRow w a1 zs) (hn : zs.length = n) (hm : n ≤ 1048576) :
    Calls Try.prog 48 #[.agg #[.int .i64 pw, .int .i64 ph, .int .i64 pm, .int .i64 pg, .slice a n c], .agg #[.int .i64 pw, .int .i64 ph, .int .i64 pm, .int .i64 pg, .slice a1 n c1]] w fun e w' => e = .returned (.bool true) ∧ Ext w w' := by
  go_enter Try.func48, Try.ntmps48
  go_wp2_with (first | (go_at_call 87; refine (eqSiteS_any a a1 n c c1 zs _ (hr.ext (((Ext.refl _).alloc _).alloc _)) (hr1.ext (((Ext.refl _).alloc _).alloc _)) hn hm).mono ?_; rintro e w1 ⟨rfl, x1⟩))
  go_ret
  exact ⟨rfl, (((Ext.refl _).alloc _).alloc _).trans x1⟩
end Go.Proofs.Ytgkpganbepbjnaa

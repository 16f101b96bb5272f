/-
  The walk of the law FnExactHullOf.
-/
import Derived.Test.YtgkpganbepbjnaaHuP
import Derived.Test.YtgkpganbepbjnaaHuI
import Derived.Test.YtgkpganbepbjnaaHuS
import Derived.Test.YtgkpganbepbjnaaRow1
import Derived.Test.YtgkpganbepbjnaaPlate
import Derived.Test.YtgkpganbepbjnaaMarkS
import Derived.Test.YtgkpganbepbjnaaHeld
import Derived.Deep.DeepCutAuto
namespace Go.Proofs.Ytgkpganbepbjnaa
open Go.RowKit
set_option linter.unusedSimpArgs false
set_option linter.unusedVariables false

theorem IntsOf_low {W cur w1 : World} {v : Value} {zs : List Int} (h : IntsOf w1 cur.heap.size v zs) (hb : W.heap.size ≤ cur.heap.size) : IntsOf w1 W.heap.size v zs := own_base h hb
set_option maxRecDepth 100000 in
set_option maxHeartbeats 16000000 in
theorem hullOf_walk (pw ph pm pg : Int) (a : Option Addr) (n c : Nat) (zs : List Sit) (w : World) (hr : SRow w a zs) (hn : zs.length = n) (hm : n ≤ 9223372036854775807) (hsz : ∀ j, j < n → (zs.getD j Sit.d).s.size ≤ 9223372036854775807) :
    Calls Try.prog 13 #[.agg #[.int .i64 pw, .int .i64 ph, .int .i64 pm, .int .i64 pg, .slice a n c]] w fun e w' => e = .returned (.bool true) ∧ Ext w w' := by
  go_enter Try.func13, Try.ntmps13
  go_upto_region 1 with fail
  generalize hW : World.alloc _ _ = W
  have hE : Ext w W := by rw [← hW]; exact (Ext.refl _).alloc _
  have hl : w.heap.size < W.heap.size := by rw [← hW]; simp
  have p0 : W.cell? ⟨w.heap.size, 0, none⟩ = some (.int .i64 pw) := by rw [← hW]; simp [go_sem]
  have p1 : W.cell? ⟨w.heap.size, 1, none⟩ = some (.int .i64 ph) := by rw [← hW]; simp [go_sem]
  have p2 : W.cell? ⟨w.heap.size, 2, none⟩ = some (.int .i64 pm) := by rw [← hW]; simp [go_sem]
  have p3 : W.cell? ⟨w.heap.size, 3, none⟩ = some (.int .i64 pg) := by rw [← hW]; simp [go_sem]
  have p4 : W.cell? ⟨w.heap.size, 4, none⟩ = some (.slice a n c) := by rw [← hW]; simp [go_sem]
  clear hW
  have hrW := hr.ext hE
  have x0 := Ext.refl W
  go_upto_region 3 with (go_at_call 43; refine (szPlate_any pw ph pm pg a n c zs _ (hrW.ext x0) hn hm hsz).mono ?_; rintro e w1 ⟨⟨r, rfl, hr2⟩, x1⟩; (try clear xc xf xs); (first | replace x0 := x0.trans x1 | replace x0 := (x0.drew).trans x1 | replace x0 := (x0.drewN _).trans x1 | have x0 := x1); clear x1; obtain ⟨xc, xf, xs⟩ := x0.cells)
  replace p0 := (x0.cells.1 _ _ hl).trans p0
  replace p1 := (x0.cells.1 _ _ hl).trans p1
  replace p2 := (x0.cells.1 _ _ hl).trans p2
  replace p3 := (x0.cells.1 _ _ hl).trans p3
  replace p4 := (x0.cells.1 _ _ hl).trans p4
  replace hl := Nat.lt_of_lt_of_le hl x0.size

  replace hrW := hrW.ext x0
  replace hE := hE.trans x0
  (try clear xc xf xs)
  clear x0
  rename World => W
  have x0 := Ext.refl W
  rcases hr2 with rfl | ⟨k1, hs⟩
  · go_wp2
    go_ret
    exact ⟨rfl, hE⟩
  have t2 : ¬ r < 0 := by omega
  have hL : (huR pw ph pm pg zs).length ≤ 1048576 := huR_len pw ph pm pg zs
  go_upto_region 6 with (first | (go_at_call 45; refine (toPlate_any pw ph pm pg a n c zs _ (by first | exact hrW.ext x0 | exact hrW.ext x0.drew | exact hrW.ext (x0.drewN _)) hn hs).mono ?_; rintro e w1 ⟨g1, rfl, hf, hg1, x1⟩; have hgs := Nat.le_trans x0.size hg1; have hg0 := hf.row hn.symm; (try clear xc xf xs); (first | replace x0 := x0.trans x1 | replace x0 := (x0.drew).trans x1 | replace x0 := (x0.drewN _).trans x1 | have x0 := x1); clear x1; obtain ⟨xc, xf, xs⟩ := x0.cells) | (go_at_call 52; refine (specHullOf_any pw ph pm pg (some ⟨g1, 0, none⟩) n n zs _ hg0 hn hs hsz).mono ?_; rintro e w1 ⟨vw, rfl, hw, x1⟩; have hz0 := x0.size; (try clear xc xf xs); (first | replace x0 := x0.trans x1 | replace x0 := (x0.drew).trans x1 | replace x0 := (x0.drewN _).trans x1 | have x0 := x1); clear x1; obtain ⟨xc, xf, xs⟩ := x0.cells))
  replace hw := IntsOf_low hw hz0
  replace p0 := (x0.cells.1 _ _ hl).trans p0
  replace p1 := (x0.cells.1 _ _ hl).trans p1
  replace p2 := (x0.cells.1 _ _ hl).trans p2
  replace p3 := (x0.cells.1 _ _ hl).trans p3
  replace p4 := (x0.cells.1 _ _ hl).trans p4
  replace hl := Nat.lt_of_lt_of_le hl x0.size

  replace hrW := hrW.ext x0
  replace hE := hE.trans x0
  clear hg0 hf hz0 hgs hg1
  (try clear xc xf xs)
  clear x0
  rename World => W
  have x0 := Ext.refl W
  obtain ⟨aw, cw, rfl⟩ := hw.shape
  go_upto_region 7 with (first | (go_at_call 45; refine (toPlate_any pw ph pm pg a n c zs _ (by first | exact hrW.ext x0 | exact hrW.ext x0.drew | exact hrW.ext (x0.drewN _)) hn hs).mono ?_; rintro e w1 ⟨gx, rfl, hx, hg1, x1⟩; have hgs := Nat.le_trans x0.size hg1; have hg0 := hx.row hn.symm; (try clear xc xf xs); (first | replace x0 := x0.trans x1 | replace x0 := (x0.drew).trans x1 | replace x0 := (x0.drewN _).trans x1 | have x0 := x1); clear x1; obtain ⟨xc, xf, xs⟩ := x0.cells))
  have hpxw := off_row' hw hgs
  have hlx : w.heap.size ≠ gx := by omega
  have hgx := Nat.le_trans hE.size hgs
  clear hg0 hgs hg1
  replace p0 := (x0.cells.1 _ _ hl).trans p0
  replace p1 := (x0.cells.1 _ _ hl).trans p1
  replace p2 := (x0.cells.1 _ _ hl).trans p2
  replace p3 := (x0.cells.1 _ _ hl).trans p3
  replace p4 := (x0.cells.1 _ _ hl).trans p4
  replace hl := Nat.lt_of_lt_of_le hl x0.size
  replace hw := hw.ext x0
  replace hrW := hrW.ext x0
  replace hE := hE.trans x0
  (try clear xc xf xs)
  clear x0
  generalize hU : World.alloc _ _ = U
  have lx := hx.lt
  have x0 : Ext w1 U := by rw [← hU]; exact (Ext.refl _).alloc _
  have hl6 : w1.heap.size < U.heap.size := by rw [← hU]; simp
  have b0 : U.cell? ⟨w1.heap.size, 0, none⟩ = some (.int .i64 pw) := by rw [← hU]; simp [go_sem]
  have b1 : U.cell? ⟨w1.heap.size, 1, none⟩ = some (.int .i64 ph) := by rw [← hU]; simp [go_sem]
  have b2 : U.cell? ⟨w1.heap.size, 2, none⟩ = some (.int .i64 pm) := by rw [← hU]; simp [go_sem]
  have b3 : U.cell? ⟨w1.heap.size, 3, none⟩ = some (.int .i64 pg) := by rw [← hU]; simp [go_sem]
  have b4 : U.cell? ⟨w1.heap.size, 4, none⟩ = some (.slice (some ⟨gx, 0, none⟩) n n) := by rw [← hU]; simp [go_sem]
  clear hU
  have hp6w := off_row' hw (Nat.le_refl _)
  replace p0 := (x0.cells.1 _ _ hl).trans p0
  replace p1 := (x0.cells.1 _ _ hl).trans p1
  replace p2 := (x0.cells.1 _ _ hl).trans p2
  replace p3 := (x0.cells.1 _ _ hl).trans p3
  replace p4 := (x0.cells.1 _ _ hl).trans p4
  replace hl := Nat.lt_of_lt_of_le hl x0.size
  replace hw := hw.ext x0
  replace hx := hx.ext x0
  replace hrW := hrW.ext x0
  replace hE := hE.trans x0
  clear x0
  generalize w1.heap.size = P6 at lx hl6 b0 b1 b2 b3 b4 hp6w ⊢
  clear w1
  rename World => W
  have x0 := Ext.refl W
  go_upto_region 8 with (first | (go_at_call 53; refine (implHullOf_any pw ph pm pg (some ⟨gx, 0, none⟩) n n zs _ ((hx.ext x0).row hn.symm) hn hs (Nat.le_refl _) hsz).mono ?_; rintro e w1 ⟨vg, rfl, hg, x1⟩; have hz0 := x0.size; (try clear xc xf xs); (first | replace x0 := x0.trans x1 | replace x0 := (x0.drew).trans x1 | replace x0 := (x0.drewN _).trans x1 | have x0 := x1); clear x1; obtain ⟨xc, xf, xs⟩ := x0.cells))
  replace hg := IntsOf_low hg hz0
  clear hz0
  have hpgw := apart hw hg (Nat.le_refl _)
  have hpgx : vg.ownBlock = none ∨ vg.ownBlock ≠ some gx := .inr (fun e => by have h1 := (hg.lt gx e).1; have h2 := hx.lt; omega)
  have hpg : some w.heap.size ≠ vg.ownBlock := fun e => by have h1 := (hg.lt _ e.symm).1; omega
  have hpgE : ∀ k, vg.ownBlock = some k → w.heap.size ≤ k := fun k hk => by have h1 := (hg.lt _ hk).1; omega
  replace p0 := (x0.cells.1 _ _ hl).trans p0
  replace p1 := (x0.cells.1 _ _ hl).trans p1
  replace p2 := (x0.cells.1 _ _ hl).trans p2
  replace p3 := (x0.cells.1 _ _ hl).trans p3
  replace p4 := (x0.cells.1 _ _ hl).trans p4
  replace hl := Nat.lt_of_lt_of_le hl x0.size
  replace hw := hw.ext x0
  replace hx := hx.ext x0
  replace hrW := hrW.ext x0
  replace hE := hE.trans x0
  replace b0 := (x0.cells.1 _ _ hl6).trans b0
  replace b1 := (x0.cells.1 _ _ hl6).trans b1
  replace b2 := (x0.cells.1 _ _ hl6).trans b2
  replace b3 := (x0.cells.1 _ _ hl6).trans b3
  replace b4 := (x0.cells.1 _ _ hl6).trans b4
  replace hl6 := Nat.lt_of_lt_of_le hl6 x0.size
  (try clear xc xf xs)
  clear x0
  rename World => W
  have x0 := Ext.refl W
  obtain ⟨ag, cg, rfl⟩ := hg.shape
  go_upto_region 10 with (first | (go_at_call 31; refine (eqInt64S_any _ _ _ _ _ _ _ (huR pw ph pm pg zs) _ (hg.ext x0) (hw.ext x0) hL).mono ?_; rintro e w1 ⟨rfl, x1⟩; (try clear xc xf xs); (first | replace x0 := x0.trans x1 | replace x0 := (x0.drew).trans x1 | replace x0 := (x0.drewN _).trans x1 | have x0 := x1); clear x1; obtain ⟨xc, xf, xs⟩ := x0.cells))
  replace p0 := (x0.cells.1 _ _ hl).trans p0
  replace p1 := (x0.cells.1 _ _ hl).trans p1
  replace p2 := (x0.cells.1 _ _ hl).trans p2
  replace p3 := (x0.cells.1 _ _ hl).trans p3
  replace p4 := (x0.cells.1 _ _ hl).trans p4
  replace hl := Nat.lt_of_lt_of_le hl x0.size
  replace hw := hw.ext x0
  replace hg := hg.ext x0
  replace hx := hx.ext x0
  replace hrW := hrW.ext x0
  replace hE := hE.trans x0
  replace b0 := (x0.cells.1 _ _ hl6).trans b0
  replace b1 := (x0.cells.1 _ _ hl6).trans b1
  replace b2 := (x0.cells.1 _ _ hl6).trans b2
  replace b3 := (x0.cells.1 _ _ hl6).trans b3
  replace b4 := (x0.cells.1 _ _ hl6).trans b4
  replace hl6 := Nat.lt_of_lt_of_le hl6 x0.size
  (try clear xc xf xs)
  clear x0
  rename World => W
  have x0 := Ext.refl W
  go_cut [45] (fun sd wx => sd = .bool false ∧ Ext W wx)
  case first =>
    go_region_held3 (fun w' => w'.cell? ⟨w.heap.size, 0, none⟩ = some (.int .i64 pw) ∧ w'.cell? ⟨w.heap.size, 1, none⟩ = some (.int .i64 ph) ∧ w'.cell? ⟨w.heap.size, 2, none⟩ = some (.int .i64 pm) ∧ w'.cell? ⟨w.heap.size, 3, none⟩ = some (.int .i64 pg) ∧ w'.cell? ⟨w.heap.size, 4, none⟩ = some (.slice a n c) ∧ w'.cell? ⟨P6, 0, none⟩ = some (.int .i64 pw) ∧ w'.cell? ⟨P6, 1, none⟩ = some (.int .i64 ph) ∧ w'.cell? ⟨P6, 2, none⟩ = some (.int .i64 pm) ∧ w'.cell? ⟨P6, 3, none⟩ = some (.int .i64 pg) ∧ w'.cell? ⟨P6, 4, none⟩ = some (.slice (some ⟨gx, 0, none⟩) n n))
      (first | (refine ⟨?_, ?_, ?_, ?_, ?_, ?_, ?_, ?_, ?_, ?_⟩ <;> with_reducible assumption) | (refine ⟨?_, ?_, ?_, ?_, ?_, ?_, ?_, ?_, ?_, ?_⟩ <;> (refine keep_ext (W := W) ?_ (by assumption) (by assumption); exact x0)) | (refine ⟨?_, ?_, ?_, ?_, ?_, ?_, ?_, ?_, ?_, ?_⟩ <;> (refine keep_ext (W := W) ?_ (by assumption) (by assumption); exact x0.drew)) | go_keep)
      (first | (go_at_call 45; refine (toPlate_any pw ph pm pg a n c zs _ (by first | exact hrW.ext x0 | exact hrW.ext x0.drew | exact hrW.ext (x0.drewN _)) hn hs).mono ?_; rintro e w1 ⟨gc, rfl, hc, hg1, x1⟩; have hgs := Nat.le_trans x0.size hg1; have hg0 := hc.row hn.symm; (try clear xc xf xs); (first | replace x0 := x0.trans x1 | replace x0 := (x0.drew).trans x1 | replace x0 := (x0.drewN _).trans x1 | have x0 := x1); clear x1; obtain ⟨xc, xf, xs⟩ := x0.cells) | (go_at_call 48; refine (eqPlate_any pw ph pm pg (some ⟨gx, 0, none⟩) (some ⟨gc, 0, none⟩) n n n zs _ (by first | exact (hx.ext x0).row hn.symm | exact (hx.ext x0.drew).row hn.symm | exact (hx.ext (x0.drewN _)).row hn.symm) (by first | exact hg0 | exact hg0.ext ((Ext.refl _).drew) | exact hg0.ext ((Ext.refl _).drewN _)) hn hs).mono ?_; rintro e w1 ⟨rfl, x1⟩; (try clear xc xf xs); (first | replace x0 := x0.trans x1 | replace x0 := (x0.drew).trans x1 | replace x0 := (x0.drewN _).trans x1 | have x0 := x1); clear x1; obtain ⟨xc, xf, xs⟩ := x0.cells))
    all_goals (go_wp2_with fail; go_meet; exact ⟨(by first | rfl | (simp [*]; done)), (by first | exact x0 | exact x0.drew | exact x0.drewN _)⟩)
  case rest =>
  obtain ⟨rfl, x1⟩ := hcut
  clear x0
  have x0 := x1
  clear x1
  replace p0 := (x0.cells.1 _ _ hl).trans p0
  replace p1 := (x0.cells.1 _ _ hl).trans p1
  replace p2 := (x0.cells.1 _ _ hl).trans p2
  replace p3 := (x0.cells.1 _ _ hl).trans p3
  replace p4 := (x0.cells.1 _ _ hl).trans p4
  replace hl := Nat.lt_of_lt_of_le hl x0.size
  replace hw := hw.ext x0
  replace hg := hg.ext x0
  replace hx := hx.ext x0
  replace hrW := hrW.ext x0
  replace hE := hE.trans x0
  replace b0 := (x0.cells.1 _ _ hl6).trans b0
  replace b1 := (x0.cells.1 _ _ hl6).trans b1
  replace b2 := (x0.cells.1 _ _ hl6).trans b2
  replace b3 := (x0.cells.1 _ _ hl6).trans b3
  replace b4 := (x0.cells.1 _ _ hl6).trans b4
  replace hl6 := Nat.lt_of_lt_of_le hl6 x0.size
  (try clear xc xf xs)
  clear x0
  rename World => W
  have x0 := Ext.refl W
  go_upto_region 14 with (go_at_call 49; refine (markPlate_any pw ph pm pg gx n n _ (hx.ext x0).room hs).mono ?_; rintro e w1 ⟨rfl, hwr⟩)
  replace p0 := (hwr.cell hl (fun e => hlx (by injection e))).trans p0
  replace p1 := (hwr.cell hl (fun e => hlx (by injection e))).trans p1
  replace p2 := (hwr.cell hl (fun e => hlx (by injection e))).trans p2
  replace p3 := (hwr.cell hl (fun e => hlx (by injection e))).trans p3
  replace p4 := (hwr.cell hl (fun e => hlx (by injection e))).trans p4
  replace hl := Nat.lt_of_lt_of_le hl hwr.size
  replace hw := hw.wrote hwr (.inr (Ne.symm hpxw))
  replace hg := hg.wrote hwr hpgx
  replace hE := hwr.ext hE (fun k hk => by injection hk with hk; omega)
  replace hrW := hr.ext hE
  clear hwr hx hpxw hpgx x0 b0 b1 b2 b3 b4 hl6 hp6w
  rename World => W
  have x0 := Ext.refl W
  have tk : ¬ (1 + (n : Int) * 5) < 0 := by omega
  go_upto_region 17 with (first | (go_at_call 31; refine (eqInt64S_any _ _ _ _ _ _ _ (huR pw ph pm pg zs) _ (hg.ext x0) (hw.ext x0) hL).mono ?_; rintro e w1 ⟨rfl, x1⟩; (try clear xc xf xs); (first | replace x0 := x0.trans x1 | replace x0 := (x0.drew).trans x1 | replace x0 := (x0.drewN _).trans x1 | have x0 := x1); clear x1; obtain ⟨xc, xf, xs⟩ := x0.cells))
  replace p0 := (x0.cells.1 _ _ hl).trans p0
  replace p1 := (x0.cells.1 _ _ hl).trans p1
  replace p2 := (x0.cells.1 _ _ hl).trans p2
  replace p3 := (x0.cells.1 _ _ hl).trans p3
  replace p4 := (x0.cells.1 _ _ hl).trans p4
  replace hl := Nat.lt_of_lt_of_le hl x0.size
  replace hw := hw.ext x0
  replace hg := hg.ext x0
  replace hrW := hrW.ext x0
  replace hE := hE.trans x0
  (try clear xc xf xs)
  clear x0
  rename World => W
  have x0 := Ext.refl W
  go_upto_region 18 with (go_at_call 33; refine (markInt64S_any _ _ _ _ 1 (huR pw ph pm pg zs) _ hg hL (by omega)).mono ?_; rintro e w1 ⟨rfl, ⟨ys, hy, hyz⟩, hwr⟩)
  replace p0 := (hwr.cell hl hpg).trans p0
  replace p1 := (hwr.cell hl hpg).trans p1
  replace p2 := (hwr.cell hl hpg).trans p2
  replace p3 := (hwr.cell hl hpg).trans p3
  replace p4 := (hwr.cell hl hpg).trans p4
  replace hl := Nat.lt_of_lt_of_le hl hwr.size
  replace hw := hw.wrote hwr hpgw
  replace hE := hwr.ext hE hpgE
  replace hrW := hr.ext hE
  clear hwr hg hpgw hpg hpgE x0
  rename World => W
  have x0 := Ext.refl W
  replace hyz := Lib.hid hyz
  have tm : ¬ (1 + (((huR pw ph pm pg zs).length : Nat) : Int)) < 0 := by omega
  go_upto_region 24 with (go_at_call 34; refine (heldInt64S_any _ _ _ _ 1 ys _ (hy.ext x0) hyz.out hL (by omega)).mono ?_; rintro e w1 ⟨rfl, x1⟩; (try clear xc xf xs); (first | replace x0 := x0.trans x1 | replace x0 := (x0.drew).trans x1 | replace x0 := (x0.drewN _).trans x1 | have x0 := x1); clear x1; obtain ⟨xc, xf, xs⟩ := x0.cells)
  replace p0 := (x0.cells.1 _ _ hl).trans p0
  replace p1 := (x0.cells.1 _ _ hl).trans p1
  replace p2 := (x0.cells.1 _ _ hl).trans p2
  replace p3 := (x0.cells.1 _ _ hl).trans p3
  replace p4 := (x0.cells.1 _ _ hl).trans p4
  replace hl := Nat.lt_of_lt_of_le hl x0.size
  replace hw := hw.ext x0
  replace hy := hy.ext x0
  replace hrW := hrW.ext x0
  replace hE := hE.trans x0
  (try clear xc xf xs)
  clear x0
  rename World => W
  have x0 := Ext.refl W
  go_upto_region 25 with (first | (go_at_call 45; refine (toPlate_any pw ph pm pg a n c zs _ (by first | exact hrW.ext x0 | exact hrW.ext x0.drew | exact hrW.ext (x0.drewN _)) hn hs).mono ?_; rintro e w1 ⟨g1, rfl, hf, hg1, x1⟩; have hgs := Nat.le_trans x0.size hg1; have hg0 := hf.row hn.symm; (try clear xc xf xs); (first | replace x0 := x0.trans x1 | replace x0 := (x0.drew).trans x1 | replace x0 := (x0.drewN _).trans x1 | have x0 := x1); clear x1; obtain ⟨xc, xf, xs⟩ := x0.cells) | (go_at_call 53; refine (implHullOf_any pw ph pm pg (some ⟨g1, 0, none⟩) n n zs _ hg0 hn hs (Nat.le_refl _) hsz).mono ?_; rintro e w1 ⟨vh, rfl, hh, x1⟩; have hz0 := x0.size; (try clear xc xf xs); (first | replace x0 := x0.trans x1 | replace x0 := (x0.drew).trans x1 | replace x0 := (x0.drewN _).trans x1 | have x0 := x1); clear x1; obtain ⟨xc, xf, xs⟩ := x0.cells))
  replace hh := IntsOf_low hh hz0
  clear hg0 hf hz0 hgs hg1
  replace p0 := (x0.cells.1 _ _ hl).trans p0
  replace p1 := (x0.cells.1 _ _ hl).trans p1
  replace p2 := (x0.cells.1 _ _ hl).trans p2
  replace p3 := (x0.cells.1 _ _ hl).trans p3
  replace p4 := (x0.cells.1 _ _ hl).trans p4
  replace hl := Nat.lt_of_lt_of_le hl x0.size
  replace hw := hw.ext x0
  replace hy := hy.ext x0
  replace hrW := hrW.ext x0
  replace hE := hE.trans x0
  (try clear xc xf xs)
  clear x0
  rename World => W
  have x0 := Ext.refl W
  obtain ⟨ah, ch, rfl⟩ := hh.shape
  go_wp2_with (first | (go_at_call 31; refine (eqInt64S_any _ _ _ _ _ _ _ (huR pw ph pm pg zs) _ (hh.ext x0) (hw.ext x0) hL).mono ?_; rintro e w1 ⟨rfl, x1⟩; (try clear xc xf xs); (first | replace x0 := x0.trans x1 | replace x0 := (x0.drew).trans x1 | replace x0 := (x0.drewN _).trans x1 | have x0 := x1); clear x1; obtain ⟨xc, xf, xs⟩ := x0.cells) | (go_at_call 34; refine (heldInt64S_any _ _ _ _ 1 ys _ (hy.ext x0) hyz.out hL (by omega)).mono ?_; rintro e w1 ⟨rfl, x1⟩; (try clear xc xf xs); (first | replace x0 := x0.trans x1 | replace x0 := (x0.drew).trans x1 | replace x0 := (x0.drewN _).trans x1 | have x0 := x1); clear x1; obtain ⟨xc, xf, xs⟩ := x0.cells))
  go_ret
  exact ⟨rfl, hE.trans x0⟩
end Go.Proofs.Ytgkpganbepbjnaa

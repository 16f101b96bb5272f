/-
  The walk of the law FnMoreEnergy.
-/
import Derived.Test.YtehebhphlaghfaaMoreP
import Derived.Test.YtehebhphlaghfaaDrawL
import Derived.Test.YtehebhphlaghfaaAlong
import Derived.Test.YtehebhphlaghfaaSame
import Derived.Test.YtehebhphlaghfaaDice
import Derived.Test.YtehebhphlaghfaaHeld
import Derived.Deep.DeepCutAuto
namespace Go.Proofs.Ytehebhphlaghfaa
open Go.RowKit
set_option linter.unusedSimpArgs false
set_option linter.unusedVariables false

def Up (qs rs : List Int) : Prop := ∀ t, t < rs.length → (qs.getD t 0 ≤ rs.getD t 0 ∧ rs.getD t 0 ≤ 1000) ∧ (qs.getD t 0 = 0 → rs.getD t 0 = 0)
theorem Up.nil (qs : List Int) : Up qs [] := fun t h => absurd h (Nat.not_lt_zero t)
theorem Up.push {qs rs : List Int} {z : Int} (h : Up qs rs) (hz : (qs.getD rs.length 0 ≤ z ∧ z ≤ 1000) ∧ (qs.getD rs.length 0 = 0 → z = 0)) : Up qs (rs ++ [z]) := by
  intro t ht
  by_cases e : t = rs.length
  · subst e
    have h1 : (rs ++ [z]).getD rs.length 0 = z := by simp [List.getD_eq_getElem?_getD]
    rw [h1]
    exact hz
  · have hl : t < rs.length := by simp at ht; omega
    have h1 : (rs ++ [z]).getD t 0 = rs.getD t 0 := by rw [List.getD_eq_getElem?_getD, List.getD_eq_getElem?_getD, List.getElem?_append_left hl]
    rw [h1]
    exact h t hl
theorem more_lt (w : World) (o : Obj) : w.heap.size < (w.drew.alloc o).heap.size := by simp
theorem al_cd {z u i l m n k : Int} {qs : List Int} (h : alC z u i l m qs n k = 0) : cdA z u i l m qs n k = 0 := by
  unfold alC at h
  split at h
  · assumption
  · exact absurd h (by assumption)
set_option maxRecDepth 100000 in
set_option maxHeartbeats 2000000 in
theorem fnMore_walk (a : Option Addr) (n cp : Nat) (w : World) (hB : RowB w w.heap.size a n) :
    Calls Try.prog 7 #[.slice a n cp] w fun e w' => e = .returned (.bool true) ∧ Ext w w' := by
  by_cases hbig : 4096 < n
  · have t1 : decide (4096 < n) = true := by simpa using hbig
    go_enter Try.func7, Try.ntmps7
    go_wp2_with (first | (go_at_call 24; refine (f6big_any a n cp _).mono ?_; rintro e w1 ⟨rfl, rfl⟩; rw [t1]))
    go_ret
    exact ⟨rfl, Ext.refl _⟩
  have t1 : decide (4096 < n) = false := by simpa using hbig
  go_enter Try.func7, Try.ntmps7
  go_upto_region 4 with (first | (go_at_call 24; refine (f6big_any a n cp _).mono ?_; rintro e w1 ⟨rfl, rfl⟩; rw [t1]) | (go_at_call 32; refine (drawAlong_any a n cp _ hB (by omega)).mono ?_; rintro e w1 ⟨⟨v0, v1, v2, v3, v4, v, qs, s0, s1, rfl, hq, hql⟩, x1⟩))
  obtain ⟨sa, Ln, sc, rfl, hL, hqr⟩ := hq.slice
  clear hqr
  generalize hV : World.alloc (World.alloc _ _) _ = V
  have hE : Ext w V := by rw [← hV]; exact ((x1.alloc _).alloc _)
  have hlf : w1.heap.size < V.heap.size := by rw [← hV]; simp; try omega
  have f0 : V.cell? ⟨w1.heap.size, 0, none⟩ = some (.int .i64 v0) := by rw [← hV]; simp [go_sem]
  have f1 : V.cell? ⟨w1.heap.size, 1, none⟩ = some (.int .i64 v1) := by rw [← hV]; simp [go_sem]
  have f2 : V.cell? ⟨w1.heap.size, 2, none⟩ = some (.int .i64 v2) := by rw [← hV]; simp [go_sem]
  have f3 : V.cell? ⟨w1.heap.size, 3, none⟩ = some (.int .i64 v3) := by rw [← hV]; simp [go_sem]
  have f4 : V.cell? ⟨w1.heap.size, 4, none⟩ = some (.int .i64 v4) := by rw [← hV]; simp [go_sem]
  have hlb : w1.heap.size + 1 < V.heap.size := by rw [← hV]; simp; try omega
  have b0 : V.cell? ⟨w1.heap.size + 1, 0, none⟩ = some (.int .i64 s0) := by rw [← hV]; simp [go_sem]
  have b1 : V.cell? ⟨w1.heap.size + 1, 1, none⟩ = some (.int .i64 s1) := by rw [← hV]; simp [go_sem]
  replace hq : IntsOf V w.heap.size (.slice sa Ln sc) qs := by rw [← hV]; exact hq.ext (((Ext.refl _).alloc _).alloc _)
  clear hV x1
  generalize w1.heap.size + 1 = gB at *
  generalize w1.heap.size = gE at *
  have x0 := Ext.refl V
  clear x0
  have hmore := fun hc n' rs hn hl hh => al_more (z := v0) (u := v1) (i := v2) (l := v3) (m := v4) (qs := qs) (n := s0) (k := s1) (n' := n') (rs := rs) hc hn hl hh
  have hok : alC v0 v1 v2 v3 v4 qs s0 s1 = 0 → EV v0 v1 v2 v3 v4 ∧ ((0 ≤ s0 ∧ s0 ≤ v4) ∧ (0 ≤ s1 ∧ s1 ≤ 1000000000)) ∧ okQs qs = true := fun h => cdA_ok (al_cd h)
  have hml : (alM v0 v1 v2 v3 v4 qs s0 s1).length ≤ qs.length := alM_len
  generalize hSE : alE v0 v1 v2 v3 v4 qs s0 s1 = SE at *
  generalize hSK : alK v0 v1 v2 v3 v4 qs s0 s1 = SK at *
  generalize hSC : alC v0 v1 v2 v3 v4 qs s0 s1 = SC at *
  generalize hMs : alM v0 v1 v2 v3 v4 qs s0 s1 = Ms at *
  replace hmore := Lib.hid hmore
  replace hok := Lib.hid hok
  by_cases hc : SC = 0
  · subst hc
    obtain ⟨ev, hnk, hqq⟩ := hok.out (by first | rfl | trivial)
    go_upto_region 5 with (first | (go_at_call 33; ((with_reducible refine (implSwingAlong_any v0 v1 v2 v3 v4 s0 s1 sa Ln sc qs _ hq.row hL (by omega)).mono ?_); rintro e wk1 ⟨vm, rfl, hM, x2⟩; rw [hSE, hSK, hSC]; skip)))
    rw [hMs] at hM
    obtain ⟨ma, mc, rfl⟩ := hM.shape
    generalize hV : World.alloc _ _ = V1
    have hX : Ext V V1 := by rw [← hV]; exact x2.alloc _
    have hlc : wk1.heap.size < V1.heap.size := by rw [← hV]; simp
    have c0 : V1.cell? ⟨wk1.heap.size, 0, none⟩ = some (.int .i64 SE) := by rw [← hV]; simp [go_sem]
    have c1 : V1.cell? ⟨wk1.heap.size, 1, none⟩ = some (.int .i64 SK) := by rw [← hV]; simp [go_sem]
    replace f0 := (hX.cells.1 _ _ hlf).trans f0
    replace f1 := (hX.cells.1 _ _ hlf).trans f1
    replace f2 := (hX.cells.1 _ _ hlf).trans f2
    replace f3 := (hX.cells.1 _ _ hlf).trans f3
    replace f4 := (hX.cells.1 _ _ hlf).trans f4
    replace hlf := Nat.lt_of_lt_of_le hlf hX.size
    replace b0 := (hX.cells.1 _ _ hlb).trans b0
    replace b1 := (hX.cells.1 _ _ hlb).trans b1
    replace hlb := Nat.lt_of_lt_of_le hlb hX.size
    replace hq := hq.ext hX
    replace hE := hE.trans hX
    have hY : Ext wk1 V1 := by rw [← hV]; exact (Ext.refl _).alloc _
    clear hX x2 hV
    generalize wk1.heap.size = gC at *
    replace hM := hM.ext (show Ext _ V1 from hY)
    clear hY
    go_upto_region 6 with (first | (go_at_call 34; ((with_reducible refine (specSwingAlong_any v0 v1 v2 v3 v4 s0 s1 sa Ln sc qs _ hq.row hL (by omega)).mono ?_); rintro e wk2 ⟨vn, rfl, hN, x2⟩; rw [hSE, hSK, hSC]; skip)))
    rw [hMs] at hN
    obtain ⟨na, nc, rfl⟩ := hN.shape
    generalize hV : World.alloc _ _ = V2
    have hX : Ext V1 V2 := by rw [← hV]; exact x2.alloc _
    have hld : wk2.heap.size < V2.heap.size := by rw [← hV]; simp
    have d0 : V2.cell? ⟨wk2.heap.size, 0, none⟩ = some (.int .i64 SE) := by rw [← hV]; simp [go_sem]
    have d1 : V2.cell? ⟨wk2.heap.size, 1, none⟩ = some (.int .i64 SK) := by rw [← hV]; simp [go_sem]
    replace f0 := (hX.cells.1 _ _ hlf).trans f0
    replace f1 := (hX.cells.1 _ _ hlf).trans f1
    replace f2 := (hX.cells.1 _ _ hlf).trans f2
    replace f3 := (hX.cells.1 _ _ hlf).trans f3
    replace f4 := (hX.cells.1 _ _ hlf).trans f4
    replace hlf := Nat.lt_of_lt_of_le hlf hX.size
    replace b0 := (hX.cells.1 _ _ hlb).trans b0
    replace b1 := (hX.cells.1 _ _ hlb).trans b1
    replace hlb := Nat.lt_of_lt_of_le hlb hX.size
    replace c0 := (hX.cells.1 _ _ hlc).trans c0
    replace c1 := (hX.cells.1 _ _ hlc).trans c1
    replace hlc := Nat.lt_of_lt_of_le hlc hX.size
    replace hq := hq.ext hX
    replace hM := hM.ext hX
    replace hE := hE.trans hX
    have hY : Ext wk2 V2 := by rw [← hV]; exact (Ext.refl _).alloc _
    clear hX x2 hV
    generalize wk2.heap.size = gD at *
    replace hN := hN.ext (show Ext _ V2 from hY)
    clear hY
    go_upto_region 8 with (first | (go_at_call 35; ((with_reducible refine (f6same_any _ _ _ _ _ _ _ Ms _ hM hN (by omega)).mono ?_); rintro e wk3 ⟨rfl, x2⟩)))
    clear hM hN
    have hX := x2
    replace f0 := (hX.cells.1 _ _ hlf).trans f0
    replace f1 := (hX.cells.1 _ _ hlf).trans f1
    replace f2 := (hX.cells.1 _ _ hlf).trans f2
    replace f3 := (hX.cells.1 _ _ hlf).trans f3
    replace f4 := (hX.cells.1 _ _ hlf).trans f4
    replace hlf := Nat.lt_of_lt_of_le hlf hX.size
    replace b0 := (hX.cells.1 _ _ hlb).trans b0
    replace b1 := (hX.cells.1 _ _ hlb).trans b1
    replace hlb := Nat.lt_of_lt_of_le hlb hX.size
    replace c0 := (hX.cells.1 _ _ hlc).trans c0
    replace c1 := (hX.cells.1 _ _ hlc).trans c1
    replace hlc := Nat.lt_of_lt_of_le hlc hX.size
    replace d0 := (hX.cells.1 _ _ hld).trans d0
    replace d1 := (hX.cells.1 _ _ hld).trans d1
    replace hld := Nat.lt_of_lt_of_le hld hX.size
    replace hq := hq.ext hX
    replace hE := hE.trans hX
    clear hX x2
    clear hMs hSE hSC hml
    have hv4 := ev.bm
    clear ev
    have hBc : RowB wk3 wk3.heap.size a n := hB.to hE hE.size
    have hwc : w.heap.size ≤ wk3.heap.size := hE.size
    go_upto_region 11 with (first | (go_at_call 30; refine (f6roll_any a n cp 1102 _ hBc (by omega)).mono ?_; rintro e wd ⟨rfl, hS, xd⟩))
    have hBd : RowB wd wk3.heap.size a n := hB.to (hE.trans xd) hwc
    clear hBc
    have hgf := hlf
    have hgb := hlb
    have hgc := hlc
    have hgd := hld
    clear d0 d1 hld
    have hnef : some gE ≠ some wk3.heap.size := fun e => by injection e; omega
    have hneb : some gB ≠ some wk3.heap.size := fun e => by injection e; omega
    have hnec : some gC ≠ some wk3.heap.size := fun e => by injection e; omega
    have hqn : (Value.slice sa Ln sc).ownBlock ≠ some wk3.heap.size := fun e => by have := (hq.lt _ e).2; omega
    generalize hgg : wk3.heap.size = g at *
    replace f0 := (xd.cells.1 _ _ (hgg ▸ hgf)).trans f0
    replace f1 := (xd.cells.1 _ _ (hgg ▸ hgf)).trans f1
    replace f2 := (xd.cells.1 _ _ (hgg ▸ hgf)).trans f2
    replace f3 := (xd.cells.1 _ _ (hgg ▸ hgf)).trans f3
    replace f4 := (xd.cells.1 _ _ (hgg ▸ hgf)).trans f4
    replace b0 := (xd.cells.1 _ _ (hgg ▸ hgb)).trans b0
    replace b1 := (xd.cells.1 _ _ (hgg ▸ hgb)).trans b1
    replace c0 := (xd.cells.1 _ _ (hgg ▸ hgc)).trans c0
    replace c1 := (xd.cells.1 _ _ (hgg ▸ hgc)).trans c1
    replace hlf : gE < wd.heap.size := by have := xd.size; omega
    replace hlb : gB < wd.heap.size := by have := xd.size; omega
    replace hlc : gC < wd.heap.size := by have := xd.size; omega
    replace hq := hq.ext xd
    replace hE := hE.trans xd
    clear xd hgf hgb hgc hgd
    have q1 : IntKind.i64.wrap (v4 - s0) = v4 - s0 := IntWalk.i64_in _ (by omega)
    have q2 : IntKind.i64.wrap (v4 - s0 + 1) = v4 - s0 + 1 := IntWalk.i64_in _ (by omega)
    have hgd := hS.lt
    have hW0 := Wrote.refl (some g) wd
    go_cut [13] (fun s13 wx => ∃ (gn : Nat) (p : Int), s13 = .pointer (some ⟨gn, 0, none⟩) ∧ (0 ≤ p ∧ p < v4 - s0 + 1) ∧ wd.heap.size ≤ gn ∧ Wrote (some g) wd wx ∧ Src wx g a n cp 1 ∧ wx.cell? ⟨gn, 0, none⟩ = some (.int .i64 (s0 + p)) ∧ wx.cell? ⟨gn, 1, none⟩ = some (.int .i64 s1))
    case first =>
      go_region_held3 (fun w' => w'.cell? ⟨gE, 4, none⟩ = some (.int .i64 v4) ∧ w'.cell? ⟨gB, 0, none⟩ = some (.int .i64 s0) ∧ w'.cell? ⟨gB, 1, none⟩ = some (.int .i64 s1))
        (first | (refine ⟨?_, ?_, ?_⟩ <;> with_reducible assumption) | exact ⟨(hW1.cell hlf hnef).trans f4, (hW1.cell hlb hneb).trans b0, (hW1.cell hlb hneb).trans b1⟩ | exact ⟨((hW1.trans (Wrote.of_ext _ ((Ext.refl _).alloc _))).cell hlf hnef).trans f4, ((hW1.trans (Wrote.of_ext _ ((Ext.refl _).alloc _))).cell hlb hneb).trans b0, ((hW1.trans (Wrote.of_ext _ ((Ext.refl _).alloc _))).cell hlb hneb).trans b1⟩ | exact ⟨((hW1.trans (Wrote.of_ext _ (((Ext.refl _).drew).alloc _))).cell hlf hnef).trans f4, ((hW1.trans (Wrote.of_ext _ (((Ext.refl _).drew).alloc _))).cell hlb hneb).trans b0, ((hW1.trans (Wrote.of_ext _ (((Ext.refl _).drew).alloc _))).cell hlb hneb).trans b1⟩ | exact ⟨keep_other (fun e => by omega) ((hW1.cell hlf hnef).trans f4), keep_other (fun e => by omega) ((hW1.cell hlb hneb).trans b0), keep_other (fun e => by omega) ((hW1.cell hlb hneb).trans b1)⟩ | exact ⟨keep_other (fun e => by omega) (keep_other (fun e => by omega) ((hW1.cell hlf hnef).trans f4)), keep_other (fun e => by omega) (keep_other (fun e => by omega) ((hW1.cell hlb hneb).trans b0)), keep_other (fun e => by omega) (keep_other (fun e => by omega) ((hW1.cell hlb hneb).trans b1))⟩ | go_keep)
        (first | (go_at_call 31; refine (below_any g n cp 0 _ a _ (by first | exact hS | exact hS.ext ((Ext.refl _).drew) | exact hS.ext ((Ext.refl _).drewN _) | exact hS.ext ((Ext.refl _).alloc _) | exact hS.ext (((Ext.refl _).drew).alloc _) | exact hS.ext (((Ext.refl _).alloc _).drew)) (by first | exact hBd | exact hBd.ext ((Ext.refl _).drew) | exact hBd.ext ((Ext.refl _).drewN _) | exact hBd.ext ((Ext.refl _).alloc _) | exact hBd.ext (((Ext.refl _).drew).alloc _) | exact hBd.ext (((Ext.refl _).alloc _).drew)) (by omega) (by omega) (by omega)).mono ?_; rintro e wp ⟨p, rfl, hp, hS2, hWp⟩; (first | have hW1 := hW0.trans hWp | have hW1 := (hW0.trans (Wrote.of_ext _ ((Ext.refl _).drew))).trans hWp | have hW1 := (hW0.trans (Wrote.of_ext _ ((Ext.refl _).drewN _))).trans hWp | have hW1 := (hW0.trans (Wrote.of_ext _ ((Ext.refl _).alloc _))).trans hWp | have hW1 := (hW0.trans (Wrote.of_ext _ (((Ext.refl _).drew).alloc _))).trans hWp | have hW1 := (hW0.trans (Wrote.of_ext _ (((Ext.refl _).alloc _).drew))).trans hWp); have q3 : IntKind.i64.wrap (s0 + p) = s0 + p := IntWalk.i64_in _ (by omega); have hng : some wd.heap.size ≠ some g := (fun e => (by injection e; omega)); (try (have u0 : wp.cell? ⟨wd.heap.size, 0, none⟩ = _ := hWp.cell (more_lt _ _) hng; have u1 : wp.cell? ⟨wd.heap.size, 1, none⟩ = _ := hWp.cell (more_lt _ _) hng; have u2 : wp.frozen? ⟨wd.heap.size, 0, none⟩ = _ := hWp.free (more_lt _ _) hng; have u3 : wp.frozen? ⟨wd.heap.size, 1, none⟩ = _ := hWp.free (more_lt _ _) hng))))
      all_goals (go_wp2_with fail; go_meet; refine ⟨_, p, rfl, hp, ?_, ?_, ?_, ?_, ?_⟩)
      all_goals first | exact Nat.le_refl _ | (have := hW1.size; omega) | ((repeat (first | (with_reducible refine Src.drew ?_) | (with_reducible refine Src.other ?_ ?_ _; rotate_left; focus (first | (simp; done) | (simp; omega) | omega)))); exact hS2) | exact hS2.ext ((Ext.refl _).alloc _) | exact hW1.trans (Wrote.of_ext _ ((Ext.refl _).alloc _)) | ((repeat (first | (with_reducible refine Wrote.drewr ?_) | (with_reducible refine Wrote.fresh ?_ ?_ _; rotate_left; focus (first | (simp; done) | (simp; omega) | omega)))); exact hW1) | (((repeat (first | (with_reducible refine cell_drew ?_) | (with_reducible refine cell_same ?_) | (with_reducible refine keep_other ?_ ?_; focus (first | assumption | omega)) | (with_reducible refine cell_off ?_ ?_; focus decide))); (repeat (first | (with_reducible refine some_drew ?_) | (with_reducible refine some_other ?_)))); done) | (((repeat (first | (with_reducible refine cell_drew ?_) | (with_reducible refine cell_same ?_) | (with_reducible refine keep_other ?_ ?_; focus (first | assumption | omega)) | (with_reducible refine cell_off ?_ ?_; focus decide))); (repeat (first | (with_reducible refine some_drew ?_) | (with_reducible refine some_other ?_)))); rw [u0]; simp [go_sem]; done) | (((repeat (first | (with_reducible refine cell_drew ?_) | (with_reducible refine cell_same ?_) | (with_reducible refine keep_other ?_ ?_; focus (first | assumption | omega)) | (with_reducible refine cell_off ?_ ?_; focus decide))); (repeat (first | (with_reducible refine some_drew ?_) | (with_reducible refine some_other ?_)))); rw [u1]; simp [go_sem]; done) | (simp [go_sem, *]; done)
    case rest =>
    obtain ⟨gn, p, rfl, hp, hgn, hWc, hS1, n0, n1⟩ := hcut
    rename World => U
    replace hE := Wrote.ext hE hWc (fun k hk => by injection hk; omega)
    replace hq := hq.wrote hWc (.inr hqn)
    have hBU := hBd.wrote hWc
    have hneN : some gn ≠ some g := fun e => by injection e; omega
    have hln := World.block_lt_of_cell? _ _ n0
    have hwU := hWc.size
    replace f0 := (hWc.cell hlf hnef).trans f0
    replace f1 := (hWc.cell hlf hnef).trans f1
    replace f2 := (hWc.cell hlf hnef).trans f2
    replace f3 := (hWc.cell hlf hnef).trans f3
    replace f4 := (hWc.cell hlf hnef).trans f4
    replace hlf := Nat.lt_of_lt_of_le hlf hwU
    replace b0 := (hWc.cell hlb hneb).trans b0
    replace b1 := (hWc.cell hlb hneb).trans b1
    replace hlb := Nat.lt_of_lt_of_le hlb hwU
    replace c0 := (hWc.cell hlc hnec).trans c0
    replace c1 := (hWc.cell hlc hnec).trans c1
    replace hlc := Nat.lt_of_lt_of_le hlc hwU
    have hgU : g < U.heap.size := by omega
    clear hWc hgn hBd hS hW0 hwU q1 q2 hgd
    obtain ⟨i0, hii, hz0, hz1, hz2⟩ := int_info
    go_upto_region 14 with fail
    have hst : IntsOf (U.alloc (Obj.cells #[] 2)) U.heap.size (.slice (some ⟨U.heap.size, 0, none⟩) 0 0) [] := by
      have := World.ownsRow_made (w := U) (base := U.heap.size) (e := 2) (size := 1) #[] 0 (by simp) (by decide) rfl
      simpa [IntsOf] using this
    have hWst : Wrote (some g) U (U.alloc (Obj.cells #[] 2)) := Wrote.alloc _ _ _
    have hSst := hS1.ext ((Ext.refl _).alloc (Obj.cells #[] 2))
    go_loopw [14, 15, 16] (fun vv kk xx wx => ∃ (k : Nat) (rs : List Int), kk = .int .i64 rs.length ∧ rs.length ≤ Ln ∧ k ≤ rs.length + 1 ∧ IntsOf wx U.heap.size vv rs ∧ Src wx g a n cp k ∧ Wrote (some g) U wx ∧ Up qs rs) (fun _ kk _ _ => (Ln : Int).toNat - (intOf kk).toNat)
    case atStart => exact ⟨1, [], rfl, Nat.zero_le _, Nat.le_refl _, hst, hSst, hWst, Up.nil _⟩
    case round =>
      clear hst hSst hWst
      obtain ⟨k, rs, rfl, hi, hk, hO, hS, hWw, hup⟩ := hrel
      obtain ⟨oa, oc, rfl⟩ := hO.shape
      have hql2 : Ln ≤ 2010 := by omega
      by_cases h0 : rs.length < Ln
      · have hqw := hq.wrote hWw (.inr hqn)
        obtain ⟨bq, x, rfl, hbq, hx, e0⟩ := hqw.nth (j := rs.length) (by rw [hL]; exact h0)
        have hxb := okQs_at hqq (j := rs.length) (by rw [hL]; exact h0)
        rw [hx.out] at hxb
        have hBw := hBU.wrote hWw
        have hlt : (rs.length : Int) < (Ln : Int) := by omega
        have q3 : IntKind.i64.wrap ((rs.length : Int) + 1) = ((rs.length + 1 : Nat) : Int) := by rw [IntWalk.i64_in _ (by omega)]; omega
        have hwi := hWw.size
        clear hqw
        by_cases hx0 : 0 < x
        · have q4 : IntKind.i64.wrap (1000 - x) = 1000 - x := IntWalk.i64_in _ (by omega)
          have q5 : IntKind.i64.wrap (1000 - x + 1) = 1000 - x + 1 := IntWalk.i64_in _ (by omega)
          replace hxb := Lib.hid hxb
          go_wp2_with (first | (go_at_call 31; refine (below_any g n cp k _ a _ hS hBw (by omega) (by omega) (by have := hxb.out; omega)).mono ?_; rintro e wp ⟨y, rfl, hy, hS2, hWp⟩; replace hWw := hWw.trans hWp; replace hO := hO.src hWp hgU; clear hS hWp; have hS := hS2; clear hS2; have q6 : IntKind.i64.wrap (x + y) = x + y := IntWalk.i64_in _ (by have := hxb.out; omega)) | (at_builtin; refine wpList_append_wrote _ rfl _ _ 48 rfl U.heap.size 2 i0 (.int .i64 0) 1 8 Try.underlying48 hii hz0 hz1 hz2 rfl (by decide) _ _ _ rfl (hO.ext ((Ext.refl _).alloc _)) ⟨_, 0, none⟩ 1 1 [.int .i64 (x + y)] rfl rfl (one_new _ _ rfl) (one_cell _) (by unfold maxLen; omega) (by omega) (by have := hWw.size; simp; omega) ?_; intro v' w3 h3 hx3))
          replace hxb := hxb.out
          have hI3 := IntsOf.push h3 rfl
          have hS3 := (hS.ext ((Ext.refl _).alloc _)).off hx3 (hO.apart hgU)
          have hW3 : Wrote (some g) U w3 := (hWw.trans (Wrote.alloc _ _ _)).over hx3 (fun k hk => by have h1 := (hO.lt k hk).1; exact h1)
          have hu3 : Up qs (rs ++ [x + y]) := Up.push hup (by rw [hx.out]; omega)
          have hl3 : (rs ++ [x + y]).length = rs.length + 1 := by simp
          clear hO hS hWw h3 hx3 hup
          go_wp2_with fail
          go_roundw
          case rel => exact ⟨k + 1, rs ++ [x + y], by (rw [hl3]; first | rfl | simp), by rw [hl3]; omega, by rw [hl3]; omega, hI3, hS3, hW3, hu3⟩
          case measure => simp [intOf]; omega
        · obtain rfl : x = 0 := by omega
          go_wp2_with (first | (at_builtin; refine wpList_append_wrote _ rfl _ _ 48 rfl U.heap.size 2 i0 (.int .i64 0) 1 8 Try.underlying48 hii hz0 hz1 hz2 rfl (by decide) _ _ _ rfl (hO.ext ((Ext.refl _).alloc _)) ⟨_, 0, none⟩ 1 1 [.int .i64 0] rfl rfl (one_new _ _ rfl) (one_cell _) (by unfold maxLen; omega) (by omega) (by have := hWw.size; simp; omega) ?_; intro v' w3 h3 hx3))
          have hI3 := IntsOf.push h3 rfl
          have hS3 := (hS.ext ((Ext.refl _).alloc _)).off hx3 (hO.apart hgU)
          have hW3 : Wrote (some g) U w3 := (hWw.trans (Wrote.alloc _ _ _)).over hx3 (fun k hk => by have h1 := (hO.lt k hk).1; exact h1)
          have hu3 : Up qs (rs ++ [0]) := Up.push hup (by rw [hx.out]; omega)
          have hl3 : (rs ++ [0]).length = rs.length + 1 := by simp
          clear hO hS hWw h3 hx3 hup
          go_wp2_with fail
          go_roundw
          case rel => exact ⟨k, rs ++ [0], by (rw [hl3]; first | rfl | simp), by rw [hl3]; omega, by rw [hl3]; omega, hI3, hS3, hW3, hu3⟩
          case measure => simp [intOf]; omega
      · have hrl : rs.length = Ln := by omega
        have hlen : rs.length = qs.length := by omega
        have hge : ¬ (rs.length : Int) < (Ln : Int) := by omega
        obtain hres := hmore.out (by first | rfl | trivial) (s0 + p) rs (by omega) hlen (fun j hj => hup j (by omega))
        generalize hTC : alC v0 v1 v2 v3 v4 rs (s0 + p) s1 = TC at *
        generalize hTK : alK v0 v1 v2 v3 v4 rs (s0 + p) s1 = TK at *
        generalize hTE : alE v0 v1 v2 v3 v4 rs (s0 + p) s1 = TE at *
        replace hres := Lib.hid hres
        have hOr := hO.row
        clear hlen
        rw [hrl]
        replace hE := Wrote.ext hE hWw (fun k hk => by injection hk; omega)
        replace f0 := (hWw.cell hlf hnef).trans f0
        replace f1 := (hWw.cell hlf hnef).trans f1
        replace f2 := (hWw.cell hlf hnef).trans f2
        replace f3 := (hWw.cell hlf hnef).trans f3
        replace f4 := (hWw.cell hlf hnef).trans f4
        replace c0 := (hWw.cell hlc hnec).trans c0
        replace c1 := (hWw.cell hlc hnec).trans c1
        replace n0 := (hWw.cell hln hneN).trans n0
        replace n1 := (hWw.cell hln hneN).trans n1
        have hws := hWw.size
        replace hlf := Nat.lt_of_lt_of_le hlf hws
        replace hlc := Nat.lt_of_lt_of_le hlc hws
        replace hln := Nat.lt_of_lt_of_le hln hws
        clear hws hWw hS hO hup hii hz0 hz1 hz2 i0 hq hB hBU b0 b1 hlb hneb hnef hnec hneN hqn hqq hgU hS1
        go_upto_region 21 with (first | (go_at_call 33; ((with_reducible refine (implSwingAlong_any v0 v1 v2 v3 v4 (s0 + p) s1 oa Ln oc rs _ hOr hrl (by omega)).mono ?_); rintro e wk61 ⟨vt, rfl, hT, x2⟩; rw [hTE, hTK, hTC]; skip)))
        clear hT
        generalize hV : World.alloc _ _ = V61
        have hX : Ext wr V61 := by rw [← hV]; exact x2.alloc _
        have hlt : wk61.heap.size < V61.heap.size := by rw [← hV]; simp
        have t0 : V61.cell? ⟨wk61.heap.size, 0, none⟩ = some (.int .i64 TE) := by rw [← hV]; simp [go_sem]
        have t1 : V61.cell? ⟨wk61.heap.size, 1, none⟩ = some (.int .i64 TK) := by rw [← hV]; simp [go_sem]
        replace f0 := (hX.cells.1 _ _ hlf).trans f0
        replace f1 := (hX.cells.1 _ _ hlf).trans f1
        replace f2 := (hX.cells.1 _ _ hlf).trans f2
        replace f3 := (hX.cells.1 _ _ hlf).trans f3
        replace f4 := (hX.cells.1 _ _ hlf).trans f4
        replace hlf := Nat.lt_of_lt_of_le hlf hX.size
        replace c0 := (hX.cells.1 _ _ hlc).trans c0
        replace c1 := (hX.cells.1 _ _ hlc).trans c1
        replace hlc := Nat.lt_of_lt_of_le hlc hX.size
        replace n0 := (hX.cells.1 _ _ hln).trans n0
        replace n1 := (hX.cells.1 _ _ hln).trans n1
        replace hln := Nat.lt_of_lt_of_le hln hX.size
        replace hE := hE.trans hX
        clear hX x2 hV
        generalize wk61.heap.size = gT at *
        clear hTC hTK hTE
        rcases hres.out with r1 | ⟨r1, r2⟩
        · subst r1
          go_wp2_with fail
          go_ret
          exact ⟨rfl, hE⟩
        · subst r1
          have r3 : decide (SK ≤ TK) = true := by simpa using r2
          go_wp2_with fail
          go_ret
          exact ⟨rfl, hE⟩
  · have hc2 : (SC != 0) = true := by simpa using hc
    go_upto_region 5 with (first | (go_at_call 33; ((with_reducible refine (implSwingAlong_any v0 v1 v2 v3 v4 s0 s1 sa Ln sc qs _ hq.row hL (by omega)).mono ?_); rintro e wk1 ⟨vm, rfl, hM, x2⟩; rw [hSE, hSK, hSC]; skip)))
    rw [hMs] at hM
    obtain ⟨ma, mc, rfl⟩ := hM.shape
    generalize hV : World.alloc _ _ = V1
    have hX : Ext V V1 := by rw [← hV]; exact x2.alloc _
    have hlc : wk1.heap.size < V1.heap.size := by rw [← hV]; simp
    have c0 : V1.cell? ⟨wk1.heap.size, 0, none⟩ = some (.int .i64 SE) := by rw [← hV]; simp [go_sem]
    have c1 : V1.cell? ⟨wk1.heap.size, 1, none⟩ = some (.int .i64 SK) := by rw [← hV]; simp [go_sem]
    replace f0 := (hX.cells.1 _ _ hlf).trans f0
    replace f1 := (hX.cells.1 _ _ hlf).trans f1
    replace f2 := (hX.cells.1 _ _ hlf).trans f2
    replace f3 := (hX.cells.1 _ _ hlf).trans f3
    replace f4 := (hX.cells.1 _ _ hlf).trans f4
    replace hlf := Nat.lt_of_lt_of_le hlf hX.size
    replace b0 := (hX.cells.1 _ _ hlb).trans b0
    replace b1 := (hX.cells.1 _ _ hlb).trans b1
    replace hlb := Nat.lt_of_lt_of_le hlb hX.size
    replace hq := hq.ext hX
    replace hE := hE.trans hX
    have hY : Ext wk1 V1 := by rw [← hV]; exact (Ext.refl _).alloc _
    clear hX x2 hV
    generalize wk1.heap.size = gC at *
    replace hM := hM.ext (show Ext _ V1 from hY)
    clear hY
    go_upto_region 6 with (first | (go_at_call 34; ((with_reducible refine (specSwingAlong_any v0 v1 v2 v3 v4 s0 s1 sa Ln sc qs _ hq.row hL (by omega)).mono ?_); rintro e wk2 ⟨vn, rfl, hN, x2⟩; rw [hSE, hSK, hSC]; skip)))
    rw [hMs] at hN
    obtain ⟨na, nc, rfl⟩ := hN.shape
    generalize hV : World.alloc _ _ = V2
    have hX : Ext V1 V2 := by rw [← hV]; exact x2.alloc _
    have hld : wk2.heap.size < V2.heap.size := by rw [← hV]; simp
    have d0 : V2.cell? ⟨wk2.heap.size, 0, none⟩ = some (.int .i64 SE) := by rw [← hV]; simp [go_sem]
    have d1 : V2.cell? ⟨wk2.heap.size, 1, none⟩ = some (.int .i64 SK) := by rw [← hV]; simp [go_sem]
    replace f0 := (hX.cells.1 _ _ hlf).trans f0
    replace f1 := (hX.cells.1 _ _ hlf).trans f1
    replace f2 := (hX.cells.1 _ _ hlf).trans f2
    replace f3 := (hX.cells.1 _ _ hlf).trans f3
    replace f4 := (hX.cells.1 _ _ hlf).trans f4
    replace hlf := Nat.lt_of_lt_of_le hlf hX.size
    replace b0 := (hX.cells.1 _ _ hlb).trans b0
    replace b1 := (hX.cells.1 _ _ hlb).trans b1
    replace hlb := Nat.lt_of_lt_of_le hlb hX.size
    replace c0 := (hX.cells.1 _ _ hlc).trans c0
    replace c1 := (hX.cells.1 _ _ hlc).trans c1
    replace hlc := Nat.lt_of_lt_of_le hlc hX.size
    replace hq := hq.ext hX
    replace hM := hM.ext hX
    replace hE := hE.trans hX
    have hY : Ext wk2 V2 := by rw [← hV]; exact (Ext.refl _).alloc _
    clear hX x2 hV
    generalize wk2.heap.size = gD at *
    replace hN := hN.ext (show Ext _ V2 from hY)
    clear hY
    go_upto_region 8 with (first | (go_at_call 35; ((with_reducible refine (f6same_any _ _ _ _ _ _ _ Ms _ hM hN (by omega)).mono ?_); rintro e wk3 ⟨rfl, x2⟩)))
    clear hM hN
    have hX := x2
    replace f0 := (hX.cells.1 _ _ hlf).trans f0
    replace f1 := (hX.cells.1 _ _ hlf).trans f1
    replace f2 := (hX.cells.1 _ _ hlf).trans f2
    replace f3 := (hX.cells.1 _ _ hlf).trans f3
    replace f4 := (hX.cells.1 _ _ hlf).trans f4
    replace hlf := Nat.lt_of_lt_of_le hlf hX.size
    replace b0 := (hX.cells.1 _ _ hlb).trans b0
    replace b1 := (hX.cells.1 _ _ hlb).trans b1
    replace hlb := Nat.lt_of_lt_of_le hlb hX.size
    replace c0 := (hX.cells.1 _ _ hlc).trans c0
    replace c1 := (hX.cells.1 _ _ hlc).trans c1
    replace hlc := Nat.lt_of_lt_of_le hlc hX.size
    replace d0 := (hX.cells.1 _ _ hld).trans d0
    replace d1 := (hX.cells.1 _ _ hld).trans d1
    replace hld := Nat.lt_of_lt_of_le hld hX.size
    replace hq := hq.ext hX
    replace hE := hE.trans hX
    clear hX x2
    go_wp2_with fail
    go_ret
    exact ⟨rfl, hE⟩
end Go.Proofs.Ytehebhphlaghfaa

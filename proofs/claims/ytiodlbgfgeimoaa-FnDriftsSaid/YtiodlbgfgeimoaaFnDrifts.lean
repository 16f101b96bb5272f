/-
  The walk of the law FnDrifts.
-/
import Derived.Test.YtiodlbgfgeimoaaBoth
import Derived.Test.YtiodlbgfgeimoaaSegP
import Derived.Test.YtiodlbgfgeimoaaAfter3
import Derived.Test.YtiodlbgfgeimoaaSame
import Derived.Test.YtiodlbgfgeimoaaSize
import Derived.Test.YtiodlbgfgeimoaaDice
import Derived.Test.YtiodlbgfgeimoaaHeld
import Derived.Deep.DeepCutAuto
namespace Go.Proofs.Ytiodlbgfgeimoaa
open Go.RowKit
set_option linter.unusedSimpArgs false
set_option linter.unusedVariables false

theorem RowAt.take {w : World} {a : Option Addr} {zs : List (Int × Int)} (h : RowAt w a zs) (k : Nat) : RowAt w a (zs.take k) := by
  rcases h with h | ⟨b, off, ha, hb, hc⟩
  · exact .inl (by rw [List.length_take]; omega)
  · refine .inr ⟨b, off, ha, hb, fun j hj => ?_⟩
    rw [List.length_take] at hj
    have e : (zs.take k).getD j (0, 0) = zs.getD j (0, 0) := by
      rw [List.getD_eq_getElem?_getD, List.getD_eq_getElem?_getD, List.getElem?_take_of_lt (by omega)]
    rw [e]
    exact hc j (by omega)
theorem RowAt.drop {w : World} {g o : Nat} {zs : List (Int × Int)} (h : RowAt w (some ⟨g, o, none⟩) zs) (k : Nat) : RowAt w (some ⟨g, o + k * 2, none⟩) (zs.drop k) := by
  rcases h with h | ⟨b, off, ha, hb, hc⟩
  · exact .inl (by rw [List.length_drop]; omega)
  · injection ha with ha
    injection ha with ha1 ha2
    subst ha1
    subst ha2
    refine .inr ⟨g, o + k * 2, rfl, hb, fun j hj => ?_⟩
    rw [List.length_drop] at hj
    have e : (zs.drop k).getD j (0, 0) = zs.getD (k + j) (0, 0) := by
      rw [List.getD_eq_getElem?_getD, List.getD_eq_getElem?_getD, List.getElem?_drop]
    rw [e, show o + k * 2 + j * 2 = o + (k + j) * 2 by omega]
    exact hc (k + j) (by omega)
theorem drop_rev {zs : List (Int × Int)} {k : Nat} {x y : Int} (hk : k < zs.length) (hx : (zs.getD k (0, 0)).1 = x) (hy : (zs.getD k (0, 0)).2 = y) : (zs.drop (k + 1)).reverse ++ [(x, y)] = (zs.drop k).reverse := by
  have e : zs.drop k = (x, y) :: zs.drop (k + 1) := by
    rw [List.drop_eq_getElem_cons hk]
    congr 1
    rw [List.getD_eq_getElem?_getD, List.getElem?_eq_getElem hk] at hx hy
    exact Prod.ext hx hy
  rw [e, List.reverse_cons]
theorem drR_n {b l c m : Int} {zs : List (Int × Int)} {R : List Int} (hv : vRate b l c m = true) (hs : vSegs zs = true) (h : drR b l c m zs = R) : R.length = zs.length := by
  rw [← h]
  simp [drR, hv, hs, drL, sums_length]
theorem drR_at {b l c m : Int} {zs : List (Int × Int)} {R : List Int} (hv : vRate b l c m = true) (hs : vSegs zs = true) (h : drR b l c m zs = R) : ∀ i, i < zs.length → R.getD i 0 = near (sumTo b l c m zs (i + 1)) 24 := by
  intro i hi
  rw [← h]
  simp only [drR, hv, hs, if_true, drL]
  rw [List.getD_eq_getElem?_getD, List.getElem?_eq_getElem (by rw [List.length_map, sums_length]; exact hi)]
  simp [sums]
theorem drR_len (b l c m : Int) (zs : List (Int × Int)) (n : Nat) (hn : zs.length = n) (hs : n ≤ 1048576) : (drR b l c m zs).length ≤ 1048576 := by
  unfold drR
  split
  · split
    · rw [drL, List.length_map, sums_length]; omega
    · simp
  · simp

set_option maxRecDepth 100000 in
set_option maxHeartbeats 2000000 in
theorem fnDrifts_walk (a : Option Addr) (n cp : Nat) (w : World) (hB : RowB w w.heap.size a n) :
    Calls Try.prog 17 #[.slice a n cp] w fun e w' => e = .returned (.bool true) ∧ Ext w w' := by
  by_cases hbig : 4096 < n
  · have t1 : decide (4096 < n) = true := by simpa using hbig
    go_enter Try.func17, Try.ntmps17
    go_wp2_with (first | (go_at_call 50; refine (f6big_any a n cp _).mono ?_; rintro e w1 ⟨rfl, rfl⟩; rw [t1]))
    go_ret
    exact ⟨rfl, Ext.refl _⟩
  have t1 : decide (4096 < n) = false := by simpa using hbig
  go_enter Try.func17, Try.ntmps17
  go_upto_region 4 with (first | (go_at_call 50; refine (f6big_any a n cp _).mono ?_; rintro e w1 ⟨rfl, rfl⟩; rw [t1]) | (go_at_call 58; refine (drawAfter_nn a n cp _ hB (by omega)).mono ?_; rintro e w1 ⟨⟨v0, v1, v2, v3, v, zs, rfl, hP, hl, hN⟩, x2⟩))
  obtain ⟨gL, Ln, sc, rfl, hL, hLc, hcm, _, hgL, hr⟩ := hP.some' hN
  have hL1 : Ln ≤ 100 := by omega
  clear hP hN
  unfold maxLen at hcm
  generalize hV : World.alloc _ _ = V0
  have hX : Ext w1 V0 := by rw [← hV]; exact (Ext.refl _).alloc _
  have hlf : w1.heap.size < V0.heap.size := by rw [← hV]; simp
  have f0 : V0.cell? ⟨w1.heap.size, 0, none⟩ = some (.int .i64 v0) := by rw [← hV]; simp [go_sem]
  have f1 : V0.cell? ⟨w1.heap.size, 1, none⟩ = some (.int .i64 v1) := by rw [← hV]; simp [go_sem]
  have f2 : V0.cell? ⟨w1.heap.size, 2, none⟩ = some (.int .i64 v2) := by rw [← hV]; simp [go_sem]
  have f3 : V0.cell? ⟨w1.heap.size, 3, none⟩ = some (.int .i64 v3) := by rw [← hV]; simp [go_sem]
  replace hr := hr.ext hX
  have hE : Ext w V0 := x2.trans hX
  clear hV hX x2 hgL
  generalize w1.heap.size = gA at *
  by_cases hok : vRate v0 v1 v2 v3 = true ∧ vSegs zs = true
  · obtain ⟨hv, hs⟩ := hok
    have hDC : drC v0 v1 v2 v3 zs = 0 := by simp [drC, hv, hs]
    have hSC : dsC v0 v1 v2 v3 zs = 0 := by simp [dsC, hv, hs]
    have Hv := Lib.hid hv
    have Hs := Lib.hid hs
    clear hv hs
    have hRl := drR_len v0 v1 v2 v3 zs Ln hL (by omega)
    generalize hRR : drR v0 v1 v2 v3 zs = RR at *
    generalize hDS : dsR v0 v1 v2 v3 zs = DS at *
    generalize hWR : woR v0 v1 v2 v3 zs = WR at *
    generalize hWC : woC v0 v1 v2 v3 zs = WC at *
    go_upto_region 5 with (first | (go_at_call 44; ((with_reducible refine (implDriftsAfter_any v0 v1 v2 v3 (some ⟨gL, 0, none⟩) Ln sc zs _ hr hL (by omega)).mono ?_); rintro e wk1 ⟨x1, rfl, hI, x2⟩; rw [hDC]; skip)))
    rw [hRR] at hI
    obtain ⟨ia, ic, rfl⟩ := hI.shape
    have hX := x2
    replace f0 := (hX.cells.1 _ _ hlf).trans f0
    replace f1 := (hX.cells.1 _ _ hlf).trans f1
    replace f2 := (hX.cells.1 _ _ hlf).trans f2
    replace f3 := (hX.cells.1 _ _ hlf).trans f3
    replace hlf := Nat.lt_of_lt_of_le hlf hX.size
    replace hr := hr.ext hX
    replace hE := hE.trans hX
    clear hX x2
    go_upto_region 6 with (first | (go_at_call 43; ((with_reducible refine (specDriftsAfter_any v0 v1 v2 v3 (some ⟨gL, 0, none⟩) Ln sc zs _ hr hL (by omega)).mono ?_); rintro e wk2 ⟨y1, rfl, hJ, x2⟩; rw [hDC]; skip)))
    rw [hRR] at hJ
    obtain ⟨ja, jc, rfl⟩ := hJ.shape
    have hX := x2
    replace f0 := (hX.cells.1 _ _ hlf).trans f0
    replace f1 := (hX.cells.1 _ _ hlf).trans f1
    replace f2 := (hX.cells.1 _ _ hlf).trans f2
    replace f3 := (hX.cells.1 _ _ hlf).trans f3
    replace hlf := Nat.lt_of_lt_of_le hlf hX.size
    replace hr := hr.ext hX
    replace hI := hI.ext hX
    replace hE := hE.trans hX
    clear hX x2
    go_upto_region 7 with (first | (go_at_call 38; ((with_reducible refine (implDriftSum_any v0 v1 v2 v3 (some ⟨gL, 0, none⟩) Ln sc zs _ hr hL (by omega)).mono ?_); rintro e wk3 ⟨rfl, x2⟩; rw [hDS, hSC]; skip)))
    have hX := x2
    replace f0 := (hX.cells.1 _ _ hlf).trans f0
    replace f1 := (hX.cells.1 _ _ hlf).trans f1
    replace f2 := (hX.cells.1 _ _ hlf).trans f2
    replace f3 := (hX.cells.1 _ _ hlf).trans f3
    replace hlf := Nat.lt_of_lt_of_le hlf hX.size
    replace hr := hr.ext hX
    replace hI := hI.ext hX
    replace hJ := hJ.ext hX
    replace hE := hE.trans hX
    clear hX x2
    go_upto_region 8 with (first | (go_at_call 37; ((with_reducible refine (specDriftSum_any v0 v1 v2 v3 (some ⟨gL, 0, none⟩) Ln sc zs _ hr hL (by omega)).mono ?_); rintro e wk4 ⟨rfl, x2⟩; rw [hDS, hSC]; skip)))
    have hX := x2
    replace f0 := (hX.cells.1 _ _ hlf).trans f0
    replace f1 := (hX.cells.1 _ _ hlf).trans f1
    replace f2 := (hX.cells.1 _ _ hlf).trans f2
    replace f3 := (hX.cells.1 _ _ hlf).trans f3
    replace hlf := Nat.lt_of_lt_of_le hlf hX.size
    replace hr := hr.ext hX
    replace hI := hI.ext hX
    replace hJ := hJ.ext hX
    replace hE := hE.trans hX
    clear hX x2
    go_upto_region 9 with (first | (go_at_call 40; ((with_reducible refine (implWorstSegment_any v0 v1 v2 v3 (some ⟨gL, 0, none⟩) Ln sc zs _ hr hL (by omega)).mono ?_); rintro e wk5 ⟨rfl, x2⟩; rw [hWR, hWC]; skip)))
    have hX := x2
    replace f0 := (hX.cells.1 _ _ hlf).trans f0
    replace f1 := (hX.cells.1 _ _ hlf).trans f1
    replace f2 := (hX.cells.1 _ _ hlf).trans f2
    replace f3 := (hX.cells.1 _ _ hlf).trans f3
    replace hlf := Nat.lt_of_lt_of_le hlf hX.size
    replace hr := hr.ext hX
    replace hI := hI.ext hX
    replace hJ := hJ.ext hX
    replace hE := hE.trans hX
    clear hX x2
    go_upto_region 10 with (first | (go_at_call 39; ((with_reducible refine (specWorstSegment_any v0 v1 v2 v3 (some ⟨gL, 0, none⟩) Ln sc zs _ hr hL (by omega)).mono ?_); rintro e wk6 ⟨rfl, x2⟩; rw [hWR, hWC]; skip)))
    have hX := x2
    replace f0 := (hX.cells.1 _ _ hlf).trans f0
    replace f1 := (hX.cells.1 _ _ hlf).trans f1
    replace f2 := (hX.cells.1 _ _ hlf).trans f2
    replace f3 := (hX.cells.1 _ _ hlf).trans f3
    replace hlf := Nat.lt_of_lt_of_le hlf hX.size
    replace hr := hr.ext hX
    replace hI := hI.ext hX
    replace hJ := hJ.ext hX
    replace hE := hE.trans hX
    clear hX x2
    have x0 := Ext.refl wk6
    go_upto_region 12 with (first | (go_at_call 59; refine (f6same_any ia ja _ ic jc _ _ RR _ (hI.ext x0) (hJ.ext x0) (by omega)).mono ?_; rintro e wf ⟨rfl, x2⟩; replace x0 := x0.trans x2; clear x2) | (go_at_call 28; refine (implValidSegments_any (some ⟨gL, 0, none⟩) Ln sc zs _ (hr.ext x0) hL (by omega)).mono ?_; rintro e wf ⟨rfl, x2⟩; replace x0 := x0.trans x2; clear x2) | (go_at_call 26; refine (specValidSegments_any (some ⟨gL, 0, none⟩) Ln sc zs _ (hr.ext x0) hL (by omega)).mono ?_; rintro e wf ⟨rfl, x2⟩; replace x0 := x0.trans x2; clear x2))
    clear hJ
    have x2 := x0
    clear x0
    have hX := x2
    replace f0 := (hX.cells.1 _ _ hlf).trans f0
    replace f1 := (hX.cells.1 _ _ hlf).trans f1
    replace f2 := (hX.cells.1 _ _ hlf).trans f2
    replace f3 := (hX.cells.1 _ _ hlf).trans f3
    replace hlf := Nat.lt_of_lt_of_le hlf hX.size
    replace hr := hr.ext hX
    replace hI := hI.ext hX
    replace hE := hE.trans hX
    clear hX x2
    have hDS' := Lib.hid hDS
    have hWR' := Lib.hid hWR
    have hRR' := drR_at Hv.out Hs.out hRR
    have hRn := drR_n Hv.out Hs.out hRR
    rw [hL] at hRn hRR'
    clear hDC hSC hDS hWR hWC hRR
    have hBc : RowB wf wf.heap.size a n := hB.to hE hE.size
    have q1 : IntKind.i64.wrap ((Ln : Int) + 1) = (Ln : Int) + 1 := IntWalk.i64_in _ (by omega)
    go_upto_region 15 with (first | (go_at_call 55; refine (f6roll_any a n cp 1201 _ hBc (by omega)).mono ?_; rintro e wd ⟨rfl, hS, xd⟩; have hBd : RowB wd wf.heap.size a n := hB.to (hE.trans xd) hE.size) | (go_at_call 56; refine (below_any _ n cp 0 _ a _ hS hBd (by omega) (by omega) (by omega)).mono ?_; rintro e wp ⟨p, rfl, hp, hS2, hWp⟩))
    obtain ⟨pn, rfl⟩ : ∃ j : Nat, p = j := ⟨p.toNat, by omega⟩
    have hpn : pn ≤ Ln := by omega
    have x2 : Ext wf wp := Wrote.ext xd hWp (fun k hk => by injection hk; omega)
    clear hp hS hS2 hWp xd hBd hBc
    have hX := x2
    replace f0 := (hX.cells.1 _ _ hlf).trans f0
    replace f1 := (hX.cells.1 _ _ hlf).trans f1
    replace f2 := (hX.cells.1 _ _ hlf).trans f2
    replace f3 := (hX.cells.1 _ _ hlf).trans f3
    replace hlf := Nat.lt_of_lt_of_le hlf hX.size
    replace hr := hr.ext hX
    replace hI := hI.ext hX
    replace hE := hE.trans hX
    clear hX x2
    have t8 : (pn : Int) ≤ (Ln : Int) := by omega
    have t9 : (pn : Int) ≤ (sc : Int) := by omega
    have u8 : pn ≤ sc := by omega
    have u9 : (0 : Int) ≤ (pn : Int) := by omega
    have hrt := hr.take pn
    have hlt : (zs.take pn).length = pn := by rw [List.length_take]; omega
    have hc1 := (ds_of Hv.out (vSegs_take Hs.out pn)).1
    generalize hA1 : dsR v0 v1 v2 v3 (zs.take pn) = A1 at *
    have hA1b := ds_bd v0 v1 v2 v3 (zs.take pn)
    rw [hA1] at hA1b
    have x0 := Ext.refl wp
    go_region_held3 (fun w' => w'.cell? ⟨gA, 0, none⟩ = some (.int .i64 v0) ∧ w'.cell? ⟨gA, 1, none⟩ = some (.int .i64 v1) ∧ w'.cell? ⟨gA, 2, none⟩ = some (.int .i64 v2) ∧ w'.cell? ⟨gA, 3, none⟩ = some (.int .i64 v3))
      (first | (refine ⟨?_, ?_, ?_, ?_⟩ <;> with_reducible assumption) | (refine ⟨?_, ?_, ?_, ?_⟩ <;> (refine keep_ext (W := wp) ?_ (by assumption) (by assumption); exact x0)) | go_keep)
      (first | (go_at_call 38; ((with_reducible refine (implDriftSum_any v0 v1 v2 v3 (some ⟨gL, 0, none⟩) pn sc (zs.take pn) _ (by first | exact hrt | exact hrt.ext ((Ext.refl _).drew) | exact hrt.ext ((Ext.refl _).drewN _)) hlt (by omega)).mono ?_); rintro e wq ⟨rfl, x2⟩; rw [hA1, hc1]; replace x0 := (by first | exact x0.trans x2 | exact (x0.drew).trans x2 | exact (x0.drewN _).trans x2); clear x2)))
    have x2 := x0
    clear x0
    have hX := x2
    replace f0 := (hX.cells.1 _ _ hlf).trans f0
    replace f1 := (hX.cells.1 _ _ hlf).trans f1
    replace f2 := (hX.cells.1 _ _ hlf).trans f2
    replace f3 := (hX.cells.1 _ _ hlf).trans f3
    replace hlf := Nat.lt_of_lt_of_le hlf hX.size
    replace hr := hr.ext hX
    replace hI := hI.ext hX
    replace hE := hE.trans hX
    clear hX x2
    clear hrt hlt
    go_upto_region 16 with fail
    have hc2 := (ds_of Hv.out (vSegs_drop Hs.out pn)).1
    have hpp := ds_parts Hv.out Hs.out pn
    rw [hA1, hDS'.out] at hpp
    generalize hA2 : dsR v0 v1 v2 v3 (zs.drop pn) = A2 at *
    have hA2b := ds_bd v0 v1 v2 v3 (zs.drop pn)
    rw [hA2] at hA2b
    go_cut [20, 21] (fun s20 s21 wx => s20 = .int .i64 A2 ∧ s21 = .int .i64 0 ∧ Ext wq wx)
    case first =>
      clear hpp
      by_cases he : pn = sc
      · obtain rfl : pn = Ln := by omega
        subst he
        have hrd := (show RowAt wq (some ⟨gL, 0, none⟩) (zs.drop pn) from .inl (by rw [List.length_drop]; omega))
        have hld : (zs.drop pn).length = 0 := by rw [List.length_drop]; omega
        have x0 := Ext.refl wq
        go_region_held3 (fun w' => w'.cell? ⟨gA, 0, none⟩ = some (.int .i64 v0) ∧ w'.cell? ⟨gA, 1, none⟩ = some (.int .i64 v1) ∧ w'.cell? ⟨gA, 2, none⟩ = some (.int .i64 v2) ∧ w'.cell? ⟨gA, 3, none⟩ = some (.int .i64 v3))
          (first | (refine ⟨?_, ?_, ?_, ?_⟩ <;> with_reducible assumption) | (refine ⟨?_, ?_, ?_, ?_⟩ <;> (refine keep_ext (W := wq) ?_ (by assumption) (by assumption); exact x0)) | go_keep)
          (first | (go_at_call 38; ((with_reducible refine (implDriftSum_any v0 v1 v2 v3 (some ⟨gL, 0, none⟩) (0) (0) (zs.drop pn) _ (by first | exact hrd | exact hrd.ext ((Ext.refl _).drew) | exact hrd.ext ((Ext.refl _).drewN _)) hld (by omega)).mono ?_); rintro e wr ⟨rfl, x2⟩; rw [hA2, hc2]; replace x0 := (by first | exact x0.trans x2 | exact (x0.drew).trans x2 | exact (x0.drewN _).trans x2); clear x2)))
        all_goals (go_wp2_with fail; go_meet; exact ⟨rfl, rfl, x0⟩)
      · have he2 : ¬ sc = pn := fun h => he h.symm
        have hrd := (show RowAt wq (some ⟨gL, pn * 2, none⟩) (zs.drop pn) from by have := hr.drop pn; rwa [Nat.zero_add] at this)
        have hld : (zs.drop pn).length = Ln - pn := by rw [List.length_drop]; omega
        have x0 := Ext.refl wq
        go_region_held3 (fun w' => w'.cell? ⟨gA, 0, none⟩ = some (.int .i64 v0) ∧ w'.cell? ⟨gA, 1, none⟩ = some (.int .i64 v1) ∧ w'.cell? ⟨gA, 2, none⟩ = some (.int .i64 v2) ∧ w'.cell? ⟨gA, 3, none⟩ = some (.int .i64 v3))
          (first | (refine ⟨?_, ?_, ?_, ?_⟩ <;> with_reducible assumption) | (refine ⟨?_, ?_, ?_, ?_⟩ <;> (refine keep_ext (W := wq) ?_ (by assumption) (by assumption); exact x0)) | go_keep)
          (first | (go_at_call 38; ((with_reducible refine (implDriftSum_any v0 v1 v2 v3 (some ⟨gL, pn * 2, none⟩) (Ln - pn) (sc - pn) (zs.drop pn) _ (by first | exact hrd | exact hrd.ext ((Ext.refl _).drew) | exact hrd.ext ((Ext.refl _).drewN _)) hld (by omega)).mono ?_); rintro e wr ⟨rfl, x2⟩; rw [hA2, hc2]; replace x0 := (by first | exact x0.trans x2 | exact (x0.drew).trans x2 | exact (x0.drewN _).trans x2); clear x2)))
        all_goals (go_wp2_with fail; go_meet; exact ⟨rfl, rfl, x0⟩)
    case rest =>
    obtain ⟨rfl, rfl, x2⟩ := hcut
    rename World => wB
    have hX := x2
    replace f0 := (hX.cells.1 _ _ hlf).trans f0
    replace f1 := (hX.cells.1 _ _ hlf).trans f1
    replace f2 := (hX.cells.1 _ _ hlf).trans f2
    replace f3 := (hX.cells.1 _ _ hlf).trans f3
    replace hlf := Nat.lt_of_lt_of_le hlf hX.size
    replace hr := hr.ext hX
    replace hI := hI.ext hX
    replace hE := hE.trans hX
    clear hX x2
    clear hA2 hc2 t8 t9 u8 u9 hpn
    replace hpp := Lib.hid hpp
    clear hc1
    obtain ⟨i0, hii, hz0, hz1, hz2⟩ := seg_info
    go_upto_region 18 with fail
    have hst : PairsOf (wB.alloc (Obj.cells #[] 61)) wB.heap.size (.slice (some ⟨wB.heap.size, 0, none⟩) 0 0) [] := by
      have := World.ownsRow_made (w := wB) (base := wB.heap.size) (e := 61) (size := 2) #[] 0 (by simp) (by decide) rfl
      simpa [PairsOf, flat] using this
    have xst : Ext wB (wB.alloc (Obj.cells #[] 61)) := (Ext.refl _).alloc _
    have q2 : IntKind.i64.wrap ((Ln : Int) - 1) = (Ln : Int) - 1 := IntWalk.i64_in _ (by omega)
    go_wp2_with fail
    go_loopw [22, 23] (fun vv ii wx => ∃ (j : Int) (O : List (Int × Int)), ii = .int .i64 j ∧ (-1 ≤ j ∧ j < (Ln : Int)) ∧ PairsOf wx wB.heap.size vv O ∧ Hid (O = (zs.drop (j + 1).toNat).reverse) ∧ Ext wB wx) (fun _ ii _ => (intOf ii + 1).toNat)
    case atStart => exact ⟨(Ln : Int) - 1, [], rfl, by omega, hst, Lib.hid (by rw [List.drop_eq_nil_of_le (by omega)]; rfl), xst⟩
    case round =>
      clear hst xst q2
      obtain ⟨j, O, rfl, hj, hO, hOe, xw⟩ := hrel
      obtain ⟨oa, oc, rfl⟩ := hO.shape
      by_cases h0 : 0 ≤ j
      · obtain ⟨k, rfl⟩ : ∃ k : Nat, j = k := ⟨j.toNat, by omega⟩
        have hkn : k < zs.length := by omega
        obtain ⟨bb, off, hbe, hbb, x, y, ex, ey, c0, c1⟩ := (hr.ext xw).look (j := k) hkn
        injection hbe with hbe; injection hbe with hb1 hb2
        subst hb1
        subst hb2
        have hOl : O.length ≤ 100 := by rw [hOe.out, List.length_reverse, List.length_drop]; omega
        simp only [Nat.zero_add] at c0 c1
        have hnx := Lib.hid (drop_rev hkn ex.out ey.out)
        have t3 : (k : Int) < (Ln : Int) := hj.2
        have t4 : k < Ln := by omega
        have t5 : (0 : Int) ≤ (k : Int) := h0
        have q3 : IntKind.i64.wrap ((k : Int) - 1) = (k : Int) - 1 := IntWalk.i64_in _ (by omega)
        clear ex ey
        go_wp2_with (at_builtin; refine wpList_append_ext _ rfl _ _ 34 rfl wB.heap.size 61 i0 pairZero 2 16 Try.underlying34 hii hz0 hz1 hz2 rfl (by decide) _ _ _ rfl (hO.ext ((Ext.refl _).alloc _)) ⟨_, 0, none⟩ 1 1 [.int .i64 x, .int .i64 y] rfl rfl (pair_new _ _ _ rfl) (pair_cells _ _) (by unfold maxLen; omega) (by omega) (by have := xw.size; simp; omega) ?_; intro v' w3 h3 hx3)
        have hx4 := hx3 wB (xw.alloc _) (Nat.le_refl _)
        clear hx3
        go_wp2_with fail
        go_roundw
        case rel => exact ⟨(k : Int) - 1, _, rfl, by omega, PairsOf.push h3 rfl, Lib.hid (by rw [hOe.out, show ((k : Int) + 1).toNat = k + 1 by omega, show ((k : Int) - 1 + 1).toNat = k by omega]; exact hnx.out), hx4⟩
        case measure => simp [intOf] <;> omega
      · obtain rfl : j = -1 := by omega
        have hOr : O = zs.reverse := by rw [hOe.out]; rfl
        subst hOr
        clear hOe hj
        have hor := hO.row
        have hol : zs.reverse.length = Ln := by rw [List.length_reverse]; exact hL
        have x2 := xw
        clear xw hii hz0 hz1 hz2 i0
        clear hO
        have hX := x2
        replace f0 := (hX.cells.1 _ _ hlf).trans f0
        replace f1 := (hX.cells.1 _ _ hlf).trans f1
        replace f2 := (hX.cells.1 _ _ hlf).trans f2
        replace f3 := (hX.cells.1 _ _ hlf).trans f3
        replace hlf := Nat.lt_of_lt_of_le hlf hX.size
        replace hr := hr.ext hX
        replace hI := hI.ext hX
        replace hE := hE.trans hX
        clear hX x2
        have s1 := (ds_of Hv.out (vSegs_reverse Hs.out)).1
        have s2 := (ds_reverse Hv.out Hs.out).trans hDS'.out
        go_upto_region 23 with (first | (go_at_call 38; ((with_reducible refine (implDriftSum_any v0 v1 v2 v3 oa Ln oc zs.reverse _ hor hol (by omega)).mono ?_); rintro e wk61 ⟨rfl, x2⟩; rw [s1, s2]; skip)))
        have hX := x2
        replace f0 := (hX.cells.1 _ _ hlf).trans f0
        replace f1 := (hX.cells.1 _ _ hlf).trans f1
        replace f2 := (hX.cells.1 _ _ hlf).trans f2
        replace f3 := (hX.cells.1 _ _ hlf).trans f3
        replace hlf := Nat.lt_of_lt_of_le hlf hX.size
        replace hr := hr.ext hX
        replace hI := hI.ext hX
        replace hE := hE.trans hX
        clear hX x2
        clear s1 s2 hor hol
        have q4 : IntKind.i64.wrap (A1 + A2) = A1 + A2 := IntWalk.i64_in _ (by omega)
        have q5 : A1 + A2 = DS := hpp.out
        go_wp2_with fail
        clear q4 q5
        go_loopw [26] (fun ii wx => ∃ i : Nat, ii = .int .i64 i ∧ i ≤ Ln ∧ Ext wk61 wx) (fun ii _ => Ln - (intOf ii).toNat)
        case atStart => exact ⟨0, rfl, by omega, Ext.refl _⟩
        case round =>
          obtain ⟨i, rfl, hi, xw⟩ := hrel
          by_cases h0 : i < Ln
          · obtain ⟨k, hk, hkn, htop⟩ := wo_top (i := i) Hv.out Hs.out (by omega)
            obtain rfl : WR = (k : Int) := hWR'.out.symm.trans hk
            rw [hL] at hkn
            obtain ⟨gi, x, rfl, hgi, hx, c0⟩ := (hI.ext xw).nth (j := i) (by omega)
            have hxe := (hRR' i (by omega)).symm.trans hx.out
            have hn24 := near_24 (sumTo v0 v1 v2 v3 zs (i + 1))
            rw [hxe] at hn24
            have d1 := (ds_of Hv.out (vSegs_take Hs.out (i + 1))).1
            have d2 := ds_take Hv.out Hs.out (k := i + 1) (by omega)
            have e1 := (ds_of Hv.out (vSegs_take Hs.out (k + 1))).1
            have e2 := ds_take Hv.out Hs.out (k := k + 1) (by omega)
            have db := ds_bd v0 v1 v2 v3 (zs.take (i + 1))
            have eb := ds_bd v0 v1 v2 v3 (zs.take (k + 1))
            rw [d2] at db
            rw [e2] at eb
            generalize sumTo v0 v1 v2 v3 zs (i + 1) = D at *
            generalize sumTo v0 v1 v2 v3 zs (k + 1) = E2 at *
            clear hx hxe hk
            have hrx := hr.ext xw
            have y0 := (xw.cells.1 _ _ hlf).trans f0
            have y1 := (xw.cells.1 _ _ hlf).trans f1
            have y2 := (xw.cells.1 _ _ hlf).trans f2
            have y3 := (xw.cells.1 _ _ hlf).trans f3
            have hlx := Nat.lt_of_lt_of_le hlf xw.size
            have q6 : IntKind.i64.wrap ((i : Int) + 1) = (i : Int) + 1 := IntWalk.i64_in _ (by omega)
            have q7 : (0 : Int) ≤ (i : Int) + 1 := by omega
            have q8 : ((i : Int) + 1).toNat = i + 1 := by omega
            have q9 : (i : Int) + 1 ≤ (sc : Int) := by omega
            have r6 : IntKind.i64.wrap ((k : Int) + 1) = (k : Int) + 1 := IntWalk.i64_in _ (by omega)
            have r7 : (0 : Int) ≤ (k : Int) + 1 := by omega
            have r8 : ((k : Int) + 1).toNat = k + 1 := by omega
            have r9 : (k : Int) + 1 ≤ (sc : Int) := by omega
            have hrt := hrx.take (i + 1)
            have hlt : (zs.take (i + 1)).length = i + 1 := by rw [List.length_take]; omega
            have hru := hrx.take (k + 1)
            have hlu : (zs.take (k + 1)).length = k + 1 := by rw [List.length_take]; omega
            go_upto_region 28 with fail
            have x0 := Ext.refl wr
            go_region_held3 (fun w' => w'.cell? ⟨gA, 0, none⟩ = some (.int .i64 v0) ∧ w'.cell? ⟨gA, 1, none⟩ = some (.int .i64 v1) ∧ w'.cell? ⟨gA, 2, none⟩ = some (.int .i64 v2) ∧ w'.cell? ⟨gA, 3, none⟩ = some (.int .i64 v3))
              (first | (refine ⟨?_, ?_, ?_, ?_⟩ <;> with_reducible assumption) | (refine ⟨?_, ?_, ?_, ?_⟩ <;> (refine keep_ext (W := wr) ?_ (by assumption) (by assumption); exact x0)) | go_keep)
              (first | (go_at_call 38; ((with_reducible refine (implDriftSum_any v0 v1 v2 v3 (some ⟨gL, 0, none⟩) (i + 1) sc (zs.take (i + 1)) _ (by first | exact hrt | exact hrt.ext ((Ext.refl _).drew) | exact hrt.ext ((Ext.refl _).drewN _)) hlt (by omega)).mono ?_); rintro e wz ⟨rfl, x2⟩; rw [d2, d1]; replace x0 := (by first | exact x0.trans x2 | exact (x0.drew).trans x2 | exact (x0.drewN _).trans x2); clear x2)))
            have x8 := x0
            clear x0
            replace y0 := (x8.cells.1 _ _ hlx).trans y0
            replace y1 := (x8.cells.1 _ _ hlx).trans y1
            replace y2 := (x8.cells.1 _ _ hlx).trans y2
            replace y3 := (x8.cells.1 _ _ hlx).trans y3
            replace c0 := (x8.cells.1 _ _ hgi).trans c0
            replace hgi := Nat.lt_of_lt_of_le hgi x8.size
            replace hlx := Nat.lt_of_lt_of_le hlx x8.size
            replace hru := hru.ext x8
            replace xw := xw.trans x8
            clear x8 hrt hlt hrx
            go_upto_region 29 with fail
            have x0 := Ext.refl wz
            go_region_held3 (fun w' => w'.cell? ⟨gA, 0, none⟩ = some (.int .i64 v0) ∧ w'.cell? ⟨gA, 1, none⟩ = some (.int .i64 v1) ∧ w'.cell? ⟨gA, 2, none⟩ = some (.int .i64 v2) ∧ w'.cell? ⟨gA, 3, none⟩ = some (.int .i64 v3))
              (first | (refine ⟨?_, ?_, ?_, ?_⟩ <;> with_reducible assumption) | (refine ⟨?_, ?_, ?_, ?_⟩ <;> (refine keep_ext (W := wz) ?_ (by assumption) (by assumption); exact x0)) | go_keep)
              (first | (go_at_call 38; ((with_reducible refine (implDriftSum_any v0 v1 v2 v3 (some ⟨gL, 0, none⟩) (k + 1) sc (zs.take (k + 1)) _ (by first | exact hru | exact hru.ext ((Ext.refl _).drew) | exact hru.ext ((Ext.refl _).drewN _)) hlu (by omega)).mono ?_); rintro e wu ⟨rfl, x2⟩; rw [e2, e1]; replace x0 := (by first | exact x0.trans x2 | exact (x0.drew).trans x2 | exact (x0.drewN _).trans x2); clear x2)))
            have x8 := x0
            clear x0
            replace c0 := (x8.cells.1 _ _ hgi).trans c0
            replace xw := xw.trans x8
            clear x8 hru hlu y0 y1 y2 y3 hlx d1 d2 e1 e2 r6 r7 r8 r9
            have z1 : (i : Int) < (RR.length : Int) := by omega
            have z2 : i < RR.length := by omega
            have z3 : IntKind.i64.wrap (24 * x) = 24 * x := IntWalk.i64_in _ (by omega)
            have z4 : IntKind.i64.wrap (24 * x - D) = 24 * x - D := IntWalk.i64_in _ (by omega)
            have z5 : ¬ (12 : Int) < ((24 * x - D).natAbs : Int) := by omega
            have z6 : ¬ (E2.natAbs : Int) < (D.natAbs : Int) := by omega
            go_wp2_with (first | (go_at_call 57; refine (f6size_any _ _ (by omega)).mono ?_; rintro e wy ⟨rfl, rfl⟩))
            go_roundw
            case rel => exact ⟨i + 1, by first | rfl | (congr 1), by omega, xw⟩
            case measure => simp [intOf]; omega
          · obtain rfl : i = Ln := by omega
            have t3 : ¬ (i : Int) < (i : Int) := by omega
            go_wp2_with fail
            go_ret
            exact ⟨rfl, hE.trans xw⟩
  · have hDC : drC v0 v1 v2 v3 zs = 1 := by unfold drC; split; (split; (exact absurd ⟨by assumption, by assumption⟩ hok); rfl); rfl
    have hSC : dsC v0 v1 v2 v3 zs = 1 := by unfold dsC; split; (split; (exact absurd ⟨by assumption, by assumption⟩ hok); rfl); rfl
    clear hok
    have hRl := drR_len v0 v1 v2 v3 zs Ln hL (by omega)
    generalize hRR : drR v0 v1 v2 v3 zs = RR at *
    generalize hDS : dsR v0 v1 v2 v3 zs = DS at *
    generalize hWR : woR v0 v1 v2 v3 zs = WR at *
    generalize hWC : woC v0 v1 v2 v3 zs = WC at *
    go_upto_region 5 with (first | (go_at_call 44; ((with_reducible refine (implDriftsAfter_any v0 v1 v2 v3 (some ⟨gL, 0, none⟩) Ln sc zs _ hr hL (by omega)).mono ?_); rintro e wk1 ⟨x1, rfl, hI, x2⟩; rw [hDC]; skip)))
    rw [hRR] at hI
    obtain ⟨ia, ic, rfl⟩ := hI.shape
    have hX := x2
    replace f0 := (hX.cells.1 _ _ hlf).trans f0
    replace f1 := (hX.cells.1 _ _ hlf).trans f1
    replace f2 := (hX.cells.1 _ _ hlf).trans f2
    replace f3 := (hX.cells.1 _ _ hlf).trans f3
    replace hlf := Nat.lt_of_lt_of_le hlf hX.size
    replace hr := hr.ext hX
    replace hE := hE.trans hX
    clear hX x2
    go_upto_region 6 with (first | (go_at_call 43; ((with_reducible refine (specDriftsAfter_any v0 v1 v2 v3 (some ⟨gL, 0, none⟩) Ln sc zs _ hr hL (by omega)).mono ?_); rintro e wk2 ⟨y1, rfl, hJ, x2⟩; rw [hDC]; skip)))
    rw [hRR] at hJ
    obtain ⟨ja, jc, rfl⟩ := hJ.shape
    have hX := x2
    replace f0 := (hX.cells.1 _ _ hlf).trans f0
    replace f1 := (hX.cells.1 _ _ hlf).trans f1
    replace f2 := (hX.cells.1 _ _ hlf).trans f2
    replace f3 := (hX.cells.1 _ _ hlf).trans f3
    replace hlf := Nat.lt_of_lt_of_le hlf hX.size
    replace hr := hr.ext hX
    replace hI := hI.ext hX
    replace hE := hE.trans hX
    clear hX x2
    go_upto_region 7 with (first | (go_at_call 38; ((with_reducible refine (implDriftSum_any v0 v1 v2 v3 (some ⟨gL, 0, none⟩) Ln sc zs _ hr hL (by omega)).mono ?_); rintro e wk3 ⟨rfl, x2⟩; rw [hDS, hSC]; skip)))
    have hX := x2
    replace f0 := (hX.cells.1 _ _ hlf).trans f0
    replace f1 := (hX.cells.1 _ _ hlf).trans f1
    replace f2 := (hX.cells.1 _ _ hlf).trans f2
    replace f3 := (hX.cells.1 _ _ hlf).trans f3
    replace hlf := Nat.lt_of_lt_of_le hlf hX.size
    replace hr := hr.ext hX
    replace hI := hI.ext hX
    replace hJ := hJ.ext hX
    replace hE := hE.trans hX
    clear hX x2
    go_upto_region 8 with (first | (go_at_call 37; ((with_reducible refine (specDriftSum_any v0 v1 v2 v3 (some ⟨gL, 0, none⟩) Ln sc zs _ hr hL (by omega)).mono ?_); rintro e wk4 ⟨rfl, x2⟩; rw [hDS, hSC]; skip)))
    have hX := x2
    replace f0 := (hX.cells.1 _ _ hlf).trans f0
    replace f1 := (hX.cells.1 _ _ hlf).trans f1
    replace f2 := (hX.cells.1 _ _ hlf).trans f2
    replace f3 := (hX.cells.1 _ _ hlf).trans f3
    replace hlf := Nat.lt_of_lt_of_le hlf hX.size
    replace hr := hr.ext hX
    replace hI := hI.ext hX
    replace hJ := hJ.ext hX
    replace hE := hE.trans hX
    clear hX x2
    go_upto_region 9 with (first | (go_at_call 40; ((with_reducible refine (implWorstSegment_any v0 v1 v2 v3 (some ⟨gL, 0, none⟩) Ln sc zs _ hr hL (by omega)).mono ?_); rintro e wk5 ⟨rfl, x2⟩; rw [hWR, hWC]; skip)))
    have hX := x2
    replace f0 := (hX.cells.1 _ _ hlf).trans f0
    replace f1 := (hX.cells.1 _ _ hlf).trans f1
    replace f2 := (hX.cells.1 _ _ hlf).trans f2
    replace f3 := (hX.cells.1 _ _ hlf).trans f3
    replace hlf := Nat.lt_of_lt_of_le hlf hX.size
    replace hr := hr.ext hX
    replace hI := hI.ext hX
    replace hJ := hJ.ext hX
    replace hE := hE.trans hX
    clear hX x2
    go_upto_region 10 with (first | (go_at_call 39; ((with_reducible refine (specWorstSegment_any v0 v1 v2 v3 (some ⟨gL, 0, none⟩) Ln sc zs _ hr hL (by omega)).mono ?_); rintro e wk6 ⟨rfl, x2⟩; rw [hWR, hWC]; skip)))
    have hX := x2
    replace f0 := (hX.cells.1 _ _ hlf).trans f0
    replace f1 := (hX.cells.1 _ _ hlf).trans f1
    replace f2 := (hX.cells.1 _ _ hlf).trans f2
    replace f3 := (hX.cells.1 _ _ hlf).trans f3
    replace hlf := Nat.lt_of_lt_of_le hlf hX.size
    replace hr := hr.ext hX
    replace hI := hI.ext hX
    replace hJ := hJ.ext hX
    replace hE := hE.trans hX
    clear hX x2
    have x0 := Ext.refl wk6
    go_upto_region 12 with (first | (go_at_call 59; refine (f6same_any ia ja _ ic jc _ _ RR _ (hI.ext x0) (hJ.ext x0) (by omega)).mono ?_; rintro e wf ⟨rfl, x2⟩; replace x0 := x0.trans x2; clear x2) | (go_at_call 28; refine (implValidSegments_any (some ⟨gL, 0, none⟩) Ln sc zs _ (hr.ext x0) hL (by omega)).mono ?_; rintro e wf ⟨rfl, x2⟩; replace x0 := x0.trans x2; clear x2) | (go_at_call 26; refine (specValidSegments_any (some ⟨gL, 0, none⟩) Ln sc zs _ (hr.ext x0) hL (by omega)).mono ?_; rintro e wf ⟨rfl, x2⟩; replace x0 := x0.trans x2; clear x2))
    clear hJ
    have x2 := x0
    clear x0
    have hX := x2
    replace f0 := (hX.cells.1 _ _ hlf).trans f0
    replace f1 := (hX.cells.1 _ _ hlf).trans f1
    replace f2 := (hX.cells.1 _ _ hlf).trans f2
    replace f3 := (hX.cells.1 _ _ hlf).trans f3
    replace hlf := Nat.lt_of_lt_of_le hlf hX.size
    replace hr := hr.ext hX
    replace hI := hI.ext hX
    replace hE := hE.trans hX
    clear hX x2
    go_wp2_with fail
    go_ret
    exact ⟨rfl, hE⟩
end Go.Proofs.Ytiodlbgfgeimoaa

/-
  The walk of the law FnSwings.
-/
import Derived.Test.YtehebhphlaghfaaPartsP
import Derived.Test.YtehebhphlaghfaaDrawsE
import Derived.Test.YtehebhphlaghfaaManyLaw
import Derived.Test.YtehebhphlaghfaaAlong
import Derived.Test.YtehebhphlaghfaaWheel
import Derived.Test.YtehebhphlaghfaaCompare
import Derived.Test.YtehebhphlaghfaaDice
import Derived.Test.YtehebhphlaghfaaHeld
import Derived.Deep.DeepCutAuto
namespace Go.Proofs.Ytehebhphlaghfaa
open Go.RowKit
set_option linter.unusedSimpArgs false
set_option linter.unusedVariables false

theorem own_len {w : World} {B : Nat} {v : Value} {zs : List Int} {i : Nat} (hl : zs.length = i) (h : IntsOf w B v zs) : w.ownsRow B 2 1 v i (zs.map (Value.int .i64)) := by
  subst hl
  exact h
set_option maxRecDepth 100000 in
set_option maxHeartbeats 2000000 in
theorem fnSwings_walk (a : Option Addr) (n cp : Nat) (w : World) (hB : RowB w w.heap.size a n) :
    Calls Try.prog 17 #[.slice a n cp] w fun e w' => e = .returned (.bool true) ∧ Ext w w' := by
  by_cases hbig : 4096 < n
  · have t1 : decide (4096 < n) = true := by simpa using hbig
    go_enter Try.func17, Try.ntmps17
    go_wp2_with (first | (go_at_call 24; refine (f6big_any a n cp _).mono ?_; rintro e w1 ⟨rfl, rfl⟩; rw [t1]))
    go_ret
    exact ⟨rfl, Ext.refl _⟩
  have t1 : decide (4096 < n) = false := by simpa using hbig
  go_enter Try.func17, Try.ntmps17
  go_upto_region 4 with (first | (go_at_call 24; refine (f6big_any a n cp _).mono ?_; rintro e w1 ⟨rfl, rfl⟩; rw [t1]) | (go_at_call 55; refine (drawSwingMany_any a n cp _ hB (by omega)).mono ?_; rintro e w1 ⟨⟨v0, v1, v2, v3, v4, q, N, s0, s1, rfl⟩, x1⟩))
  generalize hV : World.alloc (World.alloc _ _) _ = V
  have hE : Ext w V := by rw [← hV]; exact ((x1.alloc _).alloc _)
  have hlf : w1.heap.size < V.heap.size := by rw [← hV]; simp; try omega
  have f0 : V.cell? ⟨w1.heap.size, 0, none⟩ = some (.int .i64 v0) := by rw [← hV]; simp [go_sem]
  have f1 : V.cell? ⟨w1.heap.size, 1, none⟩ = some (.int .i64 v1) := by rw [← hV]; simp [go_sem]
  have f2 : V.cell? ⟨w1.heap.size, 2, none⟩ = some (.int .i64 v2) := by rw [← hV]; simp [go_sem]
  have f3 : V.cell? ⟨w1.heap.size, 3, none⟩ = some (.int .i64 v3) := by rw [← hV]; simp [go_sem]
  have f4 : V.cell? ⟨w1.heap.size, 4, none⟩ = some (.int .i64 v4) := by rw [← hV]; simp [go_sem]
  have hlb : w1.heap.size + 1 < V.heap.size := by rw [← hV]; simp; try omega
  have b0 : V.cell? ⟨w1.heap.size + 1, 0, none⟩ = some (.int .i64 s0) := by rw [← hV]; simp [go_sem]
  have b1 : V.cell? ⟨w1.heap.size + 1, 1, none⟩ = some (.int .i64 s1) := by rw [← hV]; simp [go_sem]
  clear hV x1
  generalize w1.heap.size + 1 = gB at *
  generalize w1.heap.size = gE at *
  have x0 := Ext.refl V
  clear x0
  have hok := fun h => sm_ok (z := v0) (u := v1) (i := v2) (l := v3) (m := v4) (q := q) (N := N) (n := s0) (k := s1) h
  have hpa := fun P h hP => sm_parts (z := v0) (u := v1) (i := v2) (l := v3) (m := v4) (q := q) (N := N) (n := s0) (k := s1) (P := P) h hP
  have hal := fun qs h hl hq => sm_along (z := v0) (u := v1) (i := v2) (l := v3) (m := v4) (q := q) (N := N) (n := s0) (k := s1) (qs := qs) h hl hq
  have hwh := fun h => sm_wheel (z := v0) (u := v1) (i := v2) (l := v3) (m := v4) (q := q) (N := N) (n := s0) (k := s1) h
  generalize hSE : smE v0 v1 v2 v3 v4 q N s0 s1 = SE at *
  generalize hSK : smK v0 v1 v2 v3 v4 q N s0 s1 = SK at *
  generalize hSC : smC v0 v1 v2 v3 v4 q N s0 s1 = SC at *
  replace hok := Lib.hid hok
  replace hpa := Lib.hid hpa
  replace hal := Lib.hid hal
  replace hwh := Lib.hid hwh
  by_cases hc : SC = 0
  · subst hc
    obtain ⟨ev, ⟨hn0, hk0⟩, hq0, hN0, _, _, hmy, he1, he2⟩ := hok.out rfl
    have hsk := Lib.hid (show 0 ≤ SK ∧ SK ≤ 1000000000 from by have b1 := ev.bu; have b2 := ev.bi; have b4 := ev.bm; have := many_in (by omega) (by omega) ev.bl (by omega) hq0.1 _ hn0 hk0 hmy; omega)
    clear hmy he1 he2 ev
    go_upto_region 5 with (first | (go_at_call 47; ((with_reducible refine (implSwingMany_any v0 v1 v2 v3 v4 q N s0 s1 _).mono ?_); rintro e wk1 ⟨rfl, x2⟩; rw [hSE, hSK, hSC]; skip)))
    generalize hV : World.alloc _ _ = V1
    have hX : Ext V V1 := by rw [← hV]; exact x2.alloc _
    have hlc : wk1.heap.size < V1.heap.size := by rw [← hV]; simp
    have c0 : V1.cell? ⟨wk1.heap.size, 0, none⟩ = some (.int .i64 SE) := by rw [← hV]; simp [go_sem]
    have c1 : V1.cell? ⟨wk1.heap.size, 1, none⟩ = some (.int .i64 SK) := by rw [← hV]; simp [go_sem]
    replace f0 := (hX.cells.1 _ _ hlf).trans f0
    replace f1 := (hX.cells.1 _ _ hlf).trans f1
    replace f2 := (hX.cells.1 _ _ hlf).trans f2
    replace f3 := (hX.cells.1 _ _ hlf).trans f3
    replace f4 := (hX.cells.1 _ _ hlf).trans f4
    replace hlf := Nat.lt_of_lt_of_le hlf hX.size
    replace b0 := (hX.cells.1 _ _ hlb).trans b0
    replace b1 := (hX.cells.1 _ _ hlb).trans b1
    replace hlb := Nat.lt_of_lt_of_le hlb hX.size
    replace hE := hE.trans hX
    clear hX x2 hV
    generalize wk1.heap.size = gC at *
    go_upto_region 6 with (first | (go_at_call 46; ((with_reducible refine (specSwingMany_any v0 v1 v2 v3 v4 q N s0 s1 _).mono ?_); rintro e wk2 ⟨rfl, x2⟩; rw [hSE, hSK, hSC]; skip)))
    generalize hV : World.alloc _ _ = V2
    have hX : Ext V1 V2 := by rw [← hV]; exact x2.alloc _
    have hld : wk2.heap.size < V2.heap.size := by rw [← hV]; simp
    have d0 : V2.cell? ⟨wk2.heap.size, 0, none⟩ = some (.int .i64 SE) := by rw [← hV]; simp [go_sem]
    have d1 : V2.cell? ⟨wk2.heap.size, 1, none⟩ = some (.int .i64 SK) := by rw [← hV]; simp [go_sem]
    replace f0 := (hX.cells.1 _ _ hlf).trans f0
    replace f1 := (hX.cells.1 _ _ hlf).trans f1
    replace f2 := (hX.cells.1 _ _ hlf).trans f2
    replace f3 := (hX.cells.1 _ _ hlf).trans f3
    replace f4 := (hX.cells.1 _ _ hlf).trans f4
    replace hlf := Nat.lt_of_lt_of_le hlf hX.size
    replace b0 := (hX.cells.1 _ _ hlb).trans b0
    replace b1 := (hX.cells.1 _ _ hlb).trans b1
    replace hlb := Nat.lt_of_lt_of_le hlb hX.size
    replace c0 := (hX.cells.1 _ _ hlc).trans c0
    replace c1 := (hX.cells.1 _ _ hlc).trans c1
    replace hlc := Nat.lt_of_lt_of_le hlc hX.size
    replace hE := hE.trans hX
    clear hX x2 hV
    generalize wk2.heap.size = gD at *
    have x0 := Ext.refl V2
    go_region_held3 (fun w' => w'.cell? ⟨gE, 0, none⟩ = some (.int .i64 v0) ∧ w'.cell? ⟨gE, 1, none⟩ = some (.int .i64 v1) ∧ w'.cell? ⟨gE, 2, none⟩ = some (.int .i64 v2) ∧ w'.cell? ⟨gE, 3, none⟩ = some (.int .i64 v3) ∧ w'.cell? ⟨gE, 4, none⟩ = some (.int .i64 v4) ∧ w'.cell? ⟨gB, 0, none⟩ = some (.int .i64 s0) ∧ w'.cell? ⟨gB, 1, none⟩ = some (.int .i64 s1) ∧ w'.cell? ⟨gC, 0, none⟩ = some (.int .i64 SE) ∧ w'.cell? ⟨gC, 1, none⟩ = some (.int .i64 SK) ∧ w'.cell? ⟨gD, 0, none⟩ = some (.int .i64 SE) ∧ w'.cell? ⟨gD, 1, none⟩ = some (.int .i64 SK))
      (first | (refine ⟨?_, ?_, ?_, ?_, ?_, ?_, ?_, ?_, ?_, ?_, ?_⟩ <;> with_reducible assumption) | (refine ⟨?_, ?_, ?_, ?_, ?_, ?_, ?_, ?_, ?_, ?_, ?_⟩ <;> (refine keep_ext (W := V2) ?_ (by assumption) (by assumption); exact x0)) | go_keep)
      (first | (go_at_call 23; refine (implValidBeat_any v0 v1 v2 v3 v4 s0 s1 _).mono ?_; rintro e w8 ⟨rfl, x2⟩; replace x0 := (by first | exact x0.trans x2 | exact (x0.drew).trans x2 | exact (x0.drewN _).trans x2); clear x2) | (go_at_call 21; refine (specValidBeat_any v0 v1 v2 v3 v4 s0 s1 _).mono ?_; rintro e w8 ⟨rfl, x2⟩; replace x0 := (by first | exact x0.trans x2 | exact (x0.drew).trans x2 | exact (x0.drewN _).trans x2); clear x2))
    have x2 := x0
    clear x0
    have hX := x2
    replace f0 := (hX.cells.1 _ _ hlf).trans f0
    replace f1 := (hX.cells.1 _ _ hlf).trans f1
    replace f2 := (hX.cells.1 _ _ hlf).trans f2
    replace f3 := (hX.cells.1 _ _ hlf).trans f3
    replace f4 := (hX.cells.1 _ _ hlf).trans f4
    replace hlf := Nat.lt_of_lt_of_le hlf hX.size
    replace b0 := (hX.cells.1 _ _ hlb).trans b0
    replace b1 := (hX.cells.1 _ _ hlb).trans b1
    replace hlb := Nat.lt_of_lt_of_le hlb hX.size
    replace c0 := (hX.cells.1 _ _ hlc).trans c0
    replace c1 := (hX.cells.1 _ _ hlc).trans c1
    replace hlc := Nat.lt_of_lt_of_le hlc hX.size
    replace d0 := (hX.cells.1 _ _ hld).trans d0
    replace d1 := (hX.cells.1 _ _ hld).trans d1
    replace hld := Nat.lt_of_lt_of_le hld hX.size
    replace hE := hE.trans hX
    clear hX x2
    have hBc : RowB w8 w8.heap.size a n := hB.to hE hE.size
    have q1 : IntKind.i64.wrap (N + 1) = N + 1 := IntWalk.i64_in _ (by omega)
    go_upto_region 11 with (first | (go_at_call 30; refine (f6roll_any a n cp 1101 _ hBc (by omega)).mono ?_; rintro e wd ⟨rfl, hS, xd⟩; have hBd : RowB wd w8.heap.size a n := hB.to (hE.trans xd) hE.size) | (go_at_call 31; refine (below_any _ n cp 0 _ a _ hS hBd (by omega) (by omega) (by omega)).mono ?_; rintro e wp ⟨p, rfl, hp, hS2, hWp⟩))
    have x2 : Ext w8 wp := Wrote.ext xd hWp (fun k hk => by injection hk; omega)
    clear hS hS2 hWp xd hBd hBc
    have hX := x2
    replace f0 := (hX.cells.1 _ _ hlf).trans f0
    replace f1 := (hX.cells.1 _ _ hlf).trans f1
    replace f2 := (hX.cells.1 _ _ hlf).trans f2
    replace f3 := (hX.cells.1 _ _ hlf).trans f3
    replace f4 := (hX.cells.1 _ _ hlf).trans f4
    replace hlf := Nat.lt_of_lt_of_le hlf hX.size
    replace b0 := (hX.cells.1 _ _ hlb).trans b0
    replace b1 := (hX.cells.1 _ _ hlb).trans b1
    replace hlb := Nat.lt_of_lt_of_le hlb hX.size
    replace c0 := (hX.cells.1 _ _ hlc).trans c0
    replace c1 := (hX.cells.1 _ _ hlc).trans c1
    replace hlc := Nat.lt_of_lt_of_le hlc hX.size
    replace d0 := (hX.cells.1 _ _ hld).trans d0
    replace d1 := (hX.cells.1 _ _ hld).trans d1
    replace hld := Nat.lt_of_lt_of_le hld hX.size
    replace hE := hE.trans hX
    clear hX x2
    obtain ⟨r1, r2, r3, r4⟩ := hpa.out p (by first | rfl | trivial) (by omega)
    generalize hPE : smE v0 v1 v2 v3 v4 q p s0 s1 = PE at *
    generalize hPK : smK v0 v1 v2 v3 v4 q p s0 s1 = PK at *
    have q2 : IntKind.i64.wrap (N - p) = N - p := IntWalk.i64_in _ (by omega)
    go_upto_region 12 with (first | (go_at_call 47; ((with_reducible refine (implSwingMany_any v0 v1 v2 v3 v4 q p s0 s1 _).mono ?_); rintro e wk3 ⟨rfl, x2⟩; rw [r1, hPE, hPK]; skip)))
    generalize hV : World.alloc _ _ = V3
    have hX : Ext wp V3 := by rw [← hV]; exact x2.alloc _
    have hlg : wk3.heap.size < V3.heap.size := by rw [← hV]; simp
    have g0 : V3.cell? ⟨wk3.heap.size, 0, none⟩ = some (.int .i64 PE) := by rw [← hV]; simp [go_sem]
    have g1 : V3.cell? ⟨wk3.heap.size, 1, none⟩ = some (.int .i64 PK) := by rw [← hV]; simp [go_sem]
    replace f0 := (hX.cells.1 _ _ hlf).trans f0
    replace f1 := (hX.cells.1 _ _ hlf).trans f1
    replace f2 := (hX.cells.1 _ _ hlf).trans f2
    replace f3 := (hX.cells.1 _ _ hlf).trans f3
    replace f4 := (hX.cells.1 _ _ hlf).trans f4
    replace hlf := Nat.lt_of_lt_of_le hlf hX.size
    replace b0 := (hX.cells.1 _ _ hlb).trans b0
    replace b1 := (hX.cells.1 _ _ hlb).trans b1
    replace hlb := Nat.lt_of_lt_of_le hlb hX.size
    replace c0 := (hX.cells.1 _ _ hlc).trans c0
    replace c1 := (hX.cells.1 _ _ hlc).trans c1
    replace hlc := Nat.lt_of_lt_of_le hlc hX.size
    replace d0 := (hX.cells.1 _ _ hld).trans d0
    replace d1 := (hX.cells.1 _ _ hld).trans d1
    replace hld := Nat.lt_of_lt_of_le hld hX.size
    replace hE := hE.trans hX
    clear hX x2 hV
    generalize wk3.heap.size = gG at *
    go_upto_region 13 with (first | (go_at_call 47; ((with_reducible refine (implSwingMany_any v0 v1 v2 v3 v4 q (N - p) PE PK _).mono ?_); rintro e wk4 ⟨rfl, x2⟩; rw [r2, r3, r4]; skip)))
    generalize hV : World.alloc _ _ = V4
    have hX : Ext V3 V4 := by rw [← hV]; exact x2.alloc _
    have hlh : wk4.heap.size < V4.heap.size := by rw [← hV]; simp
    have h0 : V4.cell? ⟨wk4.heap.size, 0, none⟩ = some (.int .i64 SE) := by rw [← hV]; simp [go_sem]
    have h1 : V4.cell? ⟨wk4.heap.size, 1, none⟩ = some (.int .i64 SK) := by rw [← hV]; simp [go_sem]
    replace f0 := (hX.cells.1 _ _ hlf).trans f0
    replace f1 := (hX.cells.1 _ _ hlf).trans f1
    replace f2 := (hX.cells.1 _ _ hlf).trans f2
    replace f3 := (hX.cells.1 _ _ hlf).trans f3
    replace f4 := (hX.cells.1 _ _ hlf).trans f4
    replace hlf := Nat.lt_of_lt_of_le hlf hX.size
    replace b0 := (hX.cells.1 _ _ hlb).trans b0
    replace b1 := (hX.cells.1 _ _ hlb).trans b1
    replace hlb := Nat.lt_of_lt_of_le hlb hX.size
    replace c0 := (hX.cells.1 _ _ hlc).trans c0
    replace c1 := (hX.cells.1 _ _ hlc).trans c1
    replace hlc := Nat.lt_of_lt_of_le hlc hX.size
    replace d0 := (hX.cells.1 _ _ hld).trans d0
    replace d1 := (hX.cells.1 _ _ hld).trans d1
    replace hld := Nat.lt_of_lt_of_le hld hX.size
    replace g0 := (hX.cells.1 _ _ hlg).trans g0
    replace g1 := (hX.cells.1 _ _ hlg).trans g1
    replace hlg := Nat.lt_of_lt_of_le hlg hX.size
    replace hE := hE.trans hX
    clear hX x2 hV
    generalize wk4.heap.size = gH at *
    clear r1 r2 r3 r4 hPE hPK q2
    obtain ⟨i0, hii, hz0, hz1, hz2⟩ := int_info
    go_upto_region 14 with fail
    have hst : IntsOf (V4.alloc (Obj.cells #[] 2)) V4.heap.size (.slice (some ⟨V4.heap.size, 0, none⟩) 0 0) [] := by
      have := World.ownsRow_made (w := V4) (base := V4.heap.size) (e := 2) (size := 1) #[] 0 (by simp) (by decide) rfl
      simpa [IntsOf] using this
    have xst : Ext V4 (V4.alloc (Obj.cells #[] 2)) := (Ext.refl _).alloc _
    go_wp2_with fail
    go_loopw [16, 17] (fun vv kk wx => ∃ i : Nat, kk = .int .i64 i ∧ (i : Int) ≤ N ∧ IntsOf wx V4.heap.size vv (List.replicate i q) ∧ Ext V4 wx) (fun _ kk _ => (N - intOf kk).toNat)
    case atStart => exact ⟨0, rfl, by omega, hst, xst⟩
    case round =>
      clear hst xst
      obtain ⟨i, rfl, hi, hO, xw⟩ := hrel
      obtain ⟨oa, oc, rfl⟩ := hO.shape
      have hlr : (List.replicate i q).length = i := List.length_replicate
      rw [hlr] at hO ⊢
      by_cases hc0 : (i : Int) < N
      · have q3 : IntKind.i64.wrap ((i : Int) + 1) = ((i + 1 : Nat) : Int) := by rw [IntWalk.i64_in _ (by omega)]; omega
        go_wp2_with (at_builtin; refine wpList_append_ext _ rfl _ _ 48 rfl V4.heap.size 2 i0 (.int .i64 0) 1 8 Try.underlying48 hii hz0 hz1 hz2 rfl (by decide) _ _ _ rfl (own_len hlr (hO.ext ((Ext.refl _).alloc _))) ⟨_, 0, none⟩ 1 1 [.int .i64 q] rfl rfl (one_new _ _ rfl) (one_cell _) (by unfold maxLen; omega) (by omega) (by have := xw.size; simp; omega) ?_; intro v' w3 h3 hx3)
        have hx4 := hx3 V4 (xw.alloc _) (Nat.le_refl _)
        clear hx3
        have h4 := IntsOf.push (zs := List.replicate i q) (ys := List.replicate (i + 1) q) (by rw [hlr]; exact h3) List.replicate_succ'
        clear h3
        go_wp2_with fail
        go_roundw
        case rel => exact ⟨i + 1, by first | rfl | (congr 1), by omega, h4, hx4⟩
        case measure => simp [intOf] <;> omega
      · obtain rfl : N = (i : Int) := by omega
        have hor := hO.row
        have x2 := xw
        clear xw hO hii hz0 hz1 hz2 i0
        have hX := x2
        replace f0 := (hX.cells.1 _ _ hlf).trans f0
        replace f1 := (hX.cells.1 _ _ hlf).trans f1
        replace f2 := (hX.cells.1 _ _ hlf).trans f2
        replace f3 := (hX.cells.1 _ _ hlf).trans f3
        replace f4 := (hX.cells.1 _ _ hlf).trans f4
        replace hlf := Nat.lt_of_lt_of_le hlf hX.size
        replace b0 := (hX.cells.1 _ _ hlb).trans b0
        replace b1 := (hX.cells.1 _ _ hlb).trans b1
        replace hlb := Nat.lt_of_lt_of_le hlb hX.size
        replace c0 := (hX.cells.1 _ _ hlc).trans c0
        replace c1 := (hX.cells.1 _ _ hlc).trans c1
        replace hlc := Nat.lt_of_lt_of_le hlc hX.size
        replace d0 := (hX.cells.1 _ _ hld).trans d0
        replace d1 := (hX.cells.1 _ _ hld).trans d1
        replace hld := Nat.lt_of_lt_of_le hld hX.size
        replace g0 := (hX.cells.1 _ _ hlg).trans g0
        replace g1 := (hX.cells.1 _ _ hlg).trans g1
        replace hlg := Nat.lt_of_lt_of_le hlg hX.size
        replace h0 := (hX.cells.1 _ _ hlh).trans h0
        replace h1 := (hX.cells.1 _ _ hlh).trans h1
        replace hlh := Nat.lt_of_lt_of_le hlh hX.size
        replace hE := hE.trans hX
        clear hX x2
        obtain ⟨l1, l2, l3, l4⟩ := hal.out (List.replicate i q) (by first | rfl | trivial) (by rw [hlr]; omega) (fun j hj => by rw [List.getD_eq_getElem?_getD, List.getElem?_replicate_of_lt (by omega)]; rfl)
        generalize hMs : alM v0 v1 v2 v3 v4 (List.replicate i q) s0 s1 = Ms at *
        replace l4 := Lib.hid l4
        go_upto_region 19 with (first | (go_at_call 33; ((with_reducible refine (implSwingAlong_any v0 v1 v2 v3 v4 s0 s1 oa i oc (List.replicate i q) _ hor hlr (by omega)).mono ?_); rintro e wk41 ⟨vm, rfl, hM, x2⟩; rw [l1, l2, l3]; skip)))
        rw [hMs] at hM
        obtain ⟨ma, mc, rfl⟩ := hM.shape
        clear hM
        generalize hV : World.alloc _ _ = V41
        have hX : Ext wr V41 := by rw [← hV]; exact x2.alloc _
        have hli : wk41.heap.size < V41.heap.size := by rw [← hV]; simp
        have i0 : V41.cell? ⟨wk41.heap.size, 0, none⟩ = some (.int .i64 SE) := by rw [← hV]; simp [go_sem]
        have i1 : V41.cell? ⟨wk41.heap.size, 1, none⟩ = some (.int .i64 SK) := by rw [← hV]; simp [go_sem]
        replace f0 := (hX.cells.1 _ _ hlf).trans f0
        replace f1 := (hX.cells.1 _ _ hlf).trans f1
        replace f2 := (hX.cells.1 _ _ hlf).trans f2
        replace f3 := (hX.cells.1 _ _ hlf).trans f3
        replace f4 := (hX.cells.1 _ _ hlf).trans f4
        replace hlf := Nat.lt_of_lt_of_le hlf hX.size
        replace b0 := (hX.cells.1 _ _ hlb).trans b0
        replace b1 := (hX.cells.1 _ _ hlb).trans b1
        replace hlb := Nat.lt_of_lt_of_le hlb hX.size
        replace c0 := (hX.cells.1 _ _ hlc).trans c0
        replace c1 := (hX.cells.1 _ _ hlc).trans c1
        replace hlc := Nat.lt_of_lt_of_le hlc hX.size
        replace d0 := (hX.cells.1 _ _ hld).trans d0
        replace d1 := (hX.cells.1 _ _ hld).trans d1
        replace hld := Nat.lt_of_lt_of_le hld hX.size
        replace g0 := (hX.cells.1 _ _ hlg).trans g0
        replace g1 := (hX.cells.1 _ _ hlg).trans g1
        replace hlg := Nat.lt_of_lt_of_le hlg hX.size
        replace h0 := (hX.cells.1 _ _ hlh).trans h0
        replace h1 := (hX.cells.1 _ _ hlh).trans h1
        replace hlh := Nat.lt_of_lt_of_le hlh hX.size
        replace hE := hE.trans hX
        clear hX x2 hV
        generalize wk41.heap.size = gI at *
        clear l1 l2 l3 hMs hor hlr
        generalize hMl : Ms.length = M at *
        clear hMl
        have hw := hwh.out (by first | rfl | trivial)
        generalize hWN : wtN v0 v1 v2 v3 v4 s0 s1 = WN at *
        generalize hWD : wtD v0 v1 v2 v3 v4 s0 s1 = WD at *
        generalize hWC : wtC v0 v1 v2 v3 v4 s0 s1 = WC at *
        generalize hXN : wtN v0 v1 v2 v3 v4 SE SK = XN at *
        generalize hXD : wtD v0 v1 v2 v3 v4 SE SK = XD at *
        generalize hXC : wtC v0 v1 v2 v3 v4 SE SK = XC at *
        replace hw := Lib.hid hw
        go_upto_region 20 with (first | (go_at_call 40; ((with_reducible refine (implWheel_any v0 v1 v2 v3 v4 s0 s1 _).mono ?_); rintro e wk42 ⟨rfl, x2⟩; rw [hWN, hWD, hWC]; skip)))
        generalize hV : World.alloc _ _ = V42
        have hX : Ext V41 V42 := by rw [← hV]; exact x2.alloc _
        have hlj : wk42.heap.size < V42.heap.size := by rw [← hV]; simp
        have j0 : V42.cell? ⟨wk42.heap.size, 0, none⟩ = some (.int .i64 WN) := by rw [← hV]; simp [go_sem]
        have j1 : V42.cell? ⟨wk42.heap.size, 1, none⟩ = some (.int .i64 WD) := by rw [← hV]; simp [go_sem]
        replace f0 := (hX.cells.1 _ _ hlf).trans f0
        replace f1 := (hX.cells.1 _ _ hlf).trans f1
        replace f2 := (hX.cells.1 _ _ hlf).trans f2
        replace f3 := (hX.cells.1 _ _ hlf).trans f3
        replace f4 := (hX.cells.1 _ _ hlf).trans f4
        replace hlf := Nat.lt_of_lt_of_le hlf hX.size
        replace b0 := (hX.cells.1 _ _ hlb).trans b0
        replace b1 := (hX.cells.1 _ _ hlb).trans b1
        replace hlb := Nat.lt_of_lt_of_le hlb hX.size
        replace c0 := (hX.cells.1 _ _ hlc).trans c0
        replace c1 := (hX.cells.1 _ _ hlc).trans c1
        replace hlc := Nat.lt_of_lt_of_le hlc hX.size
        replace d0 := (hX.cells.1 _ _ hld).trans d0
        replace d1 := (hX.cells.1 _ _ hld).trans d1
        replace hld := Nat.lt_of_lt_of_le hld hX.size
        replace g0 := (hX.cells.1 _ _ hlg).trans g0
        replace g1 := (hX.cells.1 _ _ hlg).trans g1
        replace hlg := Nat.lt_of_lt_of_le hlg hX.size
        replace h0 := (hX.cells.1 _ _ hlh).trans h0
        replace h1 := (hX.cells.1 _ _ hlh).trans h1
        replace hlh := Nat.lt_of_lt_of_le hlh hX.size
        replace i0 := (hX.cells.1 _ _ hli).trans i0
        replace i1 := (hX.cells.1 _ _ hli).trans i1
        replace hli := Nat.lt_of_lt_of_le hli hX.size
        replace hE := hE.trans hX
        clear hX x2 hV
        generalize wk42.heap.size = gJ at *
        go_upto_region 21 with (first | (go_at_call 40; ((with_reducible refine (implWheel_any v0 v1 v2 v3 v4 SE SK _).mono ?_); rintro e wk43 ⟨rfl, x2⟩; rw [hXN, hXD, hXC]; skip)))
        generalize hV : World.alloc _ _ = V43
        have hX : Ext V42 V43 := by rw [← hV]; exact x2.alloc _
        have hlk : wk43.heap.size < V43.heap.size := by rw [← hV]; simp
        have k0 : V43.cell? ⟨wk43.heap.size, 0, none⟩ = some (.int .i64 XN) := by rw [← hV]; simp [go_sem]
        have k1 : V43.cell? ⟨wk43.heap.size, 1, none⟩ = some (.int .i64 XD) := by rw [← hV]; simp [go_sem]
        replace f0 := (hX.cells.1 _ _ hlf).trans f0
        replace f1 := (hX.cells.1 _ _ hlf).trans f1
        replace f2 := (hX.cells.1 _ _ hlf).trans f2
        replace f3 := (hX.cells.1 _ _ hlf).trans f3
        replace f4 := (hX.cells.1 _ _ hlf).trans f4
        replace hlf := Nat.lt_of_lt_of_le hlf hX.size
        replace b0 := (hX.cells.1 _ _ hlb).trans b0
        replace b1 := (hX.cells.1 _ _ hlb).trans b1
        replace hlb := Nat.lt_of_lt_of_le hlb hX.size
        replace c0 := (hX.cells.1 _ _ hlc).trans c0
        replace c1 := (hX.cells.1 _ _ hlc).trans c1
        replace hlc := Nat.lt_of_lt_of_le hlc hX.size
        replace d0 := (hX.cells.1 _ _ hld).trans d0
        replace d1 := (hX.cells.1 _ _ hld).trans d1
        replace hld := Nat.lt_of_lt_of_le hld hX.size
        replace g0 := (hX.cells.1 _ _ hlg).trans g0
        replace g1 := (hX.cells.1 _ _ hlg).trans g1
        replace hlg := Nat.lt_of_lt_of_le hlg hX.size
        replace h0 := (hX.cells.1 _ _ hlh).trans h0
        replace h1 := (hX.cells.1 _ _ hlh).trans h1
        replace hlh := Nat.lt_of_lt_of_le hlh hX.size
        replace i0 := (hX.cells.1 _ _ hli).trans i0
        replace i1 := (hX.cells.1 _ _ hli).trans i1
        replace hli := Nat.lt_of_lt_of_le hli hX.size
        replace j0 := (hX.cells.1 _ _ hlj).trans j0
        replace j1 := (hX.cells.1 _ _ hlj).trans j1
        replace hlj := Nat.lt_of_lt_of_le hlj hX.size
        replace hE := hE.trans hX
        clear hX x2 hV
        generalize wk43.heap.size = gK at *
        go_upto_region 22 with (first | (go_at_call 39; ((with_reducible refine (specWheel_any v0 v1 v2 v3 v4 SE SK _).mono ?_); rintro e wk44 ⟨rfl, x2⟩; rw [hXN, hXD, hXC]; skip)))
        generalize hV : World.alloc _ _ = V44
        have hX : Ext V43 V44 := by rw [← hV]; exact x2.alloc _
        have hlm : wk44.heap.size < V44.heap.size := by rw [← hV]; simp
        have m0 : V44.cell? ⟨wk44.heap.size, 0, none⟩ = some (.int .i64 XN) := by rw [← hV]; simp [go_sem]
        have m1 : V44.cell? ⟨wk44.heap.size, 1, none⟩ = some (.int .i64 XD) := by rw [← hV]; simp [go_sem]
        replace f0 := (hX.cells.1 _ _ hlf).trans f0
        replace f1 := (hX.cells.1 _ _ hlf).trans f1
        replace f2 := (hX.cells.1 _ _ hlf).trans f2
        replace f3 := (hX.cells.1 _ _ hlf).trans f3
        replace f4 := (hX.cells.1 _ _ hlf).trans f4
        replace hlf := Nat.lt_of_lt_of_le hlf hX.size
        replace b0 := (hX.cells.1 _ _ hlb).trans b0
        replace b1 := (hX.cells.1 _ _ hlb).trans b1
        replace hlb := Nat.lt_of_lt_of_le hlb hX.size
        replace c0 := (hX.cells.1 _ _ hlc).trans c0
        replace c1 := (hX.cells.1 _ _ hlc).trans c1
        replace hlc := Nat.lt_of_lt_of_le hlc hX.size
        replace d0 := (hX.cells.1 _ _ hld).trans d0
        replace d1 := (hX.cells.1 _ _ hld).trans d1
        replace hld := Nat.lt_of_lt_of_le hld hX.size
        replace g0 := (hX.cells.1 _ _ hlg).trans g0
        replace g1 := (hX.cells.1 _ _ hlg).trans g1
        replace hlg := Nat.lt_of_lt_of_le hlg hX.size
        replace h0 := (hX.cells.1 _ _ hlh).trans h0
        replace h1 := (hX.cells.1 _ _ hlh).trans h1
        replace hlh := Nat.lt_of_lt_of_le hlh hX.size
        replace i0 := (hX.cells.1 _ _ hli).trans i0
        replace i1 := (hX.cells.1 _ _ hli).trans i1
        replace hli := Nat.lt_of_lt_of_le hli hX.size
        replace j0 := (hX.cells.1 _ _ hlj).trans j0
        replace j1 := (hX.cells.1 _ _ hlj).trans j1
        replace hlj := Nat.lt_of_lt_of_le hlj hX.size
        replace k0 := (hX.cells.1 _ _ hlk).trans k0
        replace k1 := (hX.cells.1 _ _ hlk).trans k1
        replace hlk := Nat.lt_of_lt_of_le hlk hX.size
        replace hE := hE.trans hX
        clear hX x2 hV
        generalize wk44.heap.size = gM at *
        clear hWN hWD hWC hXN hXD hXC hSE hSK hSC
        have z1 : IntKind.i64.wrap (s1 + (i : Int)) = s1 + (i : Int) := IntWalk.i64_in _ (by omega)
        have z2 : (SK == s1 + (i : Int) - (M : Int)) = true := by simpa using l4.out
        have z3 : IntKind.i64.wrap (s1 + (i : Int) - (M : Int)) = s1 + (i : Int) - (M : Int) := IntWalk.i64_in _ (by have hsk := hsk.out; have e := l4.out; omega)
        rcases hw.out with hw1 | hw1 | ⟨hw1, hw2, hw3⟩
        · have z4 : (WC != 0) = true := by simpa using hw1
          go_wp2_with fail
          go_ret
          exact ⟨rfl, hE⟩
        · have z4 : (XC != 0) = true := by simpa using hw1
          go_wp2_with fail
          all_goals go_ret
          all_goals exact ⟨rfl, hE⟩
        · have z5 := cmpLe_le (WN * XD) (XN * WD)
          go_wp2_with (first | (go_at_call 56; refine (compare_any WN WD XN XD _ hw1 hw2 hw3).mono ?_; rintro e w9 ⟨rfl, x9⟩))
          all_goals go_ret
          all_goals exact ⟨rfl, by first | exact hE.trans x9 | exact hE⟩
  · have hc2 : (SC != 0) = true := by simpa using hc
    go_upto_region 5 with (first | (go_at_call 47; ((with_reducible refine (implSwingMany_any v0 v1 v2 v3 v4 q N s0 s1 _).mono ?_); rintro e wk1 ⟨rfl, x2⟩; rw [hSE, hSK, hSC]; skip)))
    generalize hV : World.alloc _ _ = V1
    have hX : Ext V V1 := by rw [← hV]; exact x2.alloc _
    have hlc : wk1.heap.size < V1.heap.size := by rw [← hV]; simp
    have c0 : V1.cell? ⟨wk1.heap.size, 0, none⟩ = some (.int .i64 SE) := by rw [← hV]; simp [go_sem]
    have c1 : V1.cell? ⟨wk1.heap.size, 1, none⟩ = some (.int .i64 SK) := by rw [← hV]; simp [go_sem]
    replace f0 := (hX.cells.1 _ _ hlf).trans f0
    replace f1 := (hX.cells.1 _ _ hlf).trans f1
    replace f2 := (hX.cells.1 _ _ hlf).trans f2
    replace f3 := (hX.cells.1 _ _ hlf).trans f3
    replace f4 := (hX.cells.1 _ _ hlf).trans f4
    replace hlf := Nat.lt_of_lt_of_le hlf hX.size
    replace b0 := (hX.cells.1 _ _ hlb).trans b0
    replace b1 := (hX.cells.1 _ _ hlb).trans b1
    replace hlb := Nat.lt_of_lt_of_le hlb hX.size
    replace hE := hE.trans hX
    clear hX x2 hV
    generalize wk1.heap.size = gC at *
    go_upto_region 6 with (first | (go_at_call 46; ((with_reducible refine (specSwingMany_any v0 v1 v2 v3 v4 q N s0 s1 _).mono ?_); rintro e wk2 ⟨rfl, x2⟩; rw [hSE, hSK, hSC]; skip)))
    generalize hV : World.alloc _ _ = V2
    have hX : Ext V1 V2 := by rw [← hV]; exact x2.alloc _
    have hld : wk2.heap.size < V2.heap.size := by rw [← hV]; simp
    have d0 : V2.cell? ⟨wk2.heap.size, 0, none⟩ = some (.int .i64 SE) := by rw [← hV]; simp [go_sem]
    have d1 : V2.cell? ⟨wk2.heap.size, 1, none⟩ = some (.int .i64 SK) := by rw [← hV]; simp [go_sem]
    replace f0 := (hX.cells.1 _ _ hlf).trans f0
    replace f1 := (hX.cells.1 _ _ hlf).trans f1
    replace f2 := (hX.cells.1 _ _ hlf).trans f2
    replace f3 := (hX.cells.1 _ _ hlf).trans f3
    replace f4 := (hX.cells.1 _ _ hlf).trans f4
    replace hlf := Nat.lt_of_lt_of_le hlf hX.size
    replace b0 := (hX.cells.1 _ _ hlb).trans b0
    replace b1 := (hX.cells.1 _ _ hlb).trans b1
    replace hlb := Nat.lt_of_lt_of_le hlb hX.size
    replace c0 := (hX.cells.1 _ _ hlc).trans c0
    replace c1 := (hX.cells.1 _ _ hlc).trans c1
    replace hlc := Nat.lt_of_lt_of_le hlc hX.size
    replace hE := hE.trans hX
    clear hX x2 hV
    generalize wk2.heap.size = gD at *
    have x0 := Ext.refl V2
    go_region_held3 (fun w' => w'.cell? ⟨gE, 0, none⟩ = some (.int .i64 v0) ∧ w'.cell? ⟨gE, 1, none⟩ = some (.int .i64 v1) ∧ w'.cell? ⟨gE, 2, none⟩ = some (.int .i64 v2) ∧ w'.cell? ⟨gE, 3, none⟩ = some (.int .i64 v3) ∧ w'.cell? ⟨gE, 4, none⟩ = some (.int .i64 v4) ∧ w'.cell? ⟨gB, 0, none⟩ = some (.int .i64 s0) ∧ w'.cell? ⟨gB, 1, none⟩ = some (.int .i64 s1) ∧ w'.cell? ⟨gC, 0, none⟩ = some (.int .i64 SE) ∧ w'.cell? ⟨gC, 1, none⟩ = some (.int .i64 SK) ∧ w'.cell? ⟨gD, 0, none⟩ = some (.int .i64 SE) ∧ w'.cell? ⟨gD, 1, none⟩ = some (.int .i64 SK))
      (first | (refine ⟨?_, ?_, ?_, ?_, ?_, ?_, ?_, ?_, ?_, ?_, ?_⟩ <;> with_reducible assumption) | (refine ⟨?_, ?_, ?_, ?_, ?_, ?_, ?_, ?_, ?_, ?_, ?_⟩ <;> (refine keep_ext (W := V2) ?_ (by assumption) (by assumption); exact x0)) | go_keep)
      (first | (go_at_call 23; refine (implValidBeat_any v0 v1 v2 v3 v4 s0 s1 _).mono ?_; rintro e w8 ⟨rfl, x2⟩; replace x0 := (by first | exact x0.trans x2 | exact (x0.drew).trans x2 | exact (x0.drewN _).trans x2); clear x2) | (go_at_call 21; refine (specValidBeat_any v0 v1 v2 v3 v4 s0 s1 _).mono ?_; rintro e w8 ⟨rfl, x2⟩; replace x0 := (by first | exact x0.trans x2 | exact (x0.drew).trans x2 | exact (x0.drewN _).trans x2); clear x2))
    have x2 := x0
    clear x0
    have hX := x2
    replace f0 := (hX.cells.1 _ _ hlf).trans f0
    replace f1 := (hX.cells.1 _ _ hlf).trans f1
    replace f2 := (hX.cells.1 _ _ hlf).trans f2
    replace f3 := (hX.cells.1 _ _ hlf).trans f3
    replace f4 := (hX.cells.1 _ _ hlf).trans f4
    replace hlf := Nat.lt_of_lt_of_le hlf hX.size
    replace b0 := (hX.cells.1 _ _ hlb).trans b0
    replace b1 := (hX.cells.1 _ _ hlb).trans b1
    replace hlb := Nat.lt_of_lt_of_le hlb hX.size
    replace c0 := (hX.cells.1 _ _ hlc).trans c0
    replace c1 := (hX.cells.1 _ _ hlc).trans c1
    replace hlc := Nat.lt_of_lt_of_le hlc hX.size
    replace d0 := (hX.cells.1 _ _ hld).trans d0
    replace d1 := (hX.cells.1 _ _ hld).trans d1
    replace hld := Nat.lt_of_lt_of_le hld hX.size
    replace hE := hE.trans hX
    clear hX x2
    go_wp2_with fail
    go_ret
    exact ⟨rfl, hE⟩
end Go.Proofs.Ytehebhphlaghfaa

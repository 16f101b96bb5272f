/-
  What the law FnMoreEnergy draws from a code.
-/
import Derived.Test.YtehebhphlaghfaaPeel
import Derived.Test.YtehebhphlaghfaaIntsS
import Derived.Deep.DeepCutAuto
namespace Go.Proofs.Ytehebhphlaghfaa
open Go.RowKit
set_option linter.unusedSimpArgs false
set_option linter.unusedVariables false

theorem make_torques (xn : Nat) (h : xn ≤ 1) (W : World) : (Instr.makeSlice 48 (.int .i64 (2000 + (xn : Int))) (.int .i64 (2000 + (xn : Int)))).run Try.prog W = .ok (.slice (some ⟨W.heap.size, 0, none⟩) (2000 + xn) (2000 + xn)) (W.alloc (.cells (madeCells #[.int .i64 0] ((2000 + xn) * 1)) 2)) := by
  rw [show (2000 : Int) + (xn : Int) = ((2000 + xn : Nat) : Int) by omega]
  exact run_make_ints (P := Try.prog) 48 2 Try.underlying48 (by kernel_rfl) (2000 + xn) (2000 + xn) (Nat.le_refl _) (by omega) W
set_option maxRecDepth 100000 in
set_option maxHeartbeats 2000000 in
theorem drawAlong_any (a : Option Addr) (n cp : Nat) (w : World) (hB0 : RowB w w.heap.size a n) (hn : n ≤ 1048576) :
    Calls Try.prog 32 #[.slice a n cp] w fun e w' => (∃ v0 v1 v2 v3 v4 v qs s0 s1, e = .returned (.tuple #[.agg #[.int .i64 v0, .int .i64 v1, .int .i64 v2, .int .i64 v3, .int .i64 v4], v, .agg #[.int .i64 s0, .int .i64 s1]]) ∧ IntsOf w' w.heap.size v qs ∧ qs.length ≤ 2010) ∧ Ext w w' := by
  go_enter Try.func32, Try.ntmps32
  obtain ⟨i0, hii, hz0, hz1, hz2⟩ := int_info
  go_upto_region 1 with fail
  generalize hW : World.alloc (World.alloc _ _) _ = W
  have xW : Ext w W := by rw [← hW]; exact ((Ext.refl _).alloc _).alloc _
  have hlr : w.heap.size < W.heap.size := by rw [← hW]; simp; try omega
  have r0 : W.cell? ⟨w.heap.size, 0, none⟩ = some (.int .i64 0) := by rw [← hW]; simp [go_sem]
  have rz0 : W.frozen? ⟨w.heap.size, 0, none⟩ = false := by rw [← hW]; simp
  have r1 : W.cell? ⟨w.heap.size, 1, none⟩ = some (.int .i64 0) := by rw [← hW]; simp [go_sem]
  have rz1 : W.frozen? ⟨w.heap.size, 1, none⟩ = false := by rw [← hW]; simp
  have r2 : W.cell? ⟨w.heap.size, 2, none⟩ = some (.int .i64 0) := by rw [← hW]; simp [go_sem]
  have rz2 : W.frozen? ⟨w.heap.size, 2, none⟩ = false := by rw [← hW]; simp
  have r3 : W.cell? ⟨w.heap.size, 3, none⟩ = some (.int .i64 0) := by rw [← hW]; simp [go_sem]
  have rz3 : W.frozen? ⟨w.heap.size, 3, none⟩ = false := by rw [← hW]; simp
  have r4 : W.cell? ⟨w.heap.size, 4, none⟩ = some (.int .i64 0) := by rw [← hW]; simp [go_sem]
  have rz4 : W.frozen? ⟨w.heap.size, 4, none⟩ = false := by rw [← hW]; simp
  have hlb : w.heap.size + 1 < W.heap.size := by rw [← hW]; simp; try omega
  have b0 : W.cell? ⟨w.heap.size + 1, 0, none⟩ = some (.int .i64 0) := by rw [← hW]; simp [go_sem]
  have bz0 : W.frozen? ⟨w.heap.size + 1, 0, none⟩ = false := by rw [← hW]; simp
  have b1 : W.cell? ⟨w.heap.size + 1, 1, none⟩ = some (.int .i64 0) := by rw [← hW]; simp [go_sem]
  have bz1 : W.frozen? ⟨w.heap.size + 1, 1, none⟩ = false := by rw [← hW]; simp
  clear hW
  have hgr := hlr
  have hgb := hlb
  go_upto_region 2 with (first | (go_at_call 61; refine (l00From_any a n cp _).mono ?_; rintro e w1 ⟨rfl, hS, x1⟩))
  have hB : RowB w1 W.heap.size a n := hB0.to (xW.trans x1) xW.size
  replace r0 := (x1.cells.1 _ _ hlr).trans r0
  replace rz0 := (x1.cells.2.1 _ _ hlr).trans rz0
  replace r1 := (x1.cells.1 _ _ hlr).trans r1
  replace rz1 := (x1.cells.2.1 _ _ hlr).trans rz1
  replace r2 := (x1.cells.1 _ _ hlr).trans r2
  replace rz2 := (x1.cells.2.1 _ _ hlr).trans rz2
  replace r3 := (x1.cells.1 _ _ hlr).trans r3
  replace rz3 := (x1.cells.2.1 _ _ hlr).trans rz3
  replace r4 := (x1.cells.1 _ _ hlr).trans r4
  replace rz4 := (x1.cells.2.1 _ _ hlr).trans rz4
  replace hlr := Nat.lt_of_lt_of_le hlr x1.size
  replace b0 := (x1.cells.1 _ _ hlb).trans b0
  replace bz0 := (x1.cells.2.1 _ _ hlb).trans bz0
  replace b1 := (x1.cells.1 _ _ hlb).trans b1
  replace bz1 := (x1.cells.2.1 _ _ hlb).trans bz1
  replace hlb := Nat.lt_of_lt_of_le hlb x1.size
  have hww : Ext w w1 := xW.trans x1
  clear x1 xW hB0
  generalize W.heap.size = g at *
  have hner : some w.heap.size ≠ some g := fun e => by injection e; omega
  have hneb : some (w.heap.size + 1) ≠ some g := fun e => by injection e; omega
  go_upto_region 3 with (first | (go_at_call 62; refine (drawBent_any g n cp 0 a _ hS hB (by omega) hn).mono ?_; rintro e w2 ⟨⟨v0, v1, v2, v3, v4, rfl⟩, hS2, hWc⟩))
  generalize hV : World.alloc _ _ = V
  have xV : Ext w2 V := by rw [← hV]; exact (Ext.refl _).alloc _
  have hX : Wrote (some g) w1 V := hWc.trans (Wrote.of_ext _ xV)
  have hs1 := hWc.size
  have hxr : w2.heap.size ≠ w.heap.size := by omega
  have hrx : w.heap.size ≠ w2.heap.size := by omega
  have hxb : w2.heap.size ≠ w.heap.size + 1 := by omega
  have hbx : w.heap.size + 1 ≠ w2.heap.size := by omega
  replace r0 := (hX.cell hlr hner).trans r0
  replace rz0 := (hX.free hlr hner).trans rz0
  replace r1 := (hX.cell hlr hner).trans r1
  replace rz1 := (hX.free hlr hner).trans rz1
  replace r2 := (hX.cell hlr hner).trans r2
  replace rz2 := (hX.free hlr hner).trans rz2
  replace r3 := (hX.cell hlr hner).trans r3
  replace rz3 := (hX.free hlr hner).trans rz3
  replace r4 := (hX.cell hlr hner).trans r4
  replace rz4 := (hX.free hlr hner).trans rz4
  replace hlr := Nat.lt_of_lt_of_le hlr hX.size
  replace b0 := (hX.cell hlb hneb).trans b0
  replace bz0 := (hX.free hlb hneb).trans bz0
  replace b1 := (hX.cell hlb hneb).trans b1
  replace bz1 := (hX.free hlb hneb).trans bz1
  replace hlb := Nat.lt_of_lt_of_le hlb hX.size
  have hlx : w2.heap.size < V.heap.size := by rw [← hV]; simp; try omega
  have x0 : V.cell? ⟨w2.heap.size, 0, none⟩ = some (.int .i64 v0) := by rw [← hV]; simp [go_sem]
  have xz0 : V.frozen? ⟨w2.heap.size, 0, none⟩ = false := by rw [← hV]; simp
  have x1 : V.cell? ⟨w2.heap.size, 1, none⟩ = some (.int .i64 v1) := by rw [← hV]; simp [go_sem]
  have xz1 : V.frozen? ⟨w2.heap.size, 1, none⟩ = false := by rw [← hV]; simp
  have x2 : V.cell? ⟨w2.heap.size, 2, none⟩ = some (.int .i64 v2) := by rw [← hV]; simp [go_sem]
  have xz2 : V.frozen? ⟨w2.heap.size, 2, none⟩ = false := by rw [← hV]; simp
  have x3 : V.cell? ⟨w2.heap.size, 3, none⟩ = some (.int .i64 v3) := by rw [← hV]; simp [go_sem]
  have xz3 : V.frozen? ⟨w2.heap.size, 3, none⟩ = false := by rw [← hV]; simp
  have x4 : V.cell? ⟨w2.heap.size, 4, none⟩ = some (.int .i64 v4) := by rw [← hV]; simp [go_sem]
  have xz4 : V.frozen? ⟨w2.heap.size, 4, none⟩ = false := by rw [← hV]; simp
  have hnex : some w2.heap.size ≠ some g := fun e => by injection e; have := hS2.lt; omega
  have hgw := hS2.lt
  replace hB := hB.wrote hX
  have hS := hS2.ext xV
  have hwV := Wrote.ext hww hX (fun k hk => by injection hk; omega)
  have hgI : g < V.heap.size := by have := xV.size; omega
  clear hV hWc hS2 xV hX hs1 hww hgw
  generalize w2.heap.size = gX at *
  have hrV := hlr
  have hbV := hlb
  go_upto_region 4 with fail
  have hI : IntsOf (V.alloc (Obj.cells #[] 2)) V.heap.size (.slice (some ⟨V.heap.size, 0, none⟩) 0 0) [] := by
    have := World.ownsRow_made (w := V) (base := V.heap.size) (e := 2) (size := 1) #[] 0 (by simp) (by decide) rfl
    simpa [IntsOf] using this
  have hW0 : Wrote (some g) V (V.alloc (Obj.cells #[] 2)) := Wrote.alloc _ _ _
  have hBV := hB
  replace hS := hS.ext ((Ext.refl _).alloc (Obj.cells #[] 2))
  replace hB := hB.wrote hW0
  have hVb : w.heap.size ≤ V.heap.size := hwV.size
  generalize hV1 : World.alloc _ _ = V1 at *
  clear hV1
  go_upto_region 5 with (first | (go_at_call 70; refine (pick_any g n cp _ _ a _ hS hB (by omega) hn).mono ?_; rintro e wp ⟨x, rfl, hx, hS2, hWp⟩))
  replace hI := hI.src hWp hgI
  replace hB := hB.wrote hWp
  have hS := hS2
  replace hW0 := hW0.trans hWp
  clear hS2 hWp
  obtain ⟨j0, rfl⟩ : ∃ j : Nat, x = j := ⟨x.toNat, by omega⟩
  have hj0 : j0 ≤ 19 := by omega
  clear hx
  go_loopw [7, 8] (fun vv kk wx => ∃ (j t : Nat) (qs : List Int), kk = .int .i64 j ∧ qs.length + j ≤ 19 ∧ t + 4 * j ≤ 110 ∧ IntsOf wx V.heap.size vv qs ∧ Src wx g a n cp t ∧ Wrote (some g) V wx) (fun _ kk _ => (intOf kk).toNat)
  case atStart => exact ⟨j0, _, [], rfl, by simpa using hj0, by omega, hI, hS, hW0⟩
  case round =>
    clear hI hS hW0 hB hj0
    obtain ⟨j, t, qs, rfl, hl, ht, hI, hS, hWw⟩ := hrel
    have hB := hBV.wrote hWw
    have hW0 := Wrote.refl (some g) wr
    obtain ⟨sa, sc, rfl⟩ := hI.shape
    by_cases h0 : j = 0
    · subst h0
      clear hW0
      go_upto_region 10 with (first | (go_at_call 71; refine (one_any g n cp _ _ a _ hS hB (by omega) hn).mono ?_; rintro e w5 ⟨c, rfl, hS2, hW⟩; replace hI := hI.src hW hgI; replace hB := hB.wrote hW; replace hWw := hWw.trans hW; clear hS hW; have hS := hS2; clear hS2) | (go_at_call 70; refine (pick_any g n cp _ _ a _ hS hB (by omega) hn).mono ?_; rintro e w6 ⟨x, rfl, hx, hS2, hW⟩; replace hB := hB.wrote hW; replace hWw := hWw.trans hW; clear hS hW hI; have hS := hS2; clear hS2; obtain ⟨xn, rfl⟩ : ∃ j : Nat, x = j := ⟨x.toNat, (by omega)⟩; have hxn : xn ≤ 1 := (by omega); have hmk := (fun W => make_torques xn hxn W)))
      · generalize hZ : World.alloc _ _ = Z
        have xZ : Ext w6 Z := by rw [← hZ]; exact (Ext.refl _).alloc _
        have hI : IntsOf Z V.heap.size (.slice (some ⟨w6.heap.size, 0, none⟩) (2000 + xn) (2000 + xn)) (List.replicate (2000 + xn) 0) := by rw [← hZ]; have h := ints_full w6 V.heap.size (2000 + xn) (by have := hWw.size; omega) (by unfold maxLen; omega); rw [Nat.mul_one] at h; exact h
        have hqs : (List.replicate (2000 + xn) (0 : Int)).length ≤ 2001 := by rw [List.length_replicate]; omega
        replace hS := hS.ext xZ
        replace hB := hB.ext xZ
        replace hWw := hWw.trans (Wrote.of_ext _ xZ)
        clear hZ xZ hmk
        generalize List.replicate (2000 + xn) (0 : Int) = qs at *
        have r0 := (hWw.cell hlr hner).trans r0
        have rz0 := (hWw.free hlr hner).trans rz0
        have r1 := (hWw.cell hlr hner).trans r1
        have rz1 := (hWw.free hlr hner).trans rz1
        have r2 := (hWw.cell hlr hner).trans r2
        have rz2 := (hWw.free hlr hner).trans rz2
        have r3 := (hWw.cell hlr hner).trans r3
        have rz3 := (hWw.free hlr hner).trans rz3
        have r4 := (hWw.cell hlr hner).trans r4
        have rz4 := (hWw.free hlr hner).trans rz4
        have hlr := Nat.lt_of_lt_of_le hlr hWw.size
        have b0 := (hWw.cell hlb hneb).trans b0
        have bz0 := (hWw.free hlb hneb).trans bz0
        have b1 := (hWw.cell hlb hneb).trans b1
        have bz1 := (hWw.free hlb hneb).trans bz1
        have hlb := Nat.lt_of_lt_of_le hlb hWw.size
        have x0 := (hWw.cell hlx hnex).trans x0
        have xz0 := (hWw.free hlx hnex).trans xz0
        have x1 := (hWw.cell hlx hnex).trans x1
        have xz1 := (hWw.free hlx hnex).trans xz1
        have x2 := (hWw.cell hlx hnex).trans x2
        have xz2 := (hWw.free hlx hnex).trans xz2
        have x3 := (hWw.cell hlx hnex).trans x3
        have xz3 := (hWw.free hlx hnex).trans xz3
        have x4 := (hWw.cell hlx hnex).trans x4
        have xz4 := (hWw.free hlx hnex).trans xz4
        have hlx := Nat.lt_of_lt_of_le hlx hWw.size
        have hwV := Wrote.ext hwV hWw (fun k hk => by injection hk; omega)
        have hW0 := Wrote.refl (some g) Z
        go_region_held3 (fun w' => w'.cell? ⟨gX, 0, none⟩ = some (.int .i64 v0) ∧ w'.cell? ⟨gX, 1, none⟩ = some (.int .i64 v1) ∧ w'.cell? ⟨gX, 2, none⟩ = some (.int .i64 v2) ∧ w'.cell? ⟨gX, 3, none⟩ = some (.int .i64 v3) ∧ w'.cell? ⟨gX, 4, none⟩ = some (.int .i64 v4))
          (first | (refine ⟨?_, ?_, ?_, ?_, ?_⟩ <;> with_reducible assumption) | (refine ⟨?_, ?_, ?_, ?_, ?_⟩ <;> with_reducible (refine (kx _).trans ?_ <;> assumption)) | (refine ⟨?_, ?_, ?_, ?_, ?_⟩ <;> with_reducible ((repeat (refine keep_other (by assumption) ?_)); refine (kx _).trans ?_; assumption)) | go_keep)
          (first | (go_at_call 72; refine (drawBeat_any v0 v1 v2 v3 v4 g n cp _ a _ (by first | exact hS | exact hS.ext ((Ext.refl _).drew) | exact hS.ext ((Ext.refl _).drewN _)) (by first | exact hB | exact hB.ext ((Ext.refl _).drew) | exact hB.ext ((Ext.refl _).drewN _)) (by omega) hn).mono ?_; rintro e w9 ⟨⟨s0, s1, rfl⟩, hS2, hWc⟩; (first | (replace hI := hI.src hWc hgI; replace hW0 := hW0.trans hWc) | (replace hI := (hI.ext ((Ext.refl _).drew)).src hWc hgI; replace hW0 := (hW0.trans (Wrote.of_ext _ ((Ext.refl _).drew))).trans hWc) | (replace hI := (hI.ext ((Ext.refl _).drewN _)).src hWc hgI; replace hW0 := (hW0.trans (Wrote.of_ext _ ((Ext.refl _).drewN _))).trans hWc)); have kr : ∀ o, w9.cell? ⟨w.heap.size, o, none⟩ = _ := (fun o => hW0.cell hlr hner); have kzr : ∀ o, w9.frozen? ⟨w.heap.size, o, none⟩ = _ := (fun o => hW0.free hlr hner); have kb : ∀ o, w9.cell? ⟨w.heap.size + 1, o, none⟩ = _ := (fun o => hW0.cell hlb hneb); have kzb : ∀ o, w9.frozen? ⟨w.heap.size + 1, o, none⟩ = _ := (fun o => hW0.free hlb hneb); have kx : ∀ o, w9.cell? ⟨gX, o, none⟩ = _ := (fun o => hW0.cell hlx hnex); have kzx : ∀ o, w9.frozen? ⟨gX, o, none⟩ = _ := (fun o => hW0.free hlx hnex)))
        all_goals go_wp2_with fail
        all_goals generalize hU : World.setCell _ _ _ = U9
        all_goals have hW9 : Ext w U9 := by rw [← hU]; (repeat (first | (with_reducible refine Ext.drew ?_) | (with_reducible refine Ext.setCell ?_ ?_ _; rotate_left; focus (first | (simp; done) | (simp; omega) | omega)))); exact Wrote.ext hwV hW0 (fun k hk => by injection hk; omega)
        all_goals have hI9 : IntsOf U9 w.heap.size (.slice (some ⟨w6.heap.size, 0, none⟩) (2000 + xn) (2000 + xn)) qs := by rw [← hU]; refine IntsOf.low ?_ hVb; (repeat (first | (with_reducible refine IntsOf.drew ?_) | (with_reducible refine IntsOf.other ?_ ?_ _; rotate_left; focus (first | assumption | omega)))); exact hI
        all_goals have nr0 : U9.cell? ⟨w.heap.size, 0, none⟩ = some (.int .i64 v0) := by rw [← hU]; ((repeat (first | (with_reducible refine cell_drew ?_) | (with_reducible refine cell_same ?_) | (with_reducible refine keep_other ?_ ?_; focus (first | assumption | omega)) | (with_reducible refine cell_off ?_ ?_; focus decide))); (repeat (first | (with_reducible refine some_drew ?_) | (with_reducible refine some_other ?_)))); rw [kr, r0]; rfl
        all_goals have nr1 : U9.cell? ⟨w.heap.size, 1, none⟩ = some (.int .i64 v1) := by rw [← hU]; ((repeat (first | (with_reducible refine cell_drew ?_) | (with_reducible refine cell_same ?_) | (with_reducible refine keep_other ?_ ?_; focus (first | assumption | omega)) | (with_reducible refine cell_off ?_ ?_; focus decide))); (repeat (first | (with_reducible refine some_drew ?_) | (with_reducible refine some_other ?_)))); rw [kr, r1]; rfl
        all_goals have nr2 : U9.cell? ⟨w.heap.size, 2, none⟩ = some (.int .i64 v2) := by rw [← hU]; ((repeat (first | (with_reducible refine cell_drew ?_) | (with_reducible refine cell_same ?_) | (with_reducible refine keep_other ?_ ?_; focus (first | assumption | omega)) | (with_reducible refine cell_off ?_ ?_; focus decide))); (repeat (first | (with_reducible refine some_drew ?_) | (with_reducible refine some_other ?_)))); rw [kr, r2]; rfl
        all_goals have nr3 : U9.cell? ⟨w.heap.size, 3, none⟩ = some (.int .i64 v3) := by rw [← hU]; ((repeat (first | (with_reducible refine cell_drew ?_) | (with_reducible refine cell_same ?_) | (with_reducible refine keep_other ?_ ?_; focus (first | assumption | omega)) | (with_reducible refine cell_off ?_ ?_; focus decide))); (repeat (first | (with_reducible refine some_drew ?_) | (with_reducible refine some_other ?_)))); rw [kr, r3]; rfl
        all_goals have nr4 : U9.cell? ⟨w.heap.size, 4, none⟩ = some (.int .i64 v4) := by rw [← hU]; ((repeat (first | (with_reducible refine cell_drew ?_) | (with_reducible refine cell_same ?_) | (with_reducible refine keep_other ?_ ?_; focus (first | assumption | omega)) | (with_reducible refine cell_off ?_ ?_; focus decide))); (repeat (first | (with_reducible refine some_drew ?_) | (with_reducible refine some_other ?_)))); rw [kr, r4]; rfl
        all_goals have nb0 : U9.cell? ⟨w.heap.size + 1, 0, none⟩ = some (.int .i64 s0) := by rw [← hU]; ((repeat (first | (with_reducible refine cell_drew ?_) | (with_reducible refine cell_same ?_) | (with_reducible refine keep_other ?_ ?_; focus (first | assumption | omega)) | (with_reducible refine cell_off ?_ ?_; focus decide))); (repeat (first | (with_reducible refine some_drew ?_) | (with_reducible refine some_other ?_)))); rw [kb, b0]; rfl
        all_goals have nb1 : U9.cell? ⟨w.heap.size + 1, 1, none⟩ = some (.int .i64 s1) := by rw [← hU]; ((repeat (first | (with_reducible refine cell_drew ?_) | (with_reducible refine cell_same ?_) | (with_reducible refine keep_other ?_ ?_; focus (first | assumption | omega)) | (with_reducible refine cell_off ?_ ?_; focus decide))); (repeat (first | (with_reducible refine some_drew ?_) | (with_reducible refine some_other ?_)))); rw [kb, b1]; rfl
        all_goals clear hU
        all_goals refine bodyPost_ret (v := ?_) ?_ rfl ?_
        all_goals try (simp [results, Try.results32, go_sem, nr0, nr1, nr2, nr3, nr4, nb0, nb1]; exact rfl)
        all_goals exact ⟨⟨_, _, _, _, _, _, _, _, _, rfl, hI9, by omega⟩, hW9⟩
      · have r0 := (hWw.cell hlr hner).trans r0
        have rz0 := (hWw.free hlr hner).trans rz0
        have r1 := (hWw.cell hlr hner).trans r1
        have rz1 := (hWw.free hlr hner).trans rz1
        have r2 := (hWw.cell hlr hner).trans r2
        have rz2 := (hWw.free hlr hner).trans rz2
        have r3 := (hWw.cell hlr hner).trans r3
        have rz3 := (hWw.free hlr hner).trans rz3
        have r4 := (hWw.cell hlr hner).trans r4
        have rz4 := (hWw.free hlr hner).trans rz4
        have hlr := Nat.lt_of_lt_of_le hlr hWw.size
        have b0 := (hWw.cell hlb hneb).trans b0
        have bz0 := (hWw.free hlb hneb).trans bz0
        have b1 := (hWw.cell hlb hneb).trans b1
        have bz1 := (hWw.free hlb hneb).trans bz1
        have hlb := Nat.lt_of_lt_of_le hlb hWw.size
        have x0 := (hWw.cell hlx hnex).trans x0
        have xz0 := (hWw.free hlx hnex).trans xz0
        have x1 := (hWw.cell hlx hnex).trans x1
        have xz1 := (hWw.free hlx hnex).trans xz1
        have x2 := (hWw.cell hlx hnex).trans x2
        have xz2 := (hWw.free hlx hnex).trans xz2
        have x3 := (hWw.cell hlx hnex).trans x3
        have xz3 := (hWw.free hlx hnex).trans xz3
        have x4 := (hWw.cell hlx hnex).trans x4
        have xz4 := (hWw.free hlx hnex).trans xz4
        have hlx := Nat.lt_of_lt_of_le hlx hWw.size
        have hwV := Wrote.ext hwV hWw (fun k hk => by injection hk; omega)
        have hW0 := Wrote.refl (some g) w5
        go_region_held3 (fun w' => w'.cell? ⟨gX, 0, none⟩ = some (.int .i64 v0) ∧ w'.cell? ⟨gX, 1, none⟩ = some (.int .i64 v1) ∧ w'.cell? ⟨gX, 2, none⟩ = some (.int .i64 v2) ∧ w'.cell? ⟨gX, 3, none⟩ = some (.int .i64 v3) ∧ w'.cell? ⟨gX, 4, none⟩ = some (.int .i64 v4))
          (first | (refine ⟨?_, ?_, ?_, ?_, ?_⟩ <;> with_reducible assumption) | (refine ⟨?_, ?_, ?_, ?_, ?_⟩ <;> with_reducible (refine (kx _).trans ?_ <;> assumption)) | (refine ⟨?_, ?_, ?_, ?_, ?_⟩ <;> with_reducible ((repeat (refine keep_other (by assumption) ?_)); refine (kx _).trans ?_; assumption)) | go_keep)
          (first | (go_at_call 72; refine (drawBeat_any v0 v1 v2 v3 v4 g n cp _ a _ (by first | exact hS | exact hS.ext ((Ext.refl _).drew) | exact hS.ext ((Ext.refl _).drewN _)) (by first | exact hB | exact hB.ext ((Ext.refl _).drew) | exact hB.ext ((Ext.refl _).drewN _)) (by omega) hn).mono ?_; rintro e w9 ⟨⟨s0, s1, rfl⟩, hS2, hWc⟩; (first | (replace hI := hI.src hWc hgI; replace hW0 := hW0.trans hWc) | (replace hI := (hI.ext ((Ext.refl _).drew)).src hWc hgI; replace hW0 := (hW0.trans (Wrote.of_ext _ ((Ext.refl _).drew))).trans hWc) | (replace hI := (hI.ext ((Ext.refl _).drewN _)).src hWc hgI; replace hW0 := (hW0.trans (Wrote.of_ext _ ((Ext.refl _).drewN _))).trans hWc)); have kr : ∀ o, w9.cell? ⟨w.heap.size, o, none⟩ = _ := (fun o => hW0.cell hlr hner); have kzr : ∀ o, w9.frozen? ⟨w.heap.size, o, none⟩ = _ := (fun o => hW0.free hlr hner); have kb : ∀ o, w9.cell? ⟨w.heap.size + 1, o, none⟩ = _ := (fun o => hW0.cell hlb hneb); have kzb : ∀ o, w9.frozen? ⟨w.heap.size + 1, o, none⟩ = _ := (fun o => hW0.free hlb hneb); have kx : ∀ o, w9.cell? ⟨gX, o, none⟩ = _ := (fun o => hW0.cell hlx hnex); have kzx : ∀ o, w9.frozen? ⟨gX, o, none⟩ = _ := (fun o => hW0.free hlx hnex)))
        all_goals go_wp2_with fail
        all_goals generalize hU : World.setCell _ _ _ = U9
        all_goals have hW9 : Ext w U9 := by rw [← hU]; (repeat (first | (with_reducible refine Ext.drew ?_) | (with_reducible refine Ext.setCell ?_ ?_ _; rotate_left; focus (first | (simp; done) | (simp; omega) | omega)))); exact Wrote.ext hwV hW0 (fun k hk => by injection hk; omega)
        all_goals have hI9 : IntsOf U9 w.heap.size (.slice sa qs.length sc) qs := by rw [← hU]; refine IntsOf.low ?_ hVb; (repeat (first | (with_reducible refine IntsOf.drew ?_) | (with_reducible refine IntsOf.other ?_ ?_ _; rotate_left; focus (first | assumption | omega)))); exact hI
        all_goals have nr0 : U9.cell? ⟨w.heap.size, 0, none⟩ = some (.int .i64 v0) := by rw [← hU]; ((repeat (first | (with_reducible refine cell_drew ?_) | (with_reducible refine cell_same ?_) | (with_reducible refine keep_other ?_ ?_; focus (first | assumption | omega)) | (with_reducible refine cell_off ?_ ?_; focus decide))); (repeat (first | (with_reducible refine some_drew ?_) | (with_reducible refine some_other ?_)))); rw [kr, r0]; rfl
        all_goals have nr1 : U9.cell? ⟨w.heap.size, 1, none⟩ = some (.int .i64 v1) := by rw [← hU]; ((repeat (first | (with_reducible refine cell_drew ?_) | (with_reducible refine cell_same ?_) | (with_reducible refine keep_other ?_ ?_; focus (first | assumption | omega)) | (with_reducible refine cell_off ?_ ?_; focus decide))); (repeat (first | (with_reducible refine some_drew ?_) | (with_reducible refine some_other ?_)))); rw [kr, r1]; rfl
        all_goals have nr2 : U9.cell? ⟨w.heap.size, 2, none⟩ = some (.int .i64 v2) := by rw [← hU]; ((repeat (first | (with_reducible refine cell_drew ?_) | (with_reducible refine cell_same ?_) | (with_reducible refine keep_other ?_ ?_; focus (first | assumption | omega)) | (with_reducible refine cell_off ?_ ?_; focus decide))); (repeat (first | (with_reducible refine some_drew ?_) | (with_reducible refine some_other ?_)))); rw [kr, r2]; rfl
        all_goals have nr3 : U9.cell? ⟨w.heap.size, 3, none⟩ = some (.int .i64 v3) := by rw [← hU]; ((repeat (first | (with_reducible refine cell_drew ?_) | (with_reducible refine cell_same ?_) | (with_reducible refine keep_other ?_ ?_; focus (first | assumption | omega)) | (with_reducible refine cell_off ?_ ?_; focus decide))); (repeat (first | (with_reducible refine some_drew ?_) | (with_reducible refine some_other ?_)))); rw [kr, r3]; rfl
        all_goals have nr4 : U9.cell? ⟨w.heap.size, 4, none⟩ = some (.int .i64 v4) := by rw [← hU]; ((repeat (first | (with_reducible refine cell_drew ?_) | (with_reducible refine cell_same ?_) | (with_reducible refine keep_other ?_ ?_; focus (first | assumption | omega)) | (with_reducible refine cell_off ?_ ?_; focus decide))); (repeat (first | (with_reducible refine some_drew ?_) | (with_reducible refine some_other ?_)))); rw [kr, r4]; rfl
        all_goals have nb0 : U9.cell? ⟨w.heap.size + 1, 0, none⟩ = some (.int .i64 s0) := by rw [← hU]; ((repeat (first | (with_reducible refine cell_drew ?_) | (with_reducible refine cell_same ?_) | (with_reducible refine keep_other ?_ ?_; focus (first | assumption | omega)) | (with_reducible refine cell_off ?_ ?_; focus decide))); (repeat (first | (with_reducible refine some_drew ?_) | (with_reducible refine some_other ?_)))); rw [kb, b0]; rfl
        all_goals have nb1 : U9.cell? ⟨w.heap.size + 1, 1, none⟩ = some (.int .i64 s1) := by rw [← hU]; ((repeat (first | (with_reducible refine cell_drew ?_) | (with_reducible refine cell_same ?_) | (with_reducible refine keep_other ?_ ?_; focus (first | assumption | omega)) | (with_reducible refine cell_off ?_ ?_; focus decide))); (repeat (first | (with_reducible refine some_drew ?_) | (with_reducible refine some_other ?_)))); rw [kb, b1]; rfl
        all_goals clear hU
        all_goals refine bodyPost_ret (v := ?_) ?_ rfl ?_
        all_goals try (simp [results, Try.results32, go_sem, nr0, nr1, nr2, nr3, nr4, nb0, nb1]; exact rfl)
        all_goals exact ⟨⟨_, _, _, _, _, _, _, _, _, rfl, hI9, by omega⟩, hW9⟩
    · have t1 : (0 : Int) < (j : Int) := by omega
      have t2 : IntKind.i64.wrap ((j : Int) - 1) = (j : Int) - 1 := IntWalk.i64_in _ (by omega)
      go_wp2_with (first | (go_at_call 63; refine (drawTorque_any g n cp _ a _ (by first | exact hS | exact hS.ext ((Ext.refl _).alloc _) | exact hS.ext (((Ext.refl _).alloc _).alloc _) | exact hS.ext ((((Ext.refl _).alloc _).alloc _).alloc _) | exact hS.ext ((Ext.refl _).drew) | exact hS.ext ((Ext.refl _).drew.alloc _) | exact hS.ext ((Ext.refl _).alloc _).drew) (by first | exact hB | exact hB.ext ((Ext.refl _).alloc _) | exact hB.ext (((Ext.refl _).alloc _).alloc _) | exact hB.ext ((((Ext.refl _).alloc _).alloc _).alloc _) | exact hB.ext ((Ext.refl _).drew) | exact hB.ext ((Ext.refl _).drew.alloc _) | exact hB.ext ((Ext.refl _).alloc _).drew) (by omega) hn).mono ?_; rintro e w1 ⟨q, rfl, hS2, hW⟩; replace hI := hI.src hW hgI; (first | replace hW0 := hW0.trans hW | replace hW0 := (hW0.trans (Wrote.alloc _ _ _)).trans hW | replace hW0 := ((hW0.trans (Wrote.alloc _ _ _)).trans (Wrote.alloc _ _ _)).trans hW | replace hW0 := (((hW0.trans (Wrote.alloc _ _ _)).trans (Wrote.alloc _ _ _)).trans (Wrote.alloc _ _ _)).trans hW | replace hW0 := (hW0.trans (Wrote.of_ext _ ((Ext.refl _).drew))).trans hW | replace hW0 := (hW0.trans (Wrote.of_ext _ ((Ext.refl _).drew.alloc _))).trans hW | replace hW0 := (hW0.trans (Wrote.of_ext _ ((Ext.refl _).alloc _).drew)).trans hW); (first | replace hB := hB.wrote hW | replace hB := (hB.ext ((Ext.refl _).alloc _)).wrote hW | replace hB := (hB.ext (((Ext.refl _).alloc _).alloc _)).wrote hW | replace hB := (hB.ext ((((Ext.refl _).alloc _).alloc _).alloc _)).wrote hW | replace hB := (hB.ext ((Ext.refl _).drew)).wrote hW | replace hB := (hB.ext ((Ext.refl _).drew.alloc _)).wrote hW | replace hB := (hB.ext ((Ext.refl _).alloc _).drew).wrote hW); clear hS hW; have hS := hS2; clear hS2) | (at_builtin; refine wpList_append_wrote _ rfl _ _ 48 rfl V.heap.size 2 i0 (.int .i64 0) 1 8 Try.underlying48 hii hz0 hz1 hz2 rfl (by decide) _ _ _ rfl (hI.ext ((Ext.refl _).alloc _)) ⟨_, 0, none⟩ 1 1 [.int .i64 q] rfl rfl (one_new _ _ rfl) (one_cell _) (by unfold maxLen; omega) (by omega) (by have := hWw.size; have := hW0.size; simp; omega) ?_; intro v' w3 h3 hx3))
      have hI3 := IntsOf.push h3 rfl
      have hS3 := (hS.ext ((Ext.refl _).alloc _)).off hx3 (hI.apart hgI)
      have hW3 : Wrote (some g) V w3 := ((hWw.trans hW0).trans (Wrote.alloc _ _ _)).over hx3 (fun k hk => by have h1 := (hI.lt k hk).1; exact h1)
      clear hI hS hW0 hB h3 hx3
      go_wp2_with fail
      go_roundw
      case rel => exact ⟨j - 1, _, _, by congr 1; omega, by simp; omega, by omega, hI3, hS3, hW3⟩
      case measure => simp [intOf]; omega
end Go.Proofs.Ytehebhphlaghfaa

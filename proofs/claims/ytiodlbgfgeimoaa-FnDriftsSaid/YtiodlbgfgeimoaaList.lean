/-
  Segments drawn: a row of pairs, of the call's own.
-/
import Derived.Test.YtiodlbgfgeimoaaDrawR
import Derived.Test.YtiodlbgfgeimoaaOwn3
import Derived.Test.YtiodlbgfgeimoaaRate
import Derived.Deep.DeepCutAuto
namespace Go.Proofs.Ytiodlbgfgeimoaa
open Go.RowKit
set_option linter.unusedSimpArgs false
set_option linter.unusedVariables false

set_option maxRecDepth 100000 in
set_option maxHeartbeats 4000000 in
theorem drawSegs_nn (g n cp k : Nat) (a : Option Addr) (w : World) (hS : Src w g a n cp k) (hB0 : RowB w g a n) (hk : k ≤ 400000) (hn : n ≤ 1048576) :
    Calls Try.prog 87 #[.pointer (some ⟨g, 0, none⟩)] w fun e w' => (∃ v zs, e = .returned v ∧ PairsOf w' w.heap.size v zs ∧ zs.length ≤ 100 ∧ NN v) ∧ Src w' g a n cp (k + 100) ∧ Wrote (some g) w w' := by
  have hlg := hS.lt
  obtain ⟨i0, hii, hz0, hz1, hz2⟩ := seg_info
  go_enter Try.func87, Try.ntmps87
  go_upto_region 2 with fail
  have hP : PairsOf (w.alloc (Obj.cells #[] 61)) w.heap.size (.slice (some ⟨w.heap.size, 0, none⟩) 0 0) [] := by
    have := World.ownsRow_made (w := w) (base := w.heap.size) (e := 61) (size := 2) #[] 0 (by simp) (by decide) rfl
    simpa [PairsOf, flat] using this
  have hW0 : Wrote (some g) w (w.alloc (Obj.cells #[] 61)) := Wrote.of_ext _ ((Ext.refl _).alloc _)
  replace hS := hS.ext ((Ext.refl _).alloc (Obj.cells #[] 61))
  have hB := hB0.wrote hW0
  generalize hW : World.alloc _ _ = W at *
  clear hW
  go_upto_region 4 with (first | (go_at_call 94; refine (drawTemp_any g n cp _ a _ (by first | exact hS | exact hS.ext ((Ext.refl _).alloc _) | exact hS.ext (((Ext.refl _).alloc _).alloc _) | exact hS.ext ((((Ext.refl _).alloc _).alloc _).alloc _) | exact hS.ext ((Ext.refl _).drew) | exact hS.ext ((Ext.refl _).drew.alloc _) | exact hS.ext ((Ext.refl _).alloc _).drew) (by first | exact hB | exact hB.ext ((Ext.refl _).alloc _) | exact hB.ext (((Ext.refl _).alloc _).alloc _) | exact hB.ext ((((Ext.refl _).alloc _).alloc _).alloc _) | exact hB.ext ((Ext.refl _).drew) | exact hB.ext ((Ext.refl _).drew.alloc _) | exact hB.ext ((Ext.refl _).alloc _).drew) (by omega) hn).mono ?_; rintro e w1 ⟨q, rfl, hS2, hW⟩; replace hP := hP.src hW hlg; (first | replace hW0 := hW0.trans hW | replace hW0 := (hW0.trans (Wrote.alloc _ _ _)).trans hW | replace hW0 := ((hW0.trans (Wrote.alloc _ _ _)).trans (Wrote.alloc _ _ _)).trans hW | replace hW0 := (((hW0.trans (Wrote.alloc _ _ _)).trans (Wrote.alloc _ _ _)).trans (Wrote.alloc _ _ _)).trans hW | replace hW0 := (hW0.trans (Wrote.of_ext _ ((Ext.refl _).drew))).trans hW | replace hW0 := (hW0.trans (Wrote.of_ext _ ((Ext.refl _).drew.alloc _))).trans hW | replace hW0 := (hW0.trans (Wrote.of_ext _ ((Ext.refl _).alloc _).drew)).trans hW); (first | replace hB := hB.wrote hW | replace hB := (hB.ext ((Ext.refl _).alloc _)).wrote hW | replace hB := (hB.ext (((Ext.refl _).alloc _).alloc _)).wrote hW | replace hB := (hB.ext ((((Ext.refl _).alloc _).alloc _).alloc _)).wrote hW | replace hB := (hB.ext ((Ext.refl _).drew)).wrote hW | replace hB := (hB.ext ((Ext.refl _).drew.alloc _)).wrote hW | replace hB := (hB.ext ((Ext.refl _).alloc _).drew).wrote hW); clear hS hW; have hS := hS2; clear hS2) | (go_at_call 96; refine (pick_any g n cp _ _ a _ (by first | exact hS | exact hS.ext ((Ext.refl _).alloc _) | exact hS.ext (((Ext.refl _).alloc _).alloc _) | exact hS.ext ((((Ext.refl _).alloc _).alloc _).alloc _) | exact hS.ext ((Ext.refl _).drew) | exact hS.ext ((Ext.refl _).drew.alloc _) | exact hS.ext ((Ext.refl _).alloc _).drew) (by first | exact hB | exact hB.ext ((Ext.refl _).alloc _) | exact hB.ext (((Ext.refl _).alloc _).alloc _) | exact hB.ext ((((Ext.refl _).alloc _).alloc _).alloc _) | exact hB.ext ((Ext.refl _).drew) | exact hB.ext ((Ext.refl _).drew.alloc _) | exact hB.ext ((Ext.refl _).alloc _).drew) (by omega) hn).mono ?_; rintro e w1 ⟨x, rfl, hx, hS2, hW⟩; replace hP := hP.src hW hlg; (first | replace hW0 := hW0.trans hW | replace hW0 := (hW0.trans (Wrote.alloc _ _ _)).trans hW | replace hW0 := ((hW0.trans (Wrote.alloc _ _ _)).trans (Wrote.alloc _ _ _)).trans hW | replace hW0 := (((hW0.trans (Wrote.alloc _ _ _)).trans (Wrote.alloc _ _ _)).trans (Wrote.alloc _ _ _)).trans hW | replace hW0 := (hW0.trans (Wrote.of_ext _ ((Ext.refl _).drew))).trans hW | replace hW0 := (hW0.trans (Wrote.of_ext _ ((Ext.refl _).drew.alloc _))).trans hW | replace hW0 := (hW0.trans (Wrote.of_ext _ ((Ext.refl _).alloc _).drew)).trans hW); (first | replace hB := hB.wrote hW | replace hB := (hB.ext ((Ext.refl _).alloc _)).wrote hW | replace hB := (hB.ext (((Ext.refl _).alloc _).alloc _)).wrote hW | replace hB := (hB.ext ((((Ext.refl _).alloc _).alloc _).alloc _)).wrote hW | replace hB := (hB.ext ((Ext.refl _).drew)).wrote hW | replace hB := (hB.ext ((Ext.refl _).drew.alloc _)).wrote hW | replace hB := (hB.ext ((Ext.refl _).alloc _).drew).wrote hW); clear hS hW; have hS := hS2; clear hS2))
  obtain ⟨j0, rfl⟩ : ∃ j : Nat, x = j := ⟨x.toNat, by omega⟩
  have hj0 : j0 ≤ 8 := by omega
  clear hx
  go_loopw [3, 5] (fun vv kk wr => ∃ (j t : Nat) (zs : List (Int × Int)), kk = .int .i64 j ∧ zs.length + j ≤ 8 ∧ t + 6 * j ≤ k + 60 ∧ PairsOf wr w.heap.size vv zs ∧ Src wr g a n cp t ∧ Wrote (some g) w wr ∧ NN vv) (fun _ kk _ => (intOf kk).toNat)
  case atStart => exact ⟨j0, _, [], rfl, by simpa using hj0, by omega, hP, hS, hW0, ⟨_, _, _, rfl⟩⟩
  case round =>
    clear hP hS hW0 hB hj0
    obtain ⟨j, t, zs, rfl, hl, ht, hP, hS, hWw, hN⟩ := hrel
    have hB := hB0.wrote hWw
    have hW0 := Wrote.refl (some g) wr
    by_cases h0 : j = 0
    · subst h0
      go_upto_region 12 with (first | (go_at_call 96; refine (pick_any g n cp _ _ a _ (by first | exact hS | exact hS.ext ((Ext.refl _).alloc _) | exact hS.ext (((Ext.refl _).alloc _).alloc _) | exact hS.ext ((((Ext.refl _).alloc _).alloc _).alloc _) | exact hS.ext ((Ext.refl _).drew) | exact hS.ext ((Ext.refl _).drew.alloc _) | exact hS.ext ((Ext.refl _).alloc _).drew) (by first | exact hB | exact hB.ext ((Ext.refl _).alloc _) | exact hB.ext (((Ext.refl _).alloc _).alloc _) | exact hB.ext ((((Ext.refl _).alloc _).alloc _).alloc _) | exact hB.ext ((Ext.refl _).drew) | exact hB.ext ((Ext.refl _).drew.alloc _) | exact hB.ext ((Ext.refl _).alloc _).drew) (by omega) hn).mono ?_; rintro e w1 ⟨x, rfl, hx, hS2, hW⟩; replace hP := hP.src hW hlg; (first | replace hW0 := hW0.trans hW | replace hW0 := (hW0.trans (Wrote.alloc _ _ _)).trans hW | replace hW0 := ((hW0.trans (Wrote.alloc _ _ _)).trans (Wrote.alloc _ _ _)).trans hW | replace hW0 := (((hW0.trans (Wrote.alloc _ _ _)).trans (Wrote.alloc _ _ _)).trans (Wrote.alloc _ _ _)).trans hW | replace hW0 := (hW0.trans (Wrote.of_ext _ ((Ext.refl _).drew))).trans hW | replace hW0 := (hW0.trans (Wrote.of_ext _ ((Ext.refl _).drew.alloc _))).trans hW | replace hW0 := (hW0.trans (Wrote.of_ext _ ((Ext.refl _).alloc _).drew)).trans hW); (first | replace hB := hB.wrote hW | replace hB := (hB.ext ((Ext.refl _).alloc _)).wrote hW | replace hB := (hB.ext (((Ext.refl _).alloc _).alloc _)).wrote hW | replace hB := (hB.ext ((((Ext.refl _).alloc _).alloc _).alloc _)).wrote hW | replace hB := (hB.ext ((Ext.refl _).drew)).wrote hW | replace hB := (hB.ext ((Ext.refl _).drew.alloc _)).wrote hW | replace hB := (hB.ext ((Ext.refl _).alloc _).drew).wrote hW); clear hS hW; have hS := hS2; clear hS2))
      clear hx
      have hwr := hWw.size
      obtain ⟨sa, sc, rfl⟩ := hP.shape
      by_cases e0 : x = 0
      · subst e0
        go_wp2_with (first | (go_at_call 98; refine (among_any g n cp _ _ _ _ _ _ a _ (by first | exact hS | exact hS.ext ((Ext.refl _).alloc _) | exact hS.ext (((Ext.refl _).alloc _).alloc _) | exact hS.ext ((((Ext.refl _).alloc _).alloc _).alloc _) | exact hS.ext ((Ext.refl _).drew) | exact hS.ext ((Ext.refl _).drew.alloc _) | exact hS.ext ((Ext.refl _).alloc _).drew) (by first | exact hB | exact hB.ext ((Ext.refl _).alloc _) | exact hB.ext (((Ext.refl _).alloc _).alloc _) | exact hB.ext ((((Ext.refl _).alloc _).alloc _).alloc _) | exact hB.ext ((Ext.refl _).drew) | exact hB.ext ((Ext.refl _).drew.alloc _) | exact hB.ext ((Ext.refl _).alloc _).drew) (by omega) hn (by first | exact lit2 _ _ _ | exact lit3 _ _ _ _ | exact lit4 _ _ _ _ _ | exact lit5 _ _ _ _ _ _ | exact lit8 _ _ _ _ _ _ _ _ _) (by omega) (by have := hS.lt; simp; omega)).mono ?_; rintro e w1 ⟨y, rfl, hS2, hW⟩; replace hP := hP.src ((Wrote.alloc (some g) _ _).trans hW) hlg; (first | replace hW0 := hW0.trans hW | replace hW0 := (hW0.trans (Wrote.alloc _ _ _)).trans hW | replace hW0 := ((hW0.trans (Wrote.alloc _ _ _)).trans (Wrote.alloc _ _ _)).trans hW | replace hW0 := (((hW0.trans (Wrote.alloc _ _ _)).trans (Wrote.alloc _ _ _)).trans (Wrote.alloc _ _ _)).trans hW | replace hW0 := (hW0.trans (Wrote.of_ext _ ((Ext.refl _).drew))).trans hW | replace hW0 := (hW0.trans (Wrote.of_ext _ ((Ext.refl _).drew.alloc _))).trans hW | replace hW0 := (hW0.trans (Wrote.of_ext _ ((Ext.refl _).alloc _).drew)).trans hW); (first | replace hB := hB.wrote hW | replace hB := (hB.ext ((Ext.refl _).alloc _)).wrote hW | replace hB := (hB.ext (((Ext.refl _).alloc _).alloc _)).wrote hW | replace hB := (hB.ext ((((Ext.refl _).alloc _).alloc _).alloc _)).wrote hW | replace hB := (hB.ext ((Ext.refl _).drew)).wrote hW | replace hB := (hB.ext ((Ext.refl _).drew.alloc _)).wrote hW | replace hB := (hB.ext ((Ext.refl _).alloc _).drew).wrote hW); clear hS hW; have hS := hS2; clear hS2) | (at_builtin; refine wpList_append_wrote _ rfl _ _ 34 rfl w.heap.size 61 i0 pairZero 2 16 Try.underlying34 hii hz0 hz1 hz2 rfl (by decide) _ _ _ rfl (hP.ext ((Ext.refl _).alloc _)) ⟨_, 0, none⟩ 1 1 [.int .i64 y, .int .i64 0] rfl rfl (pair_new _ _ _ rfl) (pair_cells _ _) (by unfold maxLen; omega) (by omega) (by have := hWw.size; have := hW0.size; simp; omega) ?_; intro v' w3 h3 hx3))
        have hP3 := PairsOf.push h3 rfl
        have hS3 := (hS.ext ((Ext.refl _).alloc _)).off hx3 (hP.apart hlg)
        have hW3 := ((hWw.trans hW0).trans (Wrote.alloc _ _ _)).over hx3 hP.fresh
        go_ret
        exact ⟨⟨_, _, rfl, hP3, by simp; omega, hP3.nn (by simp)⟩, hS3.more (by omega), hW3⟩
      have t0 : (x == 0) = false := by simpa using e0
      by_cases e1 : x = 1
      · subst e1
        go_wp2_with (first | (go_at_call 94; refine (drawTemp_any g n cp _ a _ (by first | exact hS | exact hS.ext ((Ext.refl _).alloc _) | exact hS.ext (((Ext.refl _).alloc _).alloc _) | exact hS.ext ((((Ext.refl _).alloc _).alloc _).alloc _) | exact hS.ext ((Ext.refl _).drew) | exact hS.ext ((Ext.refl _).drew.alloc _) | exact hS.ext ((Ext.refl _).alloc _).drew) (by first | exact hB | exact hB.ext ((Ext.refl _).alloc _) | exact hB.ext (((Ext.refl _).alloc _).alloc _) | exact hB.ext ((((Ext.refl _).alloc _).alloc _).alloc _) | exact hB.ext ((Ext.refl _).drew) | exact hB.ext ((Ext.refl _).drew.alloc _) | exact hB.ext ((Ext.refl _).alloc _).drew) (by omega) hn).mono ?_; rintro e w1 ⟨q, rfl, hS2, hW⟩; replace hP := hP.src hW hlg; (first | replace hW0 := hW0.trans hW | replace hW0 := (hW0.trans (Wrote.alloc _ _ _)).trans hW | replace hW0 := ((hW0.trans (Wrote.alloc _ _ _)).trans (Wrote.alloc _ _ _)).trans hW | replace hW0 := (((hW0.trans (Wrote.alloc _ _ _)).trans (Wrote.alloc _ _ _)).trans (Wrote.alloc _ _ _)).trans hW | replace hW0 := (hW0.trans (Wrote.of_ext _ ((Ext.refl _).drew))).trans hW | replace hW0 := (hW0.trans (Wrote.of_ext _ ((Ext.refl _).drew.alloc _))).trans hW | replace hW0 := (hW0.trans (Wrote.of_ext _ ((Ext.refl _).alloc _).drew)).trans hW); (first | replace hB := hB.wrote hW | replace hB := (hB.ext ((Ext.refl _).alloc _)).wrote hW | replace hB := (hB.ext (((Ext.refl _).alloc _).alloc _)).wrote hW | replace hB := (hB.ext ((((Ext.refl _).alloc _).alloc _).alloc _)).wrote hW | replace hB := (hB.ext ((Ext.refl _).drew)).wrote hW | replace hB := (hB.ext ((Ext.refl _).drew.alloc _)).wrote hW | replace hB := (hB.ext ((Ext.refl _).alloc _).drew).wrote hW); clear hS hW; have hS := hS2; clear hS2) | (at_builtin; refine wpList_append_wrote _ rfl _ _ 34 rfl w.heap.size 61 i0 pairZero 2 16 Try.underlying34 hii hz0 hz1 hz2 rfl (by decide) _ _ _ rfl (hP.ext ((Ext.refl _).alloc _)) ⟨_, 0, none⟩ 1 1 [.int .i64 5, .int .i64 q] rfl rfl (pair_new _ _ _ rfl) (pair_cells _ _) (by unfold maxLen; omega) (by omega) (by have := hWw.size; have := hW0.size; simp; omega) ?_; intro v' w3 h3 hx3))
        have hP3 := PairsOf.push h3 rfl
        have hS3 := (hS.ext ((Ext.refl _).alloc _)).off hx3 (hP.apart hlg)
        have hW3 := ((hWw.trans hW0).trans (Wrote.alloc _ _ _)).over hx3 hP.fresh
        go_ret
        exact ⟨⟨_, _, rfl, hP3, by simp; omega, hP3.nn (by simp)⟩, hS3.more (by omega), hW3⟩
      have t1 : (x == 1) = false := by simpa using e1
      by_cases e2 : x = 2
      · subst e2
        go_wp2_with fail
        replace hWw := hWw.trans hW0
        go_loopw [3] (fun vv wr => ∃ zs : List (Int × Int), zs.length ≤ 60 ∧ PairsOf wr w.heap.size vv zs ∧ Src wr g a n cp (t + 2) ∧ Wrote (some g) w wr ∧ NN vv) (fun vv _ => 60 - sliceN vv)
        case atStart => exact ⟨zs, by omega, hP, hS, hWw, hN⟩
        case round =>
          clear hP hS hW0 hB hl hWw hN
          obtain ⟨zs, hl, hP, hS, hWw, hN⟩ := hrel
          have hB := hB0.wrote hWw
          have hW0 := Wrote.refl (some g) wr
          obtain ⟨sa, sc, rfl⟩ := hP.shape
          by_cases h6 : zs.length < 60
          · have t6 : (zs.length : Int) < 60 := by omega
            go_wp2_with (first | (at_builtin; refine wpList_append_wrote _ rfl _ _ 34 rfl w.heap.size 61 i0 pairZero 2 16 Try.underlying34 hii hz0 hz1 hz2 rfl (by decide) _ _ _ rfl (hP.ext ((Ext.refl _).alloc _)) ⟨_, 0, none⟩ 1 1 [.int .i64 7, .int .i64 5] rfl rfl (pair_new _ _ _ rfl) (pair_cells _ _) (by unfold maxLen; omega) (by omega) (by have := hWw.size; have := hW0.size; simp; omega) ?_; intro v' w3 h3 hx3))
            have hP3 := PairsOf.push h3 rfl
            have hS3 := (hS.ext ((Ext.refl _).alloc _)).off hx3 (hP.apart hlg)
            have hW3 := ((hWw.trans hW0).trans (Wrote.alloc _ _ _)).over hx3 hP.fresh
            clear hP hS hW0 hB h3 hx3
            go_wp2_with fail
            go_roundw
            case rel => exact ⟨_, by simp; omega, hP3, hS3, hW3, hP3.nn (by simp)⟩
            case measure => obtain ⟨sa2, sc2, rfl⟩ := hP3.shape; simp [sliceN]; omega
          · have t6 : ¬ (zs.length : Int) < 60 := by omega
            go_wp2_with (first | (go_at_call 97; refine (one_any g n cp _ _ a _ (by first | exact hS | exact hS.ext ((Ext.refl _).alloc _) | exact hS.ext (((Ext.refl _).alloc _).alloc _) | exact hS.ext ((((Ext.refl _).alloc _).alloc _).alloc _) | exact hS.ext ((Ext.refl _).drew) | exact hS.ext ((Ext.refl _).drew.alloc _) | exact hS.ext ((Ext.refl _).alloc _).drew) (by first | exact hB | exact hB.ext ((Ext.refl _).alloc _) | exact hB.ext (((Ext.refl _).alloc _).alloc _) | exact hB.ext ((((Ext.refl _).alloc _).alloc _).alloc _) | exact hB.ext ((Ext.refl _).drew) | exact hB.ext ((Ext.refl _).drew.alloc _) | exact hB.ext ((Ext.refl _).alloc _).drew) (by omega) hn).mono ?_; rintro e w1 ⟨c, rfl, hS2, hW⟩; replace hP := hP.src hW hlg; (first | replace hW0 := hW0.trans hW | replace hW0 := (hW0.trans (Wrote.alloc _ _ _)).trans hW | replace hW0 := ((hW0.trans (Wrote.alloc _ _ _)).trans (Wrote.alloc _ _ _)).trans hW | replace hW0 := (((hW0.trans (Wrote.alloc _ _ _)).trans (Wrote.alloc _ _ _)).trans (Wrote.alloc _ _ _)).trans hW | replace hW0 := (hW0.trans (Wrote.of_ext _ ((Ext.refl _).drew))).trans hW | replace hW0 := (hW0.trans (Wrote.of_ext _ ((Ext.refl _).drew.alloc _))).trans hW | replace hW0 := (hW0.trans (Wrote.of_ext _ ((Ext.refl _).alloc _).drew)).trans hW); (first | replace hB := hB.wrote hW | replace hB := (hB.ext ((Ext.refl _).alloc _)).wrote hW | replace hB := (hB.ext (((Ext.refl _).alloc _).alloc _)).wrote hW | replace hB := (hB.ext ((((Ext.refl _).alloc _).alloc _).alloc _)).wrote hW | replace hB := (hB.ext ((Ext.refl _).drew)).wrote hW | replace hB := (hB.ext ((Ext.refl _).drew.alloc _)).wrote hW | replace hB := (hB.ext ((Ext.refl _).alloc _).drew).wrote hW); clear hS hW; have hS := hS2; clear hS2) | (at_builtin; refine wpList_append_wrote _ rfl _ _ 34 rfl w.heap.size 61 i0 pairZero 2 16 Try.underlying34 hii hz0 hz1 hz2 rfl (by decide) _ _ _ rfl (hP.ext ((Ext.refl _).alloc _)) ⟨_, 0, none⟩ 1 1 [.int .i64 7, .int .i64 5] rfl rfl (pair_new _ _ _ rfl) (pair_cells _ _) (by unfold maxLen; omega) (by omega) (by have := hWw.size; have := hW0.size; simp; omega) ?_; intro v' w3 h3 hx3))
            · have hP3 := PairsOf.push h3 rfl
              have hS3 := (hS.ext ((Ext.refl _).alloc _)).off hx3 (hP.apart hlg)
              have hW3 := ((hWw.trans hW0).trans (Wrote.alloc _ _ _)).over hx3 hP.fresh
              go_wp2_with fail
              go_ret
              exact ⟨⟨_, _, rfl, hP3, by simp; omega, hP3.nn (by simp)⟩, hS3.more (by omega), hW3⟩
            · go_ret
              exact ⟨⟨_, _, rfl, hP, by omega, hN⟩, hS.more (by omega), hWw.trans hW0⟩
      · have t2 : (x == 2) = false := by simpa using e2
        go_wp2_with fail
        go_ret
        exact ⟨⟨_, _, rfl, hP, by omega, hN⟩, hS.more (by omega), hWw.trans hW0⟩
    · have t1 : (0 : Int) < (j : Int) := by omega
      have t2 : IntKind.i64.wrap ((j : Int) - 1) = (j : Int) - 1 := IntWalk.i64_in _ (by omega)
      obtain ⟨sa, sc, rfl⟩ := hP.shape
      go_wp2_with (first | (go_at_call 96; refine (pick_any g n cp _ _ a _ (by first | exact hS | exact hS.ext ((Ext.refl _).alloc _) | exact hS.ext (((Ext.refl _).alloc _).alloc _) | exact hS.ext ((((Ext.refl _).alloc _).alloc _).alloc _) | exact hS.ext ((Ext.refl _).drew) | exact hS.ext ((Ext.refl _).drew.alloc _) | exact hS.ext ((Ext.refl _).alloc _).drew) (by first | exact hB | exact hB.ext ((Ext.refl _).alloc _) | exact hB.ext (((Ext.refl _).alloc _).alloc _) | exact hB.ext ((((Ext.refl _).alloc _).alloc _).alloc _) | exact hB.ext ((Ext.refl _).drew) | exact hB.ext ((Ext.refl _).drew.alloc _) | exact hB.ext ((Ext.refl _).alloc _).drew) (by omega) hn).mono ?_; rintro e w1 ⟨p, rfl, hx, hS2, hW⟩; replace hP := hP.src hW hlg; (first | replace hW0 := hW0.trans hW | replace hW0 := (hW0.trans (Wrote.alloc _ _ _)).trans hW | replace hW0 := ((hW0.trans (Wrote.alloc _ _ _)).trans (Wrote.alloc _ _ _)).trans hW | replace hW0 := (((hW0.trans (Wrote.alloc _ _ _)).trans (Wrote.alloc _ _ _)).trans (Wrote.alloc _ _ _)).trans hW | replace hW0 := (hW0.trans (Wrote.of_ext _ ((Ext.refl _).drew))).trans hW | replace hW0 := (hW0.trans (Wrote.of_ext _ ((Ext.refl _).drew.alloc _))).trans hW | replace hW0 := (hW0.trans (Wrote.of_ext _ ((Ext.refl _).alloc _).drew)).trans hW); (first | replace hB := hB.wrote hW | replace hB := (hB.ext ((Ext.refl _).alloc _)).wrote hW | replace hB := (hB.ext (((Ext.refl _).alloc _).alloc _)).wrote hW | replace hB := (hB.ext ((((Ext.refl _).alloc _).alloc _).alloc _)).wrote hW | replace hB := (hB.ext ((Ext.refl _).drew)).wrote hW | replace hB := (hB.ext ((Ext.refl _).drew.alloc _)).wrote hW | replace hB := (hB.ext ((Ext.refl _).alloc _).drew).wrote hW); clear hS hW; have hS := hS2; clear hS2) | (go_at_call 97; refine (one_any g n cp _ _ a _ (by first | exact hS | exact hS.ext ((Ext.refl _).alloc _) | exact hS.ext (((Ext.refl _).alloc _).alloc _) | exact hS.ext ((((Ext.refl _).alloc _).alloc _).alloc _) | exact hS.ext ((Ext.refl _).drew) | exact hS.ext ((Ext.refl _).drew.alloc _) | exact hS.ext ((Ext.refl _).alloc _).drew) (by first | exact hB | exact hB.ext ((Ext.refl _).alloc _) | exact hB.ext (((Ext.refl _).alloc _).alloc _) | exact hB.ext ((((Ext.refl _).alloc _).alloc _).alloc _) | exact hB.ext ((Ext.refl _).drew) | exact hB.ext ((Ext.refl _).drew.alloc _) | exact hB.ext ((Ext.refl _).alloc _).drew) (by omega) hn).mono ?_; rintro e w1 ⟨c, rfl, hS2, hW⟩; replace hP := hP.src hW hlg; (first | replace hW0 := hW0.trans hW | replace hW0 := (hW0.trans (Wrote.alloc _ _ _)).trans hW | replace hW0 := ((hW0.trans (Wrote.alloc _ _ _)).trans (Wrote.alloc _ _ _)).trans hW | replace hW0 := (((hW0.trans (Wrote.alloc _ _ _)).trans (Wrote.alloc _ _ _)).trans (Wrote.alloc _ _ _)).trans hW | replace hW0 := (hW0.trans (Wrote.of_ext _ ((Ext.refl _).drew))).trans hW | replace hW0 := (hW0.trans (Wrote.of_ext _ ((Ext.refl _).drew.alloc _))).trans hW | replace hW0 := (hW0.trans (Wrote.of_ext _ ((Ext.refl _).alloc _).drew)).trans hW); (first | replace hB := hB.wrote hW | replace hB := (hB.ext ((Ext.refl _).alloc _)).wrote hW | replace hB := (hB.ext (((Ext.refl _).alloc _).alloc _)).wrote hW | replace hB := (hB.ext ((((Ext.refl _).alloc _).alloc _).alloc _)).wrote hW | replace hB := (hB.ext ((Ext.refl _).drew)).wrote hW | replace hB := (hB.ext ((Ext.refl _).drew.alloc _)).wrote hW | replace hB := (hB.ext ((Ext.refl _).alloc _).drew).wrote hW); clear hS hW; have hS := hS2; clear hS2) | (go_at_call 63; refine (l12Temp_any _ _).mono ?_; rintro e w5 ⟨rfl, rfl⟩) | (at_builtin; refine wpList_append_wrote _ rfl _ _ 34 rfl w.heap.size 61 i0 pairZero 2 16 Try.underlying34 hii hz0 hz1 hz2 rfl (by decide) _ _ _ rfl (hP.ext ((Ext.refl _).alloc _)) ⟨_, 0, none⟩ 1 1 [.int .i64 _, .int .i64 _] rfl rfl (pair_new _ _ _ rfl) (pair_cells _ _) (by unfold maxLen; omega) (by omega) (by have := hWw.size; have := hW0.size; simp; omega) ?_; intro v' w3 h3 hx3))
      all_goals
        have hP3 := PairsOf.push h3 rfl
        have hS3 := (hS.ext ((Ext.refl _).alloc _)).off hx3 (hP.apart hlg)
        have hW3 := ((hWw.trans hW0).trans (Wrote.alloc _ _ _)).over hx3 hP.fresh
        clear hP hS hW0 hB h3 hx3
        go_wp2_with fail
        go_roundw
        case rel => exact ⟨j - 1, _, _, by congr 1; omega, by simp; omega, by omega, hP3, hS3, hW3, hP3.nn (by simp)⟩
        case measure => simp [intOf]; omega
theorem drawSegs_any (g n cp k : Nat) (a : Option Addr) (w : World) (hS : Src w g a n cp k) (hB0 : RowB w g a n) (hk : k ≤ 400000) (hn : n ≤ 1048576) :
    Calls Try.prog 87 #[.pointer (some ⟨g, 0, none⟩)] w fun e w' => (∃ v zs, e = .returned v ∧ PairsOf w' w.heap.size v zs ∧ zs.length ≤ 100) ∧ Src w' g a n cp (k + 100) ∧ Wrote (some g) w w' :=
  (drawSegs_nn g n cp k a w hS hB0 hk hn).mono fun _ _ ⟨⟨v, zs, h1, h2, h3, _⟩, h5⟩ => ⟨⟨v, zs, h1, h2, h3⟩, h5⟩
end Go.Proofs.Ytiodlbgfgeimoaa

/-
  Trains drawn: a row of pairs, of the call's own.
-/
import Derived.Test.YtbhhiodbhlhpmaaDrawI
import Derived.Test.YtbhhiodbhlhpmaaOver
import Derived.Test.YtbhhiodbhlhpmaaOwnPr
import Derived.Deep.DeepCutAuto
namespace Go.Proofs.Ytbhhiodbhlhpmaa
open Go.RowKit
set_option linter.unusedSimpArgs false
set_option linter.unusedVariables false

theorem PairsOf.src {w w' : World} {B g : Nat} {v : Value} {zs : List (Int × Int)} (h : PairsOf w B v zs) (x : Wrote (some g) w w') (hg : g < B) : PairsOf w' B v zs := by
  refine h.wrote x ?_
  cases hv : v.ownBlock with
  | none => exact .inl rfl
  | some k => exact .inr (fun e => by injection e with e; have := (h.lt k hv).1; omega)
theorem PairsOf.apart {w : World} {B g : Nat} {v : Value} {zs : List (Int × Int)} (h : PairsOf w B v zs) (hg : g < B) : some g ≠ v.ownBlock := fun e => by have := (h.lt g e.symm).1; omega
theorem PairsOf.fresh {w : World} {B : Nat} {v : Value} {zs : List (Int × Int)} (h : PairsOf w B v zs) : ∀ k, v.ownBlock = some k → B ≤ k := fun k e => (h.lt k e).1

set_option maxRecDepth 100000 in
set_option maxHeartbeats 2000000 in
theorem drawTrain_any (g n cp k : Nat) (a : Option Addr) (w : World) (hS : Src w g a n cp k) (hB0 : RowB w g a n) (hk : k ≤ 500000) (hn : n ≤ 1048576) :
    Calls Try.prog 89 #[.pointer (some ⟨g, 0, none⟩), .int .i64 5] w fun e w' => (∃ v zs, e = .returned v ∧ PairsOf w' w.heap.size v zs ∧ zs.length ≤ 5) ∧ Src w' g a n cp (k + 30) ∧ Wrote (some g) w w' := by
  have hlg := hS.lt
  obtain ⟨i0, hii, hz0, hz1, hz2⟩ := seg_info
  go_enter Try.func89, Try.ntmps89
  go_upto_region 2 with fail
  have hst : PairsOf (w.alloc (Obj.cells #[] 42)) w.heap.size (.slice (some ⟨w.heap.size, 0, none⟩) 0 0) [] := by
    have := World.ownsRow_made (w := w) (base := w.heap.size) (e := 42) (size := 2) #[] 0 (by simp) (by decide) rfl
    simpa [PairsOf, flat] using this
  have hW0 : Wrote (some g) w (w.alloc (Obj.cells #[] 42)) := Wrote.of_ext _ ((Ext.refl _).alloc _)
  replace hS := hS.ext ((Ext.refl _).alloc (Obj.cells #[] 42))
  have hB := hB0.wrote hW0
  generalize hW : World.alloc _ _ = W at *
  clear hW
  go_upto_region 3 with (first | (go_at_call 71; refine (pick_any g n cp _ _ a _ (by first | exact hS | exact hS.ext ((Ext.refl _).alloc _) | exact hS.ext (((Ext.refl _).alloc _).alloc _) | exact hS.ext ((((Ext.refl _).alloc _).alloc _).alloc _) | exact hS.ext ((Ext.refl _).drew) | exact hS.ext ((Ext.refl _).drew.alloc _) | exact hS.ext ((Ext.refl _).alloc _).drew) (by first | exact hB | exact hB.ext ((Ext.refl _).alloc _) | exact hB.ext (((Ext.refl _).alloc _).alloc _) | exact hB.ext ((((Ext.refl _).alloc _).alloc _).alloc _) | exact hB.ext ((Ext.refl _).drew) | exact hB.ext ((Ext.refl _).drew.alloc _) | exact hB.ext ((Ext.refl _).alloc _).drew) (by omega) hn).mono ?_; rintro e w1 ⟨x, rfl, hx, hS2, hW⟩; have hWc := hW; (first | replace hW0 := hW0.trans hW | replace hW0 := (hW0.trans (Wrote.alloc _ _ _)).trans hW | replace hW0 := ((hW0.trans (Wrote.alloc _ _ _)).trans (Wrote.alloc _ _ _)).trans hW | replace hW0 := (((hW0.trans (Wrote.alloc _ _ _)).trans (Wrote.alloc _ _ _)).trans (Wrote.alloc _ _ _)).trans hW | replace hW0 := (hW0.trans (Wrote.of_ext _ ((Ext.refl _).drew))).trans hW | replace hW0 := (hW0.trans (Wrote.of_ext _ ((Ext.refl _).drew.alloc _))).trans hW | replace hW0 := (hW0.trans (Wrote.of_ext _ ((Ext.refl _).alloc _).drew)).trans hW); (first | replace hB := hB.wrote hW | replace hB := (hB.ext ((Ext.refl _).alloc _)).wrote hW | replace hB := (hB.ext (((Ext.refl _).alloc _).alloc _)).wrote hW | replace hB := (hB.ext ((((Ext.refl _).alloc _).alloc _).alloc _)).wrote hW | replace hB := (hB.ext ((Ext.refl _).drew)).wrote hW | replace hB := (hB.ext ((Ext.refl _).drew.alloc _)).wrote hW | replace hB := (hB.ext ((Ext.refl _).alloc _).drew).wrote hW); clear hS hW; have hS := hS2; clear hS2))
  replace hst := hst.src (show Wrote (some g) W w1 from hWc) hlg
  obtain ⟨j0, rfl⟩ : ∃ j : Nat, x = j := ⟨x.toNat, by omega⟩
  have hj0 : j0 ≤ 5 := by omega
  clear hx
  go_loopw [5, 6] (fun vv kk wr => ∃ (j t : Nat) (zs : List (Int × Int)), kk = .int .i64 j ∧ zs.length + j ≤ 5 ∧ t + 4 * j ≤ k + 30 ∧ PairsOf wr w.heap.size vv zs ∧ Src wr g a n cp t ∧ Wrote (some g) w wr) (fun _ kk _ => (intOf kk).toNat)
  case atStart => exact ⟨j0, _, [], rfl, by simpa using hj0, by omega, hst, hS, hW0⟩
  case round =>
    clear hst hS hW0 hB hWc hj0
    obtain ⟨j, t, zs, rfl, hl, ht, hP, hS, hWw⟩ := hrel
    have hB := hB0.wrote hWw
    by_cases h0 : j = 0
    · subst h0
      go_wp2_with fail
      go_ret
      exact ⟨⟨_, _, rfl, hP, by omega⟩, hS.more (by omega), hWw⟩
    · have t1 : (0 : Int) < (j : Int) := by omega
      have t2 : IntKind.i64.wrap ((j : Int) - 1) = (j : Int) - 1 := IntWalk.i64_in _ (by omega)
      have hW0 := Wrote.refl (some g) wr
      go_upto_region 6 with (first | (go_at_call 73; refine (among_any g n cp _ _ _ _ _ _ a _ (by first | exact hS | exact hS.ext ((Ext.refl _).alloc _) | exact hS.ext (((Ext.refl _).alloc _).alloc _) | exact hS.ext ((((Ext.refl _).alloc _).alloc _).alloc _) | exact hS.ext ((Ext.refl _).drew) | exact hS.ext ((Ext.refl _).drew.alloc _) | exact hS.ext ((Ext.refl _).alloc _).drew) (by first | exact hB | exact hB.ext ((Ext.refl _).alloc _) | exact hB.ext (((Ext.refl _).alloc _).alloc _) | exact hB.ext ((((Ext.refl _).alloc _).alloc _).alloc _) | exact hB.ext ((Ext.refl _).drew) | exact hB.ext ((Ext.refl _).drew.alloc _) | exact hB.ext ((Ext.refl _).alloc _).drew) (by omega) hn (by first | exact lit2 _ _ _ | exact lit3 _ _ _ _ | exact lit4 _ _ _ _ _ | exact lit5 _ _ _ _ _ _ | exact lit8 _ _ _ _ _ _ _ _ _) (by omega) (by have := hS.lt; simp; omega)).mono ?_; rintro e w1 ⟨x, rfl, hS2, hW⟩; (first | replace hW0 := hW0.trans hW | replace hW0 := (hW0.trans (Wrote.alloc _ _ _)).trans hW | replace hW0 := ((hW0.trans (Wrote.alloc _ _ _)).trans (Wrote.alloc _ _ _)).trans hW | replace hW0 := (((hW0.trans (Wrote.alloc _ _ _)).trans (Wrote.alloc _ _ _)).trans (Wrote.alloc _ _ _)).trans hW | replace hW0 := (hW0.trans (Wrote.of_ext _ ((Ext.refl _).drew))).trans hW | replace hW0 := (hW0.trans (Wrote.of_ext _ ((Ext.refl _).drew.alloc _))).trans hW | replace hW0 := (hW0.trans (Wrote.of_ext _ ((Ext.refl _).alloc _).drew)).trans hW); (first | replace hB := hB.wrote hW | replace hB := (hB.ext ((Ext.refl _).alloc _)).wrote hW | replace hB := (hB.ext (((Ext.refl _).alloc _).alloc _)).wrote hW | replace hB := (hB.ext ((((Ext.refl _).alloc _).alloc _).alloc _)).wrote hW | replace hB := (hB.ext ((Ext.refl _).drew)).wrote hW | replace hB := (hB.ext ((Ext.refl _).drew.alloc _)).wrote hW | replace hB := (hB.ext ((Ext.refl _).alloc _).drew).wrote hW); clear hS hW; have hS := hS2; clear hS2))
      generalize hU : World.alloc _ _ = U
      have xU : Ext w1 U := by rw [← hU]; exact (Ext.refl _).alloc _
      have hb1 : w1.heap.size < U.heap.size := by rw [← hU]; simp
      have s0 : U.cell? ⟨w1.heap.size, 0, none⟩ = some (.int .i64 x) := by rw [← hU]; simp [go_sem]
      have s1 : U.cell? ⟨w1.heap.size, 1, none⟩ = some (.int .i64 0) := by rw [← hU]; simp [go_sem]
      have z1 : U.frozen? ⟨w1.heap.size, 1, none⟩ = false := by rw [← hU]; simp
      have hbg : g ≠ w1.heap.size := by have := hS.lt; omega
      have hwb : wr.heap.size ≤ w1.heap.size := hW0.size
      have hbr : w.heap.size ≤ w1.heap.size := by have := hWw.size; omega
      replace hS := hS.ext xU
      replace hB := hB.ext xU
      replace hW0 := hW0.trans (Wrote.of_ext _ xU)
      clear hU xU
      generalize w1.heap.size = b at *
      have hbne : some b ≠ some g := fun e => by injection e; omega
      go_upto_region 7 with (first | (go_at_call 73; refine (among_any g n cp _ _ _ _ _ _ a _ (by first | exact hS | exact hS.ext ((Ext.refl _).alloc _) | exact hS.ext (((Ext.refl _).alloc _).alloc _) | exact hS.ext ((((Ext.refl _).alloc _).alloc _).alloc _) | exact hS.ext ((Ext.refl _).drew) | exact hS.ext ((Ext.refl _).drew.alloc _) | exact hS.ext ((Ext.refl _).alloc _).drew) (by first | exact hB | exact hB.ext ((Ext.refl _).alloc _) | exact hB.ext (((Ext.refl _).alloc _).alloc _) | exact hB.ext ((((Ext.refl _).alloc _).alloc _).alloc _) | exact hB.ext ((Ext.refl _).drew) | exact hB.ext ((Ext.refl _).drew.alloc _) | exact hB.ext ((Ext.refl _).alloc _).drew) (by omega) hn (by first | exact lit2 _ _ _ | exact lit3 _ _ _ _ | exact lit4 _ _ _ _ _ | exact lit5 _ _ _ _ _ _ | exact lit8 _ _ _ _ _ _ _ _ _) (by omega) (by have := hS.lt; simp; omega)).mono ?_; rintro e w2 ⟨y, rfl, hS2, hW⟩; have hWb := (Wrote.alloc (some g) _ _).trans hW; replace s0 := (hWb.cell hb1 hbne).trans s0; replace s1 := (hWb.cell hb1 hbne).trans s1; replace z1 := (hWb.free hb1 hbne).trans z1; replace hb1 := Nat.lt_of_lt_of_le hb1 hWb.size; clear hWb; (first | replace hW0 := hW0.trans hW | replace hW0 := (hW0.trans (Wrote.alloc _ _ _)).trans hW | replace hW0 := ((hW0.trans (Wrote.alloc _ _ _)).trans (Wrote.alloc _ _ _)).trans hW | replace hW0 := (((hW0.trans (Wrote.alloc _ _ _)).trans (Wrote.alloc _ _ _)).trans (Wrote.alloc _ _ _)).trans hW | replace hW0 := (hW0.trans (Wrote.of_ext _ ((Ext.refl _).drew))).trans hW | replace hW0 := (hW0.trans (Wrote.of_ext _ ((Ext.refl _).drew.alloc _))).trans hW | replace hW0 := (hW0.trans (Wrote.of_ext _ ((Ext.refl _).alloc _).drew)).trans hW); (first | replace hB := hB.wrote hW | replace hB := (hB.ext ((Ext.refl _).alloc _)).wrote hW | replace hB := (hB.ext (((Ext.refl _).alloc _).alloc _)).wrote hW | replace hB := (hB.ext ((((Ext.refl _).alloc _).alloc _).alloc _)).wrote hW | replace hB := (hB.ext ((Ext.refl _).drew)).wrote hW | replace hB := (hB.ext ((Ext.refl _).drew.alloc _)).wrote hW | replace hB := (hB.ext ((Ext.refl _).alloc _).drew).wrote hW); clear hS hW; have hS := hS2; clear hS2))
      generalize hU : World.setCell _ _ _ = U2
      have hU2 : Wrote (some g) wr U2 := by rw [← hU]; exact hW0.fresh (by simp; omega) _
      have hS2 : Src U2 g a n cp (t + 2 + 2) := by rw [← hU]; exact hS.other (by simp; omega) _
      have r0 : U2.cell? ⟨b, 0, none⟩ = some (.int .i64 x) := by rw [← hU]; simp [go_sem, s0]
      have r1 : U2.cell? ⟨b, 1, none⟩ = some (.int .i64 y) := by rw [← hU]; simp [go_sem, s1]
      clear hU s0 s1 z1 hS hW0 hB
      have hP2 := hP.src hU2 (by omega)
      have hW2 := hWw.trans hU2
      obtain ⟨sa, sc, rfl⟩ := hP.shape
      go_wp2_with (at_builtin; refine wpList_append_wrote _ rfl _ _ 88 rfl w.heap.size 42 i0 pairZero 2 16 Try.underlying88 hii hz0 hz1 hz2 rfl (by decide) _ _ _ rfl (hP2.ext ((Ext.refl _).alloc _)) ⟨U2.heap.size, 0, none⟩ 1 1 [.int .i64 x, .int .i64 y] rfl rfl (pair_new _ _ _ rfl) (pair_cells _ _) ?c3 ?c4 ?c5 ?_)
      case c3 => unfold maxLen; omega
      case c4 => omega
      case c5 => have := hW2.size; simp; omega
      intro v' w3 h3 hx3
      have hP3 : PairsOf w3 w.heap.size v' (zs ++ [(x, y)]) := PairsOf.push h3 rfl
      have hS3 := (hS2.ext ((Ext.refl _).alloc _)).off hx3 (hP2.apart (by omega))
      have hW3 := (hW2.trans (Wrote.alloc _ _ _)).over hx3 hP2.fresh
      clear h3 hx3 hP hP2 hS2 hW2 hU2 r0 r1
      go_wp2_with fail
      go_roundw
      case rel => exact ⟨j - 1, _, _, by congr 1; omega, by simp; omega, by omega, hP3, hS3, hW3⟩
      case measure => simp [intOf]; omega

theorem four_new {w w' : World} (x y z t : Int) (e : TypeId) (h : w' = w.alloc (.cells #[.int .i64 x, .int .i64 y, .int .i64 z, .int .i64 t] e)) : ∀ j u, [Value.int .i64 x, Value.int .i64 y, Value.int .i64 z, Value.int .i64 t][j]? = some u → w'.cell? ((⟨w.heap.size, 0, none⟩ : Addr).add j) = some u := by
  intro j u hj
  subst h
  match j, hj with
  | 0, hj => simp at hj; subst hj; simp [Addr.add]
  | 1, hj => simp at hj; subst hj; simp [Addr.add]
  | 2, hj => simp at hj; subst hj; simp [Addr.add]
  | 3, hj => simp at hj; subst hj; simp [Addr.add]
theorem four_cells (x y z t : Int) : ∀ u ∈ [Value.int .i64 x, Value.int .i64 y, Value.int .i64 z, Value.int .i64 t], u.oneCell' = true := by
  intro u hu
  simp at hu
  rcases hu with rfl | rfl | rfl | rfl <;> rfl
theorem PairsOf.push2 {w : World} {base : Nat} {v : Value} {zs : List (Int × Int)} {x y z t : Int} (h : w.ownsRow base 42 2 v (zs.length + 2) (flat zs ++ [Value.int .i64 x, Value.int .i64 y, Value.int .i64 z, Value.int .i64 t])) : PairsOf w base v (zs ++ [(x, y), (z, t)]) := by
  unfold PairsOf
  rw [flat_append, List.length_append]
  exact h
theorem PairsOf.made (w : World) (zs : List (Int × Int)) (cs : List Value) (hc : flat zs = cs) (hz : zs.length ≤ 1000) : PairsOf (w.alloc (.cells cs.toArray 42)) w.heap.size (.slice (some ⟨w.heap.size, 0, none⟩) zs.length zs.length) zs := by
  subst hc
  have hl := flat_length zs
  have := World.ownsRow_lit (base := w.heap.size) (e := 42) (size := 2) w (flat zs).toArray zs.length (Nat.le_refl _) (by unfold maxLen; omega) (by simp [hl])
  simpa [PairsOf] using this

set_option maxRecDepth 100000 in
set_option maxHeartbeats 2000000 in
theorem drawTrains_any (g n cp k : Nat) (a : Option Addr) (w : World) (hS : Src w g a n cp k) (hB0 : RowB w g a n) (hk : k ≤ 400000) (hn : n ≤ 1048576) :
    Calls Try.prog 83 #[.pointer (some ⟨g, 0, none⟩)] w fun e w' => (∃ v zs, e = .returned v ∧ PairsOf w' w.heap.size v zs ∧ zs.length ≤ 10) ∧ Src w' g a n cp (k + 40) ∧ Wrote (some g) w w' := by
  have hlg := hS.lt
  obtain ⟨i0, hii, hz0, hz1, hz2⟩ := seg_info
  go_enter Try.func83, Try.ntmps83
  go_upto_region 2 with (first | (go_at_call 89; refine (drawTrain_any g n cp k a _ hS hB0 (by omega) hn).mono ?_; rintro e w8 ⟨⟨v, zs, rfl, hP, hl⟩, hS2, hWw⟩; clear hS; have hS := hS2; clear hS2))
  have hB := hB0.wrote hWw
  have hW0 := hWw
  clear hWw
  go_upto_region 3 with (first | (go_at_call 71; refine (pick_any g n cp _ _ a _ (by first | exact hS | exact hS.ext ((Ext.refl _).alloc _) | exact hS.ext (((Ext.refl _).alloc _).alloc _) | exact hS.ext ((((Ext.refl _).alloc _).alloc _).alloc _) | exact hS.ext ((Ext.refl _).drew) | exact hS.ext ((Ext.refl _).drew.alloc _) | exact hS.ext ((Ext.refl _).alloc _).drew) (by first | exact hB | exact hB.ext ((Ext.refl _).alloc _) | exact hB.ext (((Ext.refl _).alloc _).alloc _) | exact hB.ext ((((Ext.refl _).alloc _).alloc _).alloc _) | exact hB.ext ((Ext.refl _).drew) | exact hB.ext ((Ext.refl _).drew.alloc _) | exact hB.ext ((Ext.refl _).alloc _).drew) (by omega) hn).mono ?_; rintro e w1 ⟨x, rfl, hx, hS2, hW⟩; replace hP := hP.src hW hlg; (first | replace hW0 := hW0.trans hW | replace hW0 := (hW0.trans (Wrote.alloc _ _ _)).trans hW | replace hW0 := ((hW0.trans (Wrote.alloc _ _ _)).trans (Wrote.alloc _ _ _)).trans hW | replace hW0 := (((hW0.trans (Wrote.alloc _ _ _)).trans (Wrote.alloc _ _ _)).trans (Wrote.alloc _ _ _)).trans hW | replace hW0 := (hW0.trans (Wrote.of_ext _ ((Ext.refl _).drew))).trans hW | replace hW0 := (hW0.trans (Wrote.of_ext _ ((Ext.refl _).drew.alloc _))).trans hW | replace hW0 := (hW0.trans (Wrote.of_ext _ ((Ext.refl _).alloc _).drew)).trans hW); (first | replace hB := hB.wrote hW | replace hB := (hB.ext ((Ext.refl _).alloc _)).wrote hW | replace hB := (hB.ext (((Ext.refl _).alloc _).alloc _)).wrote hW | replace hB := (hB.ext ((((Ext.refl _).alloc _).alloc _).alloc _)).wrote hW | replace hB := (hB.ext ((Ext.refl _).drew)).wrote hW | replace hB := (hB.ext ((Ext.refl _).drew.alloc _)).wrote hW | replace hB := (hB.ext ((Ext.refl _).alloc _).drew).wrote hW); clear hS hW; have hS := hS2; clear hS2))
  clear hx
  have hwr := hW0.size
  obtain ⟨sa, sc, rfl⟩ := hP.shape
  by_cases e0 : x = 0
  · subst e0
    go_wp2_with (first | (go_at_call 73; refine (among_any g n cp _ _ _ _ _ _ a _ (by first | exact hS | exact hS.ext ((Ext.refl _).alloc _) | exact hS.ext (((Ext.refl _).alloc _).alloc _) | exact hS.ext ((((Ext.refl _).alloc _).alloc _).alloc _) | exact hS.ext ((Ext.refl _).drew) | exact hS.ext ((Ext.refl _).drew.alloc _) | exact hS.ext ((Ext.refl _).alloc _).drew) (by first | exact hB | exact hB.ext ((Ext.refl _).alloc _) | exact hB.ext (((Ext.refl _).alloc _).alloc _) | exact hB.ext ((((Ext.refl _).alloc _).alloc _).alloc _) | exact hB.ext ((Ext.refl _).drew) | exact hB.ext ((Ext.refl _).drew.alloc _) | exact hB.ext ((Ext.refl _).alloc _).drew) (by omega) hn (by first | exact lit2 _ _ _ | exact lit3 _ _ _ _ | exact lit4 _ _ _ _ _ | exact lit5 _ _ _ _ _ _ | exact lit8 _ _ _ _ _ _ _ _ _) (by omega) (by have := hS.lt; simp; omega)).mono ?_; rintro e w1 ⟨y, rfl, hS2, hW⟩; replace hP := hP.src ((Wrote.alloc (some g) _ _).trans hW) hlg; (first | replace hW0 := hW0.trans hW | replace hW0 := (hW0.trans (Wrote.alloc _ _ _)).trans hW | replace hW0 := ((hW0.trans (Wrote.alloc _ _ _)).trans (Wrote.alloc _ _ _)).trans hW | replace hW0 := (((hW0.trans (Wrote.alloc _ _ _)).trans (Wrote.alloc _ _ _)).trans (Wrote.alloc _ _ _)).trans hW | replace hW0 := (hW0.trans (Wrote.of_ext _ ((Ext.refl _).drew))).trans hW | replace hW0 := (hW0.trans (Wrote.of_ext _ ((Ext.refl _).drew.alloc _))).trans hW | replace hW0 := (hW0.trans (Wrote.of_ext _ ((Ext.refl _).alloc _).drew)).trans hW); (first | replace hB := hB.wrote hW | replace hB := (hB.ext ((Ext.refl _).alloc _)).wrote hW | replace hB := (hB.ext (((Ext.refl _).alloc _).alloc _)).wrote hW | replace hB := (hB.ext ((((Ext.refl _).alloc _).alloc _).alloc _)).wrote hW | replace hB := (hB.ext ((Ext.refl _).drew)).wrote hW | replace hB := (hB.ext ((Ext.refl _).drew.alloc _)).wrote hW | replace hB := (hB.ext ((Ext.refl _).alloc _).drew).wrote hW); clear hS hW; have hS := hS2; clear hS2) | (at_builtin; refine wpList_append_wrote _ rfl _ _ 88 rfl w.heap.size 42 i0 pairZero 2 16 Try.underlying88 hii hz0 hz1 hz2 rfl (by decide) _ _ _ rfl (hP.ext ((Ext.refl _).alloc _)) ⟨_, 0, none⟩ 1 1 [.int .i64 y, .int .i64 10] rfl rfl (pair_new _ _ _ rfl) (pair_cells _ _) (by unfold maxLen; omega) (by omega) (by have := hW0.size; simp; omega) ?_; intro v' w3 h3 hx3))
    go_ret
    exact ⟨⟨_, _, rfl, PairsOf.push h3 rfl, by simp; omega⟩, (((hS.ext ((Ext.refl _).alloc _)).off hx3 (hP.apart hlg)).more (by omega)), (hW0.trans (Wrote.alloc _ _ _)).over hx3 hP.fresh⟩
  by_cases e1 : x = 1
  · subst e1
    go_wp2_with (first | (go_at_call 73; refine (among_any g n cp _ _ _ _ _ _ a _ (by first | exact hS | exact hS.ext ((Ext.refl _).alloc _) | exact hS.ext (((Ext.refl _).alloc _).alloc _) | exact hS.ext ((((Ext.refl _).alloc _).alloc _).alloc _) | exact hS.ext ((Ext.refl _).drew) | exact hS.ext ((Ext.refl _).drew.alloc _) | exact hS.ext ((Ext.refl _).alloc _).drew) (by first | exact hB | exact hB.ext ((Ext.refl _).alloc _) | exact hB.ext (((Ext.refl _).alloc _).alloc _) | exact hB.ext ((((Ext.refl _).alloc _).alloc _).alloc _) | exact hB.ext ((Ext.refl _).drew) | exact hB.ext ((Ext.refl _).drew.alloc _) | exact hB.ext ((Ext.refl _).alloc _).drew) (by omega) hn (by first | exact lit2 _ _ _ | exact lit3 _ _ _ _ | exact lit4 _ _ _ _ _ | exact lit5 _ _ _ _ _ _ | exact lit8 _ _ _ _ _ _ _ _ _) (by omega) (by have := hS.lt; simp; omega)).mono ?_; rintro e w1 ⟨y, rfl, hS2, hW⟩; replace hP := hP.src ((Wrote.alloc (some g) _ _).trans hW) hlg; (first | replace hW0 := hW0.trans hW | replace hW0 := (hW0.trans (Wrote.alloc _ _ _)).trans hW | replace hW0 := ((hW0.trans (Wrote.alloc _ _ _)).trans (Wrote.alloc _ _ _)).trans hW | replace hW0 := (((hW0.trans (Wrote.alloc _ _ _)).trans (Wrote.alloc _ _ _)).trans (Wrote.alloc _ _ _)).trans hW | replace hW0 := (hW0.trans (Wrote.of_ext _ ((Ext.refl _).drew))).trans hW | replace hW0 := (hW0.trans (Wrote.of_ext _ ((Ext.refl _).drew.alloc _))).trans hW | replace hW0 := (hW0.trans (Wrote.of_ext _ ((Ext.refl _).alloc _).drew)).trans hW); (first | replace hB := hB.wrote hW | replace hB := (hB.ext ((Ext.refl _).alloc _)).wrote hW | replace hB := (hB.ext (((Ext.refl _).alloc _).alloc _)).wrote hW | replace hB := (hB.ext ((((Ext.refl _).alloc _).alloc _).alloc _)).wrote hW | replace hB := (hB.ext ((Ext.refl _).drew)).wrote hW | replace hB := (hB.ext ((Ext.refl _).drew.alloc _)).wrote hW | replace hB := (hB.ext ((Ext.refl _).alloc _).drew).wrote hW); clear hS hW; have hS := hS2; clear hS2) | (at_builtin; refine wpList_append_wrote _ rfl _ _ 88 rfl w.heap.size 42 i0 pairZero 2 16 Try.underlying88 hii hz0 hz1 hz2 rfl (by decide) _ _ _ rfl (hP.ext ((Ext.refl _).alloc _)) ⟨_, 0, none⟩ 1 1 [.int .i64 60, .int .i64 y] rfl rfl (pair_new _ _ _ rfl) (pair_cells _ _) (by unfold maxLen; omega) (by omega) (by have := hW0.size; simp; omega) ?_; intro v' w3 h3 hx3))
    go_ret
    exact ⟨⟨_, _, rfl, PairsOf.push h3 rfl, by simp; omega⟩, (((hS.ext ((Ext.refl _).alloc _)).off hx3 (hP.apart hlg)).more (by omega)), (hW0.trans (Wrote.alloc _ _ _)).over hx3 hP.fresh⟩
  by_cases e2 : x = 2
  · subst e2
    go_wp2_with (first | (at_builtin; refine wpList_append_wrote _ rfl _ _ 88 rfl w.heap.size 42 i0 pairZero 2 16 Try.underlying88 hii hz0 hz1 hz2 rfl (by decide) _ _ _ rfl (hP.ext ((Ext.refl _).alloc _)) ⟨_, 0, none⟩ 2 2 [.int .i64 60, .int .i64 8, .int .i64 60, .int .i64 8] rfl rfl (four_new _ _ _ _ _ rfl) (four_cells _ _ _ _) (by unfold maxLen; omega) (by omega) (by have := hW0.size; simp; omega) ?_; intro v' w3 h3 hx3))
    go_ret
    exact ⟨⟨_, _, rfl, PairsOf.push2 h3, by simp; omega⟩, (((hS.ext ((Ext.refl _).alloc _)).off hx3 (hP.apart hlg)).more (by omega)), (hW0.trans (Wrote.alloc _ _ _)).over hx3 hP.fresh⟩
  have t0 : (x == 0) = false := by simpa using e0
  have t1 : (x == 1) = false := by simpa using e1
  have t2 : (x == 2) = false := by simpa using e2
  by_cases e3 : x = 3
  · subst e3
    go_wp2_with fail
    go_ret
    exact ⟨⟨_, _, rfl, (PairsOf.made w1 [(239, 7), (233, 11), (229, 13), (227, 17), (223, 19)] _ rfl (by decide)).low hwr, by decide⟩, (hS.ext ((Ext.refl _).alloc _)).more (by omega), hW0.trans (Wrote.alloc _ _ _)⟩
  · have t3 : (x == 3) = false := by simpa using e3
    go_wp2_with fail
    go_ret
    exact ⟨⟨_, _, rfl, hP, by omega⟩, hS.more (by omega), hW0⟩
end Go.Proofs.Ytbhhiodbhlhpmaa

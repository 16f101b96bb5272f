/-
  The drifts after the segments: the program's and the reference's.
-/
import Derived.Test.YtiodlbgfgeimoaaAfter2
import Derived.Test.YtiodlbgfgeimoaaDrift
import Derived.Test.YtiodlbgfgeimoaaPlace
import Derived.Deep.DeepCutAuto
namespace Go.Proofs.Ytiodlbgfgeimoaa
open Go.RowKit
set_option linter.unusedSimpArgs false
set_option linter.unusedVariables false

theorem rtv2 {v : Value} {c d : Int} (h : c = d) : Ending.returned (.tuple #[v, .int .i64 c]) = .returned (.tuple #[v, .int .i64 d]) := by rw [h]
theorem own_base' {W cur w1 : World} {v : Value} {zs : List Int} (h : IntsOf w1 cur.heap.size v zs) (hb : W.heap.size ≤ cur.heap.size) : IntsOf w1 W.heap.size v zs := own_base h hb
theorem take_push {L : List Int} {i : Nat} {x : Int} (hi : i < L.length) (hx : L.getD i 0 = x) : (L.take (i + 1)).map (fun x => near x 24) = (L.take i).map (fun x => near x 24) ++ [near x 24] := by
  rw [List.getD_eq_getElem?_getD, List.getElem?_eq_getElem hi] at hx
  rw [List.take_succ_eq_append_getElem hi, List.map_append]
  simp at hx
  simp [hx]
theorem placed {v v' : Option Nat} {N : Nat} {g : Nat} (h : some g = none ∨ some g ≠ v) (hp : v' = v ∨ ∃ k, v' = some k ∧ N ≤ k) (hg : g < N) : some g = none ∨ some g ≠ v' := by
  rcases hp with rfl | ⟨k, rfl, hk⟩
  · exact h
  · right; intro e; injection e with e; omega

set_option maxRecDepth 100000 in
set_option maxHeartbeats 8000000 in
theorem implDriftsAfter_any (b l c m : Int) (a : Option Addr) (n cp : Nat) (zs : List (Int × Int)) (w : World) (hr : RowAt w a zs) (hn : zs.length = n) (hk : n ≤ 1048576) :
    Calls Try.prog 44 #[.agg #[.int .i64 b, .int .i64 l, .int .i64 c, .int .i64 m], .slice a n cp] w fun e w' => ∃ v, e = .returned (.tuple #[v, .int .i64 (drC b l c m zs)]) ∧ IntsOf w' w.heap.size v (drR b l c m zs) ∧ Ext w w' := by
  cases h1 : vRate b l c m
  · have e1 := Lib.hid (show [] = drR b l c m zs by simp [drR, h1])
    have e2 := Lib.hid (show 1 = drC b l c m zs by simp [drC, h1])
    go_enter Try.func44, Try.ntmps44
    go_wp2_with fail
    generalize hW : (w.alloc (Obj.cells #[.int .i64 b, .int .i64 l, .int .i64 c, .int .i64 m] 25)) = W
    have hE : Ext w W := by rw [← hW]; exact ((Ext.refl _).alloc _)
    have hl0 : w.heap.size < W.heap.size := by rw [← hW]; simp; try omega
    have f0_0 : W.cell? ⟨w.heap.size, 0, none⟩ = some (.int .i64 b) := by rw [← hW]; simp
    have f0_1 : W.cell? ⟨w.heap.size, 1, none⟩ = some (.int .i64 l) := by rw [← hW]; simp
    have f0_2 : W.cell? ⟨w.heap.size, 2, none⟩ = some (.int .i64 c) := by rw [← hW]; simp
    have f0_3 : W.cell? ⟨w.heap.size, 3, none⟩ = some (.int .i64 m) := by rw [← hW]; simp
    clear hW
    have x0 := Ext.refl W
    have hrW := hr.ext hE
    go_wp2_with (first | (go_at_call 20; refine (implValidRate_any b l c m _).mono ?_; rintro e w1 ⟨rfl, x1⟩; (try clear xc xf xs); (first | replace x0 := x0.trans x1 | replace x0 := (x0.alloc _).trans x1 | replace x0 := (x0.drew).trans x1 | replace x0 := (x0.drew.alloc _).trans x1 | replace x0 := (x0.alloc _).drew.trans x1 | replace x0 := ((x0.alloc _).alloc _).trans x1 | have x0 := x1); clear x1; obtain ⟨xc, xf, xs⟩ := x0.cells) | (go_at_call 28; refine (implValidSegments_any _ _ _ zs _ (hrW.ext x0) hn hk).mono ?_; rintro e w1 ⟨rfl, x1⟩; (try clear xc xf xs); (first | replace x0 := x0.trans x1 | replace x0 := (x0.alloc _).trans x1 | replace x0 := (x0.drew).trans x1 | replace x0 := (x0.drew.alloc _).trans x1 | replace x0 := (x0.alloc _).drew.trans x1 | replace x0 := ((x0.alloc _).alloc _).trans x1 | have x0 := x1); clear x1; obtain ⟨xc, xf, xs⟩ := x0.cells))
    go_ret2
    exact ⟨_, rtv2 e2.out, (by rw [← e1.out]; exact World.ownsRow_nil _ _ _ _), hE.trans x0⟩
  obtain ⟨hb, hl, hc, hm⟩ := vRate_iff.1 h1
  cases h2 : vSegs zs
  · have e1 := Lib.hid (show [] = drR b l c m zs by simp [drR, h1, h2])
    have e2 := Lib.hid (show 1 = drC b l c m zs by simp [drC, h1, h2])
    go_enter Try.func44, Try.ntmps44
    go_wp2_with fail
    generalize hW : (w.alloc (Obj.cells #[.int .i64 b, .int .i64 l, .int .i64 c, .int .i64 m] 25)) = W
    have hE : Ext w W := by rw [← hW]; exact ((Ext.refl _).alloc _)
    have hl0 : w.heap.size < W.heap.size := by rw [← hW]; simp; try omega
    have f0_0 : W.cell? ⟨w.heap.size, 0, none⟩ = some (.int .i64 b) := by rw [← hW]; simp
    have f0_1 : W.cell? ⟨w.heap.size, 1, none⟩ = some (.int .i64 l) := by rw [← hW]; simp
    have f0_2 : W.cell? ⟨w.heap.size, 2, none⟩ = some (.int .i64 c) := by rw [← hW]; simp
    have f0_3 : W.cell? ⟨w.heap.size, 3, none⟩ = some (.int .i64 m) := by rw [← hW]; simp
    clear hW
    have x0 := Ext.refl W
    have hrW := hr.ext hE
    go_wp2_with (first | (go_at_call 20; refine (implValidRate_any b l c m _).mono ?_; rintro e w1 ⟨rfl, x1⟩; (try clear xc xf xs); (first | replace x0 := x0.trans x1 | replace x0 := (x0.alloc _).trans x1 | replace x0 := (x0.drew).trans x1 | replace x0 := (x0.drew.alloc _).trans x1 | replace x0 := (x0.alloc _).drew.trans x1 | replace x0 := ((x0.alloc _).alloc _).trans x1 | have x0 := x1); clear x1; obtain ⟨xc, xf, xs⟩ := x0.cells) | (go_at_call 28; refine (implValidSegments_any _ _ _ zs _ (hrW.ext x0) hn hk).mono ?_; rintro e w1 ⟨rfl, x1⟩; (try clear xc xf xs); (first | replace x0 := x0.trans x1 | replace x0 := (x0.alloc _).trans x1 | replace x0 := (x0.drew).trans x1 | replace x0 := (x0.drew.alloc _).trans x1 | replace x0 := (x0.alloc _).drew.trans x1 | replace x0 := ((x0.alloc _).alloc _).trans x1 | have x0 := x1); clear x1; obtain ⟨xc, xf, xs⟩ := x0.cells))
    go_ret2
    exact ⟨_, rtv2 e2.out, (by rw [← e1.out]; exact World.ownsRow_nil _ _ _ _), hE.trans x0⟩
  have e1 := Lib.hid (show (sums b l c m zs n).map (fun x => near x 24) = drR b l c m zs by simp [drR, h1, h2, hn, drL])
  have e2 := Lib.hid (show 0 = drC b l c m zs by simp [drC, h1, h2])
  have hlen := vSegs_len h2
  rw [hn] at hlen
  have hbd := Lib.hid (fun j (hj : j < n) => sums_bd hb hl hc hm h2 (j := j) (n := n) hj (by omega))
  have hLn := Lib.hid (sums_length b l c m zs n)
  go_enter Try.func44, Try.ntmps44
  go_wp2_with fail
  generalize hW : (w.alloc (Obj.cells #[.int .i64 b, .int .i64 l, .int .i64 c, .int .i64 m] 25)) = W
  have hE : Ext w W := by rw [← hW]; exact ((Ext.refl _).alloc _)
  have hl0 : w.heap.size < W.heap.size := by rw [← hW]; simp; try omega
  have f0_0 : W.cell? ⟨w.heap.size, 0, none⟩ = some (.int .i64 b) := by rw [← hW]; simp
  have f0_1 : W.cell? ⟨w.heap.size, 1, none⟩ = some (.int .i64 l) := by rw [← hW]; simp
  have f0_2 : W.cell? ⟨w.heap.size, 2, none⟩ = some (.int .i64 c) := by rw [← hW]; simp
  have f0_3 : W.cell? ⟨w.heap.size, 3, none⟩ = some (.int .i64 m) := by rw [← hW]; simp
  clear hW
  have x0 := Ext.refl W
  have hrW := hr.ext hE
  go_upto_region 4 with (first | (go_at_call 20; refine (implValidRate_any b l c m _).mono ?_; rintro e w1 ⟨rfl, x1⟩; (try clear xc xf xs); (first | replace x0 := x0.trans x1 | replace x0 := (x0.alloc _).trans x1 | replace x0 := (x0.drew).trans x1 | replace x0 := (x0.drew.alloc _).trans x1 | replace x0 := (x0.alloc _).drew.trans x1 | replace x0 := ((x0.alloc _).alloc _).trans x1 | have x0 := x1); clear x1; obtain ⟨xc, xf, xs⟩ := x0.cells) | (go_at_call 28; refine (implValidSegments_any _ _ _ zs _ (hrW.ext x0) hn hk).mono ?_; rintro e w1 ⟨rfl, x1⟩; (try clear xc xf xs); (first | replace x0 := x0.trans x1 | replace x0 := (x0.alloc _).trans x1 | replace x0 := (x0.drew).trans x1 | replace x0 := (x0.drew.alloc _).trans x1 | replace x0 := (x0.alloc _).drew.trans x1 | replace x0 := ((x0.alloc _).alloc _).trans x1 | have x0 := x1); clear x1; obtain ⟨xc, xf, xs⟩ := x0.cells) | (go_at_call 74; refine (sumsOf_any b l c m _ _ _ zs _ hb hl hc hm h2 (hrW.ext x0) hn).mono ?_; rintro e w1 ⟨sv, rfl, hsv, x1⟩; have hsz := x0.size; (try clear xc xf xs); (first | replace x0 := x0.trans x1 | replace x0 := (x0.alloc _).trans x1 | replace x0 := (x0.drew).trans x1 | replace x0 := (x0.drew.alloc _).trans x1 | replace x0 := (x0.alloc _).drew.trans x1 | replace x0 := ((x0.alloc _).alloc _).trans x1 | have x0 := x1); clear x1; obtain ⟨xc, xf, xs⟩ := x0.cells))
  replace hsv := own_base' hsv hsz
  clear xc xf xs hsz h1 h2
  rename World => U
  obtain ⟨sa, sc, rfl⟩ := hsv.shape
  rw [hLn.out]
  rw [hLn.out] at hsv
  have hsW := hE.size
  replace hE := hE.trans x0
  generalize W.heap.size = B at hsv hsW
  clear x0 hrW hr f0_0 f0_1 f0_2 f0_3
  generalize sums b l c m zs n = L at *
  go_wp2_with fail
  go_loopw [21] (fun kk wr => ∃ i : Nat, kk = .int .i64 i ∧ i ≤ n ∧ Ext w wr ∧ ∃ ys, IntsOf wr B (.slice sa n sc) ys ∧ Hid ((∀ j, j < i → ys.getD j 0 = near (L.getD j 0) 24) ∧ (∀ j, i ≤ j → ys.getD j 0 = L.getD j 0))) (fun kk _ => n - (intOf kk).toNat)
  case atStart => exact ⟨0, rfl, Nat.zero_le _, hE, L, hsv, Lib.hid ⟨fun j hj => by omega, fun j hj => rfl⟩⟩
  case round =>
    clear hE hsv
    obtain ⟨i, rfl, hi, xw, ys, hy, hh⟩ := hrel
    have hyn := Lib.hid hy.len
    by_cases h0 : i < n
    · obtain ⟨g, x, rfl, hg, hx, c0⟩ := hy.nth (j := i) (by rw [hyn.out]; exact h0)
      have hxL := Lib.hid (show L.getD i 0 = x by rw [← hh.out.2 i (Nat.le_refl _)]; exact hx.out)
      have hxb := hbd.out i h0
      rw [hxL.out] at hxb
      have z0 : wr.frozen? ⟨g, i, none⟩ = false := by
        unfold IntsOf at hy
        rw [hyn.out] at hy
        exact World.ownsRow.frozenAt hy i
      have hgB := (hy.lt g rfl).1
      have t1 : decide ((i : Int) < (n : Int)) = true := by simp; omega
      have hset := Lib.hid (hy.set i (near x 24))
      clear hy hx
      go_wp2_with (go_at_call 80; refine (nearestDiv_any _ _ _ (by omega) (by omega)).mono ?_; rintro e w1 ⟨rfl, rfl⟩)
      go_roundw
      case rel =>
        refine ⟨i + 1, by go_num, by omega, xw.setCell (by simp; omega) _, _, hset.out, Lib.hid ⟨fun j hj => ?_, fun j hj => ?_⟩⟩
        · rw [List.getD_eq_getElem?_getD, List.getElem?_set]
          by_cases hji : i = j
          · subst hji; simp [hyn.out, h0, ← hxL.out]
          · rw [if_neg hji, ← List.getD_eq_getElem?_getD]; exact hh.out.1 j (by omega)
        · rw [List.getD_eq_getElem?_getD, List.getElem?_set, if_neg (by omega), ← List.getD_eq_getElem?_getD]
          exact hh.out.2 j (by omega)
      case measure => simp [intOf]; omega
    · obtain rfl : n = i := by omega
      have t1 : decide ((n : Int) < (n : Int)) = false := by simp
      have he := rows_same hLn.out hyn.out (fun j hj => hh.out.1 j hj)
      subst he
      replace hy := Lib.hid hy
      clear hh hyn
      go_wp2_with fail
      go_ret2
      exact ⟨_, rtv2 e2.out, (by rw [← e1.out]; exact own_base hy.out (by omega)), xw⟩

set_option maxRecDepth 100000 in
set_option maxHeartbeats 8000000 in
theorem specDriftsAfter_any (b l c m : Int) (a : Option Addr) (n cp : Nat) (zs : List (Int × Int)) (w : World) (hr : RowAt w a zs) (hn : zs.length = n) (hk : n ≤ 1048576) :
    Calls Try.prog 43 #[.agg #[.int .i64 b, .int .i64 l, .int .i64 c, .int .i64 m], .slice a n cp] w fun e w' => ∃ v, e = .returned (.tuple #[v, .int .i64 (drC b l c m zs)]) ∧ IntsOf w' w.heap.size v (drR b l c m zs) ∧ Ext w w' := by
  cases h1 : vRate b l c m
  · have e1 := Lib.hid (show [] = drR b l c m zs by simp [drR, h1])
    have e2 := Lib.hid (show 1 = drC b l c m zs by simp [drC, h1])
    go_enter Try.func43, Try.ntmps43
    go_wp2_with fail
    generalize hW : (w.alloc (Obj.cells #[.int .i64 b, .int .i64 l, .int .i64 c, .int .i64 m] 25)) = W
    have hE : Ext w W := by rw [← hW]; exact ((Ext.refl _).alloc _)
    have hl0 : w.heap.size < W.heap.size := by rw [← hW]; simp; try omega
    have f0_0 : W.cell? ⟨w.heap.size, 0, none⟩ = some (.int .i64 b) := by rw [← hW]; simp
    have f0_1 : W.cell? ⟨w.heap.size, 1, none⟩ = some (.int .i64 l) := by rw [← hW]; simp
    have f0_2 : W.cell? ⟨w.heap.size, 2, none⟩ = some (.int .i64 c) := by rw [← hW]; simp
    have f0_3 : W.cell? ⟨w.heap.size, 3, none⟩ = some (.int .i64 m) := by rw [← hW]; simp
    clear hW
    have x0 := Ext.refl W
    have hrW := hr.ext hE
    go_wp2_with (first | (go_at_call 60; refine (l12Ok_any b l c m _).mono ?_; rintro e w1 ⟨rfl, x1⟩; (try clear xc xf xs); (first | replace x0 := x0.trans x1 | replace x0 := (x0.alloc _).trans x1 | replace x0 := (x0.drew).trans x1 | replace x0 := (x0.drew.alloc _).trans x1 | replace x0 := (x0.alloc _).drew.trans x1 | replace x0 := ((x0.alloc _).alloc _).trans x1 | have x0 := x1); clear x1; obtain ⟨xc, xf, xs⟩ := x0.cells) | (go_at_call 66; refine (l12List_any _ _ _ zs _ (hrW.ext x0) hn hk).mono ?_; rintro e w1 ⟨rfl, x1⟩; (try clear xc xf xs); (first | replace x0 := x0.trans x1 | replace x0 := (x0.alloc _).trans x1 | replace x0 := (x0.drew).trans x1 | replace x0 := (x0.drew.alloc _).trans x1 | replace x0 := (x0.alloc _).drew.trans x1 | replace x0 := ((x0.alloc _).alloc _).trans x1 | have x0 := x1); clear x1; obtain ⟨xc, xf, xs⟩ := x0.cells))
    go_ret2
    exact ⟨_, rtv2 e2.out, (by rw [← e1.out]; exact World.ownsRow_nil _ _ _ _), hE.trans x0⟩
  obtain ⟨hb, hl, hc, hm⟩ := vRate_iff.1 h1
  cases h2 : vSegs zs
  · have e1 := Lib.hid (show [] = drR b l c m zs by simp [drR, h1, h2])
    have e2 := Lib.hid (show 1 = drC b l c m zs by simp [drC, h1, h2])
    go_enter Try.func43, Try.ntmps43
    go_wp2_with fail
    generalize hW : (w.alloc (Obj.cells #[.int .i64 b, .int .i64 l, .int .i64 c, .int .i64 m] 25)) = W
    have hE : Ext w W := by rw [← hW]; exact ((Ext.refl _).alloc _)
    have hl0 : w.heap.size < W.heap.size := by rw [← hW]; simp; try omega
    have f0_0 : W.cell? ⟨w.heap.size, 0, none⟩ = some (.int .i64 b) := by rw [← hW]; simp
    have f0_1 : W.cell? ⟨w.heap.size, 1, none⟩ = some (.int .i64 l) := by rw [← hW]; simp
    have f0_2 : W.cell? ⟨w.heap.size, 2, none⟩ = some (.int .i64 c) := by rw [← hW]; simp
    have f0_3 : W.cell? ⟨w.heap.size, 3, none⟩ = some (.int .i64 m) := by rw [← hW]; simp
    clear hW
    have x0 := Ext.refl W
    have hrW := hr.ext hE
    go_wp2_with (first | (go_at_call 60; refine (l12Ok_any b l c m _).mono ?_; rintro e w1 ⟨rfl, x1⟩; (try clear xc xf xs); (first | replace x0 := x0.trans x1 | replace x0 := (x0.alloc _).trans x1 | replace x0 := (x0.drew).trans x1 | replace x0 := (x0.drew.alloc _).trans x1 | replace x0 := (x0.alloc _).drew.trans x1 | replace x0 := ((x0.alloc _).alloc _).trans x1 | have x0 := x1); clear x1; obtain ⟨xc, xf, xs⟩ := x0.cells) | (go_at_call 66; refine (l12List_any _ _ _ zs _ (hrW.ext x0) hn hk).mono ?_; rintro e w1 ⟨rfl, x1⟩; (try clear xc xf xs); (first | replace x0 := x0.trans x1 | replace x0 := (x0.alloc _).trans x1 | replace x0 := (x0.drew).trans x1 | replace x0 := (x0.drew.alloc _).trans x1 | replace x0 := (x0.alloc _).drew.trans x1 | replace x0 := ((x0.alloc _).alloc _).trans x1 | have x0 := x1); clear x1; obtain ⟨xc, xf, xs⟩ := x0.cells))
    go_ret2
    exact ⟨_, rtv2 e2.out, (by rw [← e1.out]; exact World.ownsRow_nil _ _ _ _), hE.trans x0⟩
  have e1 := Lib.hid (show (sums b l c m zs n).map (fun x => near x 24) = drR b l c m zs by simp [drR, h1, h2, hn, drL])
  have e2 := Lib.hid (show 0 = drC b l c m zs by simp [drC, h1, h2])
  have hlen := vSegs_len h2
  rw [hn] at hlen
  have hbd := Lib.hid (fun j (hj : j < n) => sums_bd hb hl hc hm h2 (j := j) (n := n) hj (by omega))
  have hLn := Lib.hid (sums_length b l c m zs n)
  go_enter Try.func43, Try.ntmps43
  go_wp2_with fail
  generalize hW : (w.alloc (Obj.cells #[.int .i64 b, .int .i64 l, .int .i64 c, .int .i64 m] 25)) = W
  have hE : Ext w W := by rw [← hW]; exact ((Ext.refl _).alloc _)
  have hl0 : w.heap.size < W.heap.size := by rw [← hW]; simp; try omega
  have f0_0 : W.cell? ⟨w.heap.size, 0, none⟩ = some (.int .i64 b) := by rw [← hW]; simp
  have f0_1 : W.cell? ⟨w.heap.size, 1, none⟩ = some (.int .i64 l) := by rw [← hW]; simp
  have f0_2 : W.cell? ⟨w.heap.size, 2, none⟩ = some (.int .i64 c) := by rw [← hW]; simp
  have f0_3 : W.cell? ⟨w.heap.size, 3, none⟩ = some (.int .i64 m) := by rw [← hW]; simp
  clear hW
  have x0 := Ext.refl W
  have hrW := hr.ext hE
  go_upto_region 3 with (first | (go_at_call 60; refine (l12Ok_any b l c m _).mono ?_; rintro e w1 ⟨rfl, x1⟩; (try clear xc xf xs); (first | replace x0 := x0.trans x1 | replace x0 := (x0.alloc _).trans x1 | replace x0 := (x0.drew).trans x1 | replace x0 := (x0.drew.alloc _).trans x1 | replace x0 := (x0.alloc _).drew.trans x1 | replace x0 := ((x0.alloc _).alloc _).trans x1 | have x0 := x1); clear x1; obtain ⟨xc, xf, xs⟩ := x0.cells) | (go_at_call 66; refine (l12List_any _ _ _ zs _ (hrW.ext x0) hn hk).mono ?_; rintro e w1 ⟨rfl, x1⟩; (try clear xc xf xs); (first | replace x0 := x0.trans x1 | replace x0 := (x0.alloc _).trans x1 | replace x0 := (x0.drew).trans x1 | replace x0 := (x0.drew.alloc _).trans x1 | replace x0 := (x0.alloc _).drew.trans x1 | replace x0 := ((x0.alloc _).alloc _).trans x1 | have x0 := x1); clear x1; obtain ⟨xc, xf, xs⟩ := x0.cells))
  replace f0_0 := (x0.cells.1 _ _ hl0).trans f0_0
  replace f0_1 := (x0.cells.1 _ _ hl0).trans f0_1
  replace f0_2 := (x0.cells.1 _ _ hl0).trans f0_2
  replace f0_3 := (x0.cells.1 _ _ hl0).trans f0_3
  replace hl0 := Nat.lt_of_lt_of_le hl0 x0.size
  replace hE := hE.trans x0
  clear xc xf xs x0
  rename World => U
  have hst0 : (U.alloc (Obj.cells #[] 2)).ownsRow U.heap.size 2 1 (.slice (some ⟨U.heap.size, 0, none⟩) 0 0) 0 [] := by
    have := World.ownsRow_made (w := U) (base := U.heap.size) (e := 2) (size := 1) #[] 0 (Nat.le_refl _) (by decide) rfl
    simpa using this
  go_upto_region 4 with fail
  generalize hV : World.alloc _ _ = V
  rw [hV] at hst0
  have xV : Ext U V := by rw [← hV]; exact (Ext.refl _).alloc _
  have hVs : V.heap.size = U.heap.size + 1 := by rw [← hV]; simp
  clear hV
  replace f0_0 := (xV.cells.1 _ _ hl0).trans f0_0
  replace f0_1 := (xV.cells.1 _ _ hl0).trans f0_1
  replace f0_2 := (xV.cells.1 _ _ hl0).trans f0_2
  replace f0_3 := (xV.cells.1 _ _ hl0).trans f0_3
  have hsW := hE.size
  replace hl0 := Nat.lt_of_lt_of_le hl0 xV.size
  replace hE := hE.trans xV
  replace hrW := hr.ext hE
  clear xV
  have x0 := Ext.refl V
  go_upto_region 5 with (go_at_call 73; refine (l12Sums_any b l c m _ _ _ zs _ hb hl hc hm h2 (hrW.ext x0) hn).mono ?_; rintro e w1 ⟨sv, rfl, hsv, x1⟩; have hsz := x0.size; (try clear xc xf xs); (first | replace x0 := x0.trans x1 | replace x0 := (x0.alloc _).trans x1 | replace x0 := (x0.drew).trans x1 | replace x0 := (x0.drew.alloc _).trans x1 | replace x0 := (x0.alloc _).drew.trans x1 | replace x0 := ((x0.alloc _).alloc _).trans x1 | have x0 := x1); clear x1; obtain ⟨xc, xf, xs⟩ := x0.cells)
  clear xc xf xs hsz h1 h2
  rename World => Z
  obtain ⟨sa, sc, rfl⟩ := hsv.shape
  rw [hLn.out]
  rw [hLn.out] at hsv
  replace hE := hE.trans x0
  have hap := apart' (v := .slice (some ⟨U.heap.size, 0, none⟩) 0 0) (zs := []) hst0 hsv (Nat.le_refl _)
  replace hst0 : IntsOf Z U.heap.size (.slice (some ⟨U.heap.size, 0, none⟩) 0 0) [] := own_ext hst0 x0
  have hZB : U.heap.size ≤ Z.heap.size := by have := x0.size; omega
  generalize V.heap.size = B' at hsv hVs
  generalize U.heap.size = B at *
  clear x0 hrW hr f0_0 f0_1 f0_2 f0_3 hl0 hVs
  generalize sums b l c m zs n = L at *
  go_wp2_with fail
  go_loopw [6, 8] (fun ov kk wr => ∃ i : Nat, kk = .int .i64 i ∧ i ≤ n ∧ Ext w wr ∧ B ≤ wr.heap.size ∧ IntsOf wr B' (.slice sa n sc) L ∧ (∃ O, IntsOf wr B ov O ∧ Hid (O = (L.take i).map (fun x => near x 24))) ∧ ((Value.slice sa n sc).ownBlock = none ∨ (Value.slice sa n sc).ownBlock ≠ ov.ownBlock)) (fun _ kk _ => n - (intOf kk).toNat)
  case atStart => exact ⟨0, rfl, Nat.zero_le _, hE, hZB, hsv, ⟨[], hst0, Lib.hid (by simp)⟩, hap⟩
  case round =>
    clear hE hsv hst0 hap
    obtain ⟨i, rfl, hi, xw, hBr, hs, ⟨O, ho, hO⟩, hap⟩ := hrel
    by_cases h0 : i < n
    · obtain ⟨g, x, rfl, hg, hx, c0⟩ := hs.nth (j := i) (by rw [hLn.out]; exact h0)
      have hxb := hbd.out i h0
      rw [hx.out] at hxb
      have t1 : decide ((i : Int) < (n : Int)) = true := by simp; omega
      have hpu := Lib.hid (show O ++ [near x 24] = (L.take (i + 1)).map (fun x => near x 24) by rw [hO.out]; exact (take_push (L := L) (i := i) (by rw [hLn.out]; exact h0) hx.out).symm)
      have hol := Lib.hid (show O.length = i by rw [hO.out]; simp [hLn.out]; omega)
      go_upto_region 8 with fail
      go_wp2_with (first | (go_at_call 79; refine (l02Near_any _ _ _ (by omega) (by omega)).mono ?_; rintro e w1 ⟨rfl, rfl⟩) | (at_builtin; obtain ⟨i0, hii, hz0, hz1, hz2⟩ := int_info; refine wpList_append_placed _ rfl _ _ 49 rfl B 2 i0 (.int .i64 0) 1 8 Try.underlying49 hii hz0 hz1 hz2 rfl (by decide) _ _ _ rfl (ho.ext ((Ext.refl _).alloc _)) ⟨wr.heap.size, 0, none⟩ 1 1 [.int .i64 (near x 24)] rfl rfl (one_new _ _ rfl) (one_cell _) ?c3 ?c4 ?c5 ?_))
      case c3 => rw [hol.out]; unfold maxLen; omega
      case c4 => rw [hol.out]; omega
      case c5 => simp; omega
      intro v' w2 h2 hw hpl
      replace h2 := IntsOf.push h2 rfl
      replace hw := (Wrote.alloc _ _ _).trans hw
      replace hs := hs.wrote hw hap
      replace xw := hw.ext xw (fun k hk => by have := (ho.lt k hk).1; omega)
      have hap2 := placed hap hpl (by simp; omega)
      have hsz2 := hw.size
      clear hw ho hap hpl c0 hx hol
      go_wp2_with fail
      go_roundw
      case rel => exact ⟨i + 1, by go_num, by omega, xw, by omega, hs, ⟨_, h2, hpu⟩, hap2⟩
      case measure => simp [intOf]; omega
    · obtain rfl : n = i := by omega
      have t1 : decide ((n : Int) < (n : Int)) = false := by simp
      have he := Lib.hid (show O = drR b l c m zs by rw [hO.out, ← e1.out, List.take_of_length_le (by rw [hLn.out]; exact Nat.le_refl _)])
      replace ho := Lib.hid ho
      clear hs hap
      go_wp2_with fail
      go_ret2
      exact ⟨_, rtv2 e2.out, (by rw [← he.out]; exact own_base ho.out (by omega)), xw⟩

end Go.Proofs.Ytiodlbgfgeimoaa

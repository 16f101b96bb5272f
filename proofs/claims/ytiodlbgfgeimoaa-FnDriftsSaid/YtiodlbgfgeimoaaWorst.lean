/-
  The worst segment.
-/
import Derived.Test.YtiodlbgfgeimoaaRatio
import Derived.Test.YtiodlbgfgeimoaaDrift
namespace Go.Proofs.Ytiodlbgfgeimoaa
open Go.RowKit
set_option linter.unusedSimpArgs false
set_option linter.unusedVariables false


def wst (L : List Int) : Nat → Nat
  | 0 => 0
  | k + 1 => if (L.getD (wst L k) 0).natAbs < (L.getD k 0).natAbs then k else wst L k
theorem wst_le (L : List Int) (k : Nat) : wst L k ≤ k := by
  induction k with
  | zero => exact Nat.le_refl _
  | succ k ih => rw [wst]; split <;> omega
theorem sums_bd {b l c m : Int} {zs : List (Int × Int)} (hb : -100000000 ≤ b ∧ b ≤ 100000000) (hl : -10000 ≤ l ∧ l ≤ 10000) (hc : -1000 ≤ c ∧ c ≤ 1000) (hm : -400 ≤ m ∧ m ≤ 600) (hv : vSegs zs = true) {j n : Nat} (hj : j < n) (hn : n ≤ zs.length) :
    -30000000000000 ≤ (sums b l c m zs n).getD j 0 ∧ (sums b l c m zs n).getD j 0 ≤ 30000000000000 := by
  have h1 := sumTo_bd hb hl hc hm hv (j + 1) (by omega)
  have h2 := vSegs_len hv
  have h3 : (sums b l c m zs n).getD j 0 = sumTo b l c m zs (j + 1) := by simp [sums, List.getD_eq_getElem?_getD, hj]
  rw [h3]
  omega
def woR (b l c m : Int) (zs : List (Int × Int)) : Int := if vRate b l c m = true then (if vSegs zs = true then (if zs.length = 0 then 0 else ((wst (sums b l c m zs zs.length) zs.length : Nat) : Int)) else 0) else 0
def woC (b l c m : Int) (zs : List (Int × Int)) : Int := if vRate b l c m = true then (if vSegs zs = true then (if zs.length = 0 then 6 else 0) else 1) else 1

set_option maxHeartbeats 400000 in
theorem abs_any (n : Int) (w : World) (hn : -9223372036854775807 ≤ n ∧ n ≤ 9223372036854775807) : Calls Try.prog 76 #[.int .i64 n] w fun e w' => e = .returned (.int .i64 (n.natAbs : Int)) ∧ w = w' := by
  by_cases h : n < 0
  · have e := Lib.hid (show -n = (n.natAbs : Int) by omega)
    go_enter Try.func76, Try.ntmps76
    go_wp2
    go_ret
    exact ⟨ret_int e.out, rfl⟩
  · have e := Lib.hid (show n = (n.natAbs : Int) by omega)
    go_enter Try.func76, Try.ntmps76
    go_wp2
    go_ret
    exact ⟨ret_int e.out, rfl⟩

set_option maxHeartbeats 4000000 in
theorem implWorstSegment_any (b l c m : Int) (a : Option Addr) (n cp : Nat) (zs : List (Int × Int)) (w : World) (hr : RowAt w a zs) (hn : zs.length = n) (hk : n ≤ 1048576) :
    Calls Try.prog 40 #[.agg #[.int .i64 b, .int .i64 l, .int .i64 c, .int .i64 m], .slice a n cp] w fun e w' => e = .returned (.tuple #[.int .i64 (woR b l c m zs), .int .i64 (woC b l c m zs)]) ∧ Ext w w' := by
  cases h1 : vRate b l c m
  · have e1 := Lib.hid (show 0 = woR b l c m zs by simp [woR, h1])
    have e2 := Lib.hid (show 1 = woC b l c m zs by simp [woC, h1])
    go_enter Try.func40, Try.ntmps40
    go_wp2_with fail
    generalize hW : (w.alloc (Obj.cells #[.int .i64 b, .int .i64 l, .int .i64 c, .int .i64 m] 25)) = W
    have hE : Ext w W := by rw [← hW]; exact (Ext.refl _).alloc _
    have hl0 : w.heap.size < W.heap.size := by rw [← hW]; simp
    have f0_0 : W.cell? ⟨w.heap.size, 0, none⟩ = some (.int .i64 b) := by rw [← hW]; simp [go_sem]
    have f0_1 : W.cell? ⟨w.heap.size, 1, none⟩ = some (.int .i64 l) := by rw [← hW]; simp [go_sem]
    have f0_2 : W.cell? ⟨w.heap.size, 2, none⟩ = some (.int .i64 c) := by rw [← hW]; simp [go_sem]
    have f0_3 : W.cell? ⟨w.heap.size, 3, none⟩ = some (.int .i64 m) := by rw [← hW]; simp [go_sem]
    clear hW
    have hrW := hr.ext hE
    have x0 := Ext.refl W
    go_wp2_with (first | (go_at_call 20; refine (implValidRate_any b l c m _).mono ?_; rintro e w1 ⟨rfl, x1⟩; (try clear xc xf xs); (first | replace x0 := x0.trans x1 | replace x0 := (x0.alloc _).trans x1 | replace x0 := (x0.drew).trans x1 | replace x0 := (x0.drew.alloc _).trans x1 | replace x0 := (x0.alloc _).drew.trans x1 | replace x0 := ((x0.alloc _).alloc _).trans x1 | have x0 := x1); clear x1; obtain ⟨xc, xf, xs⟩ := x0.cells) | (go_at_call 28; refine (implValidSegments_any _ _ _ zs _ (hrW.ext x0) hn hk).mono ?_; rintro e w1 ⟨rfl, x1⟩; (try clear xc xf xs); (first | replace x0 := x0.trans x1 | replace x0 := (x0.alloc _).trans x1 | replace x0 := (x0.drew).trans x1 | replace x0 := (x0.drew.alloc _).trans x1 | replace x0 := (x0.alloc _).drew.trans x1 | replace x0 := ((x0.alloc _).alloc _).trans x1 | have x0 := x1); clear x1; obtain ⟨xc, xf, xs⟩ := x0.cells))
    go_ret2
    exact ⟨ret2 e1.out e2.out, hE.trans x0⟩
  · obtain ⟨hb, hl, hc, hm⟩ := vRate_iff.1 h1
    cases h2 : vSegs zs
    · have e1 := Lib.hid (show 0 = woR b l c m zs by simp [woR, h1, h2])
      have e2 := Lib.hid (show 1 = woC b l c m zs by simp [woC, h1, h2])
      go_enter Try.func40, Try.ntmps40
      go_wp2_with fail
      generalize hW : (w.alloc (Obj.cells #[.int .i64 b, .int .i64 l, .int .i64 c, .int .i64 m] 25)) = W
      have hE : Ext w W := by rw [← hW]; exact (Ext.refl _).alloc _
      have hl0 : w.heap.size < W.heap.size := by rw [← hW]; simp
      have f0_0 : W.cell? ⟨w.heap.size, 0, none⟩ = some (.int .i64 b) := by rw [← hW]; simp [go_sem]
      have f0_1 : W.cell? ⟨w.heap.size, 1, none⟩ = some (.int .i64 l) := by rw [← hW]; simp [go_sem]
      have f0_2 : W.cell? ⟨w.heap.size, 2, none⟩ = some (.int .i64 c) := by rw [← hW]; simp [go_sem]
      have f0_3 : W.cell? ⟨w.heap.size, 3, none⟩ = some (.int .i64 m) := by rw [← hW]; simp [go_sem]
      clear hW
      have hrW := hr.ext hE
      have x0 := Ext.refl W
      go_wp2_with (first | (go_at_call 20; refine (implValidRate_any b l c m _).mono ?_; rintro e w1 ⟨rfl, x1⟩; (try clear xc xf xs); (first | replace x0 := x0.trans x1 | replace x0 := (x0.alloc _).trans x1 | replace x0 := (x0.drew).trans x1 | replace x0 := (x0.drew.alloc _).trans x1 | replace x0 := (x0.alloc _).drew.trans x1 | replace x0 := ((x0.alloc _).alloc _).trans x1 | have x0 := x1); clear x1; obtain ⟨xc, xf, xs⟩ := x0.cells) | (go_at_call 28; refine (implValidSegments_any _ _ _ zs _ (hrW.ext x0) hn hk).mono ?_; rintro e w1 ⟨rfl, x1⟩; (try clear xc xf xs); (first | replace x0 := x0.trans x1 | replace x0 := (x0.alloc _).trans x1 | replace x0 := (x0.drew).trans x1 | replace x0 := (x0.drew.alloc _).trans x1 | replace x0 := (x0.alloc _).drew.trans x1 | replace x0 := ((x0.alloc _).alloc _).trans x1 | have x0 := x1); clear x1; obtain ⟨xc, xf, xs⟩ := x0.cells))
      go_ret2
      exact ⟨ret2 e1.out e2.out, hE.trans x0⟩
    · by_cases hz : n = 0
      · subst hz
        have e1 := Lib.hid (show 0 = woR b l c m zs by simp [woR, h1, h2, hn])
        have e2 := Lib.hid (show 6 = woC b l c m zs by simp [woC, h1, h2, hn])
        go_enter Try.func40, Try.ntmps40
        go_wp2_with fail
        generalize hW : (w.alloc (Obj.cells #[.int .i64 b, .int .i64 l, .int .i64 c, .int .i64 m] 25)) = W
        have hE : Ext w W := by rw [← hW]; exact (Ext.refl _).alloc _
        have hl0 : w.heap.size < W.heap.size := by rw [← hW]; simp
        have f0_0 : W.cell? ⟨w.heap.size, 0, none⟩ = some (.int .i64 b) := by rw [← hW]; simp [go_sem]
        have f0_1 : W.cell? ⟨w.heap.size, 1, none⟩ = some (.int .i64 l) := by rw [← hW]; simp [go_sem]
        have f0_2 : W.cell? ⟨w.heap.size, 2, none⟩ = some (.int .i64 c) := by rw [← hW]; simp [go_sem]
        have f0_3 : W.cell? ⟨w.heap.size, 3, none⟩ = some (.int .i64 m) := by rw [← hW]; simp [go_sem]
        clear hW
        have hrW := hr.ext hE
        have x0 := Ext.refl W
        go_wp2_with (first | (go_at_call 20; refine (implValidRate_any b l c m _).mono ?_; rintro e w1 ⟨rfl, x1⟩; (try clear xc xf xs); (first | replace x0 := x0.trans x1 | replace x0 := (x0.alloc _).trans x1 | replace x0 := (x0.drew).trans x1 | replace x0 := (x0.drew.alloc _).trans x1 | replace x0 := (x0.alloc _).drew.trans x1 | replace x0 := ((x0.alloc _).alloc _).trans x1 | have x0 := x1); clear x1; obtain ⟨xc, xf, xs⟩ := x0.cells) | (go_at_call 28; refine (implValidSegments_any _ _ _ zs _ (hrW.ext x0) hn hk).mono ?_; rintro e w1 ⟨rfl, x1⟩; (try clear xc xf xs); (first | replace x0 := x0.trans x1 | replace x0 := (x0.alloc _).trans x1 | replace x0 := (x0.drew).trans x1 | replace x0 := (x0.drew.alloc _).trans x1 | replace x0 := (x0.alloc _).drew.trans x1 | replace x0 := ((x0.alloc _).alloc _).trans x1 | have x0 := x1); clear x1; obtain ⟨xc, xf, xs⟩ := x0.cells))
        go_ret2
        exact ⟨ret2 e1.out e2.out, hE.trans x0⟩
      · have hlen := vSegs_len h2
        rw [hn] at hlen
        have hLn : (sums b l c m zs n).length = n := sums_length ..
        have hLb := Lib.hid (fun j (hj : j < n) => sums_bd hb hl hc hm h2 (j := j) (n := n) hj (by omega))
        have e1 := Lib.hid (show ((wst (sums b l c m zs n) n : Nat) : Int) = woR b l c m zs by simp [woR, h1, h2, hn, hz])
        have e2 := Lib.hid (show 0 = woC b l c m zs by simp [woC, h1, h2, hn, hz])
        go_enter Try.func40, Try.ntmps40
        go_wp2_with fail
        generalize hW : (w.alloc (Obj.cells #[.int .i64 b, .int .i64 l, .int .i64 c, .int .i64 m] 25)) = W
        have hE : Ext w W := by rw [← hW]; exact (Ext.refl _).alloc _
        have hl0 : w.heap.size < W.heap.size := by rw [← hW]; simp
        have f0_0 : W.cell? ⟨w.heap.size, 0, none⟩ = some (.int .i64 b) := by rw [← hW]; simp [go_sem]
        have f0_1 : W.cell? ⟨w.heap.size, 1, none⟩ = some (.int .i64 l) := by rw [← hW]; simp [go_sem]
        have f0_2 : W.cell? ⟨w.heap.size, 2, none⟩ = some (.int .i64 c) := by rw [← hW]; simp [go_sem]
        have f0_3 : W.cell? ⟨w.heap.size, 3, none⟩ = some (.int .i64 m) := by rw [← hW]; simp [go_sem]
        clear hW
        have hrW := hr.ext hE
        have x0 := Ext.refl W
        go_wp2_with (first | (go_at_call 20; refine (implValidRate_any b l c m _).mono ?_; rintro e w1 ⟨rfl, x1⟩; (try clear xc xf xs); (first | replace x0 := x0.trans x1 | replace x0 := (x0.alloc _).trans x1 | replace x0 := (x0.drew).trans x1 | replace x0 := (x0.drew.alloc _).trans x1 | replace x0 := (x0.alloc _).drew.trans x1 | replace x0 := ((x0.alloc _).alloc _).trans x1 | have x0 := x1); clear x1; obtain ⟨xc, xf, xs⟩ := x0.cells) | (go_at_call 28; refine (implValidSegments_any _ _ _ zs _ (hrW.ext x0) hn hk).mono ?_; rintro e w1 ⟨rfl, x1⟩; (try clear xc xf xs); (first | replace x0 := x0.trans x1 | replace x0 := (x0.alloc _).trans x1 | replace x0 := (x0.drew).trans x1 | replace x0 := (x0.drew.alloc _).trans x1 | replace x0 := (x0.alloc _).drew.trans x1 | replace x0 := ((x0.alloc _).alloc _).trans x1 | have x0 := x1); clear x1; obtain ⟨xc, xf, xs⟩ := x0.cells) | (go_at_call 74; refine (sumsOf_any b l c m _ _ _ zs _ hb hl hc hm h2 (hrW.ext x0) hn).mono ?_; rintro e w1 ⟨sv, rfl, hsv, x1⟩; generalize hB : World.heap _ = HB at hsv; clear hB; obtain ⟨g, cap, x, rfl, hg, hx, hc9⟩ := hsv.look (j := 0) (by rw [hLn]; omega); rw [hLn] at hsv ⊢; clear hx hc9; (try clear xc xf xs); (first | replace x0 := x0.trans x1 | replace x0 := (x0.alloc _).trans x1 | replace x0 := (x0.drew).trans x1 | replace x0 := (x0.drew.alloc _).trans x1 | replace x0 := (x0.alloc _).drew.trans x1 | replace x0 := ((x0.alloc _).alloc _).trans x1 | have x0 := x1); clear x1; obtain ⟨xc, xf, xs⟩ := x0.cells))
        replace hLn := Lib.hid hLn
        generalize hLL : sums b l c m zs n = L at *
        clear hLL
        go_loopw [7, 26] (fun s k wr => ∃ i : Nat, k = .int .i64 i ∧ i ≤ n ∧ 0 ≤ i ∧ s = .int .i64 (wst L i : Nat) ∧ Ext W wr ∧ IntsOf wr HB.size (.slice (some ⟨g, 0, none⟩) n cap) L) (fun _ k _ => n - (intOf k).toNat)
        case atStart => exact ⟨0, rfl, by omega, Nat.le_refl _, by simp [wst], x0, hsv⟩
        case round =>
          clear hsv x0 xc xf xs hg
          obtain ⟨i, rfl, hi, hi0, rfl, x0, hsv⟩ := hrel
          by_cases h0 : i < n
          · have hwl := wst_le L i
            obtain ⟨hg, p, hp, cp⟩ := hsv.at (j := i) (by rw [hLn.out]; omega)
            obtain ⟨_, q, hq, cq⟩ := hsv.at (j := wst L i) (by rw [hLn.out]; omega)
            have bp := hLb.out i h0
            have bq := hLb.out (wst L i) (by omega)
            rw [hp.out] at bp
            rw [hq.out] at bq
            have t1 : decide ((i : Int) < (n : Int)) = true := by simp; omega
            generalize hwi : wst L i = wi at *
            by_cases hgt : (q.natAbs : Int) < (p.natAbs : Int)
            · have e := Lib.hid (show wst L (i + 1) = i by rw [wst, hwi, hp.out, hq.out, if_pos (by omega)])
              clear hwi hp hq
              go_wp2_with fail
              go_quiet ((first | (go_at_call 76; exact quiet_left (abs_any _ _ (by omega)))))
              go_wp2_with fail
              go_roundw
              case rel => exact ⟨i + 1, by go_num, by omega, by omega, by rw [e.out], x0.drewN _, hsv.ext ((Ext.refl _).drewN _)⟩
              case measure => simp [intOf]; omega
            · have e := Lib.hid (show wst L (i + 1) = wi by rw [wst, hwi, hp.out, hq.out, if_neg (by omega)])
              clear hwi hp hq
              go_wp2_with fail
              go_quiet ((first | (go_at_call 76; exact quiet_left (abs_any _ _ (by omega)))))
              go_wp2_with fail
              go_roundw
              case rel => exact ⟨i + 1, by go_num, by omega, by omega, by rw [e.out], x0.drewN _, hsv.ext ((Ext.refl _).drewN _)⟩
              case measure => simp [intOf]; omega
          · have hin : i = n := by omega
            subst hin
            have t1 : decide ((i : Int) < (i : Int)) = false := by simp
            clear hsv
            go_wp2
            go_ret2
            exact ⟨ret2 e1.out e2.out, hE.trans x0⟩

set_option maxHeartbeats 4000000 in
theorem specWorstSegment_any (b l c m : Int) (a : Option Addr) (n cp : Nat) (zs : List (Int × Int)) (w : World) (hr : RowAt w a zs) (hn : zs.length = n) (hk : n ≤ 1048576) :
    Calls Try.prog 39 #[.agg #[.int .i64 b, .int .i64 l, .int .i64 c, .int .i64 m], .slice a n cp] w fun e w' => e = .returned (.tuple #[.int .i64 (woR b l c m zs), .int .i64 (woC b l c m zs)]) ∧ Ext w w' := by
  cases h1 : vRate b l c m
  · have e1 := Lib.hid (show 0 = woR b l c m zs by simp [woR, h1])
    have e2 := Lib.hid (show 1 = woC b l c m zs by simp [woC, h1])
    go_enter Try.func39, Try.ntmps39
    go_wp2_with fail
    generalize hW : (w.alloc (Obj.cells #[.int .i64 b, .int .i64 l, .int .i64 c, .int .i64 m] 25)) = W
    have hE : Ext w W := by rw [← hW]; exact (Ext.refl _).alloc _
    have hl0 : w.heap.size < W.heap.size := by rw [← hW]; simp
    have f0_0 : W.cell? ⟨w.heap.size, 0, none⟩ = some (.int .i64 b) := by rw [← hW]; simp [go_sem]
    have f0_1 : W.cell? ⟨w.heap.size, 1, none⟩ = some (.int .i64 l) := by rw [← hW]; simp [go_sem]
    have f0_2 : W.cell? ⟨w.heap.size, 2, none⟩ = some (.int .i64 c) := by rw [← hW]; simp [go_sem]
    have f0_3 : W.cell? ⟨w.heap.size, 3, none⟩ = some (.int .i64 m) := by rw [← hW]; simp [go_sem]
    clear hW
    have hrW := hr.ext hE
    have x0 := Ext.refl W
    go_wp2_with (first | (go_at_call 60; refine (l12Ok_any b l c m _).mono ?_; rintro e w1 ⟨rfl, x1⟩; (try clear xc xf xs); (first | replace x0 := x0.trans x1 | replace x0 := (x0.alloc _).trans x1 | replace x0 := (x0.drew).trans x1 | replace x0 := (x0.drew.alloc _).trans x1 | replace x0 := (x0.alloc _).drew.trans x1 | replace x0 := ((x0.alloc _).alloc _).trans x1 | have x0 := x1); clear x1; obtain ⟨xc, xf, xs⟩ := x0.cells) | (go_at_call 66; refine (l12List_any _ _ _ zs _ (hrW.ext x0) hn hk).mono ?_; rintro e w1 ⟨rfl, x1⟩; (try clear xc xf xs); (first | replace x0 := x0.trans x1 | replace x0 := (x0.alloc _).trans x1 | replace x0 := (x0.drew).trans x1 | replace x0 := (x0.drew.alloc _).trans x1 | replace x0 := (x0.alloc _).drew.trans x1 | replace x0 := ((x0.alloc _).alloc _).trans x1 | have x0 := x1); clear x1; obtain ⟨xc, xf, xs⟩ := x0.cells))
    go_ret2
    exact ⟨ret2 e1.out e2.out, hE.trans x0⟩
  · obtain ⟨hb, hl, hc, hm⟩ := vRate_iff.1 h1
    cases h2 : vSegs zs
    · have e1 := Lib.hid (show 0 = woR b l c m zs by simp [woR, h1, h2])
      have e2 := Lib.hid (show 1 = woC b l c m zs by simp [woC, h1, h2])
      go_enter Try.func39, Try.ntmps39
      go_wp2_with fail
      generalize hW : (w.alloc (Obj.cells #[.int .i64 b, .int .i64 l, .int .i64 c, .int .i64 m] 25)) = W
      have hE : Ext w W := by rw [← hW]; exact (Ext.refl _).alloc _
      have hl0 : w.heap.size < W.heap.size := by rw [← hW]; simp
      have f0_0 : W.cell? ⟨w.heap.size, 0, none⟩ = some (.int .i64 b) := by rw [← hW]; simp [go_sem]
      have f0_1 : W.cell? ⟨w.heap.size, 1, none⟩ = some (.int .i64 l) := by rw [← hW]; simp [go_sem]
      have f0_2 : W.cell? ⟨w.heap.size, 2, none⟩ = some (.int .i64 c) := by rw [← hW]; simp [go_sem]
      have f0_3 : W.cell? ⟨w.heap.size, 3, none⟩ = some (.int .i64 m) := by rw [← hW]; simp [go_sem]
      clear hW
      have hrW := hr.ext hE
      have x0 := Ext.refl W
      go_wp2_with (first | (go_at_call 60; refine (l12Ok_any b l c m _).mono ?_; rintro e w1 ⟨rfl, x1⟩; (try clear xc xf xs); (first | replace x0 := x0.trans x1 | replace x0 := (x0.alloc _).trans x1 | replace x0 := (x0.drew).trans x1 | replace x0 := (x0.drew.alloc _).trans x1 | replace x0 := (x0.alloc _).drew.trans x1 | replace x0 := ((x0.alloc _).alloc _).trans x1 | have x0 := x1); clear x1; obtain ⟨xc, xf, xs⟩ := x0.cells) | (go_at_call 66; refine (l12List_any _ _ _ zs _ (hrW.ext x0) hn hk).mono ?_; rintro e w1 ⟨rfl, x1⟩; (try clear xc xf xs); (first | replace x0 := x0.trans x1 | replace x0 := (x0.alloc _).trans x1 | replace x0 := (x0.drew).trans x1 | replace x0 := (x0.drew.alloc _).trans x1 | replace x0 := (x0.alloc _).drew.trans x1 | replace x0 := ((x0.alloc _).alloc _).trans x1 | have x0 := x1); clear x1; obtain ⟨xc, xf, xs⟩ := x0.cells))
      go_ret2
      exact ⟨ret2 e1.out e2.out, hE.trans x0⟩
    · by_cases hz : n = 0
      · subst hz
        have e1 := Lib.hid (show 0 = woR b l c m zs by simp [woR, h1, h2, hn])
        have e2 := Lib.hid (show 6 = woC b l c m zs by simp [woC, h1, h2, hn])
        go_enter Try.func39, Try.ntmps39
        go_wp2_with fail
        generalize hW : (w.alloc (Obj.cells #[.int .i64 b, .int .i64 l, .int .i64 c, .int .i64 m] 25)) = W
        have hE : Ext w W := by rw [← hW]; exact (Ext.refl _).alloc _
        have hl0 : w.heap.size < W.heap.size := by rw [← hW]; simp
        have f0_0 : W.cell? ⟨w.heap.size, 0, none⟩ = some (.int .i64 b) := by rw [← hW]; simp [go_sem]
        have f0_1 : W.cell? ⟨w.heap.size, 1, none⟩ = some (.int .i64 l) := by rw [← hW]; simp [go_sem]
        have f0_2 : W.cell? ⟨w.heap.size, 2, none⟩ = some (.int .i64 c) := by rw [← hW]; simp [go_sem]
        have f0_3 : W.cell? ⟨w.heap.size, 3, none⟩ = some (.int .i64 m) := by rw [← hW]; simp [go_sem]
        clear hW
        have hrW := hr.ext hE
        have x0 := Ext.refl W
        go_wp2_with (first | (go_at_call 60; refine (l12Ok_any b l c m _).mono ?_; rintro e w1 ⟨rfl, x1⟩; (try clear xc xf xs); (first | replace x0 := x0.trans x1 | replace x0 := (x0.alloc _).trans x1 | replace x0 := (x0.drew).trans x1 | replace x0 := (x0.drew.alloc _).trans x1 | replace x0 := (x0.alloc _).drew.trans x1 | replace x0 := ((x0.alloc _).alloc _).trans x1 | have x0 := x1); clear x1; obtain ⟨xc, xf, xs⟩ := x0.cells) | (go_at_call 66; refine (l12List_any _ _ _ zs _ (hrW.ext x0) hn hk).mono ?_; rintro e w1 ⟨rfl, x1⟩; (try clear xc xf xs); (first | replace x0 := x0.trans x1 | replace x0 := (x0.alloc _).trans x1 | replace x0 := (x0.drew).trans x1 | replace x0 := (x0.drew.alloc _).trans x1 | replace x0 := (x0.alloc _).drew.trans x1 | replace x0 := ((x0.alloc _).alloc _).trans x1 | have x0 := x1); clear x1; obtain ⟨xc, xf, xs⟩ := x0.cells))
        go_ret2
        exact ⟨ret2 e1.out e2.out, hE.trans x0⟩
      · have hlen := vSegs_len h2
        rw [hn] at hlen
        have hLn : (sums b l c m zs n).length = n := sums_length ..
        have hLb := Lib.hid (fun j (hj : j < n) => sums_bd hb hl hc hm h2 (j := j) (n := n) hj (by omega))
        have e1 := Lib.hid (show ((wst (sums b l c m zs n) n : Nat) : Int) = woR b l c m zs by simp [woR, h1, h2, hn, hz])
        have e2 := Lib.hid (show 0 = woC b l c m zs by simp [woC, h1, h2, hn, hz])
        go_enter Try.func39, Try.ntmps39
        go_wp2_with fail
        generalize hW : (w.alloc (Obj.cells #[.int .i64 b, .int .i64 l, .int .i64 c, .int .i64 m] 25)) = W
        have hE : Ext w W := by rw [← hW]; exact (Ext.refl _).alloc _
        have hl0 : w.heap.size < W.heap.size := by rw [← hW]; simp
        have f0_0 : W.cell? ⟨w.heap.size, 0, none⟩ = some (.int .i64 b) := by rw [← hW]; simp [go_sem]
        have f0_1 : W.cell? ⟨w.heap.size, 1, none⟩ = some (.int .i64 l) := by rw [← hW]; simp [go_sem]
        have f0_2 : W.cell? ⟨w.heap.size, 2, none⟩ = some (.int .i64 c) := by rw [← hW]; simp [go_sem]
        have f0_3 : W.cell? ⟨w.heap.size, 3, none⟩ = some (.int .i64 m) := by rw [← hW]; simp [go_sem]
        clear hW
        have hrW := hr.ext hE
        have x0 := Ext.refl W
        go_wp2_with (first | (go_at_call 60; refine (l12Ok_any b l c m _).mono ?_; rintro e w1 ⟨rfl, x1⟩; (try clear xc xf xs); (first | replace x0 := x0.trans x1 | replace x0 := (x0.alloc _).trans x1 | replace x0 := (x0.drew).trans x1 | replace x0 := (x0.drew.alloc _).trans x1 | replace x0 := (x0.alloc _).drew.trans x1 | replace x0 := ((x0.alloc _).alloc _).trans x1 | have x0 := x1); clear x1; obtain ⟨xc, xf, xs⟩ := x0.cells) | (go_at_call 66; refine (l12List_any _ _ _ zs _ (hrW.ext x0) hn hk).mono ?_; rintro e w1 ⟨rfl, x1⟩; (try clear xc xf xs); (first | replace x0 := x0.trans x1 | replace x0 := (x0.alloc _).trans x1 | replace x0 := (x0.drew).trans x1 | replace x0 := (x0.drew.alloc _).trans x1 | replace x0 := (x0.alloc _).drew.trans x1 | replace x0 := ((x0.alloc _).alloc _).trans x1 | have x0 := x1); clear x1; obtain ⟨xc, xf, xs⟩ := x0.cells) | (go_at_call 73; refine (l12Sums_any b l c m _ _ _ zs _ hb hl hc hm h2 (hrW.ext x0) hn).mono ?_; rintro e w1 ⟨sv, rfl, hsv, x1⟩; generalize hB : World.heap _ = HB at hsv; clear hB; obtain ⟨g, cap, x, rfl, hg, hx, hc9⟩ := hsv.look (j := 0) (by rw [hLn]; omega); rw [hLn] at hsv ⊢; clear hx hc9; (try clear xc xf xs); (first | replace x0 := x0.trans x1 | replace x0 := (x0.alloc _).trans x1 | replace x0 := (x0.drew).trans x1 | replace x0 := (x0.drew.alloc _).trans x1 | replace x0 := (x0.alloc _).drew.trans x1 | replace x0 := ((x0.alloc _).alloc _).trans x1 | have x0 := x1); clear x1; obtain ⟨xc, xf, xs⟩ := x0.cells))
        replace hLn := Lib.hid hLn
        generalize hLL : sums b l c m zs n = L at *
        clear hLL
        go_loopw [7, 8] (fun s k wr => ∃ i : Nat, k = .int .i64 i ∧ i ≤ n ∧ 1 ≤ i ∧ s = .int .i64 (wst L i : Nat) ∧ Ext W wr ∧ IntsOf wr HB.size (.slice (some ⟨g, 0, none⟩) n cap) L) (fun _ k _ => n - (intOf k).toNat)
        case atStart => exact ⟨1, rfl, by omega, Nat.le_refl _, by simp [wst], x0, hsv⟩
        case round =>
          clear hsv x0 xc xf xs hg
          obtain ⟨i, rfl, hi, hi0, rfl, x0, hsv⟩ := hrel
          by_cases h0 : i < n
          · have hwl := wst_le L i
            obtain ⟨hg, p, hp, cp⟩ := hsv.at (j := i) (by rw [hLn.out]; omega)
            obtain ⟨_, q, hq, cq⟩ := hsv.at (j := wst L i) (by rw [hLn.out]; omega)
            have bp := hLb.out i h0
            have bq := hLb.out (wst L i) (by omega)
            rw [hp.out] at bp
            rw [hq.out] at bq
            have t1 : decide ((i : Int) < (n : Int)) = true := by simp; omega
            generalize hwi : wst L i = wi at *
            by_cases hgt : (q.natAbs : Int) < (p.natAbs : Int)
            · have e := Lib.hid (show wst L (i + 1) = i by rw [wst, hwi, hp.out, hq.out, if_pos (by omega)])
              clear hwi hp hq
              go_wp2_with fail
              go_quiet ((first | (go_at_call 75; exact quiet_left (l02Size_any _ _ (by omega)))))
              go_wp2_with fail
              go_roundw
              case rel => exact ⟨i + 1, by go_num, by omega, by omega, by rw [e.out], x0.drewN _, hsv.ext ((Ext.refl _).drewN _)⟩
              case measure => simp [intOf]; omega
            · have e := Lib.hid (show wst L (i + 1) = wi by rw [wst, hwi, hp.out, hq.out, if_neg (by omega)])
              clear hwi hp hq
              go_wp2_with fail
              go_quiet ((first | (go_at_call 75; exact quiet_left (l02Size_any _ _ (by omega)))))
              go_wp2_with fail
              go_roundw
              case rel => exact ⟨i + 1, by go_num, by omega, by omega, by rw [e.out], x0.drewN _, hsv.ext ((Ext.refl _).drewN _)⟩
              case measure => simp [intOf]; omega
          · have hin : i = n := by omega
            subst hin
            have t1 : decide ((i : Int) < (i : Int)) = false := by simp
            clear hsv
            go_wp2
            go_ret2
            exact ⟨ret2 e1.out e2.out, hE.trans x0⟩

set_option maxHeartbeats 4000000 in
theorem worst_walk (b l c m : Int) (a : Option Addr) (n cp : Nat) (zs : List (Int × Int)) (w : World) (b0 : -9223372036854775808 ≤ b ∧ b ≤ 9223372036854775807) (b1 : -9223372036854775808 ≤ l ∧ l ≤ 9223372036854775807) (b2 : -9223372036854775808 ≤ c ∧ c ≤ 9223372036854775807) (b3 : -9223372036854775808 ≤ m ∧ m ≤ 9223372036854775807) (hr : RowAt w a zs) (hn : zs.length = n) (hm : n ≤ 9223372036854775807) :
    Calls Try.prog 10 #[.agg #[.int .i64 b, .int .i64 l, .int .i64 c, .int .i64 m], .slice a n cp] w fun e w' => e = .returned (.bool true) ∧ Ext w w' := by
  clear b0 b1 b2 b3
  by_cases hs : n ≤ 1048576
  · have z := Lib.hid (show szOf n = 1048576 - (n : Int) by simp [szOf, hs])
    have t0 : ¬ (1048576 - (n : Int)) < 0 := by omega
    go_enter Try.func10, Try.ntmps10
    go_wp2_with fail
    generalize hW : (w.alloc (Obj.cells #[.int .i64 b, .int .i64 l, .int .i64 c, .int .i64 m] 23)) = W
    have hE : Ext w W := by rw [← hW]; exact (Ext.refl _).alloc _
    have hl0 : w.heap.size < W.heap.size := by rw [← hW]; simp
    have f0_0 : W.cell? ⟨w.heap.size, 0, none⟩ = some (.int .i64 b) := by rw [← hW]; simp [go_sem]
    have f0_1 : W.cell? ⟨w.heap.size, 1, none⟩ = some (.int .i64 l) := by rw [← hW]; simp [go_sem]
    have f0_2 : W.cell? ⟨w.heap.size, 2, none⟩ = some (.int .i64 c) := by rw [← hW]; simp [go_sem]
    have f0_3 : W.cell? ⟨w.heap.size, 3, none⟩ = some (.int .i64 m) := by rw [← hW]; simp [go_sem]
    clear hW
    have hrW := hr.ext hE
    have x0 := Ext.refl W
    go_wp2_with (first | (go_at_call 25; refine (szSegmentS_any _ _ _ _ hm).mono ?_; rintro e w1 ⟨rfl, rfl⟩; rw [z.out]) | (go_at_call 27; refine (toSegmentS_any _ _ _ zs _ (hrW.ext x0) hn hs).mono ?_; rintro e w1 ⟨rfl, hf, x1⟩; (try have hp := RowAt.ext hg x1); have hg := hf.row hn.symm; (try clear xc xf xs); (first | replace x0 := x0.trans x1 | replace x0 := (x0.alloc _).trans x1 | replace x0 := (x0.drew).trans x1 | replace x0 := (x0.drew.alloc _).trans x1 | replace x0 := (x0.alloc _).drew.trans x1 | replace x0 := ((x0.alloc _).alloc _).trans x1 | have x0 := x1); clear x1; obtain ⟨xc, xf, xs⟩ := x0.cells) | (go_at_call 19; refine (toRate_any b l c m _).mono ?_; rintro e w1 ⟨rfl, x1⟩; (try have hg := RowAt.ext hg x1); (try clear xc xf xs); (first | replace x0 := x0.trans x1 | replace x0 := (x0.alloc _).trans x1 | replace x0 := (x0.drew).trans x1 | replace x0 := (x0.drew.alloc _).trans x1 | replace x0 := (x0.alloc _).drew.trans x1 | replace x0 := ((x0.alloc _).alloc _).trans x1 | have x0 := x1); clear x1; obtain ⟨xc, xf, xs⟩ := x0.cells) | (go_at_call 40; refine (implWorstSegment_any b l c m _ _ _ zs _ hg hn hs).mono ?_; rintro e w1 ⟨rfl, x1⟩; have hg := hg.ext x1; (try clear xc xf xs); (first | replace x0 := x0.trans x1 | replace x0 := (x0.alloc _).trans x1 | replace x0 := (x0.drew).trans x1 | replace x0 := (x0.drew.alloc _).trans x1 | replace x0 := (x0.alloc _).drew.trans x1 | replace x0 := ((x0.alloc _).alloc _).trans x1 | have x0 := x1); clear x1; obtain ⟨xc, xf, xs⟩ := x0.cells) | (go_at_call 39; refine (specWorstSegment_any b l c m _ _ _ zs _ hg hn hs).mono ?_; rintro e w1 ⟨rfl, x1⟩; have hg := hg.ext x1; (try clear xc xf xs); (first | replace x0 := x0.trans x1 | replace x0 := (x0.alloc _).trans x1 | replace x0 := (x0.drew).trans x1 | replace x0 := (x0.drew.alloc _).trans x1 | replace x0 := (x0.alloc _).drew.trans x1 | replace x0 := ((x0.alloc _).alloc _).trans x1 | have x0 := x1); clear x1; obtain ⟨xc, xf, xs⟩ := x0.cells) | (go_at_call 29; refine (eqSegmentS_any _ _ _ _ _ zs _ hp hg hn hs).mono ?_; rintro e w1 ⟨rfl, x1⟩; (try clear xc xf xs); (first | replace x0 := x0.trans x1 | replace x0 := (x0.alloc _).trans x1 | replace x0 := (x0.drew).trans x1 | replace x0 := (x0.drew.alloc _).trans x1 | replace x0 := (x0.alloc _).drew.trans x1 | replace x0 := ((x0.alloc _).alloc _).trans x1 | have x0 := x1); clear x1; obtain ⟨xc, xf, xs⟩ := x0.cells))
    go_ret
    exact ⟨rfl, hE.trans x0⟩
  · have z := Lib.hid (show szOf n = -1 by simp [szOf, hs])
    go_enter Try.func10, Try.ntmps10
    go_wp2_with (first | (go_at_call 25; refine (szSegmentS_any _ _ _ _ hm).mono ?_; rintro e w1 ⟨rfl, rfl⟩; rw [z.out]))
    go_ret
    exact ⟨rfl, (Ext.refl _).alloc _⟩

end Go.Proofs.Ytiodlbgfgeimoaa

/-
  The sum of the drift.
-/
import Derived.Test.YtiodlbgfgeimoaaSums
namespace Go.Proofs.Ytiodlbgfgeimoaa
open Go.RowKit
set_option linter.unusedSimpArgs false
set_option linter.unusedVariables false


def dsR (b l c m : Int) (zs : List (Int × Int)) : Int := if vRate b l c m = true then (if vSegs zs = true then sumTo b l c m zs zs.length else 0) else 0
def dsC (b l c m : Int) (zs : List (Int × Int)) : Int := if vRate b l c m = true then (if vSegs zs = true then 0 else 1) else 1
theorem lastOf_sums (b l c m : Int) (zs : List (Int × Int)) (n : Nat) : lastOf (sums b l c m zs n) = sumTo b l c m zs n := by
  unfold lastOf
  rw [sums_length]
  cases n with
  | zero => rfl
  | succ k =>
    rw [if_neg (by omega)]
    simp [sums, List.getD_eq_getElem?_getD]
theorem lastOf_get' {b l c m x S : Int} {zs : List (Int × Int)} {k : Nat} (h : lastOf (sums b l c m zs (k + 1)) = S) (hx : (sums b l c m zs (k + 1)).getD k 0 = x) : x = S := by
  rw [← h, lastOf, sums_length, if_neg (by omega), ← hx]
  rfl

set_option maxHeartbeats 4000000 in
theorem implDriftSum_any (b l c m : Int) (a : Option Addr) (n cp : Nat) (zs : List (Int × Int)) (w : World) (hr : RowAt w a zs) (hn : zs.length = n) (hk : n ≤ 1048576) :
    Calls Try.prog 38 #[.agg #[.int .i64 b, .int .i64 l, .int .i64 c, .int .i64 m], .slice a n cp] w fun e w' => e = .returned (.tuple #[.int .i64 (dsR b l c m zs), .int .i64 (dsC b l c m zs)]) ∧ Ext w w' := by
  cases h1 : vRate b l c m
  · have e1 := Lib.hid (show 0 = dsR b l c m zs by simp [dsR, h1])
    have e2 := Lib.hid (show 1 = dsC b l c m zs by simp [dsC, h1])
    go_enter Try.func38, Try.ntmps38
    go_wp2_with fail
    generalize hW : (w.alloc (Obj.cells #[.int .i64 b, .int .i64 l, .int .i64 c, .int .i64 m] 25)) = W
    have hE : Ext w W := by rw [← hW]; exact (Ext.refl _).alloc _
    have hl0 : w.heap.size < W.heap.size := by rw [← hW]; simp
    have f0_0 : W.cell? ⟨w.heap.size, 0, none⟩ = some (.int .i64 b) := by rw [← hW]; simp [go_sem]
    have f0_1 : W.cell? ⟨w.heap.size, 1, none⟩ = some (.int .i64 l) := by rw [← hW]; simp [go_sem]
    have f0_2 : W.cell? ⟨w.heap.size, 2, none⟩ = some (.int .i64 c) := by rw [← hW]; simp [go_sem]
    have f0_3 : W.cell? ⟨w.heap.size, 3, none⟩ = some (.int .i64 m) := by rw [← hW]; simp [go_sem]
    clear hW
    have hrW := hr.ext hE
    have x0 := Ext.refl W
    go_wp2_with (first | (go_at_call 20; refine (implValidRate_any b l c m _).mono ?_; rintro e w1 ⟨rfl, x1⟩; (try clear xc xf xs); (first | replace x0 := x0.trans x1 | replace x0 := (x0.alloc _).trans x1 | replace x0 := (x0.drew).trans x1 | replace x0 := (x0.drew.alloc _).trans x1 | replace x0 := (x0.alloc _).drew.trans x1 | replace x0 := ((x0.alloc _).alloc _).trans x1 | have x0 := x1); clear x1; obtain ⟨xc, xf, xs⟩ := x0.cells) | (go_at_call 28; refine (implValidSegments_any _ _ _ zs _ (hrW.ext x0) hn hk).mono ?_; rintro e w1 ⟨rfl, x1⟩; (try clear xc xf xs); (first | replace x0 := x0.trans x1 | replace x0 := (x0.alloc _).trans x1 | replace x0 := (x0.drew).trans x1 | replace x0 := (x0.drew.alloc _).trans x1 | replace x0 := (x0.alloc _).drew.trans x1 | replace x0 := ((x0.alloc _).alloc _).trans x1 | have x0 := x1); clear x1; obtain ⟨xc, xf, xs⟩ := x0.cells))
    go_ret2
    exact ⟨ret2 e1.out e2.out, hE.trans x0⟩
  · obtain ⟨hb, hl, hc, hm⟩ := vRate_iff.1 h1
    cases h2 : vSegs zs
    · have e1 := Lib.hid (show 0 = dsR b l c m zs by simp [dsR, h1, h2])
      have e2 := Lib.hid (show 1 = dsC b l c m zs by simp [dsC, h1, h2])
      go_enter Try.func38, Try.ntmps38
      go_wp2_with fail
      generalize hW : (w.alloc (Obj.cells #[.int .i64 b, .int .i64 l, .int .i64 c, .int .i64 m] 25)) = W
      have hE : Ext w W := by rw [← hW]; exact (Ext.refl _).alloc _
      have hl0 : w.heap.size < W.heap.size := by rw [← hW]; simp
      have f0_0 : W.cell? ⟨w.heap.size, 0, none⟩ = some (.int .i64 b) := by rw [← hW]; simp [go_sem]
      have f0_1 : W.cell? ⟨w.heap.size, 1, none⟩ = some (.int .i64 l) := by rw [← hW]; simp [go_sem]
      have f0_2 : W.cell? ⟨w.heap.size, 2, none⟩ = some (.int .i64 c) := by rw [← hW]; simp [go_sem]
      have f0_3 : W.cell? ⟨w.heap.size, 3, none⟩ = some (.int .i64 m) := by rw [← hW]; simp [go_sem]
      clear hW
      have hrW := hr.ext hE
      have x0 := Ext.refl W
      go_wp2_with (first | (go_at_call 20; refine (implValidRate_any b l c m _).mono ?_; rintro e w1 ⟨rfl, x1⟩; (try clear xc xf xs); (first | replace x0 := x0.trans x1 | replace x0 := (x0.alloc _).trans x1 | replace x0 := (x0.drew).trans x1 | replace x0 := (x0.drew.alloc _).trans x1 | replace x0 := (x0.alloc _).drew.trans x1 | replace x0 := ((x0.alloc _).alloc _).trans x1 | have x0 := x1); clear x1; obtain ⟨xc, xf, xs⟩ := x0.cells) | (go_at_call 28; refine (implValidSegments_any _ _ _ zs _ (hrW.ext x0) hn hk).mono ?_; rintro e w1 ⟨rfl, x1⟩; (try clear xc xf xs); (first | replace x0 := x0.trans x1 | replace x0 := (x0.alloc _).trans x1 | replace x0 := (x0.drew).trans x1 | replace x0 := (x0.drew.alloc _).trans x1 | replace x0 := (x0.alloc _).drew.trans x1 | replace x0 := ((x0.alloc _).alloc _).trans x1 | have x0 := x1); clear x1; obtain ⟨xc, xf, xs⟩ := x0.cells))
      go_ret2
      exact ⟨ret2 e1.out e2.out, hE.trans x0⟩
    · have e1 := Lib.hid (show sumTo b l c m zs zs.length = dsR b l c m zs by simp [dsR, h1, h2])
      have e2 := Lib.hid (show 0 = dsC b l c m zs by simp [dsC, h1, h2])
      have hlen := vSegs_len h2
      have hls := Lib.hid (lastOf_sums b l c m zs zs.length)
      by_cases hz : n = 0
      · subst hz
        have e3 := Lib.hid (show 0 = dsR b l c m zs by rw [← e1.out, hn]; rfl)
        go_enter Try.func38, Try.ntmps38
        go_wp2_with fail
        generalize hW : (w.alloc (Obj.cells #[.int .i64 b, .int .i64 l, .int .i64 c, .int .i64 m] 25)) = W
        have hE : Ext w W := by rw [← hW]; exact (Ext.refl _).alloc _
        have hl0 : w.heap.size < W.heap.size := by rw [← hW]; simp
        have f0_0 : W.cell? ⟨w.heap.size, 0, none⟩ = some (.int .i64 b) := by rw [← hW]; simp [go_sem]
        have f0_1 : W.cell? ⟨w.heap.size, 1, none⟩ = some (.int .i64 l) := by rw [← hW]; simp [go_sem]
        have f0_2 : W.cell? ⟨w.heap.size, 2, none⟩ = some (.int .i64 c) := by rw [← hW]; simp [go_sem]
        have f0_3 : W.cell? ⟨w.heap.size, 3, none⟩ = some (.int .i64 m) := by rw [← hW]; simp [go_sem]
        clear hW
        have hrW := hr.ext hE
        have x0 := Ext.refl W
        go_wp2_with (first | (go_at_call 20; refine (implValidRate_any b l c m _).mono ?_; rintro e w1 ⟨rfl, x1⟩; (try clear xc xf xs); (first | replace x0 := x0.trans x1 | replace x0 := (x0.alloc _).trans x1 | replace x0 := (x0.drew).trans x1 | replace x0 := (x0.drew.alloc _).trans x1 | replace x0 := (x0.alloc _).drew.trans x1 | replace x0 := ((x0.alloc _).alloc _).trans x1 | have x0 := x1); clear x1; obtain ⟨xc, xf, xs⟩ := x0.cells) | (go_at_call 28; refine (implValidSegments_any _ _ _ zs _ (hrW.ext x0) hn hk).mono ?_; rintro e w1 ⟨rfl, x1⟩; (try clear xc xf xs); (first | replace x0 := x0.trans x1 | replace x0 := (x0.alloc _).trans x1 | replace x0 := (x0.drew).trans x1 | replace x0 := (x0.drew.alloc _).trans x1 | replace x0 := (x0.alloc _).drew.trans x1 | replace x0 := ((x0.alloc _).alloc _).trans x1 | have x0 := x1); clear x1; obtain ⟨xc, xf, xs⟩ := x0.cells))
        go_ret2
        exact ⟨ret2 e3.out e2.out, hE.trans x0⟩
      · obtain ⟨k, rfl⟩ : ∃ k, n = k + 1 := ⟨n - 1, by omega⟩
        have hlk : k + 1 ≤ 60 := by omega
        rw [hn] at hls
        go_enter Try.func38, Try.ntmps38
        go_wp2_with fail
        generalize hW : (w.alloc (Obj.cells #[.int .i64 b, .int .i64 l, .int .i64 c, .int .i64 m] 25)) = W
        have hE : Ext w W := by rw [← hW]; exact (Ext.refl _).alloc _
        have hl0 : w.heap.size < W.heap.size := by rw [← hW]; simp
        have f0_0 : W.cell? ⟨w.heap.size, 0, none⟩ = some (.int .i64 b) := by rw [← hW]; simp [go_sem]
        have f0_1 : W.cell? ⟨w.heap.size, 1, none⟩ = some (.int .i64 l) := by rw [← hW]; simp [go_sem]
        have f0_2 : W.cell? ⟨w.heap.size, 2, none⟩ = some (.int .i64 c) := by rw [← hW]; simp [go_sem]
        have f0_3 : W.cell? ⟨w.heap.size, 3, none⟩ = some (.int .i64 m) := by rw [← hW]; simp [go_sem]
        clear hW
        have hrW := hr.ext hE
        have x0 := Ext.refl W
        have hgl := Lib.hid (fun (w1 : World) (sv : Value) (hsv : IntsOf w1 w1.heap.size sv (sums b l c m zs (k + 1))) => hsv)
        go_wp2_with (first | (go_at_call 20; refine (implValidRate_any b l c m _).mono ?_; rintro e w1 ⟨rfl, x1⟩; (try clear xc xf xs); (first | replace x0 := x0.trans x1 | replace x0 := (x0.alloc _).trans x1 | replace x0 := (x0.drew).trans x1 | replace x0 := (x0.drew.alloc _).trans x1 | replace x0 := (x0.alloc _).drew.trans x1 | replace x0 := ((x0.alloc _).alloc _).trans x1 | have x0 := x1); clear x1; obtain ⟨xc, xf, xs⟩ := x0.cells) | (go_at_call 28; refine (implValidSegments_any _ _ _ zs _ (hrW.ext x0) hn hk).mono ?_; rintro e w1 ⟨rfl, x1⟩; (try clear xc xf xs); (first | replace x0 := x0.trans x1 | replace x0 := (x0.alloc _).trans x1 | replace x0 := (x0.drew).trans x1 | replace x0 := (x0.drew.alloc _).trans x1 | replace x0 := (x0.alloc _).drew.trans x1 | replace x0 := ((x0.alloc _).alloc _).trans x1 | have x0 := x1); clear x1; obtain ⟨xc, xf, xs⟩ := x0.cells) | (go_at_call 74; refine (sumsOf_any b l c m _ _ _ zs _ hb hl hc hm h2 (hrW.ext x0) hn).mono ?_; rintro e w1 ⟨sv, rfl, hsv, x1⟩; obtain ⟨g, cap, x, rfl, hg, hx, hc9⟩ := hsv.look (j := k) (by rw [sums_length]; omega); rw [sums_length]; have hx := Lib.hid (lastOf_get' hls.out hx.out); (try clear xc xf xs); (first | replace x0 := x0.trans x1 | replace x0 := (x0.alloc _).trans x1 | replace x0 := (x0.drew).trans x1 | replace x0 := (x0.drew.alloc _).trans x1 | replace x0 := (x0.alloc _).drew.trans x1 | replace x0 := ((x0.alloc _).alloc _).trans x1 | have x0 := x1); clear x1; obtain ⟨xc, xf, xs⟩ := x0.cells))
        go_ret2
        exact ⟨ret2 (by rw [hx.out, ← hn]; exact e1.out) e2.out, hE.trans x0⟩

set_option maxHeartbeats 4000000 in
theorem specDriftSum_any (b l c m : Int) (a : Option Addr) (n cp : Nat) (zs : List (Int × Int)) (w : World) (hr : RowAt w a zs) (hn : zs.length = n) (hk : n ≤ 1048576) :
    Calls Try.prog 37 #[.agg #[.int .i64 b, .int .i64 l, .int .i64 c, .int .i64 m], .slice a n cp] w fun e w' => e = .returned (.tuple #[.int .i64 (dsR b l c m zs), .int .i64 (dsC b l c m zs)]) ∧ Ext w w' := by
  cases h1 : vRate b l c m
  · have e1 := Lib.hid (show 0 = dsR b l c m zs by simp [dsR, h1])
    have e2 := Lib.hid (show 1 = dsC b l c m zs by simp [dsC, h1])
    go_enter Try.func37, Try.ntmps37
    go_wp2_with fail
    generalize hW : (w.alloc (Obj.cells #[.int .i64 b, .int .i64 l, .int .i64 c, .int .i64 m] 25)) = W
    have hE : Ext w W := by rw [← hW]; exact (Ext.refl _).alloc _
    have hl0 : w.heap.size < W.heap.size := by rw [← hW]; simp
    have f0_0 : W.cell? ⟨w.heap.size, 0, none⟩ = some (.int .i64 b) := by rw [← hW]; simp [go_sem]
    have f0_1 : W.cell? ⟨w.heap.size, 1, none⟩ = some (.int .i64 l) := by rw [← hW]; simp [go_sem]
    have f0_2 : W.cell? ⟨w.heap.size, 2, none⟩ = some (.int .i64 c) := by rw [← hW]; simp [go_sem]
    have f0_3 : W.cell? ⟨w.heap.size, 3, none⟩ = some (.int .i64 m) := by rw [← hW]; simp [go_sem]
    clear hW
    have hrW := hr.ext hE
    have x0 := Ext.refl W
    go_wp2_with (first | (go_at_call 60; refine (l12Ok_any b l c m _).mono ?_; rintro e w1 ⟨rfl, x1⟩; (try clear xc xf xs); (first | replace x0 := x0.trans x1 | replace x0 := (x0.alloc _).trans x1 | replace x0 := (x0.drew).trans x1 | replace x0 := (x0.drew.alloc _).trans x1 | replace x0 := (x0.alloc _).drew.trans x1 | replace x0 := ((x0.alloc _).alloc _).trans x1 | have x0 := x1); clear x1; obtain ⟨xc, xf, xs⟩ := x0.cells) | (go_at_call 66; refine (l12List_any _ _ _ zs _ (hrW.ext x0) hn hk).mono ?_; rintro e w1 ⟨rfl, x1⟩; (try clear xc xf xs); (first | replace x0 := x0.trans x1 | replace x0 := (x0.alloc _).trans x1 | replace x0 := (x0.drew).trans x1 | replace x0 := (x0.drew.alloc _).trans x1 | replace x0 := (x0.alloc _).drew.trans x1 | replace x0 := ((x0.alloc _).alloc _).trans x1 | have x0 := x1); clear x1; obtain ⟨xc, xf, xs⟩ := x0.cells))
    go_ret2
    exact ⟨ret2 e1.out e2.out, hE.trans x0⟩
  · obtain ⟨hb, hl, hc, hm⟩ := vRate_iff.1 h1
    cases h2 : vSegs zs
    · have e1 := Lib.hid (show 0 = dsR b l c m zs by simp [dsR, h1, h2])
      have e2 := Lib.hid (show 1 = dsC b l c m zs by simp [dsC, h1, h2])
      go_enter Try.func37, Try.ntmps37
      go_wp2_with fail
      generalize hW : (w.alloc (Obj.cells #[.int .i64 b, .int .i64 l, .int .i64 c, .int .i64 m] 25)) = W
      have hE : Ext w W := by rw [← hW]; exact (Ext.refl _).alloc _
      have hl0 : w.heap.size < W.heap.size := by rw [← hW]; simp
      have f0_0 : W.cell? ⟨w.heap.size, 0, none⟩ = some (.int .i64 b) := by rw [← hW]; simp [go_sem]
      have f0_1 : W.cell? ⟨w.heap.size, 1, none⟩ = some (.int .i64 l) := by rw [← hW]; simp [go_sem]
      have f0_2 : W.cell? ⟨w.heap.size, 2, none⟩ = some (.int .i64 c) := by rw [← hW]; simp [go_sem]
      have f0_3 : W.cell? ⟨w.heap.size, 3, none⟩ = some (.int .i64 m) := by rw [← hW]; simp [go_sem]
      clear hW
      have hrW := hr.ext hE
      have x0 := Ext.refl W
      go_wp2_with (first | (go_at_call 60; refine (l12Ok_any b l c m _).mono ?_; rintro e w1 ⟨rfl, x1⟩; (try clear xc xf xs); (first | replace x0 := x0.trans x1 | replace x0 := (x0.alloc _).trans x1 | replace x0 := (x0.drew).trans x1 | replace x0 := (x0.drew.alloc _).trans x1 | replace x0 := (x0.alloc _).drew.trans x1 | replace x0 := ((x0.alloc _).alloc _).trans x1 | have x0 := x1); clear x1; obtain ⟨xc, xf, xs⟩ := x0.cells) | (go_at_call 66; refine (l12List_any _ _ _ zs _ (hrW.ext x0) hn hk).mono ?_; rintro e w1 ⟨rfl, x1⟩; (try clear xc xf xs); (first | replace x0 := x0.trans x1 | replace x0 := (x0.alloc _).trans x1 | replace x0 := (x0.drew).trans x1 | replace x0 := (x0.drew.alloc _).trans x1 | replace x0 := (x0.alloc _).drew.trans x1 | replace x0 := ((x0.alloc _).alloc _).trans x1 | have x0 := x1); clear x1; obtain ⟨xc, xf, xs⟩ := x0.cells))
      go_ret2
      exact ⟨ret2 e1.out e2.out, hE.trans x0⟩
    · have e1 := Lib.hid (show sumTo b l c m zs zs.length = dsR b l c m zs by simp [dsR, h1, h2])
      have e2 := Lib.hid (show 0 = dsC b l c m zs by simp [dsC, h1, h2])
      have hlen := vSegs_len h2
      have hls := Lib.hid (lastOf_sums b l c m zs zs.length)
      rw [hn] at hls
      go_enter Try.func37, Try.ntmps37
      go_wp2_with fail
      generalize hW : (w.alloc (Obj.cells #[.int .i64 b, .int .i64 l, .int .i64 c, .int .i64 m] 25)) = W
      have hE : Ext w W := by rw [← hW]; exact (Ext.refl _).alloc _
      have hl0 : w.heap.size < W.heap.size := by rw [← hW]; simp
      have f0_0 : W.cell? ⟨w.heap.size, 0, none⟩ = some (.int .i64 b) := by rw [← hW]; simp [go_sem]
      have f0_1 : W.cell? ⟨w.heap.size, 1, none⟩ = some (.int .i64 l) := by rw [← hW]; simp [go_sem]
      have f0_2 : W.cell? ⟨w.heap.size, 2, none⟩ = some (.int .i64 c) := by rw [← hW]; simp [go_sem]
      have f0_3 : W.cell? ⟨w.heap.size, 3, none⟩ = some (.int .i64 m) := by rw [← hW]; simp [go_sem]
      clear hW
      have hrW := hr.ext hE
      have x0 := Ext.refl W
      go_wp2_with (first | (go_at_call 60; refine (l12Ok_any b l c m _).mono ?_; rintro e w1 ⟨rfl, x1⟩; (try clear xc xf xs); (first | replace x0 := x0.trans x1 | replace x0 := (x0.alloc _).trans x1 | replace x0 := (x0.drew).trans x1 | replace x0 := (x0.drew.alloc _).trans x1 | replace x0 := (x0.alloc _).drew.trans x1 | replace x0 := ((x0.alloc _).alloc _).trans x1 | have x0 := x1); clear x1; obtain ⟨xc, xf, xs⟩ := x0.cells) | (go_at_call 66; refine (l12List_any _ _ _ zs _ (hrW.ext x0) hn hk).mono ?_; rintro e w1 ⟨rfl, x1⟩; (try clear xc xf xs); (first | replace x0 := x0.trans x1 | replace x0 := (x0.alloc _).trans x1 | replace x0 := (x0.drew).trans x1 | replace x0 := (x0.drew.alloc _).trans x1 | replace x0 := (x0.alloc _).drew.trans x1 | replace x0 := ((x0.alloc _).alloc _).trans x1 | have x0 := x1); clear x1; obtain ⟨xc, xf, xs⟩ := x0.cells) | (go_at_call 73; refine (l12Sums_any b l c m _ _ _ zs _ hb hl hc hm h2 (hrW.ext x0) hn).mono ?_; rintro e w1 ⟨sv, rfl, hsv, x1⟩; (try clear xc xf xs); (first | replace x0 := x0.trans x1 | replace x0 := (x0.alloc _).trans x1 | replace x0 := (x0.drew).trans x1 | replace x0 := (x0.drew.alloc _).trans x1 | replace x0 := (x0.alloc _).drew.trans x1 | replace x0 := ((x0.alloc _).alloc _).trans x1 | have x0 := x1); clear x1; obtain ⟨xc, xf, xs⟩ := x0.cells) | (go_at_call 72; refine (l12Last_any _ _ _ _ hsv (by rw [sums_length]; omega)).mono ?_; rintro e w1 ⟨rfl, rfl⟩))
      go_ret2
      exact ⟨ret2 (by rw [hls.out, ← hn]; exact e1.out) e2.out, hE.trans x0⟩

set_option maxHeartbeats 4000000 in
theorem driftSum_walk (b l c m : Int) (a : Option Addr) (n cp : Nat) (zs : List (Int × Int)) (w : World) (b0 : -9223372036854775808 ≤ b ∧ b ≤ 9223372036854775807) (b1 : -9223372036854775808 ≤ l ∧ l ≤ 9223372036854775807) (b2 : -9223372036854775808 ≤ c ∧ c ≤ 9223372036854775807) (b3 : -9223372036854775808 ≤ m ∧ m ≤ 9223372036854775807) (hr : RowAt w a zs) (hn : zs.length = n) (hm : n ≤ 9223372036854775807) :
    Calls Try.prog 9 #[.agg #[.int .i64 b, .int .i64 l, .int .i64 c, .int .i64 m], .slice a n cp] w fun e w' => e = .returned (.bool true) ∧ Ext w w' := by
  clear b0 b1 b2 b3
  by_cases hs : n ≤ 1048576
  · have z := Lib.hid (show szOf n = 1048576 - (n : Int) by simp [szOf, hs])
    have t0 : ¬ (1048576 - (n : Int)) < 0 := by omega
    go_enter Try.func9, Try.ntmps9
    go_wp2_with fail
    generalize hW : (w.alloc (Obj.cells #[.int .i64 b, .int .i64 l, .int .i64 c, .int .i64 m] 23)) = W
    have hE : Ext w W := by rw [← hW]; exact (Ext.refl _).alloc _
    have hl0 : w.heap.size < W.heap.size := by rw [← hW]; simp
    have f0_0 : W.cell? ⟨w.heap.size, 0, none⟩ = some (.int .i64 b) := by rw [← hW]; simp [go_sem]
    have f0_1 : W.cell? ⟨w.heap.size, 1, none⟩ = some (.int .i64 l) := by rw [← hW]; simp [go_sem]
    have f0_2 : W.cell? ⟨w.heap.size, 2, none⟩ = some (.int .i64 c) := by rw [← hW]; simp [go_sem]
    have f0_3 : W.cell? ⟨w.heap.size, 3, none⟩ = some (.int .i64 m) := by rw [← hW]; simp [go_sem]
    clear hW
    have hrW := hr.ext hE
    have x0 := Ext.refl W
    go_wp2_with (first | (go_at_call 25; refine (szSegmentS_any _ _ _ _ hm).mono ?_; rintro e w1 ⟨rfl, rfl⟩; rw [z.out]) | (go_at_call 27; refine (toSegmentS_any _ _ _ zs _ (hrW.ext x0) hn hs).mono ?_; rintro e w1 ⟨rfl, hf, x1⟩; (try have hp := RowAt.ext hg x1); have hg := hf.row hn.symm; (try clear xc xf xs); (first | replace x0 := x0.trans x1 | replace x0 := (x0.alloc _).trans x1 | replace x0 := (x0.drew).trans x1 | replace x0 := (x0.drew.alloc _).trans x1 | replace x0 := (x0.alloc _).drew.trans x1 | replace x0 := ((x0.alloc _).alloc _).trans x1 | have x0 := x1); clear x1; obtain ⟨xc, xf, xs⟩ := x0.cells) | (go_at_call 19; refine (toRate_any b l c m _).mono ?_; rintro e w1 ⟨rfl, x1⟩; (try have hg := RowAt.ext hg x1); (try clear xc xf xs); (first | replace x0 := x0.trans x1 | replace x0 := (x0.alloc _).trans x1 | replace x0 := (x0.drew).trans x1 | replace x0 := (x0.drew.alloc _).trans x1 | replace x0 := (x0.alloc _).drew.trans x1 | replace x0 := ((x0.alloc _).alloc _).trans x1 | have x0 := x1); clear x1; obtain ⟨xc, xf, xs⟩ := x0.cells) | (go_at_call 38; refine (implDriftSum_any b l c m _ _ _ zs _ hg hn hs).mono ?_; rintro e w1 ⟨rfl, x1⟩; have hg := hg.ext x1; (try clear xc xf xs); (first | replace x0 := x0.trans x1 | replace x0 := (x0.alloc _).trans x1 | replace x0 := (x0.drew).trans x1 | replace x0 := (x0.drew.alloc _).trans x1 | replace x0 := (x0.alloc _).drew.trans x1 | replace x0 := ((x0.alloc _).alloc _).trans x1 | have x0 := x1); clear x1; obtain ⟨xc, xf, xs⟩ := x0.cells) | (go_at_call 37; refine (specDriftSum_any b l c m _ _ _ zs _ hg hn hs).mono ?_; rintro e w1 ⟨rfl, x1⟩; have hg := hg.ext x1; (try clear xc xf xs); (first | replace x0 := x0.trans x1 | replace x0 := (x0.alloc _).trans x1 | replace x0 := (x0.drew).trans x1 | replace x0 := (x0.drew.alloc _).trans x1 | replace x0 := (x0.alloc _).drew.trans x1 | replace x0 := ((x0.alloc _).alloc _).trans x1 | have x0 := x1); clear x1; obtain ⟨xc, xf, xs⟩ := x0.cells) | (go_at_call 29; refine (eqSegmentS_any _ _ _ _ _ zs _ hp hg hn hs).mono ?_; rintro e w1 ⟨rfl, x1⟩; (try clear xc xf xs); (first | replace x0 := x0.trans x1 | replace x0 := (x0.alloc _).trans x1 | replace x0 := (x0.drew).trans x1 | replace x0 := (x0.drew.alloc _).trans x1 | replace x0 := (x0.alloc _).drew.trans x1 | replace x0 := ((x0.alloc _).alloc _).trans x1 | have x0 := x1); clear x1; obtain ⟨xc, xf, xs⟩ := x0.cells))
    go_ret
    exact ⟨rfl, hE.trans x0⟩
  · have z := Lib.hid (show szOf n = -1 by simp [szOf, hs])
    go_enter Try.func9, Try.ntmps9
    go_wp2_with (first | (go_at_call 25; refine (szSegmentS_any _ _ _ _ hm).mono ?_; rintro e w1 ⟨rfl, rfl⟩; rw [z.out]))
    go_ret
    exact ⟨rfl, (Ext.refl _).alloc _⟩

end Go.Proofs.Ytiodlbgfgeimoaa

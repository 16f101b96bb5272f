/-
  The best base.
-/
import Derived.Test.YtiodlbgfgeimoaaMean
import Derived.Deep.DeepCutAuto
import Derived.Test.YtiodlbgfgeimoaaRatio
import Derived.Test.YtiodlbgfgeimoaaWorst
namespace Go.Proofs.Ytiodlbgfgeimoaa
open Go.RowKit
set_option linter.unusedSimpArgs false
set_option linter.unusedVariables false


def bq (T H : Int) : Int := -T / H
def bqq (T H : Int) : Int := if ((((bq T H + 1) * H + T).natAbs : Nat) : Int) < (((bq T H * H + T).natAbs : Nat) : Int) then bq T H + 1 else bq T H
def clampB (q : Int) : Int := if q < -100000000 then -100000000 else if 100000000 < q then 100000000 else q
def bbR (b l c m : Int) (zs : List (Int × Int)) : Int := if vRate b l c m = true then (if vSegs zs = true then (if zs.length = 0 then 0 else clampB (bqq (sumTo 0 l c m zs zs.length) (hrs zs zs.length))) else 0) else 0
def bbC (b l c m : Int) (zs : List (Int × Int)) : Int := if vRate b l c m = true then (if vSegs zs = true then (if zs.length = 0 then 6 else 0) else 1) else 1
theorem sumTo_base (b l c m : Int) (zs : List (Int × Int)) (n : Nat) : sumTo b l c m zs n = sumTo 0 l c m zs n + b * hrs zs n := by
  induction n with
  | zero => simp [sumTo, hrs]
  | succ k ih =>
    simp only [sumTo, hrs, ih]
    unfold rtAt
    generalize (zs.getD k (0, 0)).1 = x
    generalize (zs.getD k (0, 0)).2 = y
    generalize sumTo 0 l c m zs k = s
    generalize hrs zs k = h
    grind
theorem lastOf_getn {b l c m x S : Int} {zs : List (Int × Int)} {n k : Nat} (hn : n = k + 1) (h : lastOf (sums b l c m zs n) = S) (hx : (sums b l c m zs n).getD k 0 = x) : x = S := by
  subst hn
  exact lastOf_get' h hx
theorem bq_bd {T H q : Int} (hT : -30000000000000 ≤ T ∧ T ≤ 30000000000000) (hH : 1 ≤ H ∧ H ≤ 14400) (hq : -T / H = q) : (-30000000000001 ≤ q ∧ q ≤ 30000000000001) ∧ (-30000000014400 ≤ q * H ∧ q * H ≤ 30000000014400) ∧ (-30000000028800 ≤ (q + 1) * H ∧ (q + 1) * H ≤ 30000000028800) := by
  have a1 : -T / H * H ≤ -T := Int.ediv_mul_le _ (by omega)
  have a2 : -T < (-T / H + 1) * H := Int.lt_ediv_add_one_mul_self _ (by omega)
  rw [hq] at a1 a2
  have a3 : (q + 1) * H = q * H + H := by rw [Int.add_mul, Int.one_mul]
  have a4 := Int.natAbs_mul q H
  refine ⟨?_, by omega, by omega⟩
  have h5 : q.natAbs ≤ (q * H).natAbs := by rw [a4]; exact Nat.le_mul_of_pos_right _ (by omega)
  have h6 : (q * H).natAbs ≤ 30000000014400 := by omega
  have h7 : (q + 1).natAbs ≤ ((q + 1) * H).natAbs := by rw [Int.natAbs_mul]; exact Nat.le_mul_of_pos_right _ (by omega)
  by_cases hq0 : 0 ≤ q
  · by_cases hT0 : 0 ≤ -T
    · have := Int.ediv_le_self H hT0
      omega
    · have := Int.ediv_neg_of_neg_of_pos (show -T < 0 by omega) (show 0 < H by omega)
      omega
  · have h8 : -T < 0 := by
      by_cases h : -T < 0
      · exact h
      · have := Int.ediv_nonneg (a := -T) (b := H) (by omega) (by omega)
        omega
    have h9 := Int.le_ediv_of_mul_le (a := -T) (b := -T) (c := H) (by omega) (by
      have := Int.mul_le_mul_of_nonpos_left (a := -T) (b := H) (c := 1) (by omega) (by omega)
      omega)
    omega

set_option maxHeartbeats 400000 in
theorem l00Min_yes (a b : Int) (w : World) (h : a < b) : Calls Try.prog 83 #[.int .i64 a, .int .i64 b] w fun e w' => e = .returned (.int .i64 a) ∧ w = w' := by
  go_enter Try.func83, Try.ntmps83
  go_wp2
  go_ret
  exact ⟨rfl, rfl⟩
set_option maxHeartbeats 400000 in
theorem l00Min_no (a b : Int) (w : World) (h : ¬ a < b) : Calls Try.prog 83 #[.int .i64 a, .int .i64 b] w fun e w' => e = .returned (.int .i64 b) ∧ w = w' := by
  go_enter Try.func83, Try.ntmps83
  go_wp2
  go_ret
  exact ⟨rfl, rfl⟩
set_option maxHeartbeats 400000 in
theorem l00Max_yes (a b : Int) (w : World) (h : b < a) : Calls Try.prog 82 #[.int .i64 a, .int .i64 b] w fun e w' => e = .returned (.int .i64 a) ∧ w = w' := by
  go_enter Try.func82, Try.ntmps82
  go_wp2
  go_ret
  exact ⟨rfl, rfl⟩
set_option maxHeartbeats 400000 in
theorem l00Max_no (a b : Int) (w : World) (h : ¬ b < a) : Calls Try.prog 82 #[.int .i64 a, .int .i64 b] w fun e w' => e = .returned (.int .i64 b) ∧ w = w' := by
  go_enter Try.func82, Try.ntmps82
  go_wp2
  go_ret
  exact ⟨rfl, rfl⟩

set_option maxHeartbeats 4000000 in
theorem implBestBase_any (b l c m : Int) (a : Option Addr) (n cp : Nat) (zs : List (Int × Int)) (w : World) (hr : RowAt w a zs) (hn : zs.length = n) (hk : n ≤ 1048576) :
    Calls Try.prog 49 #[.agg #[.int .i64 b, .int .i64 l, .int .i64 c, .int .i64 m], .slice a n cp] w fun e w' => e = .returned (.tuple #[.int .i64 (bbR b l c m zs), .int .i64 (bbC b l c m zs)]) ∧ Ext w w' := by
  cases h1 : vRate b l c m
  · have e1 := Lib.hid (show 0 = bbR b l c m zs by simp [bbR, h1])
    have e2 := Lib.hid (show 1 = bbC b l c m zs by simp [bbC, h1])
    go_enter Try.func49, Try.ntmps49
    go_wp2_with fail
    generalize hW : (w.alloc (Obj.cells #[.int .i64 b, .int .i64 l, .int .i64 c, .int .i64 m] 25)) = W
    have hE : Ext w W := by rw [← hW]; exact (Ext.refl _).alloc _
    have hl0 : w.heap.size < W.heap.size := by rw [← hW]; simp
    have f0_0 : W.cell? ⟨w.heap.size, 0, none⟩ = some (.int .i64 b) := by rw [← hW]; simp [go_sem]
    have f0_1 : W.cell? ⟨w.heap.size, 1, none⟩ = some (.int .i64 l) := by rw [← hW]; simp [go_sem]
    have f0_2 : W.cell? ⟨w.heap.size, 2, none⟩ = some (.int .i64 c) := by rw [← hW]; simp [go_sem]
    have f0_3 : W.cell? ⟨w.heap.size, 3, none⟩ = some (.int .i64 m) := by rw [← hW]; simp [go_sem]
    clear hW
    have hrW := hr.ext hE
    have x0 := Ext.refl W
    go_wp2_with (first | (go_at_call 20; refine (implValidRate_any b l c m _).mono ?_; rintro e w1 ⟨rfl, x1⟩; (try clear xc xf xs); (first | replace x0 := x0.trans x1 | replace x0 := (x0.alloc _).trans x1 | replace x0 := (x0.drew).trans x1 | replace x0 := (x0.drew.alloc _).trans x1 | replace x0 := (x0.alloc _).drew.trans x1 | replace x0 := ((x0.alloc _).alloc _).trans x1 | have x0 := x1); clear x1; obtain ⟨xc, xf, xs⟩ := x0.cells) | (go_at_call 28; refine (implValidSegments_any _ _ _ zs _ (hrW.ext x0) hn hk).mono ?_; rintro e w1 ⟨rfl, x1⟩; (try clear xc xf xs); (first | replace x0 := x0.trans x1 | replace x0 := (x0.alloc _).trans x1 | replace x0 := (x0.drew).trans x1 | replace x0 := (x0.drew.alloc _).trans x1 | replace x0 := (x0.alloc _).drew.trans x1 | replace x0 := ((x0.alloc _).alloc _).trans x1 | have x0 := x1); clear x1; obtain ⟨xc, xf, xs⟩ := x0.cells))
    go_ret2
    exact ⟨ret2 e1.out e2.out, hE.trans x0⟩
  · obtain ⟨hb, hl, hc, hm⟩ := vRate_iff.1 h1
    cases h2 : vSegs zs
    · have e1 := Lib.hid (show 0 = bbR b l c m zs by simp [bbR, h1, h2])
      have e2 := Lib.hid (show 1 = bbC b l c m zs by simp [bbC, h1, h2])
      go_enter Try.func49, Try.ntmps49
      go_wp2_with fail
      generalize hW : (w.alloc (Obj.cells #[.int .i64 b, .int .i64 l, .int .i64 c, .int .i64 m] 25)) = W
      have hE : Ext w W := by rw [← hW]; exact (Ext.refl _).alloc _
      have hl0 : w.heap.size < W.heap.size := by rw [← hW]; simp
      have f0_0 : W.cell? ⟨w.heap.size, 0, none⟩ = some (.int .i64 b) := by rw [← hW]; simp [go_sem]
      have f0_1 : W.cell? ⟨w.heap.size, 1, none⟩ = some (.int .i64 l) := by rw [← hW]; simp [go_sem]
      have f0_2 : W.cell? ⟨w.heap.size, 2, none⟩ = some (.int .i64 c) := by rw [← hW]; simp [go_sem]
      have f0_3 : W.cell? ⟨w.heap.size, 3, none⟩ = some (.int .i64 m) := by rw [← hW]; simp [go_sem]
      clear hW
      have hrW := hr.ext hE
      have x0 := Ext.refl W
      go_wp2_with (first | (go_at_call 20; refine (implValidRate_any b l c m _).mono ?_; rintro e w1 ⟨rfl, x1⟩; (try clear xc xf xs); (first | replace x0 := x0.trans x1 | replace x0 := (x0.alloc _).trans x1 | replace x0 := (x0.drew).trans x1 | replace x0 := (x0.drew.alloc _).trans x1 | replace x0 := (x0.alloc _).drew.trans x1 | replace x0 := ((x0.alloc _).alloc _).trans x1 | have x0 := x1); clear x1; obtain ⟨xc, xf, xs⟩ := x0.cells) | (go_at_call 28; refine (implValidSegments_any _ _ _ zs _ (hrW.ext x0) hn hk).mono ?_; rintro e w1 ⟨rfl, x1⟩; (try clear xc xf xs); (first | replace x0 := x0.trans x1 | replace x0 := (x0.alloc _).trans x1 | replace x0 := (x0.drew).trans x1 | replace x0 := (x0.drew.alloc _).trans x1 | replace x0 := (x0.alloc _).drew.trans x1 | replace x0 := ((x0.alloc _).alloc _).trans x1 | have x0 := x1); clear x1; obtain ⟨xc, xf, xs⟩ := x0.cells))
      go_ret2
      exact ⟨ret2 e1.out e2.out, hE.trans x0⟩
    · by_cases hz : n = 0
      · subst hz
        have e1 := Lib.hid (show 0 = bbR b l c m zs by simp [bbR, h1, h2, hn])
        have e2 := Lib.hid (show 6 = bbC b l c m zs by simp [bbC, h1, h2, hn])
        go_enter Try.func49, Try.ntmps49
        go_wp2_with fail
        generalize hW : (w.alloc (Obj.cells #[.int .i64 b, .int .i64 l, .int .i64 c, .int .i64 m] 25)) = W
        have hE : Ext w W := by rw [← hW]; exact (Ext.refl _).alloc _
        have hl0 : w.heap.size < W.heap.size := by rw [← hW]; simp
        have f0_0 : W.cell? ⟨w.heap.size, 0, none⟩ = some (.int .i64 b) := by rw [← hW]; simp [go_sem]
        have f0_1 : W.cell? ⟨w.heap.size, 1, none⟩ = some (.int .i64 l) := by rw [← hW]; simp [go_sem]
        have f0_2 : W.cell? ⟨w.heap.size, 2, none⟩ = some (.int .i64 c) := by rw [← hW]; simp [go_sem]
        have f0_3 : W.cell? ⟨w.heap.size, 3, none⟩ = some (.int .i64 m) := by rw [← hW]; simp [go_sem]
        clear hW
        have hrW := hr.ext hE
        have x0 := Ext.refl W
        go_wp2_with (first | (go_at_call 20; refine (implValidRate_any b l c m _).mono ?_; rintro e w1 ⟨rfl, x1⟩; (try clear xc xf xs); (first | replace x0 := x0.trans x1 | replace x0 := (x0.alloc _).trans x1 | replace x0 := (x0.drew).trans x1 | replace x0 := (x0.drew.alloc _).trans x1 | replace x0 := (x0.alloc _).drew.trans x1 | replace x0 := ((x0.alloc _).alloc _).trans x1 | have x0 := x1); clear x1; obtain ⟨xc, xf, xs⟩ := x0.cells) | (go_at_call 28; refine (implValidSegments_any _ _ _ zs _ (hrW.ext x0) hn hk).mono ?_; rintro e w1 ⟨rfl, x1⟩; (try clear xc xf xs); (first | replace x0 := x0.trans x1 | replace x0 := (x0.alloc _).trans x1 | replace x0 := (x0.drew).trans x1 | replace x0 := (x0.drew.alloc _).trans x1 | replace x0 := (x0.alloc _).drew.trans x1 | replace x0 := ((x0.alloc _).alloc _).trans x1 | have x0 := x1); clear x1; obtain ⟨xc, xf, xs⟩ := x0.cells))
        go_ret2
        exact ⟨ret2 e1.out e2.out, hE.trans x0⟩
      · have hlen := vSegs_len h2
        rw [hn] at hlen
        have e1 := Lib.hid (show clampB (bqq (sumTo 0 l c m zs n) (hrs zs n)) = bbR b l c m zs by simp [bbR, h1, h2, hn, hz])
        have e2 := Lib.hid (show 0 = bbC b l c m zs by simp [bbC, h1, h2, hn, hz])
        obtain ⟨k, hk1⟩ : ∃ k, n = k + 1 := ⟨n - 1, by omega⟩
        have t2 : (0 : Int) ≤ (k : Int) := by omega
        have t3 : (k : Int) < (n : Int) := by omega
        have t4 : IntKind.i64.wrap ((n : Int) - 1) = (k : Int) := by rw [IntWalk.i64_in _ (by omega)]; omega
        have t5 : k < n := by omega
        replace hk1 := Lib.hid hk1
        have hT := sumTo_bd (b := 0) (by omega) hl hc hm h2 n (by omega)
        have hH := hrs_bd h2 n (by omega)
        have hls := Lib.hid (lastOf_sums 0 l c m zs n)
        have hlb := Lib.hid (lastOf_sums b l c m zs n)
        have hbase := Lib.hid (sumTo_base b l c m zs n)
        have hTT := Lib.hid (rfl : sumTo 0 l c m zs n = sumTo 0 l c m zs n)
        have hB2 := sumTo_bd hb hl hc hm h2 n (by omega)
        generalize hTn : sumTo 0 l c m zs n = T at hT hls hbase e1
        generalize hHn : hrs zs n = H at hH hbase e1
        replace hTn := Lib.hid hTn
        replace hHn := Lib.hid hHn
        clear hTT
        go_enter Try.func49, Try.ntmps49
        go_wp2_with fail
        generalize hW : (w.alloc (Obj.cells #[.int .i64 b, .int .i64 l, .int .i64 c, .int .i64 m] 25)) = W
        have hE : Ext w W := by rw [← hW]; exact (Ext.refl _).alloc _
        have hl0 : w.heap.size < W.heap.size := by rw [← hW]; simp
        have f0_0 : W.cell? ⟨w.heap.size, 0, none⟩ = some (.int .i64 b) := by rw [← hW]; simp [go_sem]
        have f0_1 : W.cell? ⟨w.heap.size, 1, none⟩ = some (.int .i64 l) := by rw [← hW]; simp [go_sem]
        have f0_2 : W.cell? ⟨w.heap.size, 2, none⟩ = some (.int .i64 c) := by rw [← hW]; simp [go_sem]
        have f0_3 : W.cell? ⟨w.heap.size, 3, none⟩ = some (.int .i64 m) := by rw [← hW]; simp [go_sem]
        have z0_0 : W.frozen? ⟨w.heap.size, 0, none⟩ = false := by rw [← hW]; simp [go_sem]
        clear hW
        have hrW := hr.ext hE
        have x0 := Ext.refl W
        go_wp2_with (first | (go_at_call 20; refine (implValidRate_any b l c m _).mono ?_; rintro e w1 ⟨rfl, x1⟩; (try clear xc xf xs); (first | replace x0 := x0.trans x1 | replace x0 := (x0.alloc _).trans x1 | replace x0 := (x0.drew).trans x1 | replace x0 := (x0.drew.alloc _).trans x1 | replace x0 := (x0.alloc _).drew.trans x1 | replace x0 := ((x0.alloc _).alloc _).trans x1 | have x0 := x1); clear x1; obtain ⟨xc, xf, xs⟩ := x0.cells) | (go_at_call 28; refine (implValidSegments_any _ _ _ zs _ (hrW.ext x0) hn hk).mono ?_; rintro e w1 ⟨rfl, x1⟩; (try clear xc xf xs); (first | replace x0 := x0.trans x1 | replace x0 := (x0.alloc _).trans x1 | replace x0 := (x0.drew).trans x1 | replace x0 := (x0.drew.alloc _).trans x1 | replace x0 := (x0.alloc _).drew.trans x1 | replace x0 := ((x0.alloc _).alloc _).trans x1 | have x0 := x1); clear x1; obtain ⟨xc, xf, xs⟩ := x0.cells))
        generalize hV : World.setCell _ _ _ = V
        have xV : Ext w V := by rw [← hV]; exact (hE.trans x0).setCell (Nat.le_refl _) _
        have hlV : w.heap.size < V.heap.size := by rw [← hV]; simp; omega
        have g0_0 : V.cell? ⟨w.heap.size, 0, none⟩ = some (.int .i64 0) := by rw [← hV]; exact cell_set_eq _ _ _ _ _ ((xc _ _ hl0).trans f0_0)
        have g0_1 : V.cell? ⟨w.heap.size, 1, none⟩ = some (.int .i64 l) := by rw [← hV]; exact (cell_set_ne _ _ _ _ _ (by decide)).trans ((xc _ _ hl0).trans f0_1)
        have g0_2 : V.cell? ⟨w.heap.size, 2, none⟩ = some (.int .i64 c) := by rw [← hV]; exact (cell_set_ne _ _ _ _ _ (by decide)).trans ((xc _ _ hl0).trans f0_2)
        have g0_3 : V.cell? ⟨w.heap.size, 3, none⟩ = some (.int .i64 m) := by rw [← hV]; exact (cell_set_ne _ _ _ _ _ (by decide)).trans ((xc _ _ hl0).trans f0_3)
        have hrV := hr.ext xV
        clear hV xc xf xs x0 f0_0 f0_1 f0_2 f0_3 hE hl0 hrW z0_0
        have hE := xV
        have x0 := Ext.refl V
        go_cut [6, 7] (fun s6 s7 wx => s6 = .int .i64 T ∧ s7 = .int .i64 H ∧ Ext V wx)
        case first =>
          go_region_with (first | (go_at_call 74; refine (sumsOf_any 0 l c m _ _ _ zs _ (by omega) hl hc hm h2 (hrV.ext (by first | exact x0 | exact x0.drew | exact x0.drewN _ | exact x0.drew.drew)) hn).mono ?_; rintro e w1 ⟨sv, rfl, hsv, x1⟩; obtain ⟨g, cap, x, rfl, hg, hx, hc9⟩ := hsv.look (j := k) (by rw [sums_length]; exact t5); rw [sums_length]; have hx := Lib.hid (lastOf_getn hk1.out hls.out hx.out); (try clear xc xf xs); (first | replace x0 := x0.trans x1 | replace x0 := (x0.alloc _).trans x1 | replace x0 := (x0.drew).trans x1 | replace x0 := (x0.drew.alloc _).trans x1 | replace x0 := (x0.alloc _).drew.trans x1 | replace x0 := ((x0.alloc _).alloc _).trans x1 | have x0 := x1); clear x1; obtain ⟨xc, xf, xs⟩ := x0.cells) | (go_at_call 78; refine (hoursOf_any _ _ _ zs _ h2 (hrV.ext (by first | exact x0 | exact x0.drew | exact x0.drewN _ | exact x0.drew.drew)) hn).mono ?_; rintro e w1 ⟨rfl, x1⟩; (try have hc9 := (x1.cells.1 _ _ hg).trans hc9; have hg := Nat.lt_of_lt_of_le hg x1.size); (try clear xc xf xs); (first | replace x0 := x0.trans x1 | replace x0 := (x0.alloc _).trans x1 | replace x0 := (x0.drew).trans x1 | replace x0 := (x0.drew.alloc _).trans x1 | replace x0 := (x0.alloc _).drew.trans x1 | replace x0 := ((x0.alloc _).alloc _).trans x1 | have x0 := x1); clear x1; obtain ⟨xc, xf, xs⟩ := x0.cells))
          all_goals (go_wp2_with fail; go_meet; exact ⟨by rw [hx.out], by rw [hHn.out], x0⟩)
        case rest =>
        obtain ⟨rfl, rfl, x0⟩ := hcut
        replace hE := hE.trans x0
        clear x0 hrV g0_0 g0_1 g0_2 g0_3 hlV xV
        rename World => U
        have x0 := Ext.refl U
        have hbq := bq_bd (T := T) (H := H) (q := -T / H) (by omega) (by omega) rfl
        have q1 : IntKind.i64.wrap (-T) = -T := IntWalk.i64_in _ (by omega)
        generalize hq : -T / H = q at *
        replace hq := Lib.hid hq
        obtain ⟨bq1, bq2, bq3⟩ := hbq
        have q2 : IntKind.i64.wrap (q * H) = q * H := IntWalk.i64_in _ (by omega)
        have q3 : IntKind.i64.wrap (q * H + T) = q * H + T := IntWalk.i64_in _ (by omega)
        have q4 : IntKind.i64.wrap (q + 1) = q + 1 := IntWalk.i64_in _ (by omega)
        have q5 : IntKind.i64.wrap ((q + 1) * H) = (q + 1) * H := IntWalk.i64_in _ (by omega)
        have q6 : IntKind.i64.wrap ((q + 1) * H + T) = (q + 1) * H + T := IntWalk.i64_in _ (by omega)
        by_cases htest : ((((q + 1) * H + T).natAbs : Nat) : Int) < (((q * H + T).natAbs : Nat) : Int)
        · have eqq := Lib.hid (show bqq T H = q + 1 by rw [bqq, bq, hq.out, if_pos htest])
          by_cases g1 : (q + 1) < -100000000
          · have g2 : ¬ -100000000 < (q + 1) := by omega
            have g3 : (q + 1) < 100000000 := by omega
            have e4 := Lib.hid (show -100000000 = bbR b l c m zs by rw [← e1.out, eqq.out, clampB, if_pos g1])
            go_wp2_with (first | (go_at_call 84; refine (floorDiv_any (-T) H _ (by omega) (by omega)).mono ?_; rintro e w1 ⟨rfl, rfl⟩; rw [hq.out]) | (go_at_call 76; refine (abs_any _ _ (by omega)).mono ?_; rintro e w1 ⟨rfl, rfl⟩))
            go_ret2
            exact ⟨ret2 e4.out e2.out, hE.trans x0⟩
          · by_cases g2 : 100000000 < (q + 1)
            · have g3 : ¬ (q + 1) < 100000000 := by omega
              have g4 : -100000000 < (q + 1) := by omega
              have e4 := Lib.hid (show 100000000 = bbR b l c m zs by rw [← e1.out, eqq.out, clampB, if_neg g1, if_pos g2])
              go_wp2_with (first | (go_at_call 84; refine (floorDiv_any (-T) H _ (by omega) (by omega)).mono ?_; rintro e w1 ⟨rfl, rfl⟩; rw [hq.out]) | (go_at_call 76; refine (abs_any _ _ (by omega)).mono ?_; rintro e w1 ⟨rfl, rfl⟩))
              go_ret2
              exact ⟨ret2 e4.out e2.out, hE.trans x0⟩
            · have e4 := Lib.hid (show (q + 1) = bbR b l c m zs by rw [← e1.out, eqq.out, clampB, if_neg g1, if_neg g2])
              have g3 : -100000000 ≤ (q + 1) := by omega
              go_wp2_with (first | (go_at_call 84; refine (floorDiv_any (-T) H _ (by omega) (by omega)).mono ?_; rintro e w1 ⟨rfl, rfl⟩; rw [hq.out]) | (go_at_call 76; refine (abs_any _ _ (by omega)).mono ?_; rintro e w1 ⟨rfl, rfl⟩))
              go_ret2
              exact ⟨ret2 e4.out e2.out, hE.trans x0⟩
        · have eqq := Lib.hid (show bqq T H = q by rw [bqq, bq, hq.out, if_neg htest])
          by_cases g1 : q < -100000000
          · have g2 : ¬ -100000000 < q := by omega
            have g3 : q < 100000000 := by omega
            have e4 := Lib.hid (show -100000000 = bbR b l c m zs by rw [← e1.out, eqq.out, clampB, if_pos g1])
            go_wp2_with (first | (go_at_call 84; refine (floorDiv_any (-T) H _ (by omega) (by omega)).mono ?_; rintro e w1 ⟨rfl, rfl⟩; rw [hq.out]) | (go_at_call 76; refine (abs_any _ _ (by omega)).mono ?_; rintro e w1 ⟨rfl, rfl⟩))
            go_ret2
            exact ⟨ret2 e4.out e2.out, hE.trans x0⟩
          · by_cases g2 : 100000000 < q
            · have g3 : ¬ q < 100000000 := by omega
              have g4 : -100000000 < q := by omega
              have e4 := Lib.hid (show 100000000 = bbR b l c m zs by rw [← e1.out, eqq.out, clampB, if_neg g1, if_pos g2])
              go_wp2_with (first | (go_at_call 84; refine (floorDiv_any (-T) H _ (by omega) (by omega)).mono ?_; rintro e w1 ⟨rfl, rfl⟩; rw [hq.out]) | (go_at_call 76; refine (abs_any _ _ (by omega)).mono ?_; rintro e w1 ⟨rfl, rfl⟩))
              go_ret2
              exact ⟨ret2 e4.out e2.out, hE.trans x0⟩
            · have e4 := Lib.hid (show q = bbR b l c m zs by rw [← e1.out, eqq.out, clampB, if_neg g1, if_neg g2])
              have g3 : -100000000 ≤ q := by omega
              go_wp2_with (first | (go_at_call 84; refine (floorDiv_any (-T) H _ (by omega) (by omega)).mono ?_; rintro e w1 ⟨rfl, rfl⟩; rw [hq.out]) | (go_at_call 76; refine (abs_any _ _ (by omega)).mono ?_; rintro e w1 ⟨rfl, rfl⟩))
              go_ret2
              exact ⟨ret2 e4.out e2.out, hE.trans x0⟩


set_option maxHeartbeats 4000000 in
theorem specBestBase_any (b l c m : Int) (a : Option Addr) (n cp : Nat) (zs : List (Int × Int)) (w : World) (hr : RowAt w a zs) (hn : zs.length = n) (hk : n ≤ 1048576) :
    Calls Try.prog 48 #[.agg #[.int .i64 b, .int .i64 l, .int .i64 c, .int .i64 m], .slice a n cp] w fun e w' => e = .returned (.tuple #[.int .i64 (bbR b l c m zs), .int .i64 (bbC b l c m zs)]) ∧ Ext w w' := by
  cases h1 : vRate b l c m
  · have e1 := Lib.hid (show 0 = bbR b l c m zs by simp [bbR, h1])
    have e2 := Lib.hid (show 1 = bbC b l c m zs by simp [bbC, h1])
    go_enter Try.func48, Try.ntmps48
    go_wp2_with fail
    generalize hW : (w.alloc (Obj.cells #[.int .i64 b, .int .i64 l, .int .i64 c, .int .i64 m] 25)) = W
    have hE : Ext w W := by rw [← hW]; exact (Ext.refl _).alloc _
    have hl0 : w.heap.size < W.heap.size := by rw [← hW]; simp
    have f0_0 : W.cell? ⟨w.heap.size, 0, none⟩ = some (.int .i64 b) := by rw [← hW]; simp [go_sem]
    have f0_1 : W.cell? ⟨w.heap.size, 1, none⟩ = some (.int .i64 l) := by rw [← hW]; simp [go_sem]
    have f0_2 : W.cell? ⟨w.heap.size, 2, none⟩ = some (.int .i64 c) := by rw [← hW]; simp [go_sem]
    have f0_3 : W.cell? ⟨w.heap.size, 3, none⟩ = some (.int .i64 m) := by rw [← hW]; simp [go_sem]
    clear hW
    have hrW := hr.ext hE
    have x0 := Ext.refl W
    go_wp2_with (first | (go_at_call 60; refine (l12Ok_any b l c m _).mono ?_; rintro e w1 ⟨rfl, x1⟩; (try clear xc xf xs); (first | replace x0 := x0.trans x1 | replace x0 := (x0.alloc _).trans x1 | replace x0 := (x0.drew).trans x1 | replace x0 := (x0.drew.alloc _).trans x1 | replace x0 := (x0.alloc _).drew.trans x1 | replace x0 := ((x0.alloc _).alloc _).trans x1 | have x0 := x1); clear x1; obtain ⟨xc, xf, xs⟩ := x0.cells) | (go_at_call 66; refine (l12List_any _ _ _ zs _ (hrW.ext x0) hn hk).mono ?_; rintro e w1 ⟨rfl, x1⟩; (try clear xc xf xs); (first | replace x0 := x0.trans x1 | replace x0 := (x0.alloc _).trans x1 | replace x0 := (x0.drew).trans x1 | replace x0 := (x0.drew.alloc _).trans x1 | replace x0 := (x0.alloc _).drew.trans x1 | replace x0 := ((x0.alloc _).alloc _).trans x1 | have x0 := x1); clear x1; obtain ⟨xc, xf, xs⟩ := x0.cells))
    go_ret2
    exact ⟨ret2 e1.out e2.out, hE.trans x0⟩
  · obtain ⟨hb, hl, hc, hm⟩ := vRate_iff.1 h1
    cases h2 : vSegs zs
    · have e1 := Lib.hid (show 0 = bbR b l c m zs by simp [bbR, h1, h2])
      have e2 := Lib.hid (show 1 = bbC b l c m zs by simp [bbC, h1, h2])
      go_enter Try.func48, Try.ntmps48
      go_wp2_with fail
      generalize hW : (w.alloc (Obj.cells #[.int .i64 b, .int .i64 l, .int .i64 c, .int .i64 m] 25)) = W
      have hE : Ext w W := by rw [← hW]; exact (Ext.refl _).alloc _
      have hl0 : w.heap.size < W.heap.size := by rw [← hW]; simp
      have f0_0 : W.cell? ⟨w.heap.size, 0, none⟩ = some (.int .i64 b) := by rw [← hW]; simp [go_sem]
      have f0_1 : W.cell? ⟨w.heap.size, 1, none⟩ = some (.int .i64 l) := by rw [← hW]; simp [go_sem]
      have f0_2 : W.cell? ⟨w.heap.size, 2, none⟩ = some (.int .i64 c) := by rw [← hW]; simp [go_sem]
      have f0_3 : W.cell? ⟨w.heap.size, 3, none⟩ = some (.int .i64 m) := by rw [← hW]; simp [go_sem]
      clear hW
      have hrW := hr.ext hE
      have x0 := Ext.refl W
      go_wp2_with (first | (go_at_call 60; refine (l12Ok_any b l c m _).mono ?_; rintro e w1 ⟨rfl, x1⟩; (try clear xc xf xs); (first | replace x0 := x0.trans x1 | replace x0 := (x0.alloc _).trans x1 | replace x0 := (x0.drew).trans x1 | replace x0 := (x0.drew.alloc _).trans x1 | replace x0 := (x0.alloc _).drew.trans x1 | replace x0 := ((x0.alloc _).alloc _).trans x1 | have x0 := x1); clear x1; obtain ⟨xc, xf, xs⟩ := x0.cells) | (go_at_call 66; refine (l12List_any _ _ _ zs _ (hrW.ext x0) hn hk).mono ?_; rintro e w1 ⟨rfl, x1⟩; (try clear xc xf xs); (first | replace x0 := x0.trans x1 | replace x0 := (x0.alloc _).trans x1 | replace x0 := (x0.drew).trans x1 | replace x0 := (x0.drew.alloc _).trans x1 | replace x0 := (x0.alloc _).drew.trans x1 | replace x0 := ((x0.alloc _).alloc _).trans x1 | have x0 := x1); clear x1; obtain ⟨xc, xf, xs⟩ := x0.cells))
      go_ret2
      exact ⟨ret2 e1.out e2.out, hE.trans x0⟩
    · by_cases hz : n = 0
      · subst hz
        have e1 := Lib.hid (show 0 = bbR b l c m zs by simp [bbR, h1, h2, hn])
        have e2 := Lib.hid (show 6 = bbC b l c m zs by simp [bbC, h1, h2, hn])
        go_enter Try.func48, Try.ntmps48
        go_wp2_with fail
        generalize hW : (w.alloc (Obj.cells #[.int .i64 b, .int .i64 l, .int .i64 c, .int .i64 m] 25)) = W
        have hE : Ext w W := by rw [← hW]; exact (Ext.refl _).alloc _
        have hl0 : w.heap.size < W.heap.size := by rw [← hW]; simp
        have f0_0 : W.cell? ⟨w.heap.size, 0, none⟩ = some (.int .i64 b) := by rw [← hW]; simp [go_sem]
        have f0_1 : W.cell? ⟨w.heap.size, 1, none⟩ = some (.int .i64 l) := by rw [← hW]; simp [go_sem]
        have f0_2 : W.cell? ⟨w.heap.size, 2, none⟩ = some (.int .i64 c) := by rw [← hW]; simp [go_sem]
        have f0_3 : W.cell? ⟨w.heap.size, 3, none⟩ = some (.int .i64 m) := by rw [← hW]; simp [go_sem]
        clear hW
        have hrW := hr.ext hE
        have x0 := Ext.refl W
        go_wp2_with (first | (go_at_call 60; refine (l12Ok_any b l c m _).mono ?_; rintro e w1 ⟨rfl, x1⟩; (try clear xc xf xs); (first | replace x0 := x0.trans x1 | replace x0 := (x0.alloc _).trans x1 | replace x0 := (x0.drew).trans x1 | replace x0 := (x0.drew.alloc _).trans x1 | replace x0 := (x0.alloc _).drew.trans x1 | replace x0 := ((x0.alloc _).alloc _).trans x1 | have x0 := x1); clear x1; obtain ⟨xc, xf, xs⟩ := x0.cells) | (go_at_call 66; refine (l12List_any _ _ _ zs _ (hrW.ext x0) hn hk).mono ?_; rintro e w1 ⟨rfl, x1⟩; (try clear xc xf xs); (first | replace x0 := x0.trans x1 | replace x0 := (x0.alloc _).trans x1 | replace x0 := (x0.drew).trans x1 | replace x0 := (x0.drew.alloc _).trans x1 | replace x0 := (x0.alloc _).drew.trans x1 | replace x0 := ((x0.alloc _).alloc _).trans x1 | have x0 := x1); clear x1; obtain ⟨xc, xf, xs⟩ := x0.cells))
        go_ret2
        exact ⟨ret2 e1.out e2.out, hE.trans x0⟩
      · have hlen := vSegs_len h2
        rw [hn] at hlen
        have e1 := Lib.hid (show clampB (bqq (sumTo 0 l c m zs n) (hrs zs n)) = bbR b l c m zs by simp [bbR, h1, h2, hn, hz])
        have e2 := Lib.hid (show 0 = bbC b l c m zs by simp [bbC, h1, h2, hn, hz])
        obtain ⟨k, hk1⟩ : ∃ k, n = k + 1 := ⟨n - 1, by omega⟩
        have t2 : (0 : Int) ≤ (k : Int) := by omega
        have t3 : (k : Int) < (n : Int) := by omega
        have t4 : IntKind.i64.wrap ((n : Int) - 1) = (k : Int) := by rw [IntWalk.i64_in _ (by omega)]; omega
        have t5 : k < n := by omega
        replace hk1 := Lib.hid hk1
        have hT := sumTo_bd (b := 0) (by omega) hl hc hm h2 n (by omega)
        have hH := hrs_bd h2 n (by omega)
        have hls := Lib.hid (lastOf_sums 0 l c m zs n)
        have hlb := Lib.hid (lastOf_sums b l c m zs n)
        have hbase := Lib.hid (sumTo_base b l c m zs n)
        have hTT := Lib.hid (rfl : sumTo 0 l c m zs n = sumTo 0 l c m zs n)
        have hB2 := sumTo_bd hb hl hc hm h2 n (by omega)
        generalize hTn : sumTo 0 l c m zs n = T at hT hls hbase e1
        generalize hHn : hrs zs n = H at hH hbase e1
        replace hTn := Lib.hid hTn
        replace hHn := Lib.hid hHn
        clear hTT
        have hbh := mul_abs (x := b) (y := H) (X := 100000000) (Y := 14400) hb (by omega)
        have r1 : IntKind.i64.wrap (b * H) = b * H := IntWalk.i64_in _ (by omega)
        have r2 : IntKind.i64.wrap (sumTo b l c m zs n - b * H) = sumTo b l c m zs n - b * H := IntWalk.i64_in _ (by omega)
        have r3 := Lib.hid (show sumTo b l c m zs n - b * H = T by rw [hbase.out]; omega)
        go_enter Try.func48, Try.ntmps48
        go_wp2_with fail
        generalize hW : (w.alloc (Obj.cells #[.int .i64 b, .int .i64 l, .int .i64 c, .int .i64 m] 25)) = W
        have hE : Ext w W := by rw [← hW]; exact (Ext.refl _).alloc _
        have hl0 : w.heap.size < W.heap.size := by rw [← hW]; simp
        have f0_0 : W.cell? ⟨w.heap.size, 0, none⟩ = some (.int .i64 b) := by rw [← hW]; simp [go_sem]
        have f0_1 : W.cell? ⟨w.heap.size, 1, none⟩ = some (.int .i64 l) := by rw [← hW]; simp [go_sem]
        have f0_2 : W.cell? ⟨w.heap.size, 2, none⟩ = some (.int .i64 c) := by rw [← hW]; simp [go_sem]
        have f0_3 : W.cell? ⟨w.heap.size, 3, none⟩ = some (.int .i64 m) := by rw [← hW]; simp [go_sem]
        have z0_0 : W.frozen? ⟨w.heap.size, 0, none⟩ = false := by rw [← hW]; simp [go_sem]
        clear hW
        have hrW := hr.ext hE
        have x0 := Ext.refl W
        go_wp2_with (first | (go_at_call 60; refine (l12Ok_any b l c m _).mono ?_; rintro e w1 ⟨rfl, x1⟩; (try clear xc xf xs); (first | replace x0 := x0.trans x1 | replace x0 := (x0.alloc _).trans x1 | replace x0 := (x0.drew).trans x1 | replace x0 := (x0.drew.alloc _).trans x1 | replace x0 := (x0.alloc _).drew.trans x1 | replace x0 := ((x0.alloc _).alloc _).trans x1 | have x0 := x1); clear x1; obtain ⟨xc, xf, xs⟩ := x0.cells) | (go_at_call 66; refine (l12List_any _ _ _ zs _ (hrW.ext x0) hn hk).mono ?_; rintro e w1 ⟨rfl, x1⟩; (try clear xc xf xs); (first | replace x0 := x0.trans x1 | replace x0 := (x0.alloc _).trans x1 | replace x0 := (x0.drew).trans x1 | replace x0 := (x0.drew.alloc _).trans x1 | replace x0 := (x0.alloc _).drew.trans x1 | replace x0 := ((x0.alloc _).alloc _).trans x1 | have x0 := x1); clear x1; obtain ⟨xc, xf, xs⟩ := x0.cells) | (go_at_call 77; refine (l12Hours_any _ _ _ zs _ h2 (hrW.ext x0) hn).mono ?_; rintro e w1 ⟨rfl, x1⟩; rw [hHn.out]; (try clear xc xf xs); (first | replace x0 := x0.trans x1 | replace x0 := (x0.alloc _).trans x1 | replace x0 := (x0.drew).trans x1 | replace x0 := (x0.drew.alloc _).trans x1 | replace x0 := (x0.alloc _).drew.trans x1 | replace x0 := ((x0.alloc _).alloc _).trans x1 | have x0 := x1); clear x1; obtain ⟨xc, xf, xs⟩ := x0.cells))
        have f0_0 := (xc _ _ hl0).trans f0_0
        have f0_1 := (xc _ _ hl0).trans f0_1
        have f0_2 := (xc _ _ hl0).trans f0_2
        have f0_3 := (xc _ _ hl0).trans f0_3
        replace hE := hE.trans x0
        have hrV := hr.ext hE
        have hl0 := Nat.lt_of_lt_of_le hl0 x0.size
        clear xc xf xs x0 hrW z0_0
        rename World => V
        have x0 := Ext.refl V
        go_cut [6, 7] (fun s6 s7 wx => s6 = .int .i64 H ∧ s7 = .int .i64 T ∧ Ext V wx)
        case first =>
          go_region_with (first | (go_at_call 73; refine (l12Sums_any b l c m _ _ _ zs _ hb hl hc hm h2 (hrV.ext (by first | exact x0 | exact x0.drew | exact x0.drewN _ | exact x0.drew.drew)) hn).mono ?_; rintro e w1 ⟨sv, rfl, hsv, x1⟩; (try clear xc xf xs); (first | replace x0 := x0.trans x1 | replace x0 := (x0.alloc _).trans x1 | replace x0 := (x0.drew).trans x1 | replace x0 := (x0.drew.alloc _).trans x1 | replace x0 := (x0.alloc _).drew.trans x1 | replace x0 := ((x0.alloc _).alloc _).trans x1 | have x0 := x1); clear x1; obtain ⟨xc, xf, xs⟩ := x0.cells) | (go_at_call 72; refine (l12Last_any _ _ _ _ (by first | exact hsv | exact hsv.ext ((Ext.refl _).drew) | exact hsv.ext ((Ext.refl _).drewN _) | exact hsv.ext ((Ext.refl _).drew.drew)) (by rw [sums_length]; omega)).mono ?_; rintro e w1 ⟨rfl, rfl⟩; rw [hlb.out]))
          all_goals (go_wp2_with fail; go_meet; exact ⟨rfl, by rw [r3.out], (by first | exact x0 | exact x0.drew | exact x0.drewN _ | exact x0.drew.drew)⟩)
        case rest =>
        obtain ⟨rfl, rfl, x0⟩ := hcut
        replace hE := hE.trans x0
        clear x0 hrV f0_0 f0_1 f0_2 f0_3 hl0 r1 r2
        rename World => U
        have x0 := Ext.refl U
        have hbq := bq_bd (T := T) (H := H) (q := -T / H) (by omega) (by omega) rfl
        have q1 : IntKind.i64.wrap (-T) = -T := IntWalk.i64_in _ (by omega)
        generalize hq : -T / H = q at *
        replace hq := Lib.hid hq
        obtain ⟨bq1, bq2, bq3⟩ := hbq
        have q2 : IntKind.i64.wrap (q * H) = q * H := IntWalk.i64_in _ (by omega)
        have q3 : IntKind.i64.wrap (q * H + T) = q * H + T := IntWalk.i64_in _ (by omega)
        have q4 : IntKind.i64.wrap (q + 1) = q + 1 := IntWalk.i64_in _ (by omega)
        have q5 : IntKind.i64.wrap ((q + 1) * H) = (q + 1) * H := IntWalk.i64_in _ (by omega)
        have q6 : IntKind.i64.wrap ((q + 1) * H + T) = (q + 1) * H + T := IntWalk.i64_in _ (by omega)
        by_cases htest : ((((q + 1) * H + T).natAbs : Nat) : Int) < (((q * H + T).natAbs : Nat) : Int)
        · have eqq := Lib.hid (show bqq T H = q + 1 by rw [bqq, bq, hq.out, if_pos htest])
          by_cases g1 : (q + 1) < -100000000
          · have g2 : ¬ -100000000 < (q + 1) := by omega
            have g3 : (q + 1) < 100000000 := by omega
            have e4 := Lib.hid (show -100000000 = bbR b l c m zs by rw [← e1.out, eqq.out, clampB, if_pos g1])
            go_wp2_with (first | (go_at_call 81; refine (l02Down_any (-T) H _ (by omega) (by omega)).mono ?_; rintro e w1 ⟨rfl, rfl⟩; rw [hq.out]) | (go_at_call 75; refine (l02Size_any _ _ (by omega)).mono ?_; rintro e w1 ⟨rfl, rfl⟩) | (go_at_call 83; refine (l00Min_yes _ _ _ (by omega)).mono ?_; rintro e w1 ⟨rfl, rfl⟩) | (go_at_call 83; refine (l00Min_no _ _ _ (by omega)).mono ?_; rintro e w1 ⟨rfl, rfl⟩) | (go_at_call 82; refine (l00Max_yes _ _ _ (by omega)).mono ?_; rintro e w1 ⟨rfl, rfl⟩) | (go_at_call 82; refine (l00Max_no _ _ _ (by omega)).mono ?_; rintro e w1 ⟨rfl, rfl⟩))
            go_ret2
            exact ⟨ret2 e4.out e2.out, hE.trans x0⟩
          · by_cases g2 : 100000000 < (q + 1)
            · have g3 : ¬ (q + 1) < 100000000 := by omega
              have g4 : -100000000 < (q + 1) := by omega
              have e4 := Lib.hid (show 100000000 = bbR b l c m zs by rw [← e1.out, eqq.out, clampB, if_neg g1, if_pos g2])
              go_wp2_with (first | (go_at_call 81; refine (l02Down_any (-T) H _ (by omega) (by omega)).mono ?_; rintro e w1 ⟨rfl, rfl⟩; rw [hq.out]) | (go_at_call 75; refine (l02Size_any _ _ (by omega)).mono ?_; rintro e w1 ⟨rfl, rfl⟩) | (go_at_call 83; refine (l00Min_yes _ _ _ (by omega)).mono ?_; rintro e w1 ⟨rfl, rfl⟩) | (go_at_call 83; refine (l00Min_no _ _ _ (by omega)).mono ?_; rintro e w1 ⟨rfl, rfl⟩) | (go_at_call 82; refine (l00Max_yes _ _ _ (by omega)).mono ?_; rintro e w1 ⟨rfl, rfl⟩) | (go_at_call 82; refine (l00Max_no _ _ _ (by omega)).mono ?_; rintro e w1 ⟨rfl, rfl⟩))
              go_ret2
              exact ⟨ret2 e4.out e2.out, hE.trans x0⟩
            · have e4 := Lib.hid (show (q + 1) = bbR b l c m zs by rw [← e1.out, eqq.out, clampB, if_neg g1, if_neg g2])
              by_cases g3 : (q + 1) < 100000000
              · by_cases g4 : -100000000 < (q + 1)
                · have g5 : ¬ (q + 1) < -100000000 := by omega
                  go_wp2_with (first | (go_at_call 81; refine (l02Down_any (-T) H _ (by omega) (by omega)).mono ?_; rintro e w1 ⟨rfl, rfl⟩; rw [hq.out]) | (go_at_call 75; refine (l02Size_any _ _ (by omega)).mono ?_; rintro e w1 ⟨rfl, rfl⟩) | (go_at_call 83; refine (l00Min_yes _ _ _ (by omega)).mono ?_; rintro e w1 ⟨rfl, rfl⟩) | (go_at_call 83; refine (l00Min_no _ _ _ (by omega)).mono ?_; rintro e w1 ⟨rfl, rfl⟩) | (go_at_call 82; refine (l00Max_yes _ _ _ (by omega)).mono ?_; rintro e w1 ⟨rfl, rfl⟩) | (go_at_call 82; refine (l00Max_no _ _ _ (by omega)).mono ?_; rintro e w1 ⟨rfl, rfl⟩))
                  go_ret2
                  exact ⟨ret2 e4.out e2.out, hE.trans x0⟩
                · go_wp2_with (first | (go_at_call 81; refine (l02Down_any (-T) H _ (by omega) (by omega)).mono ?_; rintro e w1 ⟨rfl, rfl⟩; rw [hq.out]) | (go_at_call 75; refine (l02Size_any _ _ (by omega)).mono ?_; rintro e w1 ⟨rfl, rfl⟩) | (go_at_call 83; refine (l00Min_yes _ _ _ (by omega)).mono ?_; rintro e w1 ⟨rfl, rfl⟩) | (go_at_call 83; refine (l00Min_no _ _ _ (by omega)).mono ?_; rintro e w1 ⟨rfl, rfl⟩) | (go_at_call 82; refine (l00Max_yes _ _ _ (by omega)).mono ?_; rintro e w1 ⟨rfl, rfl⟩) | (go_at_call 82; refine (l00Max_no _ _ _ (by omega)).mono ?_; rintro e w1 ⟨rfl, rfl⟩))
                  go_ret2
                  exact ⟨ret2 e4.out e2.out, hE.trans x0⟩
              · have g4 : -100000000 < (q + 1) := by omega
                have e5 := Lib.hid (show 100000000 = bbR b l c m zs by rw [← e4.out]; omega)
                go_wp2_with (first | (go_at_call 81; refine (l02Down_any (-T) H _ (by omega) (by omega)).mono ?_; rintro e w1 ⟨rfl, rfl⟩; rw [hq.out]) | (go_at_call 75; refine (l02Size_any _ _ (by omega)).mono ?_; rintro e w1 ⟨rfl, rfl⟩) | (go_at_call 83; refine (l00Min_yes _ _ _ (by omega)).mono ?_; rintro e w1 ⟨rfl, rfl⟩) | (go_at_call 83; refine (l00Min_no _ _ _ (by omega)).mono ?_; rintro e w1 ⟨rfl, rfl⟩) | (go_at_call 82; refine (l00Max_yes _ _ _ (by omega)).mono ?_; rintro e w1 ⟨rfl, rfl⟩) | (go_at_call 82; refine (l00Max_no _ _ _ (by omega)).mono ?_; rintro e w1 ⟨rfl, rfl⟩))
                go_ret2
                exact ⟨ret2 (by first | exact e4.out | exact e5.out) e2.out, hE.trans x0⟩
        · have eqq := Lib.hid (show bqq T H = q by rw [bqq, bq, hq.out, if_neg htest])
          by_cases g1 : q < -100000000
          · have g2 : ¬ -100000000 < q := by omega
            have g3 : q < 100000000 := by omega
            have e4 := Lib.hid (show -100000000 = bbR b l c m zs by rw [← e1.out, eqq.out, clampB, if_pos g1])
            go_wp2_with (first | (go_at_call 81; refine (l02Down_any (-T) H _ (by omega) (by omega)).mono ?_; rintro e w1 ⟨rfl, rfl⟩; rw [hq.out]) | (go_at_call 75; refine (l02Size_any _ _ (by omega)).mono ?_; rintro e w1 ⟨rfl, rfl⟩) | (go_at_call 83; refine (l00Min_yes _ _ _ (by omega)).mono ?_; rintro e w1 ⟨rfl, rfl⟩) | (go_at_call 83; refine (l00Min_no _ _ _ (by omega)).mono ?_; rintro e w1 ⟨rfl, rfl⟩) | (go_at_call 82; refine (l00Max_yes _ _ _ (by omega)).mono ?_; rintro e w1 ⟨rfl, rfl⟩) | (go_at_call 82; refine (l00Max_no _ _ _ (by omega)).mono ?_; rintro e w1 ⟨rfl, rfl⟩))
            go_ret2
            exact ⟨ret2 e4.out e2.out, hE.trans x0⟩
          · by_cases g2 : 100000000 < q
            · have g3 : ¬ q < 100000000 := by omega
              have g4 : -100000000 < q := by omega
              have e4 := Lib.hid (show 100000000 = bbR b l c m zs by rw [← e1.out, eqq.out, clampB, if_neg g1, if_pos g2])
              go_wp2_with (first | (go_at_call 81; refine (l02Down_any (-T) H _ (by omega) (by omega)).mono ?_; rintro e w1 ⟨rfl, rfl⟩; rw [hq.out]) | (go_at_call 75; refine (l02Size_any _ _ (by omega)).mono ?_; rintro e w1 ⟨rfl, rfl⟩) | (go_at_call 83; refine (l00Min_yes _ _ _ (by omega)).mono ?_; rintro e w1 ⟨rfl, rfl⟩) | (go_at_call 83; refine (l00Min_no _ _ _ (by omega)).mono ?_; rintro e w1 ⟨rfl, rfl⟩) | (go_at_call 82; refine (l00Max_yes _ _ _ (by omega)).mono ?_; rintro e w1 ⟨rfl, rfl⟩) | (go_at_call 82; refine (l00Max_no _ _ _ (by omega)).mono ?_; rintro e w1 ⟨rfl, rfl⟩))
              go_ret2
              exact ⟨ret2 e4.out e2.out, hE.trans x0⟩
            · have e4 := Lib.hid (show q = bbR b l c m zs by rw [← e1.out, eqq.out, clampB, if_neg g1, if_neg g2])
              by_cases g3 : q < 100000000
              · by_cases g4 : -100000000 < q
                · have g5 : ¬ q < -100000000 := by omega
                  go_wp2_with (first | (go_at_call 81; refine (l02Down_any (-T) H _ (by omega) (by omega)).mono ?_; rintro e w1 ⟨rfl, rfl⟩; rw [hq.out]) | (go_at_call 75; refine (l02Size_any _ _ (by omega)).mono ?_; rintro e w1 ⟨rfl, rfl⟩) | (go_at_call 83; refine (l00Min_yes _ _ _ (by omega)).mono ?_; rintro e w1 ⟨rfl, rfl⟩) | (go_at_call 83; refine (l00Min_no _ _ _ (by omega)).mono ?_; rintro e w1 ⟨rfl, rfl⟩) | (go_at_call 82; refine (l00Max_yes _ _ _ (by omega)).mono ?_; rintro e w1 ⟨rfl, rfl⟩) | (go_at_call 82; refine (l00Max_no _ _ _ (by omega)).mono ?_; rintro e w1 ⟨rfl, rfl⟩))
                  go_ret2
                  exact ⟨ret2 e4.out e2.out, hE.trans x0⟩
                · go_wp2_with (first | (go_at_call 81; refine (l02Down_any (-T) H _ (by omega) (by omega)).mono ?_; rintro e w1 ⟨rfl, rfl⟩; rw [hq.out]) | (go_at_call 75; refine (l02Size_any _ _ (by omega)).mono ?_; rintro e w1 ⟨rfl, rfl⟩) | (go_at_call 83; refine (l00Min_yes _ _ _ (by omega)).mono ?_; rintro e w1 ⟨rfl, rfl⟩) | (go_at_call 83; refine (l00Min_no _ _ _ (by omega)).mono ?_; rintro e w1 ⟨rfl, rfl⟩) | (go_at_call 82; refine (l00Max_yes _ _ _ (by omega)).mono ?_; rintro e w1 ⟨rfl, rfl⟩) | (go_at_call 82; refine (l00Max_no _ _ _ (by omega)).mono ?_; rintro e w1 ⟨rfl, rfl⟩))
                  go_ret2
                  exact ⟨ret2 e4.out e2.out, hE.trans x0⟩
              · have g4 : -100000000 < q := by omega
                have e5 := Lib.hid (show 100000000 = bbR b l c m zs by rw [← e4.out]; omega)
                go_wp2_with (first | (go_at_call 81; refine (l02Down_any (-T) H _ (by omega) (by omega)).mono ?_; rintro e w1 ⟨rfl, rfl⟩; rw [hq.out]) | (go_at_call 75; refine (l02Size_any _ _ (by omega)).mono ?_; rintro e w1 ⟨rfl, rfl⟩) | (go_at_call 83; refine (l00Min_yes _ _ _ (by omega)).mono ?_; rintro e w1 ⟨rfl, rfl⟩) | (go_at_call 83; refine (l00Min_no _ _ _ (by omega)).mono ?_; rintro e w1 ⟨rfl, rfl⟩) | (go_at_call 82; refine (l00Max_yes _ _ _ (by omega)).mono ?_; rintro e w1 ⟨rfl, rfl⟩) | (go_at_call 82; refine (l00Max_no _ _ _ (by omega)).mono ?_; rintro e w1 ⟨rfl, rfl⟩))
                go_ret2
                exact ⟨ret2 (by first | exact e4.out | exact e5.out) e2.out, hE.trans x0⟩


set_option maxHeartbeats 4000000 in
theorem best_walk (b l c m : Int) (a : Option Addr) (n cp : Nat) (zs : List (Int × Int)) (w : World) (b0 : -9223372036854775808 ≤ b ∧ b ≤ 9223372036854775807) (b1 : -9223372036854775808 ≤ l ∧ l ≤ 9223372036854775807) (b2 : -9223372036854775808 ≤ c ∧ c ≤ 9223372036854775807) (b3 : -9223372036854775808 ≤ m ∧ m ≤ 9223372036854775807) (hr : RowAt w a zs) (hn : zs.length = n) (hm : n ≤ 9223372036854775807) :
    Calls Try.prog 13 #[.agg #[.int .i64 b, .int .i64 l, .int .i64 c, .int .i64 m], .slice a n cp] w fun e w' => e = .returned (.bool true) ∧ Ext w w' := by
  clear b0 b1 b2 b3
  by_cases hs : n ≤ 1048576
  · have z := Lib.hid (show szOf n = 1048576 - (n : Int) by simp [szOf, hs])
    have t0 : ¬ (1048576 - (n : Int)) < 0 := by omega
    go_enter Try.func13, Try.ntmps13
    go_wp2_with fail
    generalize hW : (w.alloc (Obj.cells #[.int .i64 b, .int .i64 l, .int .i64 c, .int .i64 m] 23)) = W
    have hE : Ext w W := by rw [← hW]; exact (Ext.refl _).alloc _
    have hl0 : w.heap.size < W.heap.size := by rw [← hW]; simp
    have f0_0 : W.cell? ⟨w.heap.size, 0, none⟩ = some (.int .i64 b) := by rw [← hW]; simp [go_sem]
    have f0_1 : W.cell? ⟨w.heap.size, 1, none⟩ = some (.int .i64 l) := by rw [← hW]; simp [go_sem]
    have f0_2 : W.cell? ⟨w.heap.size, 2, none⟩ = some (.int .i64 c) := by rw [← hW]; simp [go_sem]
    have f0_3 : W.cell? ⟨w.heap.size, 3, none⟩ = some (.int .i64 m) := by rw [← hW]; simp [go_sem]
    clear hW
    have hrW := hr.ext hE
    have x0 := Ext.refl W
    go_wp2_with (first | (go_at_call 25; refine (szSegmentS_any _ _ _ _ hm).mono ?_; rintro e w1 ⟨rfl, rfl⟩; rw [z.out]) | (go_at_call 27; refine (toSegmentS_any _ _ _ zs _ (hrW.ext x0) hn hs).mono ?_; rintro e w1 ⟨rfl, hf, x1⟩; (try have hp := RowAt.ext hg x1); have hg := hf.row hn.symm; (try clear xc xf xs); (first | replace x0 := x0.trans x1 | replace x0 := (x0.alloc _).trans x1 | replace x0 := (x0.drew).trans x1 | replace x0 := (x0.drew.alloc _).trans x1 | replace x0 := (x0.alloc _).drew.trans x1 | replace x0 := ((x0.alloc _).alloc _).trans x1 | have x0 := x1); clear x1; obtain ⟨xc, xf, xs⟩ := x0.cells) | (go_at_call 19; refine (toRate_any b l c m _).mono ?_; rintro e w1 ⟨rfl, x1⟩; (try have hg := RowAt.ext hg x1); (try clear xc xf xs); (first | replace x0 := x0.trans x1 | replace x0 := (x0.alloc _).trans x1 | replace x0 := (x0.drew).trans x1 | replace x0 := (x0.drew.alloc _).trans x1 | replace x0 := (x0.alloc _).drew.trans x1 | replace x0 := ((x0.alloc _).alloc _).trans x1 | have x0 := x1); clear x1; obtain ⟨xc, xf, xs⟩ := x0.cells) | (go_at_call 49; refine (implBestBase_any b l c m _ _ _ zs _ hg hn hs).mono ?_; rintro e w1 ⟨rfl, x1⟩; have hg := hg.ext x1; (try clear xc xf xs); (first | replace x0 := x0.trans x1 | replace x0 := (x0.alloc _).trans x1 | replace x0 := (x0.drew).trans x1 | replace x0 := (x0.drew.alloc _).trans x1 | replace x0 := (x0.alloc _).drew.trans x1 | replace x0 := ((x0.alloc _).alloc _).trans x1 | have x0 := x1); clear x1; obtain ⟨xc, xf, xs⟩ := x0.cells) | (go_at_call 48; refine (specBestBase_any b l c m _ _ _ zs _ hg hn hs).mono ?_; rintro e w1 ⟨rfl, x1⟩; have hg := hg.ext x1; (try clear xc xf xs); (first | replace x0 := x0.trans x1 | replace x0 := (x0.alloc _).trans x1 | replace x0 := (x0.drew).trans x1 | replace x0 := (x0.drew.alloc _).trans x1 | replace x0 := (x0.alloc _).drew.trans x1 | replace x0 := ((x0.alloc _).alloc _).trans x1 | have x0 := x1); clear x1; obtain ⟨xc, xf, xs⟩ := x0.cells) | (go_at_call 29; refine (eqSegmentS_any _ _ _ _ _ zs _ hp hg hn hs).mono ?_; rintro e w1 ⟨rfl, x1⟩; (try clear xc xf xs); (first | replace x0 := x0.trans x1 | replace x0 := (x0.alloc _).trans x1 | replace x0 := (x0.drew).trans x1 | replace x0 := (x0.drew.alloc _).trans x1 | replace x0 := (x0.alloc _).drew.trans x1 | replace x0 := ((x0.alloc _).alloc _).trans x1 | have x0 := x1); clear x1; obtain ⟨xc, xf, xs⟩ := x0.cells))
    go_ret
    exact ⟨rfl, hE.trans x0⟩
  · have z := Lib.hid (show szOf n = -1 by simp [szOf, hs])
    go_enter Try.func13, Try.ntmps13
    go_wp2_with (first | (go_at_call 25; refine (szSegmentS_any _ _ _ _ hm).mono ?_; rintro e w1 ⟨rfl, rfl⟩; rw [z.out]))
    go_ret
    exact ⟨rfl, (Ext.refl _).alloc _⟩

end Go.Proofs.Ytiodlbgfgeimoaa

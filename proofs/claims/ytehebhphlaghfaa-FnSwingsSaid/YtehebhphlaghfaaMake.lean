/-
  Ratios in lowest terms.
-/
import Derived.Test.YtehebhphlaghfaaRatio
namespace Go.Proofs.Ytehebhphlaghfaa
open Go.RowKit
set_option linter.unusedSimpArgs false
set_option linter.unusedVariables false

theorem u64_neg {n : Int} (hn : n < 0 ∧ -1000000000000000 ≤ n) : IntKind.u64.wrap (-IntKind.u64.wrap n) = -n := by
  rw [IntKind.wrap_u64, IntKind.wrap_u64]
  omega
theorem u64_id {n : Int} (hn : 0 ≤ n ∧ n ≤ 1000000000000000) : IntKind.u64.wrap n = n := by
  rw [IntKind.wrap_u64]
  omega
def qN (n d : Int) : Int := ((n.natAbs / Nat.gcd n.natAbs d.natAbs : Nat) : Int)
theorem gcdI_pos {n d : Int} (hd : d ≠ 0) : 1 ≤ gcdI n d := by
  have := Nat.gcd_pos_of_pos_right n.natAbs (show 0 < d.natAbs by omega)
  unfold gcdI
  omega
theorem gcdI_comm (n d : Int) : gcdI n d = gcdI d n := by unfold gcdI; rw [Nat.gcd_comm]
theorem qN_t (n d : Int) : (n.natAbs : Int).tdiv (gcdI n d) = qN n d := by unfold qN gcdI; exact (Int.ofNat_tdiv _ _).symm
theorem qN_e (n d : Int) : (n.natAbs : Int) / gcdI n d = qN n d := by unfold qN gcdI; exact (Int.natCast_ediv _ _).symm
theorem qN_bd (n d : Int) : 0 ≤ qN n d ∧ qN n d ≤ (n.natAbs : Int) := by
  have := Nat.div_le_self n.natAbs (Nat.gcd n.natAbs d.natAbs)
  unfold qN
  exact ⟨Int.natCast_nonneg _, Int.ofNat_le.2 this⟩
theorem gcdI_abs2 (n d : Int) : gcdI (n.natAbs : Int) (d.natAbs : Int) = gcdI n d := by simp [gcdI]
def redOk (n d : Int) : Bool := !decide (1000000000 < qN n d) && !decide (1000000000 < qN d n)
def redN (n d : Int) : Int := if redOk n d = true then (if decide (n < 0) = decide (d < 0) then qN n d else -qN n d) else 0
def redD (n d : Int) : Int := if redOk n d = true then qN d n else 0
def mkN (n d : Int) : Int := if d = 0 then 0 else redN n d
def mkD (n d : Int) : Int := if d = 0 then 0 else redD n d
def mkC (n d : Int) : Int := if d = 0 then 6 else if redOk n d = true then 0 else 2

set_option maxHeartbeats 400000 in
theorem magnitude_any (n : Int) (w : World) (hn : -1000000000000000 ≤ n ∧ n ≤ 1000000000000000) : Calls Try.prog 95 #[.int .i64 n] w fun e w' => e = .returned (.int .u64 (n.natAbs : Int)) ∧ w = w' := by
  by_cases h : n < 0
  · have e := Lib.hid (show -n = (n.natAbs : Int) by omega)
    have q := Lib.hid (u64_neg (n := n) (by omega))
    go_enter Try.func95, Try.ntmps95
    go_wp2
    go_ret
    exact ⟨by rw [← e.out, ← q.out]; rfl, rfl⟩
  · have e := Lib.hid (show n = (n.natAbs : Int) by omega)
    go_enter Try.func95, Try.ntmps95
    go_wp2
    go_ret
    exact ⟨by rw [← e.out]; rfl, rfl⟩

set_option maxHeartbeats 400000 in
theorem l02Part_any (n : Int) (w : World) (hn : -1000000000000000 ≤ n ∧ n ≤ 1000000000000000) : Calls Try.prog 91 #[.int .i64 n] w fun e w' => e = .returned (.int .u64 (n.natAbs : Int)) ∧ w = w' := by
  by_cases h : n < 0
  · have e := Lib.hid (show -n = (n.natAbs : Int) by omega)
    have q := Lib.hid (u64_neg (n := n) (by omega))
    go_enter Try.func91, Try.ntmps91
    go_wp2
    go_ret
    exact ⟨by rw [← e.out, ← q.out]; rfl, rfl⟩
  · have e := Lib.hid (show n = (n.natAbs : Int) by omega)
    go_enter Try.func91, Try.ntmps91
    go_wp2
    go_ret
    exact ⟨by rw [← e.out]; rfl, rfl⟩

theorem rd2 {a b c d : Int} {s t : Bool} (h : a = b) (k : c = d) (l : s = t) :
    Ending.returned (.tuple #[.agg #[.int .i64 a, .int .i64 c], .bool s]) = .returned (.tuple #[.agg #[.int .i64 b, .int .i64 d], .bool t]) := by rw [h, k, l]
theorem rt2 {a b c d x y : Int} (h : a = b) (k : c = d) (l : x = y) :
    Ending.returned (.tuple #[.agg #[.int .i64 a, .int .i64 c], .int .i64 x]) = .returned (.tuple #[.agg #[.int .i64 b, .int .i64 d], .int .i64 y]) := by rw [h, k, l]

set_option maxHeartbeats 4000000 in
theorem reduced_any (n d : Int) (w : World) (hn : -1000000000000000 ≤ n ∧ n ≤ 1000000000000000) (hd : -1000000000000000 ≤ d ∧ d ≤ 1000000000000000) (h0 : d ≠ 0) :
    Calls Try.prog 92 #[.int .i64 n, .int .i64 d] w fun e w' => e = .returned (.tuple #[.agg #[.int .i64 (redN n d), .int .i64 (redD n d)], .bool (redOk n d)]) ∧ Ext w w' := by
  have hg := Lib.hid (gcdI_pos (n := n) h0)
  have HG := Lib.hid h0
  clear h0
  go_enter Try.func92, Try.ntmps92
  go_wp2_with (go_at_call 95; refine (magnitude_any _ _ (by omega)).mono ?_; rintro e w1 ⟨rfl, rfl⟩)
  generalize hW : (w.alloc (Obj.cells #[.int .i64 0, .int .i64 0] 57)) = W
  have hE : Ext w W := by rw [← hW]; exact (Ext.refl _).alloc _
  have hl0 : w.heap.size < W.heap.size := by rw [← hW]; simp
  have r0 : W.cell? ⟨w.heap.size, 0, none⟩ = some (.int .i64 0) := by rw [← hW]; simp
  have r1 : W.cell? ⟨w.heap.size, 1, none⟩ = some (.int .i64 0) := by rw [← hW]; simp
  have z0 : W.frozen? ⟨w.heap.size, 0, none⟩ = false := by rw [← hW]; simp
  have z1 : W.frozen? ⟨w.heap.size, 1, none⟩ = false := by rw [← hW]; simp
  clear hW
  go_loopw [8, 9] (fun s8 s9 wr => ∃ x y : Int, s8 = .int .u64 x ∧ s9 = .int .u64 y ∧ (0 ≤ x ∧ x ≤ 1000000000000000) ∧ (0 ≤ y ∧ y ≤ 1000000000000000) ∧ Ext w wr ∧ w.heap.size < wr.heap.size ∧ wr.cell? ⟨w.heap.size, 0, none⟩ = some (.int .i64 0) ∧ wr.cell? ⟨w.heap.size, 1, none⟩ = some (.int .i64 0) ∧ wr.frozen? ⟨w.heap.size, 0, none⟩ = false ∧ wr.frozen? ⟨w.heap.size, 1, none⟩ = false ∧ Hid (gcdI n d = gcdI x y)) (fun _ s9 _ => (intOf s9).natAbs)
  case atStart => exact ⟨_, _, rfl, rfl, by omega, by omega, hE, hl0, r0, r1, z0, z1, Lib.hid (gcdI_abs2 n d).symm⟩
  case round =>
    clear hl0 r0 r1 z0 z1 hE
    obtain ⟨x, y, rfl, rfl, hx, hy, x0, hl0, r0, r1, z0, z1, hgg⟩ := hrel
    by_cases hy0 : y = 0
    · subst hy0
      obtain rfl : x = gcdI n d := by have := hgg.out; rw [gcdI_zero] at this; omega
      have hg1 := hg.out
      have t1 := qN_t n d
      have t2 : (d.natAbs : Int).tdiv (gcdI n d) = qN d n := by rw [gcdI_comm]; exact qN_t d n
      have t3 := qN_e n d
      have t4 : (d.natAbs : Int) / (gcdI n d) = qN d n := by rw [gcdI_comm]; exact qN_e d n
      have b1 := qN_bd n d
      have b2 := qN_bd d n
      have hgz : (gcdI n d == 0) = false := by simp; omega
      have hgn : ¬ gcdI n d = 0 := by omega
      have v1 : IntKind.u64.wrap (qN n d) = qN n d := u64_id (by omega)
      have v2 : IntKind.u64.wrap (qN d n) = qN d n := u64_id (by omega)
      by_cases k1 : 1000000000 < qN n d
      · have ok : redOk n d = false := by simp [redOk, k1]
        have e1 := Lib.hid (show 0 = redN n d by simp [redN, ok])
        have e2 := Lib.hid (show 0 = redD n d by simp [redD, ok])
        have e3 := Lib.hid (show false = redOk n d by simp [ok])
        clear ok
        go_wp2
        go_quiet (fail)
        generalize hX : wr.drewN nq = X
        have x0 : Ext w X := by rw [← hX]; exact x0.drewN _
        have hl0 : w.heap.size < X.heap.size := by rw [← hX]; exact hl0
        have r0 : X.cell? ⟨w.heap.size, 0, none⟩ = some (.int .i64 0) := by rw [← hX]; exact r0
        have r1 : X.cell? ⟨w.heap.size, 1, none⟩ = some (.int .i64 0) := by rw [← hX]; exact r1
        have z0 : X.frozen? ⟨w.heap.size, 0, none⟩ = false := by rw [← hX]; exact z0
        have z1 : X.frozen? ⟨w.heap.size, 1, none⟩ = false := by rw [← hX]; exact z1
        clear hX
        go_wp2
        exact bodyPost_ret (v := .tuple #[.agg #[.int .i64 0, .int .i64 0], .bool false]) (by simp [results, Try.results92, go_sem, *]) rfl ⟨rd2 e1.out e2.out e3.out, by (repeat (first | refine Ext.setCell ?_ (by simp; try omega) _ | refine Ext.alloc ?_ _ | refine Ext.drewN ?_ _)); exact x0⟩
      · by_cases k2 : 1000000000 < qN d n
        · have ok : redOk n d = false := by simp [redOk, k2]
          have e1 := Lib.hid (show 0 = redN n d by simp [redN, ok])
          have e2 := Lib.hid (show 0 = redD n d by simp [redD, ok])
          have e3 := Lib.hid (show false = redOk n d by simp [ok])
          clear ok
          go_wp2
          go_quiet (fail)
          generalize hX : wr.drewN nq = X
          have x0 : Ext w X := by rw [← hX]; exact x0.drewN _
          have hl0 : w.heap.size < X.heap.size := by rw [← hX]; exact hl0
          have r0 : X.cell? ⟨w.heap.size, 0, none⟩ = some (.int .i64 0) := by rw [← hX]; exact r0
          have r1 : X.cell? ⟨w.heap.size, 1, none⟩ = some (.int .i64 0) := by rw [← hX]; exact r1
          have z0 : X.frozen? ⟨w.heap.size, 0, none⟩ = false := by rw [← hX]; exact z0
          have z1 : X.frozen? ⟨w.heap.size, 1, none⟩ = false := by rw [← hX]; exact z1
          clear hX
          go_wp2
          exact bodyPost_ret (v := .tuple #[.agg #[.int .i64 0, .int .i64 0], .bool false]) (by simp [results, Try.results92, go_sem, *]) rfl ⟨rd2 e1.out e2.out e3.out, by (repeat (first | refine Ext.setCell ?_ (by simp; try omega) _ | refine Ext.alloc ?_ _ | refine Ext.drewN ?_ _)); exact x0⟩
        · have ok : redOk n d = true := by simp [redOk]; omega
          by_cases s1 : n < 0
          · by_cases s2 : d < 0
            · have fa : decide (n < 0) = true := decide_eq_true s1
              have fb : decide (d < 0) = true := decide_eq_true s2
              have e1 := Lib.hid (show qN n d = redN n d by simp [redN, ok, s1, s2])
              have e2 := Lib.hid (show qN d n = redD n d by simp [redD, ok, s1, s2])
              have e3 := Lib.hid (show true = redOk n d by simp [ok, s1, s2])
              clear ok
              go_wp2
              go_quiet (fail)
              generalize hX : wr.drewN nq = X
              have x0 : Ext w X := by rw [← hX]; exact x0.drewN _
              have hl0 : w.heap.size < X.heap.size := by rw [← hX]; exact hl0
              have r0 : X.cell? ⟨w.heap.size, 0, none⟩ = some (.int .i64 0) := by rw [← hX]; exact r0
              have r1 : X.cell? ⟨w.heap.size, 1, none⟩ = some (.int .i64 0) := by rw [← hX]; exact r1
              have z0 : X.frozen? ⟨w.heap.size, 0, none⟩ = false := by rw [← hX]; exact z0
              have z1 : X.frozen? ⟨w.heap.size, 1, none⟩ = false := by rw [← hX]; exact z1
              clear hX
              go_wp2
              exact bodyPost_ret (v := .tuple #[.agg #[.int .i64 (qN n d), .int .i64 (qN d n)], .bool true]) (by simp [results, Try.results92, go_sem, *]) rfl ⟨rd2 e1.out e2.out e3.out, by (repeat (first | refine Ext.setCell ?_ (by simp; try omega) _ | refine Ext.alloc ?_ _ | refine Ext.drewN ?_ _)); exact x0⟩
            · have fa : decide (n < 0) = true := decide_eq_true s1
              have fb : decide (d < 0) = false := decide_eq_false s2
              have e1 := Lib.hid (show -qN n d = redN n d by simp [redN, ok, s1, s2])
              have e2 := Lib.hid (show qN d n = redD n d by simp [redD, ok, s1, s2])
              have e3 := Lib.hid (show true = redOk n d by simp [ok, s1, s2])
              clear ok
              go_wp2
              go_quiet (fail)
              generalize hX : wr.drewN nq = X
              have x0 : Ext w X := by rw [← hX]; exact x0.drewN _
              have hl0 : w.heap.size < X.heap.size := by rw [← hX]; exact hl0
              have r0 : X.cell? ⟨w.heap.size, 0, none⟩ = some (.int .i64 0) := by rw [← hX]; exact r0
              have r1 : X.cell? ⟨w.heap.size, 1, none⟩ = some (.int .i64 0) := by rw [← hX]; exact r1
              have z0 : X.frozen? ⟨w.heap.size, 0, none⟩ = false := by rw [← hX]; exact z0
              have z1 : X.frozen? ⟨w.heap.size, 1, none⟩ = false := by rw [← hX]; exact z1
              clear hX
              go_wp2
              exact bodyPost_ret (v := .tuple #[.agg #[.int .i64 (-qN n d), .int .i64 (qN d n)], .bool true]) (by simp [results, Try.results92, go_sem, *]) rfl ⟨rd2 e1.out e2.out e3.out, by (repeat (first | refine Ext.setCell ?_ (by simp; try omega) _ | refine Ext.alloc ?_ _ | refine Ext.drewN ?_ _)); exact x0⟩
          · by_cases s2 : d < 0
            · have fa : decide (n < 0) = false := decide_eq_false s1
              have fb : decide (d < 0) = true := decide_eq_true s2
              have e1 := Lib.hid (show -qN n d = redN n d by simp [redN, ok, s1, s2])
              have e2 := Lib.hid (show qN d n = redD n d by simp [redD, ok, s1, s2])
              have e3 := Lib.hid (show true = redOk n d by simp [ok, s1, s2])
              clear ok
              go_wp2
              go_quiet (fail)
              generalize hX : wr.drewN nq = X
              have x0 : Ext w X := by rw [← hX]; exact x0.drewN _
              have hl0 : w.heap.size < X.heap.size := by rw [← hX]; exact hl0
              have r0 : X.cell? ⟨w.heap.size, 0, none⟩ = some (.int .i64 0) := by rw [← hX]; exact r0
              have r1 : X.cell? ⟨w.heap.size, 1, none⟩ = some (.int .i64 0) := by rw [← hX]; exact r1
              have z0 : X.frozen? ⟨w.heap.size, 0, none⟩ = false := by rw [← hX]; exact z0
              have z1 : X.frozen? ⟨w.heap.size, 1, none⟩ = false := by rw [← hX]; exact z1
              clear hX
              go_wp2
              exact bodyPost_ret (v := .tuple #[.agg #[.int .i64 (-qN n d), .int .i64 (qN d n)], .bool true]) (by simp [results, Try.results92, go_sem, *]) rfl ⟨rd2 e1.out e2.out e3.out, by (repeat (first | refine Ext.setCell ?_ (by simp; try omega) _ | refine Ext.alloc ?_ _ | refine Ext.drewN ?_ _)); exact x0⟩
            · have fa : decide (n < 0) = false := decide_eq_false s1
              have fb : decide (d < 0) = false := decide_eq_false s2
              have e1 := Lib.hid (show qN n d = redN n d by simp [redN, ok, s1, s2])
              have e2 := Lib.hid (show qN d n = redD n d by simp [redD, ok, s1, s2])
              have e3 := Lib.hid (show true = redOk n d by simp [ok, s1, s2])
              clear ok
              go_wp2
              go_quiet (fail)
              generalize hX : wr.drewN nq = X
              have x0 : Ext w X := by rw [← hX]; exact x0.drewN _
              have hl0 : w.heap.size < X.heap.size := by rw [← hX]; exact hl0
              have r0 : X.cell? ⟨w.heap.size, 0, none⟩ = some (.int .i64 0) := by rw [← hX]; exact r0
              have r1 : X.cell? ⟨w.heap.size, 1, none⟩ = some (.int .i64 0) := by rw [← hX]; exact r1
              have z0 : X.frozen? ⟨w.heap.size, 0, none⟩ = false := by rw [← hX]; exact z0
              have z1 : X.frozen? ⟨w.heap.size, 1, none⟩ = false := by rw [← hX]; exact z1
              clear hX
              go_wp2
              exact bodyPost_ret (v := .tuple #[.agg #[.int .i64 (qN n d), .int .i64 (qN d n)], .bool true]) (by simp [results, Try.results92, go_sem, *]) rfl ⟨rd2 e1.out e2.out e3.out, by (repeat (first | refine Ext.setCell ?_ (by simp; try omega) _ | refine Ext.alloc ?_ _ | refine Ext.drewN ?_ _)); exact x0⟩
    · have f1 : (y != 0) = true := by simpa using hy0
      have f2 : (y == 0) = false := by simpa using hy0
      have f3 : 0 < y := by omega
      have hs := Lib.hid (tmod_small (x := x) hy0)
      have he := Lib.hid (Int.tmod_eq_emod_of_nonneg (a := x) (b := y) hx.1)
      have hm : 0 ≤ x % y ∧ x % y ≤ 1000000000000000 := by have := hs.out; rw [he.out] at this; have := Int.emod_nonneg x hy0; omega
      have hm2 : 0 ≤ x.tmod y ∧ x.tmod y ≤ 1000000000000000 := by rw [he.out]; exact hm
      have hn2 := Lib.hid (gcdI_step x y)
      go_wp2
      go_quiet (fail)
      go_wp2
      go_roundw
      case rel => exact ⟨y, x % y, rfl, rfl, hy, hm, x0.drewN _, hl0, r0, r1, z0, z1, hgg.out.trans (by rw [← he.out]; exact hn2.out.symm)⟩
      case measure => have := hs.out; rw [he.out] at this; simpa [intOf] using this

set_option maxHeartbeats 4000000 in
theorem l02Make_any (n d : Int) (w : World) (hn : -1000000000000000 ≤ n ∧ n ≤ 1000000000000000) (hd : -1000000000000000 ≤ d ∧ d ≤ 1000000000000000) (h0 : d ≠ 0) :
    Calls Try.prog 75 #[.int .i64 n, .int .i64 d] w fun e w' => e = .returned (.tuple #[.agg #[.int .i64 (redN n d), .int .i64 (redD n d)], .bool (redOk n d)]) ∧ Ext w w' := by
  have hg := Lib.hid (gcdI_pos (n := n) h0)
  have HG := Lib.hid h0
  clear h0
  go_enter Try.func75, Try.ntmps75
  go_wp2_with (go_at_call 91; refine (l02Part_any _ _ (by omega)).mono ?_; rintro e w1 ⟨rfl, rfl⟩)
  generalize hW : (w.alloc (Obj.cells #[.int .i64 0, .int .i64 0] 57)) = W
  have hE : Ext w W := by rw [← hW]; exact (Ext.refl _).alloc _
  have hl0 : w.heap.size < W.heap.size := by rw [← hW]; simp
  have r0 : W.cell? ⟨w.heap.size, 0, none⟩ = some (.int .i64 0) := by rw [← hW]; simp
  have r1 : W.cell? ⟨w.heap.size, 1, none⟩ = some (.int .i64 0) := by rw [← hW]; simp
  have z0 : W.frozen? ⟨w.heap.size, 0, none⟩ = false := by rw [← hW]; simp
  have z1 : W.frozen? ⟨w.heap.size, 1, none⟩ = false := by rw [← hW]; simp
  clear hW
  go_loopw [8, 9] (fun s8 s9 wr => ∃ x y : Int, s8 = .int .u64 x ∧ s9 = .int .u64 y ∧ (0 ≤ x ∧ x ≤ 1000000000000000) ∧ (0 ≤ y ∧ y ≤ 1000000000000000) ∧ Ext w wr ∧ w.heap.size < wr.heap.size ∧ wr.cell? ⟨w.heap.size, 0, none⟩ = some (.int .i64 0) ∧ wr.cell? ⟨w.heap.size, 1, none⟩ = some (.int .i64 0) ∧ wr.frozen? ⟨w.heap.size, 0, none⟩ = false ∧ wr.frozen? ⟨w.heap.size, 1, none⟩ = false ∧ Hid (gcdI n d = gcdI x y)) (fun _ s9 _ => (intOf s9).natAbs)
  case atStart => exact ⟨_, _, rfl, rfl, by omega, by omega, hE, hl0, r0, r1, z0, z1, Lib.hid (gcdI_abs2 n d).symm⟩
  case round =>
    clear hl0 r0 r1 z0 z1 hE
    obtain ⟨x, y, rfl, rfl, hx, hy, x0, hl0, r0, r1, z0, z1, hgg⟩ := hrel
    by_cases hy0 : y = 0
    · subst hy0
      obtain rfl : x = gcdI n d := by have := hgg.out; rw [gcdI_zero] at this; omega
      have hg1 := hg.out
      have t1 := qN_t n d
      have t2 : (d.natAbs : Int).tdiv (gcdI n d) = qN d n := by rw [gcdI_comm]; exact qN_t d n
      have t3 := qN_e n d
      have t4 : (d.natAbs : Int) / (gcdI n d) = qN d n := by rw [gcdI_comm]; exact qN_e d n
      have b1 := qN_bd n d
      have b2 := qN_bd d n
      have hgz : (gcdI n d == 0) = false := by simp; omega
      have hgn : ¬ gcdI n d = 0 := by omega
      have v1 : IntKind.u64.wrap (qN n d) = qN n d := u64_id (by omega)
      have v2 : IntKind.u64.wrap (qN d n) = qN d n := u64_id (by omega)
      by_cases k1 : 1000000000 < qN n d
      · have ok : redOk n d = false := by simp [redOk, k1]
        have e1 := Lib.hid (show 0 = redN n d by simp [redN, ok])
        have e2 := Lib.hid (show 0 = redD n d by simp [redD, ok])
        have e3 := Lib.hid (show false = redOk n d by simp [ok])
        clear ok
        go_wp2
        exact bodyPost_ret (v := .tuple #[.agg #[.int .i64 0, .int .i64 0], .bool false]) (by simp [results, Try.results75, go_sem, *]) rfl ⟨rd2 e1.out e2.out e3.out, by (repeat (first | refine Ext.setCell ?_ (by simp; try omega) _ | refine Ext.alloc ?_ _ | refine Ext.drewN ?_ _)); exact x0⟩
      · by_cases k2 : 1000000000 < qN d n
        · have ok : redOk n d = false := by simp [redOk, k2]
          have e1 := Lib.hid (show 0 = redN n d by simp [redN, ok])
          have e2 := Lib.hid (show 0 = redD n d by simp [redD, ok])
          have e3 := Lib.hid (show false = redOk n d by simp [ok])
          clear ok
          go_wp2
          exact bodyPost_ret (v := .tuple #[.agg #[.int .i64 0, .int .i64 0], .bool false]) (by simp [results, Try.results75, go_sem, *]) rfl ⟨rd2 e1.out e2.out e3.out, by (repeat (first | refine Ext.setCell ?_ (by simp; try omega) _ | refine Ext.alloc ?_ _ | refine Ext.drewN ?_ _)); exact x0⟩
        · have ok : redOk n d = true := by simp [redOk]; omega
          by_cases s1 : n < 0
          · by_cases s2 : d < 0
            · have fa : decide (n < 0) = true := decide_eq_true s1
              have fb : decide (d < 0) = true := decide_eq_true s2
              have e1 := Lib.hid (show qN n d = redN n d by simp [redN, ok, s1, s2])
              have e2 := Lib.hid (show qN d n = redD n d by simp [redD, ok, s1, s2])
              have e3 := Lib.hid (show true = redOk n d by simp [ok, s1, s2])
              clear ok
              go_wp2
              exact bodyPost_ret (v := .tuple #[.agg #[.int .i64 (qN n d), .int .i64 (qN d n)], .bool true]) (by simp [results, Try.results75, go_sem, *]) rfl ⟨rd2 e1.out e2.out e3.out, by (repeat (first | refine Ext.setCell ?_ (by simp; try omega) _ | refine Ext.alloc ?_ _ | refine Ext.drewN ?_ _)); exact x0⟩
            · have fa : decide (n < 0) = true := decide_eq_true s1
              have fb : decide (d < 0) = false := decide_eq_false s2
              have e1 := Lib.hid (show -qN n d = redN n d by simp [redN, ok, s1, s2])
              have e2 := Lib.hid (show qN d n = redD n d by simp [redD, ok, s1, s2])
              have e3 := Lib.hid (show true = redOk n d by simp [ok, s1, s2])
              clear ok
              go_wp2
              exact bodyPost_ret (v := .tuple #[.agg #[.int .i64 (-qN n d), .int .i64 (qN d n)], .bool true]) (by simp [results, Try.results75, go_sem, *]) rfl ⟨rd2 e1.out e2.out e3.out, by (repeat (first | refine Ext.setCell ?_ (by simp; try omega) _ | refine Ext.alloc ?_ _ | refine Ext.drewN ?_ _)); exact x0⟩
          · by_cases s2 : d < 0
            · have fa : decide (n < 0) = false := decide_eq_false s1
              have fb : decide (d < 0) = true := decide_eq_true s2
              have e1 := Lib.hid (show -qN n d = redN n d by simp [redN, ok, s1, s2])
              have e2 := Lib.hid (show qN d n = redD n d by simp [redD, ok, s1, s2])
              have e3 := Lib.hid (show true = redOk n d by simp [ok, s1, s2])
              clear ok
              go_wp2
              exact bodyPost_ret (v := .tuple #[.agg #[.int .i64 (-qN n d), .int .i64 (qN d n)], .bool true]) (by simp [results, Try.results75, go_sem, *]) rfl ⟨rd2 e1.out e2.out e3.out, by (repeat (first | refine Ext.setCell ?_ (by simp; try omega) _ | refine Ext.alloc ?_ _ | refine Ext.drewN ?_ _)); exact x0⟩
            · have fa : decide (n < 0) = false := decide_eq_false s1
              have fb : decide (d < 0) = false := decide_eq_false s2
              have e1 := Lib.hid (show qN n d = redN n d by simp [redN, ok, s1, s2])
              have e2 := Lib.hid (show qN d n = redD n d by simp [redD, ok, s1, s2])
              have e3 := Lib.hid (show true = redOk n d by simp [ok, s1, s2])
              clear ok
              go_wp2
              exact bodyPost_ret (v := .tuple #[.agg #[.int .i64 (qN n d), .int .i64 (qN d n)], .bool true]) (by simp [results, Try.results75, go_sem, *]) rfl ⟨rd2 e1.out e2.out e3.out, by (repeat (first | refine Ext.setCell ?_ (by simp; try omega) _ | refine Ext.alloc ?_ _ | refine Ext.drewN ?_ _)); exact x0⟩
    · have f1 : (y != 0) = true := by simpa using hy0
      have f2 : (y == 0) = false := by simpa using hy0
      have f3 : 0 < y := by omega
      have hs := Lib.hid (tmod_small (x := x) hy0)
      have he := Lib.hid (Int.tmod_eq_emod_of_nonneg (a := x) (b := y) hx.1)
      have hm : 0 ≤ x % y ∧ x % y ≤ 1000000000000000 := by have := hs.out; rw [he.out] at this; have := Int.emod_nonneg x hy0; omega
      have hm2 : 0 ≤ x.tmod y ∧ x.tmod y ≤ 1000000000000000 := by rw [he.out]; exact hm
      have hn2 := Lib.hid (gcdI_step x y)
      go_wp2
      skip
      skip
      go_roundw
      case rel => exact ⟨y, x % y, rfl, rfl, hy, hm, x0, hl0, r0, r1, z0, z1, hgg.out.trans (by rw [← he.out]; exact hn2.out.symm)⟩
      case measure => have := hs.out; rw [he.out] at this; simpa [intOf] using this

end Go.Proofs.Ytehebhphlaghfaa

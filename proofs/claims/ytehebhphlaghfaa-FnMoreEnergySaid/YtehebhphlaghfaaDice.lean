/-
  The laws' own words: is the code too long.
-/
import Derived.Test.YtehebhphlaghfaaSrc2
import Derived.Deep.DeepCutAuto
namespace Go.Proofs.Ytehebhphlaghfaa
open Go.RowKit
set_option linter.unusedSimpArgs false
set_option linter.unusedVariables false

set_option maxHeartbeats 400000 in
theorem f6big_any (a : Option Addr) (n c : Nat) (w : World) : Calls Try.prog 24 #[.slice a n c] w fun e w' => e = .returned (.bool (decide (4096 < n))) ∧ w = w' := by
  by_cases h : 4096 < n
  · have t1 : (4096 : Int) < (n : Int) := by omega
    have e := Lib.hid (show true = decide (4096 < n) by simp [h])
    go_enter Try.func24, Try.ntmps24
    go_wp2
    go_ret
    exact ⟨by first | exact ret_bool e.out | rfl | simp [h], rfl⟩
  · have t1 : ¬ (4096 : Int) < (n : Int) := by omega
    have e := Lib.hid (show false = decide (4096 < n) by simp; omega)
    go_enter Try.func24, Try.ntmps24
    go_wp2
    go_ret
    exact ⟨by first | exact ret_bool e.out | rfl | simp [h], rfl⟩
theorem and24 (z : Int) : 0 ≤ bits .and .u64 z 16777215 ∧ bits .and .u64 z 16777215 ≤ 16777215 := by
  show 0 ≤ IntKind.u64.wrap ((BitVec.ofInt 64 z &&& BitVec.ofInt 64 16777215).toNat : Int) ∧ IntKind.u64.wrap ((BitVec.ofInt 64 z &&& BitVec.ofInt 64 16777215).toNat : Int) ≤ 16777215
  rw [BitVec.toNat_and, IntKind.wrap_u64]
  have h1 : (BitVec.ofInt 64 z).toNat &&& (BitVec.ofInt 64 16777215).toNat ≤ (BitVec.ofInt 64 16777215).toNat := Nat.and_le_right
  have h2 : (BitVec.ofInt 64 16777215).toNat = 16777215 := by decide
  omega
theorem rem_bd {x m : Int} (hx : 0 ≤ x ∧ x ≤ 20000000) (hm : 1 ≤ m) : (0 ≤ x % m ∧ x % m < m) ∧ IntKind.i64.wrap (x % m) = x % m ∧ IntKind.i64.wrap (x.tmod m) = x.tmod m ∧ x.tmod m = x % m := by
  have h1 := Int.tmod_eq_emod_of_nonneg (b := m) hx.1
  have h2 := Int.emod_nonneg x (show m ≠ 0 by omega)
  have h3 := Int.emod_lt_of_pos x (show 0 < m by omega)
  have h4 : x % m ≤ x := by
    by_cases h : x < m
    · rw [Int.emod_eq_of_lt hx.1 h]; exact Int.le_refl _
    · omega
  have h5 := IntWalk.i64_in (x % m) (by omega)
  exact ⟨⟨h2, h3⟩, h5, by rw [h1]; exact h5, h1⟩

set_option maxRecDepth 100000 in
set_option maxHeartbeats 400000 in
theorem below_any (g n cp k : Nat) (m : Int) (a : Option Addr) (w : World) (h : Src w g a n cp k) (hb : RowB w g a n) (hk : k ≤ 900000) (hn : n ≤ 1048576) (hm : 1 ≤ m) :
    Calls Try.prog 31 #[.pointer (some ⟨g, 0, none⟩), .int .i64 m] w fun e w' => ∃ x, e = .returned (.int .i64 x) ∧ (0 ≤ x ∧ x < m) ∧ Src w' g a n cp (k + 1) ∧ Wrote (some g) w w' := by
  have hl := h.lt
  have c0 := h.c0
  obtain ⟨t, ht, c1⟩ := h.c1
  obtain ⟨z, c2⟩ := h.c2
  have z1 := h.z1
  have z2 := h.z2
  have hm0 : ¬ m = 0 := by omega
  go_enter Try.func31, Try.ntmps31
  have qa := fun z => IntWalk.i64_in (bits .and .u64 z 16777215) (by have := and24 z; omega)
  have q1 : IntKind.i64.wrap ((t : Int) + 1) = (t : Int) + 1 := IntWalk.i64_in _ (by omega)
  go_upto_region 2 with fail
  generalize hZ : IntKind.u64.wrap (_ + 1442695040888963407) = Z
  generalize hV : World.setCell _ _ _ = V
  have hS : Src V g a n cp k := by
    rw [← hV]
    exact ⟨by simpa [World.setCell] using hl, by simp [go_sem, c0], ⟨t, ht, by simp [go_sem, c1]⟩, ⟨Z, by simp [go_sem, c2]⟩, by simp [z1], by simp [z2]⟩
  have hW : Wrote (some g) w V := by rw [← hV]; exact Wrote.set _ _ _ _
  have d0 := hS.c0
  have d1 : V.cell? ⟨g, 1, none⟩ = some (.int .i64 (t : Int)) := by rw [← hV]; simp [go_sem, c1]
  have d2 : V.cell? ⟨g, 2, none⟩ = some (.int .u64 Z) := by rw [← hV]; simp [go_sem, c2]
  have y1 := hS.z1
  have hlV := hS.lt
  replace hb := hb.wrote hW
  clear hV hZ c0 c1 c2 z1 z2 hl h
  go_upto_region 3 with fail
  generalize hX : bits .and .u64 _ 16777215 = X
  have hXb : 0 ≤ X ∧ X ≤ 16777215 := by rw [← hX]; exact and24 _
  clear hX qa
  by_cases h0 : t < n
  · rcases hb with hb | ⟨b, off, rfl, hbb, hne, hcs⟩
    · omega
    obtain ⟨v, hv, cv⟩ := hcs t h0
    have t1 : (t : Int) < (n : Int) := by omega
    have qv : IntKind.i64.wrap v = v := IntWalk.i64_in _ (by omega)
    have q2 : IntKind.i64.wrap (X + v) = X + v := IntWalk.i64_in _ (by omega)
    obtain ⟨r1, r2, r3, r4⟩ := rem_bd (x := X + v) (m := m) (by omega) hm
    have r1 := Lib.hid r1
    clear hcs
    go_quiet (fail)
    go_upto_region 4 with fail
    go_quiet (fail)
    go_upto_region 5 with fail
    generalize hU : World.drewN _ _ = U
    have xU : Ext V U := by rw [← hU]; first | exact (Ext.refl _).drewN _ | exact ((Ext.refl _).drewN _).drewN _
    clear hU
    replace d0 := (xU.cells.1 _ _ hlV).trans d0
    replace d1 := (xU.cells.1 _ _ hlV).trans d1
    replace d2 := (xU.cells.1 _ _ hlV).trans d2
    replace y1 := (xU.cells.2.1 _ _ hlV).trans y1
    replace y2 := (xU.cells.2.1 _ _ hlV).trans hS.z2
    replace hlV := Nat.lt_of_lt_of_le hlV xU.size
    go_upto_region 6 with fail
    go_wp2_with fail
    go_ret
    exact ⟨_, rfl, r1.out, ⟨by simpa [World.setCell] using hlV, by simp [go_sem, d0], ⟨t + 1, by omega, by simp [go_sem, d1]⟩, ⟨Z, by simp [go_sem, d2]⟩, by simp [y1], by simp [y2]⟩, (hW.trans (Wrote.of_ext _ xU)).trans (Wrote.set _ _ _ _)⟩
  · have t1 : ¬ (t : Int) < (n : Int) := by omega
    have q2 : IntKind.i64.wrap X = X := IntWalk.i64_in _ (by omega)
    obtain ⟨r1, r2, r3, r4⟩ := rem_bd (x := X) (m := m) (by omega) hm
    have r1 := Lib.hid r1
    go_quiet (fail)
    go_upto_region 6 with fail
    go_wp2_with fail
    go_ret
    exact ⟨_, rfl, r1.out, (hS.more (by omega)).ext ((Ext.refl _).drewN _), hW.trans (Wrote.of_ext _ ((Ext.refl _).drewN _))⟩

set_option maxRecDepth 100000 in
set_option maxHeartbeats 1000000 in
theorem f6roll_any (a : Option Addr) (n cp : Nat) (seed : Int) (w : World) (hB : RowB w w.heap.size a n) (hn : n ≤ 1048576) :
    Calls Try.prog 30 #[.slice a n cp, .int .u64 seed] w fun e w' => e = .returned (.pointer (some ⟨w.heap.size, 0, none⟩)) ∧ Src w' w.heap.size a n cp 0 ∧ Ext w w' := by
  go_enter Try.func30, Try.ntmps30
  go_upto_region 2 with fail
  generalize hV : World.alloc _ _ = V
  have xV : Ext w V := by rw [← hV]; exact (Ext.refl _).alloc _
  have hS : Src V w.heap.size a n cp 0 := by
    rw [← hV]
    exact ⟨by simp, by simp [go_sem], ⟨0, Nat.le_refl _, by simp [go_sem]⟩, ⟨_, by simp [go_sem]; rfl⟩, by simp, by simp⟩
  replace hB := hB.ext xV
  clear hV
  go_wp2_with fail
  go_loopw [6] (fun kk wr => ∃ i : Nat, kk = .int .i64 i ∧ i ≤ n ∧ Src wr w.heap.size a n cp 0 ∧ RowB wr w.heap.size a n ∧ Ext w wr) (fun kk _ => n - (intOf kk).toNat)
  case atStart => exact ⟨0, rfl, Nat.zero_le _, hS, hB, xV⟩
  case round =>
    clear hS hB xV
    obtain ⟨i, rfl, hi, hS, hB, xw⟩ := hrel
    by_cases h0 : i < n
    · obtain ⟨z, c2⟩ := hS.c2
      have z2 := hS.z2
      have hB' := hB
      rcases hB with hb | ⟨b, off, rfl, hbb, hne, hcs⟩
      · omega
      obtain ⟨v, hv, cv⟩ := hcs i h0
      have t1 : (i : Int) < (n : Int) := by omega
      have t2 : decide ((i : Int) < (n : Int)) = true := by simp; omega
      have hi2 : IntKind.i64.wrap ((i : Int) + 1) = (i : Int) + 1 := IntWalk.i64_in _ (by omega)
      clear hcs
      go_upto_region 5 with fail
      have hl := hS.lt
      have c0 := hS.c0
      have hne2 := hne
      go_region
      generalize hU : World.drew (World.setCell _ _ _) = U
      have hSU : Src U w.heap.size (some ⟨b, off, none⟩) n cp 0 := by
        rw [← hU]
        obtain ⟨k1, k2, k3, k4, k5, k6⟩ := hS
        obtain ⟨t, ht, k3⟩ := k3
        refine Src.ext (w := wr.setCell ⟨w.heap.size, 2, none⟩ _) ?_ ((Ext.refl _).drew)
        exact ⟨by simpa [World.setCell] using k1, by simp [go_sem, k2], ⟨t, ht, by simp [go_sem, k3]⟩, ⟨_, by simp [go_sem, c2]; rfl⟩, by simp [k5], by simp [k6]⟩
      have hWU : Wrote (some w.heap.size) wr U := by rw [← hU]; exact (Wrote.set _ _ _ _).trans (Wrote.of_ext _ ((Ext.refl _).drew))
      have hBU := hB'.wrote hWU
      have xU : Ext w U := Wrote.ext xw hWU (fun k hk => by injection hk; omega)
      clear hU
      go_wp2_with fail
      go_roundw
      case rel => exact ⟨i + 1, by go_num, by omega, hSU, hBU, xU⟩
      case measure => simp [intOf]; omega
    · obtain rfl : n = i := by omega
      have t1 : decide ((n : Int) < (n : Int)) = false := by simp
      go_wp2_with fail
      go_ret
      exact ⟨rfl, hS, xw⟩
end Go.Proofs.Ytehebhphlaghfaa

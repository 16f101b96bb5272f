/-
  One swing: the energy that is left, and whether it ticks.
-/
import Derived.Test.YtehebhphlaghfaaEsc
namespace Go.Proofs.Ytehebhphlaghfaa
open Go.RowKit
set_option linter.unusedSimpArgs false
set_option linter.unusedVariables false

set_option maxHeartbeats 400000 in
theorem l00Min_any (a b : Int) (w : World) : Calls Try.prog 88 #[.int .i64 a, .int .i64 b] w fun e w' => e = .returned (.int .i64 (min a b)) ∧ w = w' := by
  by_cases h : a < b
  · have e := Lib.hid (show a = min a b by omega)
    go_enter Try.func88, Try.ntmps88
    go_wp2
    go_ret
    exact ⟨ret_int e.out, rfl⟩
  · have e := Lib.hid (show b = min a b by omega)
    go_enter Try.func88, Try.ntmps88
    go_wp2
    go_ret
    exact ⟨ret_int e.out, rfl⟩

/-- What is left of the energy n behind the loss l. -/
def swL (l n : Int) : Int := n - (n * l + 999) / 1000
/-- Does a swing with the torque q tick? -/
def swT (u l q n : Int) : Bool := !(q == 0) && !decide (swL l n < u)
/-- The energy behind a swing. -/
def swE (u i l m q n : Int) : Int := if swT u l q n = true then min m (swL l n - u + i * q / 1000) else swL l n

theorem swL_bd {l n : Int} (hl : 0 ≤ l ∧ l ≤ 1000) (hn : 0 ≤ n) : 0 ≤ swL l n ∧ swL l n ≤ n := by
  have := Int.mul_le_mul_of_nonneg_left hl.2 hn
  have := Int.mul_nonneg hn hl.1
  unfold swL
  omega
theorem swE_bd {u i l m q n : Int} (hu : 1 ≤ u) (hi : 0 ≤ i) (hl : 0 ≤ l ∧ l ≤ 1000) (hm : 0 ≤ m) (hq : 0 ≤ q) (hn : 0 ≤ n ∧ n ≤ m) : 0 ≤ swE u i l m q n ∧ swE u i l m q n ≤ m := by
  have h1 := swL_bd hl hn.1
  have h2 := Int.mul_nonneg hi hq
  unfold swE
  split
  · rename_i h
    simp [swT] at h
    omega
  · omega

theorem swret {a b : Int} {c d : Bool} (h : a = b) (k : c = d) : Ending.returned (.tuple #[.int .i64 a, .bool c]) = .returned (.tuple #[.int .i64 b, .bool d]) := by rw [h, k]

set_option maxHeartbeats 1000000 in
theorem implswing_any (z u i l m q n : Int) (w : World) (hu : 1 ≤ u ∧ u ≤ 100000) (hi : 0 ≤ i ∧ i ≤ 100000) (hl : 0 ≤ l ∧ l ≤ 1000) (hm : 1 ≤ m ∧ m ≤ 100000) (hq : 0 ≤ q ∧ q ≤ 1000) (hn : 0 ≤ n ∧ n ≤ 100000) :
    Calls Try.prog 65 #[.agg #[.int .i64 z, .int .i64 u, .int .i64 i, .int .i64 l, .int .i64 m], .int .i64 q, .int .i64 n] w fun e w' => e = .returned (.tuple #[.int .i64 (swE u i l m q n), .bool (swT u l q n)]) ∧ Ext w w' := by
  have b1 : 0 ≤ n * l ∧ n * l ≤ 100000000 := by have := mul_bd (x := n) (y := l) (X := 100000) (Y := 1000) hn hl; omega
  have b2 : 0 ≤ i * q ∧ i * q ≤ 100000000 := by have := mul_bd (x := i) (y := q) (X := 100000) (Y := 1000) hi hq; omega
  have b3 := swL_bd hl hn.1
  have hL := Lib.hid (show swL l n = n - (n * l + 999) / 1000 from rfl)
  by_cases c1 : q = 0
  · have e1 := Lib.hid (show swL l n = swE u i l m q n by simp [swE, swT, c1])
    have e2 := Lib.hid (show false = swT u l q n by simp [swT, c1])
    have f1 : (q == 0) = true := by simpa using c1
    clear c1
    go_enter Try.func65, Try.ntmps65
    go_wp2_with (first | (go_at_call 87; refine (ceilDiv_any _ _ _ (by omega) (by omega)).mono ?_; rintro e w1 ⟨rfl, rfl⟩))
    go_ret2
    exact ⟨swret (by have := e1.out; have := hL.out; omega) e2.out, ((Ext.refl _).alloc _)⟩
  · have f1 : (q == 0) = false := by simpa using c1
    by_cases c2 : n - (n * l + 999) / 1000 < u
    · have hd : decide (swL l n < u) = true := decide_eq_true (by rw [hL.out]; exact c2)
      have e1 := Lib.hid (show swL l n = swE u i l m q n by unfold swE swT; rw [hd]; simp)
      have e2 := Lib.hid (show false = swT u l q n by unfold swT; rw [hd]; simp)
      clear hd
      go_enter Try.func65, Try.ntmps65
      go_wp2_with (first | (go_at_call 87; refine (ceilDiv_any _ _ _ (by omega) (by omega)).mono ?_; rintro e w1 ⟨rfl, rfl⟩))
      go_ret2
      exact ⟨swret (by have := e1.out; have := hL.out; omega) e2.out, ((Ext.refl _).alloc _)⟩
    · have hd : decide (swL l n < u) = false := decide_eq_false (by rw [hL.out]; exact c2)
      have e1 := Lib.hid (show min m (swL l n - u + i * q / 1000) = swE u i l m q n by unfold swE swT; rw [hd, f1]; simp)
      have e2 := Lib.hid (show true = swT u l q n by unfold swT; rw [hd, f1]; simp)
      clear hd
      by_cases c3 : m < n - (n * l + 999) / 1000 - u + i * q / 1000
      · have c2' : u ≤ n - (n * l + 999) / 1000 := by omega
        go_enter Try.func65, Try.ntmps65
        go_wp2_with (first | (go_at_call 87; refine (ceilDiv_any _ _ _ (by omega) (by omega)).mono ?_; rintro e w1 ⟨rfl, rfl⟩))
        go_ret2
        exact ⟨swret (by have := e1.out; have := hL.out; omega) e2.out, ((Ext.refl _).alloc _)⟩
      · have c2' : u ≤ n - (n * l + 999) / 1000 := by omega
        go_enter Try.func65, Try.ntmps65
        go_wp2_with (first | (go_at_call 87; refine (ceilDiv_any _ _ _ (by omega) (by omega)).mono ?_; rintro e w1 ⟨rfl, rfl⟩))
        go_ret2
        exact ⟨swret (by have := e1.out; have := hL.out; omega) e2.out, ((Ext.refl _).alloc _)⟩

set_option maxHeartbeats 1000000 in
theorem l11Swing_any (z u i l m q n : Int) (w : World) (hu : 1 ≤ u ∧ u ≤ 100000) (hi : 0 ≤ i ∧ i ≤ 100000) (hl : 0 ≤ l ∧ l ≤ 1000) (hm : 1 ≤ m ∧ m ≤ 100000) (hq : 0 ≤ q ∧ q ≤ 1000) (hn : 0 ≤ n ∧ n ≤ 100000) :
    Calls Try.prog 67 #[.agg #[.int .i64 z, .int .i64 u, .int .i64 i, .int .i64 l, .int .i64 m], .int .i64 q, .int .i64 n] w fun e w' => e = .returned (.tuple #[.int .i64 (swE u i l m q n), .bool (swT u l q n)]) ∧ Ext w w' := by
  have b1 : 0 ≤ n * l ∧ n * l ≤ 100000000 := by have := mul_bd (x := n) (y := l) (X := 100000) (Y := 1000) hn hl; omega
  have b2 : 0 ≤ i * q ∧ i * q ≤ 100000000 := by have := mul_bd (x := i) (y := q) (X := 100000) (Y := 1000) hi hq; omega
  have b3 := swL_bd hl hn.1
  have hL := Lib.hid (show swL l n = n - (n * l + 999) / 1000 from rfl)
  by_cases c1 : q = 0
  · have e1 := Lib.hid (show swL l n = swE u i l m q n by simp [swE, swT, c1])
    have e2 := Lib.hid (show false = swT u l q n by simp [swT, c1])
    have f1 : (q == 0) = true := by simpa using c1
    clear c1
    go_enter Try.func67, Try.ntmps67
    go_wp2_with (first | (go_at_call 88; refine (l00Min_any _ _ _).mono ?_; rintro e w1 ⟨rfl, rfl⟩))
    go_ret2
    exact ⟨swret (by have := e1.out; have := hL.out; omega) e2.out, ((Ext.refl _).alloc _)⟩
  · have f1 : (q == 0) = false := by simpa using c1
    by_cases c2 : n - (n * l + 999) / 1000 < u
    · have hd : decide (swL l n < u) = true := decide_eq_true (by rw [hL.out]; exact c2)
      have e1 := Lib.hid (show swL l n = swE u i l m q n by unfold swE swT; rw [hd]; simp)
      have e2 := Lib.hid (show false = swT u l q n by unfold swT; rw [hd]; simp)
      clear hd
      go_enter Try.func67, Try.ntmps67
      go_wp2_with (first | (go_at_call 88; refine (l00Min_any _ _ _).mono ?_; rintro e w1 ⟨rfl, rfl⟩))
      go_ret2
      exact ⟨swret (by have := e1.out; have := hL.out; omega) e2.out, ((Ext.refl _).alloc _)⟩
    · have hd : decide (swL l n < u) = false := decide_eq_false (by rw [hL.out]; exact c2)
      have e1 := Lib.hid (show min m (swL l n - u + i * q / 1000) = swE u i l m q n by unfold swE swT; rw [hd, f1]; simp)
      have e2 := Lib.hid (show true = swT u l q n by unfold swT; rw [hd, f1]; simp)
      clear hd
      by_cases c3 : m < n - (n * l + 999) / 1000 - u + i * q / 1000
      · have c2' : u ≤ n - (n * l + 999) / 1000 := by omega
        go_enter Try.func67, Try.ntmps67
        go_wp2_with (first | (go_at_call 88; refine (l00Min_any _ _ _).mono ?_; rintro e w1 ⟨rfl, rfl⟩))
        go_ret2
        exact ⟨swret (by have := e1.out; have := hL.out; omega) e2.out, ((Ext.refl _).alloc _)⟩
      · have c2' : u ≤ n - (n * l + 999) / 1000 := by omega
        go_enter Try.func67, Try.ntmps67
        go_wp2_with (first | (go_at_call 88; refine (l00Min_any _ _ _).mono ?_; rintro e w1 ⟨rfl, rfl⟩))
        go_ret2
        exact ⟨swret (by have := e1.out; have := hL.out; omega) e2.out, ((Ext.refl _).alloc _)⟩

end Go.Proofs.Ytehebhphlaghfaa

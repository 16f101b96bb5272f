/-
  Contracts of valid rates, of the rate at a temperature and of the other temperature; the walks of their laws.
-/
import Derived.Test.YtiodlbgfgeimoaaNum
namespace Go.Proofs.Ytiodlbgfgeimoaa
open Go.RowKit
set_option linter.unusedSimpArgs false
set_option linter.unusedVariables false

def vRate (b l c m : Int) : Bool := inB b (-100000000) 100000000 && inB l (-10000) 10000 && inB c (-1000) 1000 && inB m (-400) 600
theorem vRate_iff {b l c m : Int} : vRate b l c m = true ↔ (-100000000 ≤ b ∧ b ≤ 100000000) ∧ (-10000 ≤ l ∧ l ≤ 10000) ∧ (-1000 ≤ c ∧ c ≤ 1000) ∧ (-400 ≤ m ∧ m ≤ 600) := by simp [vRate, inB_iff, and_assoc]
def rtAt (b l c m t : Int) : Int := b + l * (t - m) + c * (t - m) * (t - m)
def raR (b l c m t : Int) : Int := if vRate b l c m = false then 0 else if inB t (-400) 600 = false then 0 else rtAt b l c m t
def raC (b l c m t : Int) : Int := if vRate b l c m = false then 1 else if inB t (-400) 600 = false then 2 else 0

set_option maxHeartbeats 400000 in
theorem toRate_any (b l c m : Int) (w : World) :
    Calls Try.prog 19 #[.agg #[.int .i64 b, .int .i64 l, .int .i64 c, .int .i64 m]] w fun e w' => e = .returned (.agg #[.int .i64 b, .int .i64 l, .int .i64 c, .int .i64 m]) ∧ Ext w w' := by
  go_enter Try.func19, Try.ntmps19
  go_wp2
  exact bodyPost_ret (v := .agg #[.int .i64 b, .int .i64 l, .int .i64 c, .int .i64 m]) (by simp [results, Try.results19, go_sem]) rfl ⟨rfl, (((Ext.refl _).alloc _).alloc _).alloc _⟩

set_option maxHeartbeats 400000 in
theorem isTemp_any (t : Int) (w : World) : Calls Try.prog 62 #[.int .i64 t] w fun e w' => e = .returned (.bool (inB t (-400) 600)) ∧ w = w' := by
  go_enter Try.func62, Try.ntmps62
  go_wp2_with (go_at_call 61; refine (within_any _ _ _ _).mono ?_; rintro e w1 ⟨rfl, rfl⟩)
  go_ret
  exact ⟨rfl, rfl⟩

set_option maxHeartbeats 400000 in
theorem l12Temp_any (t : Int) (w : World) : Calls Try.prog 63 #[.int .i64 t] w fun e w' => e = .returned (.bool (inB t (-400) 600)) ∧ w = w' := by
  go_enter Try.func63, Try.ntmps63
  go_wp2_with (go_at_call 90; refine (l00In_any _ _ _ _).mono ?_; rintro e w1 ⟨rfl, rfl⟩)
  go_ret
  exact ⟨rfl, rfl⟩

set_option maxHeartbeats 400000 in
theorem implValidRate_any (b l c m : Int) (w : World) :
    Calls Try.prog 20 #[.agg #[.int .i64 b, .int .i64 l, .int .i64 c, .int .i64 m]] w fun e w' => e = .returned (.bool (vRate b l c m)) ∧ Ext w w' := by
  cases h1 : inB b (-100000000) 100000000
  · have e := Lib.hid (show false = vRate b l c m by simp [vRate, h1])
    go_enter Try.func20, Try.ntmps20
    go_wp2_with (first | (go_at_call 61; refine (within_any _ _ _ _).mono ?_; rintro e w1 ⟨rfl, rfl⟩) | (go_at_call 62; refine (isTemp_any _ _).mono ?_; rintro e w1 ⟨rfl, rfl⟩))
    go_ret
    exact ⟨ret_bool e.out, ((Ext.refl _).alloc _)⟩
  · try clear xc
    cases h2 : inB l (-10000) 10000
    · have e := Lib.hid (show false = vRate b l c m by simp [vRate, h2])
      go_enter Try.func20, Try.ntmps20
      go_wp2_with (first | (go_at_call 61; refine (within_any _ _ _ _).mono ?_; rintro e w1 ⟨rfl, rfl⟩) | (go_at_call 62; refine (isTemp_any _ _).mono ?_; rintro e w1 ⟨rfl, rfl⟩))
      go_ret
      exact ⟨ret_bool e.out, ((Ext.refl _).alloc _)⟩
    · try clear xc
      cases h3 : inB c (-1000) 1000
      · have e := Lib.hid (show false = vRate b l c m by simp [vRate, h3])
        go_enter Try.func20, Try.ntmps20
        go_wp2_with (first | (go_at_call 61; refine (within_any _ _ _ _).mono ?_; rintro e w1 ⟨rfl, rfl⟩) | (go_at_call 62; refine (isTemp_any _ _).mono ?_; rintro e w1 ⟨rfl, rfl⟩))
        go_ret
        exact ⟨ret_bool e.out, ((Ext.refl _).alloc _)⟩
      · try clear xc
        have e := Lib.hid (show inB m (-400) 600 = vRate b l c m by simp [vRate, h1, h2, h3])
        go_enter Try.func20, Try.ntmps20
        go_wp2_with (first | (go_at_call 61; refine (within_any _ _ _ _).mono ?_; rintro e w1 ⟨rfl, rfl⟩) | (go_at_call 62; refine (isTemp_any _ _).mono ?_; rintro e w1 ⟨rfl, rfl⟩))
        go_ret
        exact ⟨ret_bool e.out, ((Ext.refl _).alloc _)⟩

set_option maxHeartbeats 400000 in
theorem l12Ok_any (b l c m : Int) (w : World) :
    Calls Try.prog 60 #[.agg #[.int .i64 b, .int .i64 l, .int .i64 c, .int .i64 m]] w fun e w' => e = .returned (.bool (vRate b l c m)) ∧ Ext w w' := by
  cases h1 : inB b (-100000000) 100000000
  · have e := Lib.hid (show false = vRate b l c m by simp [vRate, h1])
    go_enter Try.func60, Try.ntmps60
    go_wp2_with (first | (go_at_call 90; refine (l00In_any _ _ _ _).mono ?_; rintro e w1 ⟨rfl, rfl⟩) | (go_at_call 63; refine (l12Temp_any _ _).mono ?_; rintro e w1 ⟨rfl, rfl⟩))
    go_ret
    exact ⟨ret_bool e.out, ((Ext.refl _).alloc _)⟩
  · try clear xc
    cases h2 : inB l (-10000) 10000
    · have e := Lib.hid (show false = vRate b l c m by simp [vRate, h2])
      go_enter Try.func60, Try.ntmps60
      go_wp2_with (first | (go_at_call 90; refine (l00In_any _ _ _ _).mono ?_; rintro e w1 ⟨rfl, rfl⟩) | (go_at_call 63; refine (l12Temp_any _ _).mono ?_; rintro e w1 ⟨rfl, rfl⟩))
      go_ret
      exact ⟨ret_bool e.out, ((Ext.refl _).alloc _)⟩
    · try clear xc
      cases h3 : inB c (-1000) 1000
      · have e := Lib.hid (show false = vRate b l c m by simp [vRate, h3])
        go_enter Try.func60, Try.ntmps60
        go_wp2_with (first | (go_at_call 90; refine (l00In_any _ _ _ _).mono ?_; rintro e w1 ⟨rfl, rfl⟩) | (go_at_call 63; refine (l12Temp_any _ _).mono ?_; rintro e w1 ⟨rfl, rfl⟩))
        go_ret
        exact ⟨ret_bool e.out, ((Ext.refl _).alloc _)⟩
      · try clear xc
        have e := Lib.hid (show inB m (-400) 600 = vRate b l c m by simp [vRate, h1, h2, h3])
        go_enter Try.func60, Try.ntmps60
        go_wp2_with (first | (go_at_call 90; refine (l00In_any _ _ _ _).mono ?_; rintro e w1 ⟨rfl, rfl⟩) | (go_at_call 63; refine (l12Temp_any _ _).mono ?_; rintro e w1 ⟨rfl, rfl⟩))
        go_ret
        exact ⟨ret_bool e.out, ((Ext.refl _).alloc _)⟩

set_option maxHeartbeats 400000 in
theorem specValidRate_any (b l c m : Int) (w : World) :
    Calls Try.prog 18 #[.agg #[.int .i64 b, .int .i64 l, .int .i64 c, .int .i64 m]] w fun e w' => e = .returned (.bool (vRate b l c m)) ∧ Ext w w' := by
  go_enter Try.func18, Try.ntmps18
  go_wp2_with (go_at_call 60; refine (l12Ok_any b l c m _).mono ?_; rintro e w1 ⟨rfl, x1⟩; (try clear xc xf xs); (first | replace x0 := x0.trans x1 | replace x0 := (x0.alloc _).trans x1 | replace x0 := (x0.drew).trans x1 | replace x0 := (x0.drew.alloc _).trans x1 | replace x0 := (x0.alloc _).drew.trans x1 | replace x0 := ((x0.alloc _).alloc _).trans x1 | have x0 := x1); clear x1; obtain ⟨xc, xf, xs⟩ := x0.cells)
  go_ret
  exact ⟨rfl, ((Ext.refl _).alloc _).trans x0⟩

set_option maxHeartbeats 400000 in
theorem rateAt_any (b l c m t : Int) (w : World) (hb : -100000000 ≤ b ∧ b ≤ 100000000) (hl : -10000 ≤ l ∧ l ≤ 10000) (hc : -1000 ≤ c ∧ c ≤ 1000) (hm : -400 ≤ m ∧ m ≤ 600) (ht : -400 ≤ t ∧ t ≤ 600) : Calls Try.prog 65 #[.agg #[.int .i64 b, .int .i64 l, .int .i64 c, .int .i64 m], .int .i64 t] w fun e w' => e = .returned (.int .i64 (rtAt b l c m t)) ∧ Ext w w' := by
  have k1 : -10000000 ≤ l * (t - m) ∧ l * (t - m) ≤ 10000000 := by have := mul_abs (x := l) (y := t - m) (X := 10000) (Y := 1000) hl (by omega); omega
  have k2 : -1000000 ≤ c * (t - m) ∧ c * (t - m) ≤ 1000000 := by have := mul_abs (x := c) (y := t - m) (X := 1000) (Y := 1000) hc (by omega); omega
  have k3 : -1000000000 ≤ c * (t - m) * (t - m) ∧ c * (t - m) * (t - m) ≤ 1000000000 := by have := mul_abs (x := c * (t - m)) (y := t - m) (X := 1000000) (Y := 1000) k2 (by omega); omega
  go_enter Try.func65, Try.ntmps65
  go_wp2
  go_ret
  exact ⟨rfl, ((Ext.refl _).alloc _)⟩

set_option maxHeartbeats 400000 in
theorem l12At_any (b l c m t : Int) (w : World) (hb : -100000000 ≤ b ∧ b ≤ 100000000) (hl : -10000 ≤ l ∧ l ≤ 10000) (hc : -1000 ≤ c ∧ c ≤ 1000) (hm : -400 ≤ m ∧ m ≤ 600) (ht : -400 ≤ t ∧ t ≤ 600) : Calls Try.prog 64 #[.agg #[.int .i64 b, .int .i64 l, .int .i64 c, .int .i64 m], .int .i64 t] w fun e w' => e = .returned (.int .i64 (rtAt b l c m t)) ∧ Ext w w' := by
  have k1 : -10000000 ≤ l * (t - m) ∧ l * (t - m) ≤ 10000000 := by have := mul_abs (x := l) (y := t - m) (X := 10000) (Y := 1000) hl (by omega); omega
  have k2 : -1000000 ≤ c * (t - m) ∧ c * (t - m) ≤ 1000000 := by have := mul_abs (x := c) (y := t - m) (X := 1000) (Y := 1000) hc (by omega); omega
  have k3 : -1000000000 ≤ c * (t - m) * (t - m) ∧ c * (t - m) * (t - m) ≤ 1000000000 := by have := mul_abs (x := c * (t - m)) (y := t - m) (X := 1000000) (Y := 1000) k2 (by omega); omega
  go_enter Try.func64, Try.ntmps64
  go_wp2
  go_ret
  exact ⟨rfl, ((Ext.refl _).alloc _)⟩

set_option maxHeartbeats 1000000 in
theorem implRateAt_any (b l c m t : Int) (w : World) : Calls Try.prog 22 #[.agg #[.int .i64 b, .int .i64 l, .int .i64 c, .int .i64 m], .int .i64 t] w fun e w' => e = .returned (.tuple #[.int .i64 (raR b l c m t), .int .i64 (raC b l c m t)]) ∧ Ext w w' := by
  cases h1 : vRate b l c m
  · have e1 := Lib.hid (show 0 = raR b l c m t by simp [raR, h1])
    have e2 := Lib.hid (show 1 = raC b l c m t by simp [raC, h1])
    go_enter Try.func22, Try.ntmps22
    go_wp2_with (first | (go_at_call 20; refine (implValidRate_any b l c m _).mono ?_; rintro e w1 ⟨rfl, x1⟩; (try clear xc xf xs); (first | replace x0 := x0.trans x1 | replace x0 := (x0.alloc _).trans x1 | replace x0 := (x0.drew).trans x1 | replace x0 := (x0.drew.alloc _).trans x1 | replace x0 := (x0.alloc _).drew.trans x1 | replace x0 := ((x0.alloc _).alloc _).trans x1 | have x0 := x1); clear x1; obtain ⟨xc, xf, xs⟩ := x0.cells) | (go_at_call 62; refine (isTemp_any _ _).mono ?_; rintro e w1 ⟨rfl, rfl⟩))
    go_ret2
    exact ⟨ret2 e1.out e2.out, ((Ext.refl _).alloc _).trans x0⟩
  · cases h2 : inB t (-400) 600
    · have e1 := Lib.hid (show 0 = raR b l c m t by simp [raR, h1, h2])
      have e2 := Lib.hid (show 2 = raC b l c m t by simp [raC, h1, h2])
      go_enter Try.func22, Try.ntmps22
      go_wp2_with (first | (go_at_call 20; refine (implValidRate_any b l c m _).mono ?_; rintro e w1 ⟨rfl, x1⟩; (try clear xc xf xs); (first | replace x0 := x0.trans x1 | replace x0 := (x0.alloc _).trans x1 | replace x0 := (x0.drew).trans x1 | replace x0 := (x0.drew.alloc _).trans x1 | replace x0 := (x0.alloc _).drew.trans x1 | replace x0 := ((x0.alloc _).alloc _).trans x1 | have x0 := x1); clear x1; obtain ⟨xc, xf, xs⟩ := x0.cells) | (go_at_call 62; refine (isTemp_any _ _).mono ?_; rintro e w1 ⟨rfl, rfl⟩))
      go_ret2
      exact ⟨ret2 e1.out e2.out, ((Ext.refl _).alloc _).trans x0⟩
    · have e1 := Lib.hid (show rtAt b l c m t = raR b l c m t by simp [raR, h1, h2])
      have e2 := Lib.hid (show 0 = raC b l c m t by simp [raC, h1, h2])
      obtain ⟨hb, hl, hc, hm⟩ := vRate_iff.1 h1
      have ht := inB_iff.1 h2
      go_enter Try.func22, Try.ntmps22
      go_wp2_with (first | (go_at_call 20; refine (implValidRate_any b l c m _).mono ?_; rintro e w1 ⟨rfl, x1⟩; (try clear xc xf xs); (first | replace x0 := x0.trans x1 | replace x0 := (x0.alloc _).trans x1 | replace x0 := (x0.drew).trans x1 | replace x0 := (x0.drew.alloc _).trans x1 | replace x0 := (x0.alloc _).drew.trans x1 | replace x0 := ((x0.alloc _).alloc _).trans x1 | have x0 := x1); clear x1; obtain ⟨xc, xf, xs⟩ := x0.cells) | (go_at_call 62; refine (isTemp_any _ _).mono ?_; rintro e w1 ⟨rfl, rfl⟩) | (go_at_call 65; refine (rateAt_any b l c m t _ hb hl hc hm ht).mono ?_; rintro e w1 ⟨rfl, x1⟩; (try clear xc xf xs); (first | replace x0 := x0.trans x1 | replace x0 := (x0.alloc _).trans x1 | replace x0 := (x0.drew).trans x1 | replace x0 := (x0.drew.alloc _).trans x1 | replace x0 := (x0.alloc _).drew.trans x1 | replace x0 := ((x0.alloc _).alloc _).trans x1 | have x0 := x1); clear x1; obtain ⟨xc, xf, xs⟩ := x0.cells))
      go_ret2
      exact ⟨ret2 e1.out e2.out, ((Ext.refl _).alloc _).trans x0⟩

set_option maxHeartbeats 1000000 in
theorem specRateAt_any (b l c m t : Int) (w : World) : Calls Try.prog 21 #[.agg #[.int .i64 b, .int .i64 l, .int .i64 c, .int .i64 m], .int .i64 t] w fun e w' => e = .returned (.tuple #[.int .i64 (raR b l c m t), .int .i64 (raC b l c m t)]) ∧ Ext w w' := by
  cases h1 : vRate b l c m
  · have e1 := Lib.hid (show 0 = raR b l c m t by simp [raR, h1])
    have e2 := Lib.hid (show 1 = raC b l c m t by simp [raC, h1])
    go_enter Try.func21, Try.ntmps21
    go_wp2_with (first | (go_at_call 60; refine (l12Ok_any b l c m _).mono ?_; rintro e w1 ⟨rfl, x1⟩; (try clear xc xf xs); (first | replace x0 := x0.trans x1 | replace x0 := (x0.alloc _).trans x1 | replace x0 := (x0.drew).trans x1 | replace x0 := (x0.drew.alloc _).trans x1 | replace x0 := (x0.alloc _).drew.trans x1 | replace x0 := ((x0.alloc _).alloc _).trans x1 | have x0 := x1); clear x1; obtain ⟨xc, xf, xs⟩ := x0.cells) | (go_at_call 63; refine (l12Temp_any _ _).mono ?_; rintro e w1 ⟨rfl, rfl⟩))
    go_ret2
    exact ⟨ret2 e1.out e2.out, ((Ext.refl _).alloc _).trans x0⟩
  · cases h2 : inB t (-400) 600
    · have e1 := Lib.hid (show 0 = raR b l c m t by simp [raR, h1, h2])
      have e2 := Lib.hid (show 2 = raC b l c m t by simp [raC, h1, h2])
      go_enter Try.func21, Try.ntmps21
      go_wp2_with (first | (go_at_call 60; refine (l12Ok_any b l c m _).mono ?_; rintro e w1 ⟨rfl, x1⟩; (try clear xc xf xs); (first | replace x0 := x0.trans x1 | replace x0 := (x0.alloc _).trans x1 | replace x0 := (x0.drew).trans x1 | replace x0 := (x0.drew.alloc _).trans x1 | replace x0 := (x0.alloc _).drew.trans x1 | replace x0 := ((x0.alloc _).alloc _).trans x1 | have x0 := x1); clear x1; obtain ⟨xc, xf, xs⟩ := x0.cells) | (go_at_call 63; refine (l12Temp_any _ _).mono ?_; rintro e w1 ⟨rfl, rfl⟩))
      go_ret2
      exact ⟨ret2 e1.out e2.out, ((Ext.refl _).alloc _).trans x0⟩
    · have e1 := Lib.hid (show rtAt b l c m t = raR b l c m t by simp [raR, h1, h2])
      have e2 := Lib.hid (show 0 = raC b l c m t by simp [raC, h1, h2])
      obtain ⟨hb, hl, hc, hm⟩ := vRate_iff.1 h1
      have ht := inB_iff.1 h2
      go_enter Try.func21, Try.ntmps21
      go_wp2_with (first | (go_at_call 60; refine (l12Ok_any b l c m _).mono ?_; rintro e w1 ⟨rfl, x1⟩; (try clear xc xf xs); (first | replace x0 := x0.trans x1 | replace x0 := (x0.alloc _).trans x1 | replace x0 := (x0.drew).trans x1 | replace x0 := (x0.drew.alloc _).trans x1 | replace x0 := (x0.alloc _).drew.trans x1 | replace x0 := ((x0.alloc _).alloc _).trans x1 | have x0 := x1); clear x1; obtain ⟨xc, xf, xs⟩ := x0.cells) | (go_at_call 63; refine (l12Temp_any _ _).mono ?_; rintro e w1 ⟨rfl, rfl⟩) | (go_at_call 64; refine (l12At_any b l c m t _ hb hl hc hm ht).mono ?_; rintro e w1 ⟨rfl, x1⟩; (try clear xc xf xs); (first | replace x0 := x0.trans x1 | replace x0 := (x0.alloc _).trans x1 | replace x0 := (x0.drew).trans x1 | replace x0 := (x0.drew.alloc _).trans x1 | replace x0 := (x0.alloc _).drew.trans x1 | replace x0 := ((x0.alloc _).alloc _).trans x1 | have x0 := x1); clear x1; obtain ⟨xc, xf, xs⟩ := x0.cells))
      go_ret2
      exact ⟨ret2 e1.out e2.out, ((Ext.refl _).alloc _).trans x0⟩

def otT (b l c m t : Int) : Int := if vRate b l c m = false then 0 else if inB t (-400) 600 = false then 0 else if c = 0 then 0 else if l.tmod c ≠ 0 then 0 else if inB (2 * m - l.tdiv c - t) (-400) 600 = true then 2 * m - l.tdiv c - t else 0
def otC (b l c m t : Int) : Int := if vRate b l c m = false then 1 else if inB t (-400) 600 = false then 2 else if c = 0 then 6 else if l.tmod c ≠ 0 then 3 else if inB (2 * m - l.tdiv c - t) (-400) 600 = true then 0 else 3

set_option maxHeartbeats 1000000 in
theorem implOtherTemp_any (b l c m t : Int) (w : World) : Calls Try.prog 24 #[.agg #[.int .i64 b, .int .i64 l, .int .i64 c, .int .i64 m], .int .i64 t] w fun e w' => e = .returned (.tuple #[.int .i64 (otT b l c m t), .int .i64 (otC b l c m t)]) ∧ Ext w w' := by
  cases h1 : vRate b l c m
  · skip
    have e1 := Lib.hid (show 0 = otT b l c m t by simp [otT, h1])
    have e2 := Lib.hid (show 1 = otC b l c m t by simp [otC, h1])
    go_enter Try.func24, Try.ntmps24
    go_wp2_with (first | (go_at_call 20; refine (implValidRate_any b l c m _).mono ?_; rintro e w1 ⟨rfl, x1⟩; (try clear xc xf xs); (first | replace x0 := x0.trans x1 | replace x0 := (x0.alloc _).trans x1 | replace x0 := (x0.drew).trans x1 | replace x0 := (x0.drew.alloc _).trans x1 | replace x0 := (x0.alloc _).drew.trans x1 | replace x0 := ((x0.alloc _).alloc _).trans x1 | have x0 := x1); clear x1; obtain ⟨xc, xf, xs⟩ := x0.cells) | (go_at_call 62; refine (isTemp_any _ _).mono ?_; rintro e w1 ⟨rfl, rfl⟩))
    go_ret2
    exact ⟨ret2 e1.out e2.out, ((Ext.refl _).alloc _).trans x0⟩
  · cases h2 : inB t (-400) 600
    · skip
      have e1 := Lib.hid (show 0 = otT b l c m t by simp [otT, h1, h2])
      have e2 := Lib.hid (show 2 = otC b l c m t by simp [otC, h1, h2])
      go_enter Try.func24, Try.ntmps24
      go_wp2_with (first | (go_at_call 20; refine (implValidRate_any b l c m _).mono ?_; rintro e w1 ⟨rfl, x1⟩; (try clear xc xf xs); (first | replace x0 := x0.trans x1 | replace x0 := (x0.alloc _).trans x1 | replace x0 := (x0.drew).trans x1 | replace x0 := (x0.drew.alloc _).trans x1 | replace x0 := (x0.alloc _).drew.trans x1 | replace x0 := ((x0.alloc _).alloc _).trans x1 | have x0 := x1); clear x1; obtain ⟨xc, xf, xs⟩ := x0.cells) | (go_at_call 62; refine (isTemp_any _ _).mono ?_; rintro e w1 ⟨rfl, rfl⟩))
      go_ret2
      exact ⟨ret2 e1.out e2.out, ((Ext.refl _).alloc _).trans x0⟩
    · obtain ⟨hb, hl, hc, hm⟩ := vRate_iff.1 h1
      have ht := inB_iff.1 h2
      by_cases h3 : c = 0
      · subst h3
        have e1 := Lib.hid (show 0 = otT b l 0 m t by simp [otT, h1, h2])
        have e2 := Lib.hid (show 6 = otC b l 0 m t by simp [otC, h1, h2])
        go_enter Try.func24, Try.ntmps24
        go_wp2_with (first | (go_at_call 20; refine (implValidRate_any b l 0 m _).mono ?_; rintro e w1 ⟨rfl, x1⟩; (try clear xc xf xs); (first | replace x0 := x0.trans x1 | replace x0 := (x0.alloc _).trans x1 | replace x0 := (x0.drew).trans x1 | replace x0 := (x0.drew.alloc _).trans x1 | replace x0 := (x0.alloc _).drew.trans x1 | replace x0 := ((x0.alloc _).alloc _).trans x1 | have x0 := x1); clear x1; obtain ⟨xc, xf, xs⟩ := x0.cells) | (go_at_call 62; refine (isTemp_any _ _).mono ?_; rintro e w1 ⟨rfl, rfl⟩))
        go_ret2
        exact ⟨ret2 e1.out e2.out, ((Ext.refl _).alloc _).trans x0⟩
      · have f3 : (c == 0) = false := by simpa using h3
        have g1 : -10000 ≤ l.tmod c ∧ l.tmod c ≤ 10000 := by
          have h := Int.natAbs_tmod l c
          have := Nat.mod_le l.natAbs c.natAbs
          omega
        have g2 : -10000 ≤ l.tdiv c ∧ l.tdiv c ≤ 10000 := by
          have := Int.natAbs_tdiv_le_natAbs l c
          omega
        by_cases h4 : l.tmod c = 0
        · have f4 : (l.tmod c != 0) = false := by simpa using h4
          have q1 : IntKind.i64.wrap (2 * m) = 2 * m := IntWalk.i64_in _ (by omega)
          have q2 : IntKind.i64.wrap (l.tdiv c) = l.tdiv c := IntWalk.i64_in _ (by omega)
          have q3 : IntKind.i64.wrap (2 * m - l.tdiv c) = 2 * m - l.tdiv c := IntWalk.i64_in _ (by omega)
          have q4 : IntKind.i64.wrap (2 * m - l.tdiv c - t) = 2 * m - l.tdiv c - t := IntWalk.i64_in _ (by omega)
          have H := Lib.hid h4
          cases h5 : inB (2 * m - l.tdiv c - t) (-400) 600
          · skip
            have e1 := Lib.hid (show 0 = otT b l c m t by simp [otT, h1, h2, h3, h4, h5])
            have e2 := Lib.hid (show 3 = otC b l c m t by simp [otC, h1, h2, h3, h4, h5])
            go_enter Try.func24, Try.ntmps24
            go_wp2_with (first | (go_at_call 20; refine (implValidRate_any b l c m _).mono ?_; rintro e w1 ⟨rfl, x1⟩; (try clear xc xf xs); (first | replace x0 := x0.trans x1 | replace x0 := (x0.alloc _).trans x1 | replace x0 := (x0.drew).trans x1 | replace x0 := (x0.drew.alloc _).trans x1 | replace x0 := (x0.alloc _).drew.trans x1 | replace x0 := ((x0.alloc _).alloc _).trans x1 | have x0 := x1); clear x1; obtain ⟨xc, xf, xs⟩ := x0.cells) | (go_at_call 62; refine (isTemp_any _ _).mono ?_; rintro e w1 ⟨rfl, rfl⟩))
            go_quiet (fail)
            have x0 := x0.drewN nq
            go_wp2_with (go_at_call 62; refine (isTemp_any _ _).mono ?_; rintro e w1 ⟨rfl, rfl⟩)
            go_ret2
            exact ⟨ret2 e1.out e2.out, ((Ext.refl _).alloc _).trans x0⟩
          · skip
            have e1 := Lib.hid (show 2 * m - l.tdiv c - t = otT b l c m t by simp [otT, h1, h2, h3, h4, h5])
            have e2 := Lib.hid (show 0 = otC b l c m t by simp [otC, h1, h2, h3, h4, h5])
            go_enter Try.func24, Try.ntmps24
            go_wp2_with (first | (go_at_call 20; refine (implValidRate_any b l c m _).mono ?_; rintro e w1 ⟨rfl, x1⟩; (try clear xc xf xs); (first | replace x0 := x0.trans x1 | replace x0 := (x0.alloc _).trans x1 | replace x0 := (x0.drew).trans x1 | replace x0 := (x0.drew.alloc _).trans x1 | replace x0 := (x0.alloc _).drew.trans x1 | replace x0 := ((x0.alloc _).alloc _).trans x1 | have x0 := x1); clear x1; obtain ⟨xc, xf, xs⟩ := x0.cells) | (go_at_call 62; refine (isTemp_any _ _).mono ?_; rintro e w1 ⟨rfl, rfl⟩))
            go_quiet (fail)
            have x0 := x0.drewN nq
            go_wp2_with (go_at_call 62; refine (isTemp_any _ _).mono ?_; rintro e w1 ⟨rfl, rfl⟩)
            go_ret2
            exact ⟨ret2 e1.out e2.out, ((Ext.refl _).alloc _).trans x0⟩
        · have f4 : (l.tmod c != 0) = true := by simpa using h4
          have e1 := Lib.hid (show 0 = otT b l c m t by simp [otT, h1, h2, h3, h4])
          have e2 := Lib.hid (show 3 = otC b l c m t by simp [otC, h1, h2, h3, h4])
          go_enter Try.func24, Try.ntmps24
          go_wp2_with (first | (go_at_call 20; refine (implValidRate_any b l c m _).mono ?_; rintro e w1 ⟨rfl, x1⟩; (try clear xc xf xs); (first | replace x0 := x0.trans x1 | replace x0 := (x0.alloc _).trans x1 | replace x0 := (x0.drew).trans x1 | replace x0 := (x0.drew.alloc _).trans x1 | replace x0 := (x0.alloc _).drew.trans x1 | replace x0 := ((x0.alloc _).alloc _).trans x1 | have x0 := x1); clear x1; obtain ⟨xc, xf, xs⟩ := x0.cells) | (go_at_call 62; refine (isTemp_any _ _).mono ?_; rintro e w1 ⟨rfl, rfl⟩))
          go_ret2
          exact ⟨ret2 e1.out e2.out, ((Ext.refl _).alloc _).trans x0⟩

set_option maxHeartbeats 1000000 in
theorem specOtherTemp_any (b l c m t : Int) (w : World) : Calls Try.prog 23 #[.agg #[.int .i64 b, .int .i64 l, .int .i64 c, .int .i64 m], .int .i64 t] w fun e w' => e = .returned (.tuple #[.int .i64 (otT b l c m t), .int .i64 (otC b l c m t)]) ∧ Ext w w' := by
  cases h1 : vRate b l c m
  · skip
    have e1 := Lib.hid (show 0 = otT b l c m t by simp [otT, h1])
    have e2 := Lib.hid (show 1 = otC b l c m t by simp [otC, h1])
    go_enter Try.func23, Try.ntmps23
    go_wp2_with (first | (go_at_call 60; refine (l12Ok_any b l c m _).mono ?_; rintro e w1 ⟨rfl, x1⟩; (try clear xc xf xs); (first | replace x0 := x0.trans x1 | replace x0 := (x0.alloc _).trans x1 | replace x0 := (x0.drew).trans x1 | replace x0 := (x0.drew.alloc _).trans x1 | replace x0 := (x0.alloc _).drew.trans x1 | replace x0 := ((x0.alloc _).alloc _).trans x1 | have x0 := x1); clear x1; obtain ⟨xc, xf, xs⟩ := x0.cells) | (go_at_call 63; refine (l12Temp_any _ _).mono ?_; rintro e w1 ⟨rfl, rfl⟩))
    go_ret2
    exact ⟨ret2 e1.out e2.out, ((Ext.refl _).alloc _).trans x0⟩
  · cases h2 : inB t (-400) 600
    · skip
      have e1 := Lib.hid (show 0 = otT b l c m t by simp [otT, h1, h2])
      have e2 := Lib.hid (show 2 = otC b l c m t by simp [otC, h1, h2])
      go_enter Try.func23, Try.ntmps23
      go_wp2_with (first | (go_at_call 60; refine (l12Ok_any b l c m _).mono ?_; rintro e w1 ⟨rfl, x1⟩; (try clear xc xf xs); (first | replace x0 := x0.trans x1 | replace x0 := (x0.alloc _).trans x1 | replace x0 := (x0.drew).trans x1 | replace x0 := (x0.drew.alloc _).trans x1 | replace x0 := (x0.alloc _).drew.trans x1 | replace x0 := ((x0.alloc _).alloc _).trans x1 | have x0 := x1); clear x1; obtain ⟨xc, xf, xs⟩ := x0.cells) | (go_at_call 63; refine (l12Temp_any _ _).mono ?_; rintro e w1 ⟨rfl, rfl⟩))
      go_ret2
      exact ⟨ret2 e1.out e2.out, ((Ext.refl _).alloc _).trans x0⟩
    · obtain ⟨hb, hl, hc, hm⟩ := vRate_iff.1 h1
      have ht := inB_iff.1 h2
      by_cases h3 : c = 0
      · subst h3
        have e1 := Lib.hid (show 0 = otT b l 0 m t by simp [otT, h1, h2])
        have e2 := Lib.hid (show 6 = otC b l 0 m t by simp [otC, h1, h2])
        go_enter Try.func23, Try.ntmps23
        go_wp2_with (first | (go_at_call 60; refine (l12Ok_any b l 0 m _).mono ?_; rintro e w1 ⟨rfl, x1⟩; (try clear xc xf xs); (first | replace x0 := x0.trans x1 | replace x0 := (x0.alloc _).trans x1 | replace x0 := (x0.drew).trans x1 | replace x0 := (x0.drew.alloc _).trans x1 | replace x0 := (x0.alloc _).drew.trans x1 | replace x0 := ((x0.alloc _).alloc _).trans x1 | have x0 := x1); clear x1; obtain ⟨xc, xf, xs⟩ := x0.cells) | (go_at_call 63; refine (l12Temp_any _ _).mono ?_; rintro e w1 ⟨rfl, rfl⟩))
        go_ret2
        exact ⟨ret2 e1.out e2.out, ((Ext.refl _).alloc _).trans x0⟩
      · have f3 : (c == 0) = false := by simpa using h3
        have g1 : -10000 ≤ l.tmod c ∧ l.tmod c ≤ 10000 := by
          have h := Int.natAbs_tmod l c
          have := Nat.mod_le l.natAbs c.natAbs
          omega
        have g2 : -10000 ≤ l.tdiv c ∧ l.tdiv c ≤ 10000 := by
          have := Int.natAbs_tdiv_le_natAbs l c
          omega
        by_cases h4 : l.tmod c = 0
        · have f4 : (l.tmod c != 0) = false := by simpa using h4
          have q1 : IntKind.i64.wrap (2 * m) = 2 * m := IntWalk.i64_in _ (by omega)
          have q2 : IntKind.i64.wrap (l.tdiv c) = l.tdiv c := IntWalk.i64_in _ (by omega)
          have q3 : IntKind.i64.wrap (2 * m - l.tdiv c) = 2 * m - l.tdiv c := IntWalk.i64_in _ (by omega)
          have q4 : IntKind.i64.wrap (2 * m - l.tdiv c - t) = 2 * m - l.tdiv c - t := IntWalk.i64_in _ (by omega)
          have H := Lib.hid h4
          cases h5 : inB (2 * m - l.tdiv c - t) (-400) 600
          · skip
            have e1 := Lib.hid (show 0 = otT b l c m t by simp [otT, h1, h2, h3, h4, h5])
            have e2 := Lib.hid (show 3 = otC b l c m t by simp [otC, h1, h2, h3, h4, h5])
            go_enter Try.func23, Try.ntmps23
            go_wp2_with (first | (go_at_call 60; refine (l12Ok_any b l c m _).mono ?_; rintro e w1 ⟨rfl, x1⟩; (try clear xc xf xs); (first | replace x0 := x0.trans x1 | replace x0 := (x0.alloc _).trans x1 | replace x0 := (x0.drew).trans x1 | replace x0 := (x0.drew.alloc _).trans x1 | replace x0 := (x0.alloc _).drew.trans x1 | replace x0 := ((x0.alloc _).alloc _).trans x1 | have x0 := x1); clear x1; obtain ⟨xc, xf, xs⟩ := x0.cells) | (go_at_call 63; refine (l12Temp_any _ _).mono ?_; rintro e w1 ⟨rfl, rfl⟩))
            go_quiet (fail)
            have x0 := x0.drewN nq
            go_wp2_with (go_at_call 63; refine (l12Temp_any _ _).mono ?_; rintro e w1 ⟨rfl, rfl⟩)
            go_ret2
            exact ⟨ret2 e1.out e2.out, ((Ext.refl _).alloc _).trans x0⟩
          · skip
            have e1 := Lib.hid (show 2 * m - l.tdiv c - t = otT b l c m t by simp [otT, h1, h2, h3, h4, h5])
            have e2 := Lib.hid (show 0 = otC b l c m t by simp [otC, h1, h2, h3, h4, h5])
            go_enter Try.func23, Try.ntmps23
            go_wp2_with (first | (go_at_call 60; refine (l12Ok_any b l c m _).mono ?_; rintro e w1 ⟨rfl, x1⟩; (try clear xc xf xs); (first | replace x0 := x0.trans x1 | replace x0 := (x0.alloc _).trans x1 | replace x0 := (x0.drew).trans x1 | replace x0 := (x0.drew.alloc _).trans x1 | replace x0 := (x0.alloc _).drew.trans x1 | replace x0 := ((x0.alloc _).alloc _).trans x1 | have x0 := x1); clear x1; obtain ⟨xc, xf, xs⟩ := x0.cells) | (go_at_call 63; refine (l12Temp_any _ _).mono ?_; rintro e w1 ⟨rfl, rfl⟩))
            go_quiet (fail)
            have x0 := x0.drewN nq
            go_wp2_with (go_at_call 63; refine (l12Temp_any _ _).mono ?_; rintro e w1 ⟨rfl, rfl⟩)
            go_ret2
            exact ⟨ret2 e1.out e2.out, ((Ext.refl _).alloc _).trans x0⟩
        · have f4 : (l.tmod c != 0) = true := by simpa using h4
          have e1 := Lib.hid (show 0 = otT b l c m t by simp [otT, h1, h2, h3, h4])
          have e2 := Lib.hid (show 3 = otC b l c m t by simp [otC, h1, h2, h3, h4])
          go_enter Try.func23, Try.ntmps23
          go_wp2_with (first | (go_at_call 60; refine (l12Ok_any b l c m _).mono ?_; rintro e w1 ⟨rfl, x1⟩; (try clear xc xf xs); (first | replace x0 := x0.trans x1 | replace x0 := (x0.alloc _).trans x1 | replace x0 := (x0.drew).trans x1 | replace x0 := (x0.drew.alloc _).trans x1 | replace x0 := (x0.alloc _).drew.trans x1 | replace x0 := ((x0.alloc _).alloc _).trans x1 | have x0 := x1); clear x1; obtain ⟨xc, xf, xs⟩ := x0.cells) | (go_at_call 63; refine (l12Temp_any _ _).mono ?_; rintro e w1 ⟨rfl, rfl⟩))
          go_ret2
          exact ⟨ret2 e1.out e2.out, ((Ext.refl _).alloc _).trans x0⟩

set_option maxHeartbeats 1000000 in
theorem validRate_walk (b l c m : Int) (w : World) (b0 : -9223372036854775808 ≤ b ∧ b ≤ 9223372036854775807) (b1 : -9223372036854775808 ≤ l ∧ l ≤ 9223372036854775807) (b2 : -9223372036854775808 ≤ c ∧ c ≤ 9223372036854775807) (b3 : -9223372036854775808 ≤ m ∧ m ≤ 9223372036854775807) :
    Calls Try.prog 3 #[.agg #[.int .i64 b, .int .i64 l, .int .i64 c, .int .i64 m]] w fun e w' => e = .returned (.bool true) ∧ Ext w w' := by
  clear b0 b1 b2 b3
  go_enter Try.func3, Try.ntmps3
  go_wp2_with fail
  have x0 := Ext.refl (w.alloc (Obj.cells #[.int .i64 b, .int .i64 l, .int .i64 c, .int .i64 m] 23))
  go_wp2_with (first | (go_at_call 19; refine (toRate_any b l c m _).mono ?_; rintro e w1 ⟨rfl, x1⟩; (try clear xc xf xs); (first | replace x0 := x0.trans x1 | replace x0 := (x0.alloc _).trans x1 | replace x0 := (x0.drew).trans x1 | replace x0 := (x0.drew.alloc _).trans x1 | replace x0 := (x0.alloc _).drew.trans x1 | replace x0 := ((x0.alloc _).alloc _).trans x1 | have x0 := x1); clear x1; obtain ⟨xc, xf, xs⟩ := x0.cells) | (go_at_call 18; refine (specValidRate_any b l c m _).mono ?_; rintro e w1 ⟨rfl, x1⟩; (try clear xc xf xs); (first | replace x0 := x0.trans x1 | replace x0 := (x0.alloc _).trans x1 | replace x0 := (x0.drew).trans x1 | replace x0 := (x0.drew.alloc _).trans x1 | replace x0 := (x0.alloc _).drew.trans x1 | replace x0 := ((x0.alloc _).alloc _).trans x1 | have x0 := x1); clear x1; obtain ⟨xc, xf, xs⟩ := x0.cells) | (go_at_call 20; refine (implValidRate_any b l c m _).mono ?_; rintro e w1 ⟨rfl, x1⟩; (try clear xc xf xs); (first | replace x0 := x0.trans x1 | replace x0 := (x0.alloc _).trans x1 | replace x0 := (x0.drew).trans x1 | replace x0 := (x0.drew.alloc _).trans x1 | replace x0 := (x0.alloc _).drew.trans x1 | replace x0 := ((x0.alloc _).alloc _).trans x1 | have x0 := x1); clear x1; obtain ⟨xc, xf, xs⟩ := x0.cells))
  go_ret
  exact ⟨rfl, ((Ext.refl _).alloc _).trans x0⟩

set_option maxHeartbeats 1000000 in
theorem rateAt_walk (b l c m t : Int) (w : World) (b0 : -9223372036854775808 ≤ b ∧ b ≤ 9223372036854775807) (b1 : -9223372036854775808 ≤ l ∧ l ≤ 9223372036854775807) (b2 : -9223372036854775808 ≤ c ∧ c ≤ 9223372036854775807) (b3 : -9223372036854775808 ≤ m ∧ m ≤ 9223372036854775807) (b4 : -9223372036854775808 ≤ t ∧ t ≤ 9223372036854775807) :
    Calls Try.prog 4 #[.agg #[.int .i64 b, .int .i64 l, .int .i64 c, .int .i64 m], .int .i64 t] w fun e w' => e = .returned (.bool true) ∧ Ext w w' := by
  clear b0 b1 b2 b3 b4
  go_enter Try.func4, Try.ntmps4
  go_wp2_with fail
  have x0 := Ext.refl (w.alloc (Obj.cells #[.int .i64 b, .int .i64 l, .int .i64 c, .int .i64 m] 23))
  go_wp2_with (first | (go_at_call 19; refine (toRate_any b l c m _).mono ?_; rintro e w1 ⟨rfl, x1⟩; (try clear xc xf xs); (first | replace x0 := x0.trans x1 | replace x0 := (x0.alloc _).trans x1 | replace x0 := (x0.drew).trans x1 | replace x0 := (x0.drew.alloc _).trans x1 | replace x0 := (x0.alloc _).drew.trans x1 | replace x0 := ((x0.alloc _).alloc _).trans x1 | have x0 := x1); clear x1; obtain ⟨xc, xf, xs⟩ := x0.cells) | (go_at_call 21; refine (specRateAt_any b l c m t _).mono ?_; rintro e w1 ⟨rfl, x1⟩; (try clear xc xf xs); (first | replace x0 := x0.trans x1 | replace x0 := (x0.alloc _).trans x1 | replace x0 := (x0.drew).trans x1 | replace x0 := (x0.drew.alloc _).trans x1 | replace x0 := (x0.alloc _).drew.trans x1 | replace x0 := ((x0.alloc _).alloc _).trans x1 | have x0 := x1); clear x1; obtain ⟨xc, xf, xs⟩ := x0.cells) | (go_at_call 22; refine (implRateAt_any b l c m t _).mono ?_; rintro e w1 ⟨rfl, x1⟩; (try clear xc xf xs); (first | replace x0 := x0.trans x1 | replace x0 := (x0.alloc _).trans x1 | replace x0 := (x0.drew).trans x1 | replace x0 := (x0.drew.alloc _).trans x1 | replace x0 := (x0.alloc _).drew.trans x1 | replace x0 := ((x0.alloc _).alloc _).trans x1 | have x0 := x1); clear x1; obtain ⟨xc, xf, xs⟩ := x0.cells))
  go_ret
  exact ⟨rfl, ((Ext.refl _).alloc _).trans x0⟩

set_option maxHeartbeats 1000000 in
theorem otherTemp_walk (b l c m t : Int) (w : World) (b0 : -9223372036854775808 ≤ b ∧ b ≤ 9223372036854775807) (b1 : -9223372036854775808 ≤ l ∧ l ≤ 9223372036854775807) (b2 : -9223372036854775808 ≤ c ∧ c ≤ 9223372036854775807) (b3 : -9223372036854775808 ≤ m ∧ m ≤ 9223372036854775807) (b4 : -9223372036854775808 ≤ t ∧ t ≤ 9223372036854775807) :
    Calls Try.prog 5 #[.agg #[.int .i64 b, .int .i64 l, .int .i64 c, .int .i64 m], .int .i64 t] w fun e w' => e = .returned (.bool true) ∧ Ext w w' := by
  clear b0 b1 b2 b3 b4
  go_enter Try.func5, Try.ntmps5
  go_wp2_with fail
  have x0 := Ext.refl (w.alloc (Obj.cells #[.int .i64 b, .int .i64 l, .int .i64 c, .int .i64 m] 23))
  go_wp2_with (first | (go_at_call 19; refine (toRate_any b l c m _).mono ?_; rintro e w1 ⟨rfl, x1⟩; (try clear xc xf xs); (first | replace x0 := x0.trans x1 | replace x0 := (x0.alloc _).trans x1 | replace x0 := (x0.drew).trans x1 | replace x0 := (x0.drew.alloc _).trans x1 | replace x0 := (x0.alloc _).drew.trans x1 | replace x0 := ((x0.alloc _).alloc _).trans x1 | have x0 := x1); clear x1; obtain ⟨xc, xf, xs⟩ := x0.cells) | (go_at_call 23; refine (specOtherTemp_any b l c m t _).mono ?_; rintro e w1 ⟨rfl, x1⟩; (try clear xc xf xs); (first | replace x0 := x0.trans x1 | replace x0 := (x0.alloc _).trans x1 | replace x0 := (x0.drew).trans x1 | replace x0 := (x0.drew.alloc _).trans x1 | replace x0 := (x0.alloc _).drew.trans x1 | replace x0 := ((x0.alloc _).alloc _).trans x1 | have x0 := x1); clear x1; obtain ⟨xc, xf, xs⟩ := x0.cells) | (go_at_call 24; refine (implOtherTemp_any b l c m t _).mono ?_; rintro e w1 ⟨rfl, x1⟩; (try clear xc xf xs); (first | replace x0 := x0.trans x1 | replace x0 := (x0.alloc _).trans x1 | replace x0 := (x0.drew).trans x1 | replace x0 := (x0.drew.alloc _).trans x1 | replace x0 := (x0.alloc _).drew.trans x1 | replace x0 := ((x0.alloc _).alloc _).trans x1 | have x0 := x1); clear x1; obtain ⟨xc, xf, xs⟩ := x0.cells))
  go_ret
  exact ⟨rfl, ((Ext.refl _).alloc _).trans x0⟩

end Go.Proofs.Ytiodlbgfgeimoaa

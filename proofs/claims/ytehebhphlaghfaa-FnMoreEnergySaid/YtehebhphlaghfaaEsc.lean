/-
  Contracts of valid escapements and their states.
-/
import Derived.Test.YtehebhphlaghfaaNum
namespace Go.Proofs.Ytehebhphlaghfaa
open Go.RowKit
set_option linter.unusedSimpArgs false
set_option linter.unusedVariables false

def vEsc (z u i l m : Int) : Bool := inB z 6 120 && inB u 1 100000 && inB i 0 100000 && inB l 0 1000 && inB m u 100000
def vBt (m n k : Int) : Bool := inB n 0 m && inB k 0 1000000000
def vBeat (z u i l m n k : Int) : Bool := vEsc z u i l m && vBt m n k

/-- What is known of a valid escapement. -/
structure EV (z u i l m : Int) : Prop where
  bz : 6 ≤ z ∧ z ≤ 120
  bu : 1 ≤ u ∧ u ≤ 100000
  bi : 0 ≤ i ∧ i ≤ 100000
  bl : 0 ≤ l ∧ l ≤ 1000
  bm : u ≤ m ∧ m ≤ 100000
theorem vEsc_iff {z u i l m : Int} : vEsc z u i l m = true ↔ EV z u i l m := by
  simp only [vEsc, Bool.and_eq_true, inB_iff]
  exact ⟨fun ⟨⟨⟨⟨a, b⟩, c⟩, d⟩, e⟩ => ⟨a, b, c, d, e⟩, fun ⟨a, b, c, d, e⟩ => ⟨⟨⟨⟨a, b⟩, c⟩, d⟩, e⟩⟩
theorem vBt_iff {m n k : Int} : vBt m n k = true ↔ (0 ≤ n ∧ n ≤ m) ∧ (0 ≤ k ∧ k ≤ 1000000000) := by simp [vBt, inB_iff]

set_option maxHeartbeats 400000 in
theorem toEscapement_any (z u i l m : Int) (w : World) :
    Calls Try.prog 19 #[.agg #[.int .i64 z, .int .i64 u, .int .i64 i, .int .i64 l, .int .i64 m]] w fun e w' => e = .returned (.agg #[.int .i64 z, .int .i64 u, .int .i64 i, .int .i64 l, .int .i64 m]) ∧ Ext w w' := by
  go_enter Try.func19, Try.ntmps19
  go_wp2
  exact bodyPost_ret (v := .agg #[.int .i64 z, .int .i64 u, .int .i64 i, .int .i64 l, .int .i64 m]) (by simp [results, Try.results19, go_sem]) rfl ⟨rfl, (((Ext.refl _).alloc _).alloc _).alloc _⟩

set_option maxHeartbeats 400000 in
theorem toBeat_any (n k : Int) (w : World) :
    Calls Try.prog 22 #[.agg #[.int .i64 n, .int .i64 k]] w fun e w' => e = .returned (.agg #[.int .i64 n, .int .i64 k]) ∧ Ext w w' := by
  go_enter Try.func22, Try.ntmps22
  go_wp2
  exact bodyPost_ret (v := .agg #[.int .i64 n, .int .i64 k]) (by simp [results, Try.results22, go_sem]) rfl ⟨rfl, (((Ext.refl _).alloc _).alloc _).alloc _⟩

set_option maxHeartbeats 400000 in
theorem implValidEscapement_any (z u i l m : Int) (w : World) :
    Calls Try.prog 20 #[.agg #[.int .i64 z, .int .i64 u, .int .i64 i, .int .i64 l, .int .i64 m]] w fun e w' => e = .returned (.bool (vEsc z u i l m)) ∧ Ext w w' := by
  cases h1 : inB z 6 120
  · have e := Lib.hid (show false = vEsc z u i l m by simp [vEsc, h1])
    go_enter Try.func20, Try.ntmps20
    go_wp2_with (first | (go_at_call 58; refine (within_any _ _ _ _).mono ?_; rintro e w1 ⟨rfl, rfl⟩))
    go_ret
    exact ⟨ret_bool e.out, ((Ext.refl _).alloc _)⟩
  · try clear xc
    cases h2 : inB u 1 100000
    · have e := Lib.hid (show false = vEsc z u i l m by simp [vEsc, h2])
      go_enter Try.func20, Try.ntmps20
      go_wp2_with (first | (go_at_call 58; refine (within_any _ _ _ _).mono ?_; rintro e w1 ⟨rfl, rfl⟩))
      go_ret
      exact ⟨ret_bool e.out, ((Ext.refl _).alloc _)⟩
    · try clear xc
      cases h3 : inB i 0 100000
      · have e := Lib.hid (show false = vEsc z u i l m by simp [vEsc, h3])
        go_enter Try.func20, Try.ntmps20
        go_wp2_with (first | (go_at_call 58; refine (within_any _ _ _ _).mono ?_; rintro e w1 ⟨rfl, rfl⟩))
        go_ret
        exact ⟨ret_bool e.out, ((Ext.refl _).alloc _)⟩
      · try clear xc
        cases h4 : inB l 0 1000
        · have e := Lib.hid (show false = vEsc z u i l m by simp [vEsc, h4])
          go_enter Try.func20, Try.ntmps20
          go_wp2_with (first | (go_at_call 58; refine (within_any _ _ _ _).mono ?_; rintro e w1 ⟨rfl, rfl⟩))
          go_ret
          exact ⟨ret_bool e.out, ((Ext.refl _).alloc _)⟩
        · try clear xc
          have e := Lib.hid (show inB m u 100000 = vEsc z u i l m by simp [vEsc, h1, h2, h3, h4])
          go_enter Try.func20, Try.ntmps20
          go_wp2_with (first | (go_at_call 58; refine (within_any _ _ _ _).mono ?_; rintro e w1 ⟨rfl, rfl⟩))
          go_ret
          exact ⟨ret_bool e.out, ((Ext.refl _).alloc _)⟩

set_option maxHeartbeats 400000 in
theorem l11Ok_any (z u i l m : Int) (w : World) :
    Calls Try.prog 57 #[.agg #[.int .i64 z, .int .i64 u, .int .i64 i, .int .i64 l, .int .i64 m]] w fun e w' => e = .returned (.bool (vEsc z u i l m)) ∧ Ext w w' := by
  cases h1 : inB z 6 120
  · have e := Lib.hid (show false = vEsc z u i l m by simp [vEsc, h1])
    go_enter Try.func57, Try.ntmps57
    go_wp2_with (first | (go_at_call 66; refine (l00In_any _ _ _ _).mono ?_; rintro e w1 ⟨rfl, rfl⟩))
    go_ret
    exact ⟨ret_bool e.out, ((Ext.refl _).alloc _)⟩
  · try clear xc
    cases h2 : inB u 1 100000
    · have e := Lib.hid (show false = vEsc z u i l m by simp [vEsc, h2])
      go_enter Try.func57, Try.ntmps57
      go_wp2_with (first | (go_at_call 66; refine (l00In_any _ _ _ _).mono ?_; rintro e w1 ⟨rfl, rfl⟩))
      go_ret
      exact ⟨ret_bool e.out, ((Ext.refl _).alloc _)⟩
    · try clear xc
      cases h3 : inB i 0 100000
      · have e := Lib.hid (show false = vEsc z u i l m by simp [vEsc, h3])
        go_enter Try.func57, Try.ntmps57
        go_wp2_with (first | (go_at_call 66; refine (l00In_any _ _ _ _).mono ?_; rintro e w1 ⟨rfl, rfl⟩))
        go_ret
        exact ⟨ret_bool e.out, ((Ext.refl _).alloc _)⟩
      · try clear xc
        cases h4 : inB l 0 1000
        · have e := Lib.hid (show false = vEsc z u i l m by simp [vEsc, h4])
          go_enter Try.func57, Try.ntmps57
          go_wp2_with (first | (go_at_call 66; refine (l00In_any _ _ _ _).mono ?_; rintro e w1 ⟨rfl, rfl⟩))
          go_ret
          exact ⟨ret_bool e.out, ((Ext.refl _).alloc _)⟩
        · try clear xc
          have e := Lib.hid (show inB m u 100000 = vEsc z u i l m by simp [vEsc, h1, h2, h3, h4])
          go_enter Try.func57, Try.ntmps57
          go_wp2_with (first | (go_at_call 66; refine (l00In_any _ _ _ _).mono ?_; rintro e w1 ⟨rfl, rfl⟩))
          go_ret
          exact ⟨ret_bool e.out, ((Ext.refl _).alloc _)⟩

set_option maxHeartbeats 400000 in
theorem specValidEscapement_any (z u i l m : Int) (w : World) :
    Calls Try.prog 18 #[.agg #[.int .i64 z, .int .i64 u, .int .i64 i, .int .i64 l, .int .i64 m]] w fun e w' => e = .returned (.bool (vEsc z u i l m)) ∧ Ext w w' := by
  go_enter Try.func18, Try.ntmps18
  go_wp2_with (go_at_call 57; refine (l11Ok_any z u i l m _).mono ?_; rintro e w1 ⟨rfl, x1⟩; (try clear xc xf xs); (first | replace x0 := x0.trans x1 | replace x0 := (x0.alloc _).trans x1 | replace x0 := (x0.drew).trans x1 | replace x0 := ((x0.alloc _).alloc _).trans x1 | have x0 := x1); clear x1; obtain ⟨xc, xf, xs⟩ := x0.cells)
  go_ret
  exact ⟨rfl, ((Ext.refl _).alloc _).trans x0⟩

set_option maxHeartbeats 400000 in
theorem validBeat_any (z u i l m n k : Int) (w : World) :
    Calls Try.prog 60 #[.agg #[.int .i64 z, .int .i64 u, .int .i64 i, .int .i64 l, .int .i64 m], .agg #[.int .i64 n, .int .i64 k]] w fun e w' => e = .returned (.bool (vBt m n k)) ∧ Ext w w' := by
  cases h1 : inB n 0 m
  · have e := Lib.hid (show false = vBt m n k by simp [vBt, h1])
    go_enter Try.func60, Try.ntmps60
    go_wp2_with (first | (go_at_call 58; refine (within_any _ _ _ _).mono ?_; rintro e w1 ⟨rfl, rfl⟩))
    go_ret
    exact ⟨ret_bool e.out, (((Ext.refl _).alloc _).alloc _)⟩
  · try clear xc
    have e := Lib.hid (show inB k 0 1000000000 = vBt m n k by simp [vBt, h1])
    go_enter Try.func60, Try.ntmps60
    go_wp2_with (first | (go_at_call 58; refine (within_any _ _ _ _).mono ?_; rintro e w1 ⟨rfl, rfl⟩))
    go_ret
    exact ⟨ret_bool e.out, (((Ext.refl _).alloc _).alloc _)⟩

set_option maxHeartbeats 400000 in
theorem implValidBeat_any (z u i l m n k : Int) (w : World) :
    Calls Try.prog 23 #[.agg #[.int .i64 z, .int .i64 u, .int .i64 i, .int .i64 l, .int .i64 m], .agg #[.int .i64 n, .int .i64 k]] w fun e w' => e = .returned (.bool (vBeat z u i l m n k)) ∧ Ext w w' := by
  cases h1 : vEsc z u i l m
  · have e := Lib.hid (show false = vBeat z u i l m n k by simp [vBeat, h1])
    go_enter Try.func23, Try.ntmps23
    go_wp2_with (first | (go_at_call 20; refine (implValidEscapement_any z u i l m _).mono ?_; rintro e w1 ⟨rfl, x1⟩; (try clear xc xf xs); (first | replace x0 := x0.trans x1 | replace x0 := (x0.alloc _).trans x1 | replace x0 := (x0.drew).trans x1 | replace x0 := ((x0.alloc _).alloc _).trans x1 | have x0 := x1); clear x1; obtain ⟨xc, xf, xs⟩ := x0.cells) | (go_at_call 60; refine (validBeat_any z u i l m n k _).mono ?_; rintro e w1 ⟨rfl, x1⟩; (try clear xc xf xs); (first | replace x0 := x0.trans x1 | replace x0 := (x0.alloc _).trans x1 | replace x0 := (x0.drew).trans x1 | replace x0 := ((x0.alloc _).alloc _).trans x1 | have x0 := x1); clear x1; obtain ⟨xc, xf, xs⟩ := x0.cells))
    go_ret
    exact ⟨ret_bool e.out, (((Ext.refl _).alloc _).alloc _).trans x0⟩
  · try clear xc
    have e := Lib.hid (show vBt m n k = vBeat z u i l m n k by simp [vBeat, h1])
    go_enter Try.func23, Try.ntmps23
    go_wp2_with (first | (go_at_call 20; refine (implValidEscapement_any z u i l m _).mono ?_; rintro e w1 ⟨rfl, x1⟩; (try clear xc xf xs); (first | replace x0 := x0.trans x1 | replace x0 := (x0.alloc _).trans x1 | replace x0 := (x0.drew).trans x1 | replace x0 := ((x0.alloc _).alloc _).trans x1 | have x0 := x1); clear x1; obtain ⟨xc, xf, xs⟩ := x0.cells) | (go_at_call 60; refine (validBeat_any z u i l m n k _).mono ?_; rintro e w1 ⟨rfl, x1⟩; (try clear xc xf xs); (first | replace x0 := x0.trans x1 | replace x0 := (x0.alloc _).trans x1 | replace x0 := (x0.drew).trans x1 | replace x0 := ((x0.alloc _).alloc _).trans x1 | have x0 := x1); clear x1; obtain ⟨xc, xf, xs⟩ := x0.cells))
    go_ret
    exact ⟨ret_bool e.out, (((Ext.refl _).alloc _).alloc _).trans x0⟩

theorem vBeat_parts (z u i l m n k : Int) : vBeat z u i l m n k = (vEsc z u i l m && (inB n 0 m && inB k 0 1000000000)) := rfl
set_option maxHeartbeats 400000 in
theorem l11Beat_any (z u i l m n k : Int) (w : World) :
    Calls Try.prog 59 #[.agg #[.int .i64 z, .int .i64 u, .int .i64 i, .int .i64 l, .int .i64 m], .agg #[.int .i64 n, .int .i64 k]] w fun e w' => e = .returned (.bool (vBeat z u i l m n k)) ∧ Ext w w' := by
  cases h1 : vEsc z u i l m
  · have e := Lib.hid (show false = vBeat z u i l m n k by simp [vBeat, vBt, h1])
    go_enter Try.func59, Try.ntmps59
    go_wp2_with (first | (go_at_call 57; refine (l11Ok_any z u i l m _).mono ?_; rintro e w1 ⟨rfl, x1⟩; (try clear xc xf xs); (first | replace x0 := x0.trans x1 | replace x0 := (x0.alloc _).trans x1 | replace x0 := (x0.drew).trans x1 | replace x0 := ((x0.alloc _).alloc _).trans x1 | have x0 := x1); clear x1; obtain ⟨xc, xf, xs⟩ := x0.cells) | (go_at_call 66; refine (l00In_any _ _ _ _).mono ?_; rintro e w1 ⟨rfl, rfl⟩))
    go_ret
    exact ⟨ret_bool e.out, (((Ext.refl _).alloc _).alloc _).trans x0⟩
  · try clear xc
    cases h2 : inB n 0 m
    · have e := Lib.hid (show false = vBeat z u i l m n k by simp [vBeat, vBt, h2])
      go_enter Try.func59, Try.ntmps59
      go_wp2_with (first | (go_at_call 57; refine (l11Ok_any z u i l m _).mono ?_; rintro e w1 ⟨rfl, x1⟩; (try clear xc xf xs); (first | replace x0 := x0.trans x1 | replace x0 := (x0.alloc _).trans x1 | replace x0 := (x0.drew).trans x1 | replace x0 := ((x0.alloc _).alloc _).trans x1 | have x0 := x1); clear x1; obtain ⟨xc, xf, xs⟩ := x0.cells) | (go_at_call 66; refine (l00In_any _ _ _ _).mono ?_; rintro e w1 ⟨rfl, rfl⟩))
      go_ret
      exact ⟨ret_bool e.out, (((Ext.refl _).alloc _).alloc _).trans x0⟩
    · try clear xc
      have e := Lib.hid (show inB k 0 1000000000 = vBeat z u i l m n k by simp [vBeat, vBt, h1, h2])
      go_enter Try.func59, Try.ntmps59
      go_wp2_with (first | (go_at_call 57; refine (l11Ok_any z u i l m _).mono ?_; rintro e w1 ⟨rfl, x1⟩; (try clear xc xf xs); (first | replace x0 := x0.trans x1 | replace x0 := (x0.alloc _).trans x1 | replace x0 := (x0.drew).trans x1 | replace x0 := ((x0.alloc _).alloc _).trans x1 | have x0 := x1); clear x1; obtain ⟨xc, xf, xs⟩ := x0.cells) | (go_at_call 66; refine (l00In_any _ _ _ _).mono ?_; rintro e w1 ⟨rfl, rfl⟩))
      go_ret
      exact ⟨ret_bool e.out, (((Ext.refl _).alloc _).alloc _).trans x0⟩

set_option maxHeartbeats 400000 in
theorem specValidBeat_any (z u i l m n k : Int) (w : World) :
    Calls Try.prog 21 #[.agg #[.int .i64 z, .int .i64 u, .int .i64 i, .int .i64 l, .int .i64 m], .agg #[.int .i64 n, .int .i64 k]] w fun e w' => e = .returned (.bool (vBeat z u i l m n k)) ∧ Ext w w' := by
  go_enter Try.func21, Try.ntmps21
  go_wp2_with (go_at_call 59; refine (l11Beat_any z u i l m n k _).mono ?_; rintro e w1 ⟨rfl, x1⟩; (try clear xc xf xs); (first | replace x0 := x0.trans x1 | replace x0 := (x0.alloc _).trans x1 | replace x0 := (x0.drew).trans x1 | replace x0 := ((x0.alloc _).alloc _).trans x1 | have x0 := x1); clear x1; obtain ⟨xc, xf, xs⟩ := x0.cells)
  go_ret
  exact ⟨rfl, (((Ext.refl _).alloc _).alloc _).trans x0⟩

set_option maxHeartbeats 400000 in
theorem isTorque_any (q : Int) (w : World) : Calls Try.prog 64 #[.int .i64 q] w fun e w' => e = .returned (.bool (inB q 0 1000)) ∧ w = w' := by
  go_enter Try.func64, Try.ntmps64
  go_wp2_with (go_at_call 58; refine (within_any _ _ _ _).mono ?_; rintro e w1 ⟨rfl, rfl⟩)
  go_ret
  exact ⟨rfl, rfl⟩

end Go.Proofs.Ytehebhphlaghfaa

/-
  Contracts of the greatest addendum without interference, and the walk of its law.
-/
import Derived.Test.YtbhhiodbhlhpmaaReach
import Derived.Test.YtbhhiodbhlhpmaaMatch
namespace Go.Proofs.Ytbhhiodbhlhpmaa
open Go.RowKit
set_option linter.unusedSimpArgs false
set_option linter.unusedVariables false

/-- With the addendum k on both sides neither profile reaches beyond. -/
def gaP (t m s c h t9 : Int) (k : Int) : Bool := !bey t m k s c h t9 m && !bey t9 m k s c h t m
/-- The greatest number from n down to 1 that answers yes; 0 if there is none. -/
def gaF (p : Int → Bool) : Nat → Int
  | 0 => 0
  | n + 1 => if p (n + 1) then n + 1 else gaF p n
def gaK (t m a s c h t9 m9 a9 s9 c9 h9 : Int) : Int := if matC t m a s c h t9 m9 a9 s9 c9 h9 = 0 then gaF (gaP t m s c h t9) 20 else 0
def gaC (t m a s c h t9 m9 a9 s9 c9 h9 : Int) : Int := if matC t m a s c h t9 m9 a9 s9 c9 h9 = 0 then (if gaF (gaP t m s c h t9) 20 = 0 then 3 else 0) else matC t m a s c h t9 m9 a9 s9 c9 h9
theorem gaF_yes {p : Int → Bool} {n : Nat} (h : p (n + 1) = true) : gaF p (n + 1) = n + 1 := by simp [gaF, h]
theorem gaF_no {p : Int → Bool} {n : Nat} (h : p (n + 1) = false) : gaF p (n + 1) = gaF p n := by simp [gaF, h]

theorem implGreatest_no (t m a s c h t9 m9 a9 s9 c9 h9 : Int) (w : World) (hc : matC t m a s c h t9 m9 a9 s9 c9 h9 ≠ 0) :
    Calls Try.prog 42 #[.agg #[.int .i64 t, .int .i64 m, .int .i64 a, .int .i64 s, .int .i64 c, .int .i64 h], .agg #[.int .i64 t9, .int .i64 m9, .int .i64 a9, .int .i64 s9, .int .i64 c9, .int .i64 h9]] w fun e w' => e = .returned (.tuple #[.int .i64 (gaK t m a s c h t9 m9 a9 s9 c9 h9), .int .i64 (gaC t m a s c h t9 m9 a9 s9 c9 h9)]) ∧ Ext w w' := by
  have f0 : (matC t m a s c h t9 m9 a9 s9 c9 h9 != 0) = true := by simpa using hc
  have e1 := Lib.hid (show 0 = gaK t m a s c h t9 m9 a9 s9 c9 h9 by simp [gaK, hc])
  have e2 := Lib.hid (show matC t m a s c h t9 m9 a9 s9 c9 h9 = gaC t m a s c h t9 m9 a9 s9 c9 h9 by simp [gaC, hc])
  clear hc
  go_enter Try.func42, Try.ntmps42
  go_wp2_with (go_at_call 68; refine (matching_any t m a s c h t9 m9 a9 s9 c9 h9 _).mono ?_; rintro e w1 ⟨rfl, x1⟩; (try clear xc xf xs); (first | replace x0 := x0.trans x1 | replace x0 := (x0.alloc _).trans x1 | replace x0 := (x0.drew).trans x1 | replace x0 := ((x0.alloc _).alloc _).trans x1 | have x0 := x1); clear x1; obtain ⟨xc, xf, xs⟩ := x0.cells)
  go_ret2
  exact ⟨ret2 e1.out e2.out, (((Ext.refl _).alloc _).alloc _).trans x0⟩

theorem specGreatest_no (t m a s c h t9 m9 a9 s9 c9 h9 : Int) (w : World) (hc : matC t m a s c h t9 m9 a9 s9 c9 h9 ≠ 0) :
    Calls Try.prog 41 #[.agg #[.int .i64 t, .int .i64 m, .int .i64 a, .int .i64 s, .int .i64 c, .int .i64 h], .agg #[.int .i64 t9, .int .i64 m9, .int .i64 a9, .int .i64 s9, .int .i64 c9, .int .i64 h9]] w fun e w' => e = .returned (.tuple #[.int .i64 (gaK t m a s c h t9 m9 a9 s9 c9 h9), .int .i64 (gaC t m a s c h t9 m9 a9 s9 c9 h9)]) ∧ Ext w w' := by
  have f0 : (matC t m a s c h t9 m9 a9 s9 c9 h9 != 0) = true := by simpa using hc
  have e1 := Lib.hid (show 0 = gaK t m a s c h t9 m9 a9 s9 c9 h9 by simp [gaK, hc])
  have e2 := Lib.hid (show matC t m a s c h t9 m9 a9 s9 c9 h9 = gaC t m a s c h t9 m9 a9 s9 c9 h9 by simp [gaC, hc])
  clear hc
  go_enter Try.func41, Try.ntmps41
  go_wp2_with (go_at_call 66; refine (l10Two_any t m a s c h t9 m9 a9 s9 c9 h9 _).mono ?_; rintro e w1 ⟨rfl, x1⟩; (try clear xc xf xs); (first | replace x0 := x0.trans x1 | replace x0 := (x0.alloc _).trans x1 | replace x0 := (x0.drew).trans x1 | replace x0 := ((x0.alloc _).alloc _).trans x1 | have x0 := x1); clear x1; obtain ⟨xc, xf, xs⟩ := x0.cells)
  go_ret2
  exact ⟨ret2 e1.out e2.out, (((Ext.refl _).alloc _).alloc _).trans x0⟩

set_option maxHeartbeats 4000000 in
theorem specGreatest_yes (t m a s c h t9 m9 a9 s9 c9 h9 : Int) (w : World) (hc : matC t m a s c h t9 m9 a9 s9 c9 h9 = 0) :
    Calls Try.prog 41 #[.agg #[.int .i64 t, .int .i64 m, .int .i64 a, .int .i64 s, .int .i64 c, .int .i64 h], .agg #[.int .i64 t9, .int .i64 m9, .int .i64 a9, .int .i64 s9, .int .i64 c9, .int .i64 h9]] w fun e w' => e = .returned (.tuple #[.int .i64 (gaK t m a s c h t9 m9 a9 s9 c9 h9), .int .i64 (gaC t m a s c h t9 m9 a9 s9 c9 h9)]) ∧ Ext w w' := by
  obtain ⟨v1, v2, rfl, rfl, rfl, rfl⟩ := matC_ok hc
  have pv := vProf_iff.1 v1
  have pw := vProf_iff.1 v2
  have r1 := pv.bt; have r2 := pv.bm; have r4 := pv.bs; have r5 := pv.bc; have r6 := pv.bh; have r7 := pw.bt
  clear pv pw v1 v2
  have f0 : (matC t m a s c h t9 m a9 s c h != 0) = false := by rw [hc]; rfl
  have e1 := Lib.hid (show gaK t m a s c h t9 m a9 s c h = gaF (gaP t m s c h t9) 20 by simp [gaK, hc])
  have e2 := Lib.hid (show gaC t m a s c h t9 m a9 s c h = if gaF (gaP t m s c h t9) 20 = 0 then 3 else 0 by simp [gaC, hc])
  have H := Lib.hid hc
  clear hc
  go_enter Try.func41, Try.ntmps41
  go_wp2_with fail
  generalize hW : ((w.alloc (Obj.cells #[.int .i64 t, .int .i64 m, .int .i64 a, .int .i64 s, .int .i64 c, .int .i64 h] 35)).alloc (Obj.cells #[.int .i64 t9, .int .i64 m, .int .i64 a9, .int .i64 s, .int .i64 c, .int .i64 h] 35)) = W
  have hE : Ext w W := by rw [← hW]; exact (((Ext.refl _).alloc _).alloc _)
  have hl0 : w.heap.size < W.heap.size := by rw [← hW]; simp; try omega
  have hl1 : w.heap.size + 1 < W.heap.size := by rw [← hW]; simp; try omega
  have f0_0 : W.cell? ⟨w.heap.size, 0, none⟩ = some (.int .i64 t) := by rw [← hW]; simp
  have f0_1 : W.cell? ⟨w.heap.size, 1, none⟩ = some (.int .i64 m) := by rw [← hW]; simp
  have f0_2 : W.cell? ⟨w.heap.size, 2, none⟩ = some (.int .i64 a) := by rw [← hW]; simp
  have f0_3 : W.cell? ⟨w.heap.size, 3, none⟩ = some (.int .i64 s) := by rw [← hW]; simp
  have f0_4 : W.cell? ⟨w.heap.size, 4, none⟩ = some (.int .i64 c) := by rw [← hW]; simp
  have f0_5 : W.cell? ⟨w.heap.size, 5, none⟩ = some (.int .i64 h) := by rw [← hW]; simp
  have f1_0 : W.cell? ⟨w.heap.size + 1, 0, none⟩ = some (.int .i64 t9) := by rw [← hW]; simp
  have f1_1 : W.cell? ⟨w.heap.size + 1, 1, none⟩ = some (.int .i64 m) := by rw [← hW]; simp
  have f1_2 : W.cell? ⟨w.heap.size + 1, 2, none⟩ = some (.int .i64 a9) := by rw [← hW]; simp
  have f1_3 : W.cell? ⟨w.heap.size + 1, 3, none⟩ = some (.int .i64 s) := by rw [← hW]; simp
  have f1_4 : W.cell? ⟨w.heap.size + 1, 4, none⟩ = some (.int .i64 c) := by rw [← hW]; simp
  have f1_5 : W.cell? ⟨w.heap.size + 1, 5, none⟩ = some (.int .i64 h) := by rw [← hW]; simp
  clear hW
  have x0 := Ext.refl W
  go_wp2_with (go_at_call 66; refine (l10Two_any t m a s c h t9 m a9 s c h _).mono ?_; rintro e w1 ⟨rfl, x1⟩; (try clear xc xf xs); obtain ⟨yc, yf, ys⟩ := x1.cells; (first | replace x0 := x0.trans x1 | replace x0 := (x0.alloc _).trans x1 | replace x0 := (x0.drew).trans x1 | replace x0 := ((x0.alloc _).alloc _).trans x1 | have x0 := x1); clear x1; obtain ⟨xc, xf, xs⟩ := x0.cells)
  go_loopw [7] (fun kk wr => ∃ n : Nat, n ≤ 20 ∧ kk = .int .i64 n ∧ Ext W wr ∧ Hid (gaF (gaP t m s c h t9) 20 = gaF (gaP t m s c h t9) n)) (fun kk _ => (intOf kk).toNat)
  case atStart => exact ⟨20, by omega, rfl, x0, rfl⟩
  case round =>
    clear x0 xc xf xs
    obtain ⟨n, hn, rfl, x0, hh⟩ := hrel
    obtain ⟨xc, xf, xs⟩ := x0.cells
    have hw0 : w.heap.size < wr.heap.size := by omega
    have hw1 : w.heap.size + 1 < wr.heap.size := by omega
    rcases n with _ | n
    · have d1 := Lib.hid (show 0 = gaK t m a s c h t9 m a9 s c h by rw [e1.out, hh.out]; rfl)
      have d2 := Lib.hid (show 3 = gaC t m a s c h t9 m a9 s c h by rw [e2.out, hh.out]; rfl)
      go_wp2
      go_ret2
      exact ⟨ret2 d1.out d2.out, hE.trans x0⟩
    · rw [show ((n + 1 : Nat) : Int) = (n : Int) + 1 by omega]
      cases hb : bey t m (n + 1) s c h t9 m
      · cases hb9 : bey t9 m (n + 1) s c h t m
        · have hp : gaP t m s c h t9 (n + 1) = true := by simp [gaP, hb, hb9]
          have d1 := Lib.hid (show (n : Int) + 1 = gaK t m a s c h t9 m a9 s c h by rw [e1.out, hh.out, gaF_yes hp])
          have d2 := Lib.hid (show 0 = gaC t m a s c h t9 m a9 s c h by rw [e2.out, hh.out, gaF_yes hp, if_neg (by omega)])
          clear hp
          go_wp2_with fail
          (refine (l10Beyond_any t m (n + 1) s c h t9 m (n + 1) s c h _ r1 r2 (by omega) r4 r5 r6 r7 r2).mono ?_; rintro e w1 ⟨rfl, x1⟩; (try clear xc xf xs); obtain ⟨yc, yf, ys⟩ := x1.cells; (first | replace x0 := x0.trans x1 | replace x0 := (x0.alloc _).trans x1 | replace x0 := (x0.drew).trans x1 | replace x0 := ((x0.alloc _).alloc _).trans x1 | have x0 := x1); clear x1; obtain ⟨xc, xf, xs⟩ := x0.cells)
          go_wp2_with fail
          (refine (l10Beyond_any t9 m (n + 1) s c h t m (n + 1) s c h _ r7 r2 (by omega) r4 r5 r6 r1 r2).mono ?_; rintro e w1 ⟨rfl, x1⟩; (try clear xc xf xs); obtain ⟨yc, yf, ys⟩ := x1.cells; (first | replace x0 := x0.trans x1 | replace x0 := (x0.alloc _).trans x1 | replace x0 := (x0.drew).trans x1 | replace x0 := ((x0.alloc _).alloc _).trans x1 | have x0 := x1); clear x1; obtain ⟨xc, xf, xs⟩ := x0.cells)
          go_wp2_with fail
          go_ret2
          exact ⟨ret2 d1.out d2.out, hE.trans x0⟩
        · have hp := Lib.hid (gaF_no (p := gaP t m s c h t9) (n := n) (by simp [gaP, hb9]))
          go_wp2_with fail
          (refine (l10Beyond_any t m (n + 1) s c h t9 m (n + 1) s c h _ r1 r2 (by omega) r4 r5 r6 r7 r2).mono ?_; rintro e w1 ⟨rfl, x1⟩; (try clear xc xf xs); obtain ⟨yc, yf, ys⟩ := x1.cells; (first | replace x0 := x0.trans x1 | replace x0 := (x0.alloc _).trans x1 | replace x0 := (x0.drew).trans x1 | replace x0 := ((x0.alloc _).alloc _).trans x1 | have x0 := x1); clear x1; obtain ⟨xc, xf, xs⟩ := x0.cells)
          go_wp2_with fail
          (refine (l10Beyond_any t9 m (n + 1) s c h t m (n + 1) s c h _ r7 r2 (by omega) r4 r5 r6 r1 r2).mono ?_; rintro e w1 ⟨rfl, x1⟩; (try clear xc xf xs); obtain ⟨yc, yf, ys⟩ := x1.cells; (first | replace x0 := x0.trans x1 | replace x0 := (x0.alloc _).trans x1 | replace x0 := (x0.drew).trans x1 | replace x0 := ((x0.alloc _).alloc _).trans x1 | have x0 := x1); clear x1; obtain ⟨xc, xf, xs⟩ := x0.cells)
          go_wp2_with fail
          go_roundw
          case rel => exact ⟨n, by omega, by go_num, x0, hh.out.trans hp.out⟩
          case measure => simp [intOf]
      · have hp := Lib.hid (gaF_no (p := gaP t m s c h t9) (n := n) (by simp [gaP, hb]))
        go_wp2_with fail
        (refine (l10Beyond_any t m (n + 1) s c h t9 m (n + 1) s c h _ r1 r2 (by omega) r4 r5 r6 r7 r2).mono ?_; rintro e w1 ⟨rfl, x1⟩; (try clear xc xf xs); obtain ⟨yc, yf, ys⟩ := x1.cells; (first | replace x0 := x0.trans x1 | replace x0 := (x0.alloc _).trans x1 | replace x0 := (x0.drew).trans x1 | replace x0 := ((x0.alloc _).alloc _).trans x1 | have x0 := x1); clear x1; obtain ⟨xc, xf, xs⟩ := x0.cells)
        go_wp2_with fail
        go_roundw
        case rel => exact ⟨n, by omega, by go_num, x0, hh.out.trans hp.out⟩
        case measure => simp [intOf]

set_option maxHeartbeats 4000000 in
theorem implGreatest_yes (t m a s c h t9 m9 a9 s9 c9 h9 : Int) (w : World) (hc : matC t m a s c h t9 m9 a9 s9 c9 h9 = 0) :
    Calls Try.prog 42 #[.agg #[.int .i64 t, .int .i64 m, .int .i64 a, .int .i64 s, .int .i64 c, .int .i64 h], .agg #[.int .i64 t9, .int .i64 m9, .int .i64 a9, .int .i64 s9, .int .i64 c9, .int .i64 h9]] w fun e w' => e = .returned (.tuple #[.int .i64 (gaK t m a s c h t9 m9 a9 s9 c9 h9), .int .i64 (gaC t m a s c h t9 m9 a9 s9 c9 h9)]) ∧ Ext w w' := by
  obtain ⟨v1, v2, rfl, rfl, rfl, rfl⟩ := matC_ok hc
  have pv := vProf_iff.1 v1
  have pw := vProf_iff.1 v2
  have r1 := pv.bt; have r2 := pv.bm; have r4 := pv.bs; have r5 := pv.bc; have r6 := pv.bh; have r7 := pw.bt
  clear pv pw v1 v2
  have f0 : (matC t m a s c h t9 m a9 s c h != 0) = false := by rw [hc]; rfl
  have e1 := Lib.hid (show gaK t m a s c h t9 m a9 s c h = gaF (gaP t m s c h t9) 20 by simp [gaK, hc])
  have e2 := Lib.hid (show gaC t m a s c h t9 m a9 s c h = if gaF (gaP t m s c h t9) 20 = 0 then 3 else 0 by simp [gaC, hc])
  have H := Lib.hid hc
  clear hc
  go_enter Try.func42, Try.ntmps42
  go_wp2_with fail
  generalize hW : ((w.alloc (Obj.cells #[.int .i64 t, .int .i64 m, .int .i64 a, .int .i64 s, .int .i64 c, .int .i64 h] 35)).alloc (Obj.cells #[.int .i64 t9, .int .i64 m, .int .i64 a9, .int .i64 s, .int .i64 c, .int .i64 h] 35)) = W
  have hE : Ext w W := by rw [← hW]; exact (((Ext.refl _).alloc _).alloc _)
  have hl0 : w.heap.size < W.heap.size := by rw [← hW]; simp; try omega
  have hl1 : w.heap.size + 1 < W.heap.size := by rw [← hW]; simp; try omega
  have f0_0 : W.cell? ⟨w.heap.size, 0, none⟩ = some (.int .i64 t) := by rw [← hW]; simp
  have f0_1 : W.cell? ⟨w.heap.size, 1, none⟩ = some (.int .i64 m) := by rw [← hW]; simp
  have f0_2 : W.cell? ⟨w.heap.size, 2, none⟩ = some (.int .i64 a) := by rw [← hW]; simp
  have f0_3 : W.cell? ⟨w.heap.size, 3, none⟩ = some (.int .i64 s) := by rw [← hW]; simp
  have f0_4 : W.cell? ⟨w.heap.size, 4, none⟩ = some (.int .i64 c) := by rw [← hW]; simp
  have f0_5 : W.cell? ⟨w.heap.size, 5, none⟩ = some (.int .i64 h) := by rw [← hW]; simp
  have f1_0 : W.cell? ⟨w.heap.size + 1, 0, none⟩ = some (.int .i64 t9) := by rw [← hW]; simp
  have f1_1 : W.cell? ⟨w.heap.size + 1, 1, none⟩ = some (.int .i64 m) := by rw [← hW]; simp
  have f1_2 : W.cell? ⟨w.heap.size + 1, 2, none⟩ = some (.int .i64 a9) := by rw [← hW]; simp
  have f1_3 : W.cell? ⟨w.heap.size + 1, 3, none⟩ = some (.int .i64 s) := by rw [← hW]; simp
  have f1_4 : W.cell? ⟨w.heap.size + 1, 4, none⟩ = some (.int .i64 c) := by rw [← hW]; simp
  have f1_5 : W.cell? ⟨w.heap.size + 1, 5, none⟩ = some (.int .i64 h) := by rw [← hW]; simp
  have z0 : W.frozen? ⟨w.heap.size, 2, none⟩ = false := by rw [← hW]; simp
  have z1 : W.frozen? ⟨w.heap.size + 1, 2, none⟩ = false := by rw [← hW]; simp
  clear hW
  have x0 := Ext.refl W
  go_wp2_with (go_at_call 68; refine (matching_any t m a s c h t9 m a9 s c h _).mono ?_; rintro e w1 ⟨rfl, x1⟩; (try clear xc xf xs); (first | replace x0 := x0.trans x1 | replace x0 := (x0.alloc _).trans x1 | replace x0 := (x0.drew).trans x1 | replace x0 := ((x0.alloc _).alloc _).trans x1 | have x0 := x1); clear x1; obtain ⟨xc, xf, xs⟩ := x0.cells)
  go_loopw [7] (fun kk wr => ∃ (n : Nat) (u v : Int), n ≤ 20 ∧ kk = .int .i64 n ∧ Ext w wr ∧ w.heap.size < wr.heap.size ∧ w.heap.size + 1 < wr.heap.size ∧ wr.frozen? ⟨w.heap.size, 2, none⟩ = false ∧ wr.frozen? ⟨w.heap.size + 1, 2, none⟩ = false ∧ wr.cell? ⟨w.heap.size, 0, none⟩ = some (.int .i64 t) ∧ wr.cell? ⟨w.heap.size, 1, none⟩ = some (.int .i64 m) ∧ wr.cell? ⟨w.heap.size, 2, none⟩ = some (.int .i64 u) ∧ wr.cell? ⟨w.heap.size, 3, none⟩ = some (.int .i64 s) ∧ wr.cell? ⟨w.heap.size, 4, none⟩ = some (.int .i64 c) ∧ wr.cell? ⟨w.heap.size, 5, none⟩ = some (.int .i64 h) ∧ wr.cell? ⟨w.heap.size + 1, 0, none⟩ = some (.int .i64 t9) ∧ wr.cell? ⟨w.heap.size + 1, 1, none⟩ = some (.int .i64 m) ∧ wr.cell? ⟨w.heap.size + 1, 2, none⟩ = some (.int .i64 v) ∧ wr.cell? ⟨w.heap.size + 1, 3, none⟩ = some (.int .i64 s) ∧ wr.cell? ⟨w.heap.size + 1, 4, none⟩ = some (.int .i64 c) ∧ wr.cell? ⟨w.heap.size + 1, 5, none⟩ = some (.int .i64 h) ∧ Hid (gaF (gaP t m s c h t9) 20 = gaF (gaP t m s c h t9) n)) (fun kk _ => (intOf kk).toNat)
  case atStart => exact ⟨20, a, a9, by omega, rfl, hE.trans x0, by omega, by omega, (xf _ _ hl0).trans z0, (xf _ _ hl1).trans z1, (xc _ _ hl0).trans f0_0, (xc _ _ hl0).trans f0_1, (xc _ _ hl0).trans f0_2, (xc _ _ hl0).trans f0_3, (xc _ _ hl0).trans f0_4, (xc _ _ hl0).trans f0_5, (xc _ _ hl1).trans f1_0, (xc _ _ hl1).trans f1_1, (xc _ _ hl1).trans f1_2, (xc _ _ hl1).trans f1_3, (xc _ _ hl1).trans f1_4, (xc _ _ hl1).trans f1_5, rfl⟩
  case round =>
    clear x0 xc xf xs z0 z1 hl0 hl1 hE f0_0 f0_1 f0_2 f0_3 f0_4 f0_5 f1_0 f1_1 f1_2 f1_3 f1_4 f1_5
    obtain ⟨n, u, v, hn, rfl, xw, hl0, hl1, z0, z1, c0_0, c0_1, c0_2, c0_3, c0_4, c0_5, c1_0, c1_1, c1_2, c1_3, c1_4, c1_5, hh⟩ := hrel
    rcases n with _ | n
    · have d1 := Lib.hid (show 0 = gaK t m a s c h t9 m a9 s c h by rw [e1.out, hh.out]; rfl)
      have d2 := Lib.hid (show 3 = gaC t m a s c h t9 m a9 s c h by rw [e2.out, hh.out]; rfl)
      go_wp2
      go_ret2
      exact ⟨ret2 d1.out d2.out, xw⟩
    · rw [show ((n + 1 : Nat) : Int) = (n : Int) + 1 by omega]
      go_wp2_with fail
      generalize hV : (wr.setCell ⟨w.heap.size, 2, none⟩ (.int .i64 ((n : Int) + 1))).setCell ⟨w.heap.size + 1, 2, none⟩ (.int .i64 ((n : Int) + 1)) = V
      have xV : Ext w V := by rw [← hV]; exact (xw.setCell (Nat.le_refl _) _).setCell (Nat.le_succ _) _
      have kl0 : w.heap.size < V.heap.size := by rw [← hV]; simp; omega
      have kl1 : w.heap.size + 1 < V.heap.size := by rw [← hV]; simp; omega
      have y0 : V.frozen? ⟨w.heap.size, 2, none⟩ = false := by rw [← hV]; clear hV; simp [go_sem, *]
      have y1 : V.frozen? ⟨w.heap.size + 1, 2, none⟩ = false := by rw [← hV]; clear hV; simp [go_sem, *]
      have g0_0 : V.cell? ⟨w.heap.size, 0, none⟩ = some (.int .i64 t) := by rw [← hV]; clear hV; simp [go_sem, *]
      have g0_1 : V.cell? ⟨w.heap.size, 1, none⟩ = some (.int .i64 m) := by rw [← hV]; clear hV; simp [go_sem, *]
      have g0_2 : V.cell? ⟨w.heap.size, 2, none⟩ = some (.int .i64 ((n : Int) + 1)) := by rw [← hV]; clear hV; simp [go_sem, *]
      have g0_3 : V.cell? ⟨w.heap.size, 3, none⟩ = some (.int .i64 s) := by rw [← hV]; clear hV; simp [go_sem, *]
      have g0_4 : V.cell? ⟨w.heap.size, 4, none⟩ = some (.int .i64 c) := by rw [← hV]; clear hV; simp [go_sem, *]
      have g0_5 : V.cell? ⟨w.heap.size, 5, none⟩ = some (.int .i64 h) := by rw [← hV]; clear hV; simp [go_sem, *]
      have g1_0 : V.cell? ⟨w.heap.size + 1, 0, none⟩ = some (.int .i64 t9) := by rw [← hV]; clear hV; simp [go_sem, *]
      have g1_1 : V.cell? ⟨w.heap.size + 1, 1, none⟩ = some (.int .i64 m) := by rw [← hV]; clear hV; simp [go_sem, *]
      have g1_2 : V.cell? ⟨w.heap.size + 1, 2, none⟩ = some (.int .i64 ((n : Int) + 1)) := by rw [← hV]; clear hV; simp [go_sem, *]
      have g1_3 : V.cell? ⟨w.heap.size + 1, 3, none⟩ = some (.int .i64 s) := by rw [← hV]; clear hV; simp [go_sem, *]
      have g1_4 : V.cell? ⟨w.heap.size + 1, 4, none⟩ = some (.int .i64 c) := by rw [← hV]; clear hV; simp [go_sem, *]
      have g1_5 : V.cell? ⟨w.heap.size + 1, 5, none⟩ = some (.int .i64 h) := by rw [← hV]; clear hV; simp [go_sem, *]
      clear hV z0 z1 hl0 hl1 xw c0_0 c0_1 c0_2 c0_3 c0_4 c0_5 c1_0 c1_1 c1_2 c1_3 c1_4 c1_5
      have x0 := Ext.refl V
      cases hb : bey t m (n + 1) s c h t9 m
      · cases hb9 : bey t9 m (n + 1) s c h t m
        · have hp : gaP t m s c h t9 (n + 1) = true := by simp [gaP, hb, hb9]
          have d1 := Lib.hid (show (n : Int) + 1 = gaK t m a s c h t9 m a9 s c h by rw [e1.out, hh.out, gaF_yes hp])
          have d2 := Lib.hid (show 0 = gaC t m a s c h t9 m a9 s c h by rw [e2.out, hh.out, gaF_yes hp, if_neg (by omega)])
          clear hp
          (refine (reaches_any t m (n + 1) s c h t9 m (n + 1) s c h _ r1 r2 (by omega) r4 r5 r6 r7 r2).mono ?_; rintro e w1 ⟨rfl, x1⟩; (try clear xc xf xs); (first | replace x0 := x0.trans x1 | replace x0 := (x0.alloc _).trans x1 | replace x0 := (x0.drew).trans x1 | replace x0 := ((x0.alloc _).alloc _).trans x1 | have x0 := x1); clear x1; obtain ⟨xc, xf, xs⟩ := x0.cells)
          go_wp2_with fail
          (refine (reaches_any t9 m (n + 1) s c h t m (n + 1) s c h _ r7 r2 (by omega) r4 r5 r6 r1 r2).mono ?_; rintro e w1 ⟨rfl, x1⟩; (try clear xc xf xs); (first | replace x0 := x0.trans x1 | replace x0 := (x0.alloc _).trans x1 | replace x0 := (x0.drew).trans x1 | replace x0 := ((x0.alloc _).alloc _).trans x1 | have x0 := x1); clear x1; obtain ⟨xc, xf, xs⟩ := x0.cells)
          go_wp2_with fail
          go_ret2
          exact ⟨ret2 d1.out d2.out, xV.trans x0⟩
        · have hp := Lib.hid (gaF_no (p := gaP t m s c h t9) (n := n) (by simp [gaP, hb9]))
          (refine (reaches_any t m (n + 1) s c h t9 m (n + 1) s c h _ r1 r2 (by omega) r4 r5 r6 r7 r2).mono ?_; rintro e w1 ⟨rfl, x1⟩; (try clear xc xf xs); (first | replace x0 := x0.trans x1 | replace x0 := (x0.alloc _).trans x1 | replace x0 := (x0.drew).trans x1 | replace x0 := ((x0.alloc _).alloc _).trans x1 | have x0 := x1); clear x1; obtain ⟨xc, xf, xs⟩ := x0.cells)
          go_wp2_with fail
          (refine (reaches_any t9 m (n + 1) s c h t m (n + 1) s c h _ r7 r2 (by omega) r4 r5 r6 r1 r2).mono ?_; rintro e w1 ⟨rfl, x1⟩; (try clear xc xf xs); (first | replace x0 := x0.trans x1 | replace x0 := (x0.alloc _).trans x1 | replace x0 := (x0.drew).trans x1 | replace x0 := ((x0.alloc _).alloc _).trans x1 | have x0 := x1); clear x1; obtain ⟨xc, xf, xs⟩ := x0.cells)
          go_wp2_with fail
          go_roundw
          case rel => exact ⟨n, n + 1, n + 1, by omega, by go_num, xV.trans x0, by omega, by omega, (xf _ _ kl0).trans y0, (xf _ _ kl1).trans y1, (xc _ _ kl0).trans g0_0, (xc _ _ kl0).trans g0_1, (xc _ _ kl0).trans g0_2, (xc _ _ kl0).trans g0_3, (xc _ _ kl0).trans g0_4, (xc _ _ kl0).trans g0_5, (xc _ _ kl1).trans g1_0, (xc _ _ kl1).trans g1_1, (xc _ _ kl1).trans g1_2, (xc _ _ kl1).trans g1_3, (xc _ _ kl1).trans g1_4, (xc _ _ kl1).trans g1_5, hh.out.trans hp.out⟩
          case measure => simp [intOf]
      · have hp := Lib.hid (gaF_no (p := gaP t m s c h t9) (n := n) (by simp [gaP, hb]))
        (refine (reaches_any t m (n + 1) s c h t9 m (n + 1) s c h _ r1 r2 (by omega) r4 r5 r6 r7 r2).mono ?_; rintro e w1 ⟨rfl, x1⟩; (try clear xc xf xs); (first | replace x0 := x0.trans x1 | replace x0 := (x0.alloc _).trans x1 | replace x0 := (x0.drew).trans x1 | replace x0 := ((x0.alloc _).alloc _).trans x1 | have x0 := x1); clear x1; obtain ⟨xc, xf, xs⟩ := x0.cells)
        go_wp2_with fail
        go_roundw
        case rel => exact ⟨n, n + 1, n + 1, by omega, by go_num, xV.trans x0, by omega, by omega, (xf _ _ kl0).trans y0, (xf _ _ kl1).trans y1, (xc _ _ kl0).trans g0_0, (xc _ _ kl0).trans g0_1, (xc _ _ kl0).trans g0_2, (xc _ _ kl0).trans g0_3, (xc _ _ kl0).trans g0_4, (xc _ _ kl0).trans g0_5, (xc _ _ kl1).trans g1_0, (xc _ _ kl1).trans g1_1, (xc _ _ kl1).trans g1_2, (xc _ _ kl1).trans g1_3, (xc _ _ kl1).trans g1_4, (xc _ _ kl1).trans g1_5, hh.out.trans hp.out⟩
        case measure => simp [intOf]

theorem implGreatest_any (t m a s c h t9 m9 a9 s9 c9 h9 : Int) (w : World) :
    Calls Try.prog 42 #[.agg #[.int .i64 t, .int .i64 m, .int .i64 a, .int .i64 s, .int .i64 c, .int .i64 h], .agg #[.int .i64 t9, .int .i64 m9, .int .i64 a9, .int .i64 s9, .int .i64 c9, .int .i64 h9]] w fun e w' => e = .returned (.tuple #[.int .i64 (gaK t m a s c h t9 m9 a9 s9 c9 h9), .int .i64 (gaC t m a s c h t9 m9 a9 s9 c9 h9)]) ∧ Ext w w' := by
  by_cases hc : matC t m a s c h t9 m9 a9 s9 c9 h9 = 0
  · exact implGreatest_yes _ _ _ _ _ _ _ _ _ _ _ _ _ hc
  · exact implGreatest_no _ _ _ _ _ _ _ _ _ _ _ _ _ hc

theorem specGreatest_any (t m a s c h t9 m9 a9 s9 c9 h9 : Int) (w : World) :
    Calls Try.prog 41 #[.agg #[.int .i64 t, .int .i64 m, .int .i64 a, .int .i64 s, .int .i64 c, .int .i64 h], .agg #[.int .i64 t9, .int .i64 m9, .int .i64 a9, .int .i64 s9, .int .i64 c9, .int .i64 h9]] w fun e w' => e = .returned (.tuple #[.int .i64 (gaK t m a s c h t9 m9 a9 s9 c9 h9), .int .i64 (gaC t m a s c h t9 m9 a9 s9 c9 h9)]) ∧ Ext w w' := by
  by_cases hc : matC t m a s c h t9 m9 a9 s9 c9 h9 = 0
  · exact specGreatest_yes _ _ _ _ _ _ _ _ _ _ _ _ _ hc
  · exact specGreatest_no _ _ _ _ _ _ _ _ _ _ _ _ _ hc

set_option maxHeartbeats 2000000 in
theorem greatest_walk (t m a s c h t9 m9 a9 s9 c9 h9 : Int) (w : World) (b0 : -9223372036854775808 ≤ t ∧ t ≤ 9223372036854775807) (b1 : -9223372036854775808 ≤ m ∧ m ≤ 9223372036854775807) (b2 : -9223372036854775808 ≤ a ∧ a ≤ 9223372036854775807) (b3 : -9223372036854775808 ≤ s ∧ s ≤ 9223372036854775807) (b4 : -9223372036854775808 ≤ c ∧ c ≤ 9223372036854775807) (b5 : -9223372036854775808 ≤ h ∧ h ≤ 9223372036854775807) (b6 : -9223372036854775808 ≤ t9 ∧ t9 ≤ 9223372036854775807) (b7 : -9223372036854775808 ≤ m9 ∧ m9 ≤ 9223372036854775807) (b8 : -9223372036854775808 ≤ a9 ∧ a9 ≤ 9223372036854775807) (b9 : -9223372036854775808 ≤ s9 ∧ s9 ≤ 9223372036854775807) (b10 : -9223372036854775808 ≤ c9 ∧ c9 ≤ 9223372036854775807) (b11 : -9223372036854775808 ≤ h9 ∧ h9 ≤ 9223372036854775807) :
    Calls Try.prog 12 #[.agg #[.int .i64 t, .int .i64 m, .int .i64 a, .int .i64 s, .int .i64 c, .int .i64 h], .agg #[.int .i64 t9, .int .i64 m9, .int .i64 a9, .int .i64 s9, .int .i64 c9, .int .i64 h9]] w fun e w' => e = .returned (.bool true) ∧ Ext w w' := by
  clear b0 b1 b2 b3 b4 b5 b6 b7 b8 b9 b10 b11
  go_enter Try.func12, Try.ntmps12
  go_wp2
  generalize hW : ((w.alloc (Obj.cells #[.int .i64 t, .int .i64 m, .int .i64 a, .int .i64 s, .int .i64 c, .int .i64 h] 32)).alloc (Obj.cells #[.int .i64 t9, .int .i64 m9, .int .i64 a9, .int .i64 s9, .int .i64 c9, .int .i64 h9] 32)) = W
  have hE : Ext w W := by rw [← hW]; exact (((Ext.refl _).alloc _).alloc _)
  have hl0 : w.heap.size < W.heap.size := by rw [← hW]; simp; try omega
  have hl1 : w.heap.size + 1 < W.heap.size := by rw [← hW]; simp; try omega
  have f0_0 : W.cell? ⟨w.heap.size, 0, none⟩ = some (.int .i64 t) := by rw [← hW]; simp
  have f0_1 : W.cell? ⟨w.heap.size, 1, none⟩ = some (.int .i64 m) := by rw [← hW]; simp
  have f0_2 : W.cell? ⟨w.heap.size, 2, none⟩ = some (.int .i64 a) := by rw [← hW]; simp
  have f0_3 : W.cell? ⟨w.heap.size, 3, none⟩ = some (.int .i64 s) := by rw [← hW]; simp
  have f0_4 : W.cell? ⟨w.heap.size, 4, none⟩ = some (.int .i64 c) := by rw [← hW]; simp
  have f0_5 : W.cell? ⟨w.heap.size, 5, none⟩ = some (.int .i64 h) := by rw [← hW]; simp
  have f1_0 : W.cell? ⟨w.heap.size + 1, 0, none⟩ = some (.int .i64 t9) := by rw [← hW]; simp
  have f1_1 : W.cell? ⟨w.heap.size + 1, 1, none⟩ = some (.int .i64 m9) := by rw [← hW]; simp
  have f1_2 : W.cell? ⟨w.heap.size + 1, 2, none⟩ = some (.int .i64 a9) := by rw [← hW]; simp
  have f1_3 : W.cell? ⟨w.heap.size + 1, 3, none⟩ = some (.int .i64 s9) := by rw [← hW]; simp
  have f1_4 : W.cell? ⟨w.heap.size + 1, 4, none⟩ = some (.int .i64 c9) := by rw [← hW]; simp
  have f1_5 : W.cell? ⟨w.heap.size + 1, 5, none⟩ = some (.int .i64 h9) := by rw [← hW]; simp
  clear hW
  have x0 := Ext.refl W
  go_region_held3 (fun w' => w'.cell? ⟨w.heap.size, 0, none⟩ = some (.int .i64 t) ∧ w'.cell? ⟨w.heap.size, 1, none⟩ = some (.int .i64 m) ∧ w'.cell? ⟨w.heap.size, 2, none⟩ = some (.int .i64 a) ∧ w'.cell? ⟨w.heap.size, 3, none⟩ = some (.int .i64 s) ∧ w'.cell? ⟨w.heap.size, 4, none⟩ = some (.int .i64 c) ∧ w'.cell? ⟨w.heap.size, 5, none⟩ = some (.int .i64 h) ∧ w'.cell? ⟨w.heap.size + 1, 0, none⟩ = some (.int .i64 t9) ∧ w'.cell? ⟨w.heap.size + 1, 1, none⟩ = some (.int .i64 m9) ∧ w'.cell? ⟨w.heap.size + 1, 2, none⟩ = some (.int .i64 a9) ∧ w'.cell? ⟨w.heap.size + 1, 3, none⟩ = some (.int .i64 s9) ∧ w'.cell? ⟨w.heap.size + 1, 4, none⟩ = some (.int .i64 c9) ∧ w'.cell? ⟨w.heap.size + 1, 5, none⟩ = some (.int .i64 h9))
    (first | (refine ⟨?_, ?_, ?_, ?_, ?_, ?_, ?_, ?_, ?_, ?_, ?_, ?_⟩ <;> (refine (xc _ _ ?_).trans ?_ <;> assumption)) | (refine ⟨?_, ?_, ?_, ?_, ?_, ?_, ?_, ?_, ?_, ?_, ?_, ?_⟩ <;> assumption) | go_keep)
    (first | (go_at_call 24; refine (toProfile_any _ _ _ _ _ _ _).mono ?_; rintro e w1 ⟨rfl, x1⟩; (try clear xc xf xs); (first | replace x0 := x0.trans x1 | replace x0 := (x0.alloc _).trans x1 | replace x0 := (x0.drew).trans x1 | replace x0 := ((x0.alloc _).alloc _).trans x1 | have x0 := x1); clear x1; obtain ⟨xc, xf, xs⟩ := x0.cells) | (go_at_call 41; refine (specGreatest_any t m a s c h t9 m9 a9 s9 c9 h9 _).mono ?_; rintro e w1 ⟨rfl, x1⟩; (try clear xc xf xs); (first | replace x0 := x0.trans x1 | replace x0 := (x0.alloc _).trans x1 | replace x0 := (x0.drew).trans x1 | replace x0 := ((x0.alloc _).alloc _).trans x1 | have x0 := x1); clear x1; obtain ⟨xc, xf, xs⟩ := x0.cells))
  go_wp2
  go_region_held3 (fun w' => w'.cell? ⟨w.heap.size, 0, none⟩ = some (.int .i64 t) ∧ w'.cell? ⟨w.heap.size, 1, none⟩ = some (.int .i64 m) ∧ w'.cell? ⟨w.heap.size, 2, none⟩ = some (.int .i64 a) ∧ w'.cell? ⟨w.heap.size, 3, none⟩ = some (.int .i64 s) ∧ w'.cell? ⟨w.heap.size, 4, none⟩ = some (.int .i64 c) ∧ w'.cell? ⟨w.heap.size, 5, none⟩ = some (.int .i64 h) ∧ w'.cell? ⟨w.heap.size + 1, 0, none⟩ = some (.int .i64 t9) ∧ w'.cell? ⟨w.heap.size + 1, 1, none⟩ = some (.int .i64 m9) ∧ w'.cell? ⟨w.heap.size + 1, 2, none⟩ = some (.int .i64 a9) ∧ w'.cell? ⟨w.heap.size + 1, 3, none⟩ = some (.int .i64 s9) ∧ w'.cell? ⟨w.heap.size + 1, 4, none⟩ = some (.int .i64 c9) ∧ w'.cell? ⟨w.heap.size + 1, 5, none⟩ = some (.int .i64 h9))
    (first | (refine ⟨?_, ?_, ?_, ?_, ?_, ?_, ?_, ?_, ?_, ?_, ?_, ?_⟩ <;> (refine (xc _ _ ?_).trans ?_ <;> assumption)) | (refine ⟨?_, ?_, ?_, ?_, ?_, ?_, ?_, ?_, ?_, ?_, ?_, ?_⟩ <;> assumption) | go_keep)
    (first | (go_at_call 24; refine (toProfile_any _ _ _ _ _ _ _).mono ?_; rintro e w1 ⟨rfl, x1⟩; (try clear xc xf xs); (first | replace x0 := x0.trans x1 | replace x0 := (x0.alloc _).trans x1 | replace x0 := (x0.drew).trans x1 | replace x0 := ((x0.alloc _).alloc _).trans x1 | have x0 := x1); clear x1; obtain ⟨xc, xf, xs⟩ := x0.cells) | (go_at_call 42; refine (implGreatest_any t m a s c h t9 m9 a9 s9 c9 h9 _).mono ?_; rintro e w1 ⟨rfl, x1⟩; (try clear xc xf xs); (first | replace x0 := x0.trans x1 | replace x0 := (x0.alloc _).trans x1 | replace x0 := (x0.drew).trans x1 | replace x0 := ((x0.alloc _).alloc _).trans x1 | have x0 := x1); clear x1; obtain ⟨xc, xf, xs⟩ := x0.cells))
  go_wp2
  go_ret
  exact ⟨rfl, hE.trans x0⟩

end Go.Proofs.Ytbhhiodbhlhpmaa

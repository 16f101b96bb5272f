/-
  Marks are written into a plate's sites.
-/
import Derived.Test.YtgkpganbepbjnaaSite
import Derived.Test.YtgkpganbepbjnaaMText
import Derived.Test.YtgkpganbepbjnaaMark
import Derived.Deep.DeepCutAuto
namespace Go.Proofs.Ytgkpganbepbjnaa
open Go.RowKit
set_option linter.unusedSimpArgs false
set_option linter.unusedVariables false

/-- Block B is a row of n sites of the call's own. -/
structure SRoom (w : World) (B n : Nat) : Prop where
  lt : B < w.heap.size
  there : ∀ j, j < n * 5 → ∃ v, w.cell? ⟨B, j, none⟩ = some v
  free : ∀ j, w.frozen? ⟨B, j, none⟩ = false
theorem SFill.room {w : World} {B n i : Nat} {zs : List Sit} (h : SFill w B n i zs) : SRoom w B n := ⟨h.lt, h.there, h.free⟩
theorem SRoom.ext {w w' : World} {B n : Nat} (h : SRoom w B n) (x : Ext w w') : SRoom w' B n :=
  ⟨Nat.lt_of_lt_of_le h.lt x.size, fun j hj => by obtain ⟨v, hv⟩ := h.there j hj; exact ⟨v, (x.cells.1 B _ h.lt).trans hv⟩, fun j => (x.cells.2.1 B _ h.lt).trans (h.free j)⟩
theorem SRoom.set {w : World} {B n : Nat} (h : SRoom w B n) (j : Nat) (v : Value) : SRoom (w.setCell ⟨B, j, none⟩ v) B n := by
  refine ⟨by simpa [World.setCell] using h.lt, fun k hk => ?_, fun k => by rw [frozen_set]; exact h.free k⟩
  obtain ⟨u, hu⟩ := h.there k hk
  by_cases e : k = j
  · subst e; exact ⟨v, cell_set_eq _ _ _ _ _ hu⟩
  · exact ⟨u, by rw [cell_set_ne _ _ _ _ _ (fun h => e h.symm)]; exact hu⟩
theorem wrote_ext {w w' : World} (row : Option Nat) (x : Ext w w') : Wrote row w w' :=
  ⟨⟨x.1.os, x.1.tape, x.1.output, x.size, fun k hk _ => x.1.block k hk⟩, x.2⟩
set_option maxRecDepth 100000 in
set_option maxHeartbeats 4000000 in
theorem markSiteS_any (B n c : Nat) (w : World) (hf : SRoom w B n) (hm : n ≤ 1048576) :
    Calls Try.prog 88 #[.slice (some ⟨B, 0, none⟩) n c, .int .i64 1] w fun e w' => e = .returned (.int .i64 (1 + (n : Int) * 5)) ∧ Wrote (some B) w w' := by
  go_enter Try.func88, Try.ntmps88
  go_wp2_with fail
  go_loopw [1, 5] (fun ss kk wr => ∃ (i : Nat) (s : Int), kk = .int .i64 i ∧ ss = .int .i64 s ∧ s = 1 + (i : Int) * 5 ∧ i ≤ n ∧ SRoom wr B n ∧ Wrote (some B) w wr) (fun _ kk _ => n - (intOf kk).toNat)
  case atStart => exact ⟨0, 1, rfl, rfl, by omega, Nat.zero_le _, hf, Wrote.refl _ _⟩
  case round =>
    clear hf
    obtain ⟨i, s, rfl, rfl, hs, hi, hf, xw⟩ := hrel
    by_cases h0 : i < n
    · have t1 : decide ((i : Int) < (n : Int)) = true := by simp; omega
      have hlt := hf.lt
      obtain ⟨u0, hu0⟩ := hf.there (i * 5) (by omega)
      have z0 := hf.free (i * 5)
      obtain ⟨u1, hu1⟩ := hf.there (i * 5 + 1) (by omega)
      have z1 := hf.free (i * 5 + 1)
      obtain ⟨u2, hu2⟩ := hf.there (i * 5 + 2) (by omega)
      have z2 := hf.free (i * 5 + 2)
      obtain ⟨u3, hu3⟩ := hf.there (i * 5 + 3) (by omega)
      have z3 := hf.free (i * 5 + 3)
      obtain ⟨u4, hu4⟩ := hf.there (i * 5 + 4) (by omega)
      have z4 := hf.free (i * 5 + 4)
      have hsb : 0 ≤ s ∧ s ≤ 6000000 := by omega
      have q1 : IntKind.i64.wrap (s + 1) = s + 1 := by (rw [IntWalk.i64_in _ (by omega)]; try omega)
      have q2 : IntKind.i64.wrap (s + 1 + 1) = s + 2 := by (rw [IntWalk.i64_in _ (by omega)]; try omega)
      have q3 : IntKind.i64.wrap (s + 2 + 1) = s + 3 := by (rw [IntWalk.i64_in _ (by omega)]; try omega)
      have q4 : IntKind.i64.wrap (s + 3 + 1) = s + 4 := by (rw [IntWalk.i64_in _ (by omega)]; try omega)
      have q5 : IntKind.i64.wrap (s + 4 + 1) = s + 5 := by (rw [IntWalk.i64_in _ (by omega)]; try omega)
      replace hs := Lib.hid hs
      go_wp2_with (first | (go_at_call 113; refine (markText_any s _ (by omega)).mono ?_; rintro e w1 ⟨⟨nm, rfl⟩, x1⟩; replace hu0 := (x1.cells.1 _ _ hlt).trans hu0; replace z0 := (x1.cells.2.1 _ _ hlt).trans z0; replace hu1 := (x1.cells.1 _ _ hlt).trans hu1; replace z1 := (x1.cells.2.1 _ _ hlt).trans z1; replace hu2 := (x1.cells.1 _ _ hlt).trans hu2; replace z2 := (x1.cells.2.1 _ _ hlt).trans z2; replace hu3 := (x1.cells.1 _ _ hlt).trans hu3; replace z3 := (x1.cells.2.1 _ _ hlt).trans z3; replace hu4 := (x1.cells.1 _ _ hlt).trans hu4; replace z4 := (x1.cells.2.1 _ _ hlt).trans z4))
      go_roundw
      case rel => exact ⟨i + 1, s + 5, by go_num, rfl, by have := hs.out; omega, by omega, (((((hf.ext x1).set _ _).set _ _).set _ _).set _ _).set _ _, (((((xw.trans (wrote_ext _ x1)).trans (Wrote.set _ _ _ _)).trans (Wrote.set _ _ _ _)).trans (Wrote.set _ _ _ _)).trans (Wrote.set _ _ _ _)).trans (Wrote.set _ _ _ _)⟩
      case measure => simp [intOf]; omega
    · have hin : i = n := by omega
      subst hin
      have t1 : decide ((i : Int) < (i : Int)) = false := by simp
      subst hs
      go_wp2
      go_ret
      exact ⟨rfl, xw⟩
set_option maxHeartbeats 1000000 in
theorem markPlate_any (pw ph pm pg : Int) (B n c : Nat) (w : World) (hf : SRoom w B n) (hm : n ≤ 1048576) :
    Calls Try.prog 49 #[.agg #[.int .i64 pw, .int .i64 ph, .int .i64 pm, .int .i64 pg, .slice (some ⟨B, 0, none⟩) n c], .int .i64 1] w fun e w' => e = .returned (.int .i64 (1 + (n : Int) * 5)) ∧ Wrote (some B) w w' := by
  go_enter Try.func49, Try.ntmps49
  go_wp2_with (first | (go_at_call 88; refine (markSiteS_any B n c _ (hf.ext ((Ext.refl _).alloc _)) hm).mono ?_; rintro e w1 ⟨rfl, x1⟩))
  go_ret
  exact ⟨rfl, (wrote_ext _ ((Ext.refl _).alloc _)).trans x1⟩
end Go.Proofs.Ytgkpganbepbjnaa

/-
  Springs: the reference, and what the laws make of them.
-/
import Derived.Test.YtgkpganbepbjnaaSpring
namespace Go.Proofs.Ytgkpganbepbjnaa
open Go.RowKit
set_option linter.unusedSimpArgs false
set_option linter.unusedVariables false

set_option maxHeartbeats 8000000 in
theorem l13Ok_any (a : Option Addr) (n c : Nat) (zs : List (Int × Int)) (w : World) (hr : RowAt w a zs) (hn : zs.length = n) (hm : n ≤ 1048576) :
    Calls Try.prog 60 #[.agg #[.slice a n c]] w fun e w' => e = .returned (.bool (vSpr zs)) ∧ Ext w w' := by
  by_cases ha : n < 2
  · have e := Lib.hid (vSpr_len hn (.inl ha))
    have t2 : (n : Int) < 2 := by omega
    go_enter Try.func60, Try.ntmps60
    go_wp2
    go_ret
    exact ⟨ret_bool e.out, (Ext.refl _).alloc _⟩
  by_cases hbn : 20 < n
  · have e := Lib.hid (vSpr_len hn (.inr hbn))
    have t2 : ¬ (n : Int) < 2 := by omega
    have t3 : (20 : Int) < (n : Int) := by omega
    go_enter Try.func60, Try.ntmps60
    go_wp2
    go_ret
    exact ⟨ret_bool e.out, (Ext.refl _).alloc _⟩
  have u2 : ¬ (n : Int) < 2 := by omega
  have u3 : ¬ (20 : Int) < (n : Int) := by omega
  go_enter Try.func60, Try.ntmps60
  go_wp2_with fail
  generalize hW : (w.alloc (Obj.cells #[.slice a n c] 38)) = W
  have hE : Ext w W := by rw [← hW]; exact (Ext.refl _).alloc _
  have hl0 : w.heap.size < W.heap.size := by rw [← hW]; simp
  have f0 : W.cell? ⟨w.heap.size, 0, none⟩ = some (.slice a n c) := by rw [← hW]; simp [go_sem]
  clear hW
  have hrW := hr.ext hE
  clear hr
  go_loopw [3, 4] (fun kk _ wr => ∃ i : Nat, kk = .int .i64 i ∧ i ≤ n ∧ Ext W wr ∧ Hid (∀ j, j < i → bendOk zs j = true)) (fun kk _ _ => n - (intOf kk).toNat)
  case atStart => exact ⟨0, rfl, Nat.zero_le _, Ext.refl _, Lib.hid (fun j hj => by omega)⟩
  case round =>
    obtain ⟨i, rfl, hi, xw, hh⟩ := hrel
    have g0 := (xw.cells.1 _ _ hl0).trans f0
    have hl1 := Nat.lt_of_lt_of_le hl0 xw.size
    have hk1 := Nat.ne_of_gt hl1
    by_cases h0 : i < n
    · obtain ⟨b, off, rfl, hb, x, y, ex, ey, c0, c1⟩ := (hrW.ext xw).look (j := i) (by omega)
      have t1 : decide ((i : Int) < (n : Int)) = true := by simp; omega
      have hne : wr.heap.size ≠ b := by omega
      cases h1 : inB x 0 2000
      · have e := Lib.hid (vSpr_bad hn h0 (by rw [bendOk, ex.out, h1]; rfl))
        clear ex ey hrW
        go_wp2_with (first | (go_at_call 54; refine (l00In_any _ _ _ _).mono ?_; rintro e w1 ⟨rfl, rfl⟩))
        go_ret
        exact ⟨ret_bool e.out, (hE.trans xw).alloc _⟩
      · cases h2 : inB y 0 1000000
        · have e := Lib.hid (vSpr_bad hn h0 (by rw [bendOk, ex.out, ey.out, h1, h2]; rfl))
          clear ex ey hrW
          go_wp2_with (first | (go_at_call 54; refine (l00In_any _ _ _ _).mono ?_; rintro e w1 ⟨rfl, rfl⟩))
          go_ret
          exact ⟨ret_bool e.out, (hE.trans xw).alloc _⟩
        · by_cases hz : i = 0
          · have hk := Lib.hid (show ∀ j, j < i + 1 → bendOk zs j = true from fun j hj => by
              rw [show j = i by omega, bendOk, ex.out, ey.out, h1, h2, hz]; rfl)
            have t9 : decide (0 < i) = false := by simp; omega
            replace hz := Lib.hid hz
            clear ex ey hrW
            go_wp2_with (first | (go_at_call 54; refine (l00In_any _ _ _ _).mono ?_; rintro e w1 ⟨rfl, rfl⟩))
            go_quiet (fail)
            go_wp2_with fail
            go_roundw
            case rel => exact ⟨i + 1, by go_num, by omega, (xw.alloc _).drewN _, hk⟩
            case measure => simp [intOf]; omega
          · obtain ⟨p, rfl⟩ : ∃ p, i = p + 1 := ⟨i - 1, by omega⟩
            obtain ⟨b', off', hab, hb', x', y', ex', ey', d0, d1⟩ := (hrW.ext xw).look (j := p) (by omega)
            simp at hab
            obtain ⟨rfl, rfl⟩ := hab
            have bd : bendOk zs (p + 1) = (decide (x' < x) && decide (y' ≤ y)) := by
              rw [bendOk, ex.out, ey.out, h1, h2, show p + 1 - 1 = p by omega, ex'.out, ey'.out]; simp
            clear ex ey hrW ex' ey'
            have hp1 : ((p + 1 : Nat) : Int) - 1 = (p : Int) := by omega
            have t5 : (p : Int) < (n : Int) := by omega
            have t6 : (0 : Int) < ((p + 1 : Nat) : Int) := by omega
            have t7 : IntKind.i64.wrap (((p + 1 : Nat) : Int) - 1) = (p : Int) := by rw [IntWalk.i64_in _ (by omega)]; omega
            have t8 : p < n := by omega
            have t9 : decide (0 < p + 1) = true := by simp
            have t10 : 0 < p + 1 := by omega
            generalize hi1 : p + 1 = i at *
            replace hi1 := Lib.hid hi1
            clear hp1 hz
            by_cases hx : x ≤ x'
            · have e := Lib.hid (vSpr_bad hn h0 (by rw [bd]; simp; omega))
              go_wp2_with (first | (go_at_call 54; refine (l00In_any _ _ _ _).mono ?_; rintro e w1 ⟨rfl, rfl⟩))
              go_quiet (fail)
              go_wp2_with fail
              go_ret
              exact ⟨ret_bool e.out, ((hE.trans xw).alloc _).drewN _⟩
            · by_cases hy : y < y'
              · have e := Lib.hid (vSpr_bad hn h0 (by rw [bd]; simp; omega))
                go_wp2_with (first | (go_at_call 54; refine (l00In_any _ _ _ _).mono ?_; rintro e w1 ⟨rfl, rfl⟩))
                go_quiet (fail)
                go_wp2_with fail
                go_ret
                exact ⟨ret_bool e.out, ((hE.trans xw).alloc _).drewN _⟩
              · have hk := Lib.hid (show ∀ j, j < i + 1 → bendOk zs j = true from fun j hj => by
                  by_cases hji : j = i
                  · rw [hji, bd]; simp; omega
                  · exact hh.out j (by omega))
                go_wp2_with (first | (go_at_call 54; refine (l00In_any _ _ _ _).mono ?_; rintro e w1 ⟨rfl, rfl⟩))
                go_quiet (fail)
                go_wp2_with fail
                go_roundw
                case rel => exact ⟨i + 1, by go_num, by omega, (xw.alloc _).drewN _, hk⟩
                case measure => simp [intOf]; omega
    · have hin : i = n := by omega
      subst hin
      have t1 : decide ((i : Int) < (i : Int)) = false := by simp
      clear hrW
      have e := Lib.hid (vSpr_ok hn hh.out ⟨by omega, by omega⟩)
      go_wp2
      go_ret
      exact ⟨ret_bool e.out, hE.trans xw⟩

set_option maxHeartbeats 400000 in
theorem specValidSpring_any (a : Option Addr) (n c : Nat) (zs : List (Int × Int)) (w : World) (hr : RowAt w a zs) (hn : zs.length = n) (hm : n ≤ 1048576) :
    Calls Try.prog 20 #[.agg #[.slice a n c]] w fun e w' => e = .returned (.bool (vSpr zs)) ∧ Ext w w' := by
  go_enter Try.func20, Try.ntmps20
  go_wp2_with (go_at_call 60; refine (l13Ok_any _ _ _ zs _ (hr.ext ((Ext.refl _).alloc _)) hn hm).mono ?_; rintro e w1 ⟨rfl, x1⟩)
  go_ret
  exact ⟨rfl, ((Ext.refl _).alloc _).trans x1⟩

end Go.Proofs.Ytgkpganbepbjnaa

/-
  Springs: valid or not.
-/
import Derived.Test.YtgkpganbepbjnaaBends
namespace Go.Proofs.Ytgkpganbepbjnaa
open Go.RowKit
set_option linter.unusedSimpArgs false
set_option linter.unusedVariables false

def bendOk (zs : List (Int × Int)) (i : Nat) : Bool :=
  inB (zs.getD i (0, 0)).1 0 2000 && inB (zs.getD i (0, 0)).2 0 1000000 && (decide (i = 0) || (decide ((zs.getD (i - 1) (0, 0)).1 < (zs.getD i (0, 0)).1) && decide ((zs.getD (i - 1) (0, 0)).2 ≤ (zs.getD i (0, 0)).2)))
def vSpr (zs : List (Int × Int)) : Bool := (List.range zs.length).all (bendOk zs) && (decide (2 ≤ zs.length) && decide (zs.length ≤ 20))
theorem vSpr_bad {zs : List (Int × Int)} {n i : Nat} (hn : zs.length = n) (hi : i < n) (h : bendOk zs i = false) : false = vSpr zs := by
  have : (List.range zs.length).all (bendOk zs) = false := by
    rw [List.all_eq_false]
    exact ⟨i, List.mem_range.2 (by omega), by rw [h]; simp⟩
  rw [vSpr, this]
  rfl
theorem vSpr_len {zs : List (Int × Int)} {n : Nat} (hn : zs.length = n) (h : n < 2 ∨ 20 < n) : false = vSpr zs := by
  have : (decide (2 ≤ zs.length) && decide (zs.length ≤ 20)) = false := by
    rw [Bool.and_eq_false_iff]
    rcases h with h | h
    · exact .inl (by simp; omega)
    · exact .inr (by simp; omega)
  rw [vSpr, this, Bool.and_false]
theorem vSpr_ok {zs : List (Int × Int)} {n : Nat} (hn : zs.length = n) (h : ∀ j, j < n → bendOk zs j = true) (h2 : 2 ≤ n ∧ n ≤ 20) : true = vSpr zs := by
  have h3 : (List.range zs.length).all (bendOk zs) = true := by
    rw [List.all_eq_true]
    intro j hj
    exact h j (by have := List.mem_range.1 hj; omega)
  rw [vSpr, h3, hn]
  simp [h2.1, h2.2]

set_option maxHeartbeats 400000 in
theorem isPull_any (t : Int) (w : World) : Calls Try.prog 62 #[.int .i64 t] w fun e w' => e = .returned (.bool (inB t 0 1000000)) ∧ w = w' := by
  go_enter Try.func62, Try.ntmps62
  go_wp2_with (go_at_call 55; refine (within_any _ _ _ _).mono ?_; rintro e w1 ⟨rfl, rfl⟩)
  go_ret
  exact ⟨rfl, rfl⟩

set_option maxHeartbeats 8000000 in
theorem implValidSpring_any (a : Option Addr) (n c : Nat) (zs : List (Int × Int)) (w : World) (hr : RowAt w a zs) (hn : zs.length = n) (hm : n ≤ 1048576) :
    Calls Try.prog 22 #[.agg #[.slice a n c]] w fun e w' => e = .returned (.bool (vSpr zs)) ∧ Ext w w' := by
  go_enter Try.func22, Try.ntmps22
  go_wp2_with fail
  generalize hW : (w.alloc (Obj.cells #[.slice a n c] 38)) = W
  have hE : Ext w W := by rw [← hW]; exact (Ext.refl _).alloc _
  have hl0 : w.heap.size < W.heap.size := by rw [← hW]; simp
  have f0 : W.cell? ⟨w.heap.size, 0, none⟩ = some (.slice a n c) := by rw [← hW]; simp [go_sem]
  clear hW
  have hrW := hr.ext hE
  clear hr
  go_loopw [3, 4, 8] (fun _ _ kk wr => ∃ i : Nat, kk = .int .i64 i ∧ i ≤ n ∧ Ext W wr ∧ Hid (∀ j, j < i → bendOk zs j = true)) (fun _ _ kk _ => n - (intOf kk).toNat)
  case atStart => exact ⟨0, rfl, Nat.zero_le _, Ext.refl _, Lib.hid (fun j hj => by omega)⟩
  case round =>
    obtain ⟨i, rfl, hi, xw, hh⟩ := hrel
    have g0 := (xw.cells.1 _ _ hl0).trans f0
    have hl1 := Nat.lt_of_lt_of_le hl0 xw.size
    have hk1 := Nat.ne_of_gt hl1
    by_cases h0 : i < n
    · obtain ⟨b, off, rfl, hb, x, y, ex, ey, c0, c1⟩ := (hrW.ext xw).look (j := i) (by omega)
      have t1 : decide ((i : Int) < (n : Int)) = true := by simp; omega
      have hne : wr.heap.size ≠ b := by omega
      cases h1 : inB x 0 2000
      · have e := Lib.hid (vSpr_bad hn h0 (by rw [bendOk, ex.out, h1]; rfl))
        clear ex ey hrW
        go_wp2_with (first | (go_at_call 55; refine (within_any _ _ _ _).mono ?_; rintro e w1 ⟨rfl, rfl⟩) | (go_at_call 62; refine (isPull_any _ _).mono ?_; rintro e w1 ⟨rfl, rfl⟩))
        go_ret
        exact ⟨ret_bool e.out, (hE.trans xw).alloc _⟩
      · cases h2 : inB y 0 1000000
        · have e := Lib.hid (vSpr_bad hn h0 (by rw [bendOk, ex.out, ey.out, h1, h2]; rfl))
          clear ex ey hrW
          go_wp2_with (first | (go_at_call 55; refine (within_any _ _ _ _).mono ?_; rintro e w1 ⟨rfl, rfl⟩) | (go_at_call 62; refine (isPull_any _ _).mono ?_; rintro e w1 ⟨rfl, rfl⟩))
          go_ret
          exact ⟨ret_bool e.out, (hE.trans xw).alloc _⟩
        · by_cases hz : i = 0
          · have hk := Lib.hid (show ∀ j, j < i + 1 → bendOk zs j = true from fun j hj => by
              rw [show j = i by omega, bendOk, ex.out, ey.out, h1, h2, hz]; rfl)
            have t9 : decide (0 < i) = false := by simp; omega
            replace hz := Lib.hid hz
            clear ex ey hrW
            go_wp2_with (first | (go_at_call 55; refine (within_any _ _ _ _).mono ?_; rintro e w1 ⟨rfl, rfl⟩) | (go_at_call 62; refine (isPull_any _ _).mono ?_; rintro e w1 ⟨rfl, rfl⟩))
            go_quiet (fail)
            go_wp2_with fail
            go_roundw
            case rel => exact ⟨i + 1, by go_num, by omega, (xw.alloc _).drewN _, hk⟩
            case measure => simp [intOf]; omega
          · obtain ⟨p, rfl⟩ : ∃ p, i = p + 1 := ⟨i - 1, by omega⟩
            obtain ⟨b', off', hab, hb', x', y', ex', ey', d0, d1⟩ := (hrW.ext xw).look (j := p) (by omega)
            simp at hab
            obtain ⟨rfl, rfl⟩ := hab
            have bd : bendOk zs (p + 1) = (decide (x' < x) && decide (y' ≤ y)) := by
              rw [bendOk, ex.out, ey.out, h1, h2, show p + 1 - 1 = p by omega, ex'.out, ey'.out]; simp
            clear ex ey hrW ex' ey'
            have hp1 : ((p + 1 : Nat) : Int) - 1 = (p : Int) := by omega
            have t5 : (p : Int) < (n : Int) := by omega
            have t6 : (0 : Int) < ((p + 1 : Nat) : Int) := by omega
            have t7 : IntKind.i64.wrap (((p + 1 : Nat) : Int) - 1) = (p : Int) := by rw [IntWalk.i64_in _ (by omega)]; omega
            have t8 : p < n := by omega
            have t9 : decide (0 < p + 1) = true := by simp
            have t10 : 0 < p + 1 := by omega
            generalize hi1 : p + 1 = i at *
            replace hi1 := Lib.hid hi1
            clear hp1 hz
            by_cases hx : x ≤ x'
            · have e := Lib.hid (vSpr_bad hn h0 (by rw [bd]; simp; omega))
              go_wp2_with (first | (go_at_call 55; refine (within_any _ _ _ _).mono ?_; rintro e w1 ⟨rfl, rfl⟩) | (go_at_call 62; refine (isPull_any _ _).mono ?_; rintro e w1 ⟨rfl, rfl⟩))
              go_quiet (fail)
              go_wp2_with fail
              go_ret
              exact ⟨ret_bool e.out, ((hE.trans xw).alloc _).drewN _⟩
            · by_cases hy : y < y'
              · have e := Lib.hid (vSpr_bad hn h0 (by rw [bd]; simp; omega))
                go_wp2_with (first | (go_at_call 55; refine (within_any _ _ _ _).mono ?_; rintro e w1 ⟨rfl, rfl⟩) | (go_at_call 62; refine (isPull_any _ _).mono ?_; rintro e w1 ⟨rfl, rfl⟩))
                go_quiet (fail)
                go_wp2_with fail
                go_ret
                exact ⟨ret_bool e.out, ((hE.trans xw).alloc _).drewN _⟩
              · have hk := Lib.hid (show ∀ j, j < i + 1 → bendOk zs j = true from fun j hj => by
                  by_cases hji : j = i
                  · rw [hji, bd]; simp; omega
                  · exact hh.out j (by omega))
                go_wp2_with (first | (go_at_call 55; refine (within_any _ _ _ _).mono ?_; rintro e w1 ⟨rfl, rfl⟩) | (go_at_call 62; refine (isPull_any _ _).mono ?_; rintro e w1 ⟨rfl, rfl⟩))
                go_quiet (fail)
                go_wp2_with fail
                go_roundw
                case rel => exact ⟨i + 1, by go_num, by omega, (xw.alloc _).drewN _, hk⟩
                case measure => simp [intOf]; omega
    · have hin : i = n := by omega
      subst hin
      have t1 : decide ((i : Int) < (i : Int)) = false := by simp
      clear hrW
      by_cases ha : 2 ≤ i
      · by_cases hb : i ≤ 20
        · have e := Lib.hid (vSpr_ok hn hh.out ⟨ha, hb⟩)
          have t2 : (2 : Int) ≤ (i : Int) := by omega
          have t3 : (i : Int) ≤ 20 := by omega
          go_wp2
          go_ret
          exact ⟨ret_bool e.out, hE.trans xw⟩
        · have e := Lib.hid (vSpr_len hn (.inr (by omega)))
          have t2 : (2 : Int) ≤ (i : Int) := by omega
          have t3 : ¬ (i : Int) ≤ 20 := by omega
          go_wp2
          go_ret
          exact ⟨ret_bool e.out, hE.trans xw⟩
      · have e := Lib.hid (vSpr_len hn (.inl (by omega)))
        have t2 : ¬ (2 : Int) ≤ (i : Int) := by omega
        go_wp2
        go_ret
        exact ⟨ret_bool e.out, hE.trans xw⟩
end Go.Proofs.Ytgkpganbepbjnaa

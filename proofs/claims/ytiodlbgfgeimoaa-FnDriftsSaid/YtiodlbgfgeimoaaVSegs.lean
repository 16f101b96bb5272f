/-
  Valid segments.
-/
import Derived.Test.YtiodlbgfgeimoaaSegs
import Derived.Test.YtiodlbgfgeimoaaRate
namespace Go.Proofs.Ytiodlbgfgeimoaa
open Go.RowKit
set_option linter.unusedSimpArgs false
set_option linter.unusedVariables false

def okSeg (p : Int × Int) : Bool := inB p.1 1 240 && inB p.2 (-400) 600
def vSegs (zs : List (Int × Int)) : Bool := zs.all okSeg && decide (zs.length ≤ 60)
theorem vSegs_upto {zs : List (Int × Int)} {n i : Nat} (hn : zs.length = n) (h : (∀ j, j < i → okSeg (zs.getD j (0, 0)) = true) ) (hi : i = n) : decide ((n : Int) ≤ 60) = vSegs zs := by
  have : zs.all okSeg = true := by
    rw [List.all_eq_true]
    intro p hp
    obtain ⟨j, hj, he⟩ := List.getElem_of_mem hp
    have := h j (by omega)
    rw [List.getD_eq_getElem?_getD, List.getElem?_eq_getElem hj] at this
    simpa [he] using this
  rw [vSegs, this, hn]
  simp
  omega
theorem vSegs_bad {zs : List (Int × Int)} {n i : Nat} (hn : zs.length = n) (hi : i < n) (h : okSeg (zs.getD i (0, 0)) = false) : false = vSegs zs := by
  have : zs.all okSeg = false := by
    rw [List.all_eq_false]
    refine ⟨zs[i]'(by omega), List.getElem_mem _, ?_⟩
    rw [List.getD_eq_getElem?_getD, List.getElem?_eq_getElem (by omega)] at h
    simpa using h
  rw [vSegs, this]
  rfl
theorem okSeg_of {p : Int × Int} {x y : Int} (h1 : p.1 = x) (h2 : p.2 = y) : okSeg p = (inB x 1 240 && inB y (-400) 600) := by rw [okSeg, h1, h2]

set_option maxHeartbeats 4000000 in
theorem implValidSegments_any (a : Option Addr) (n c : Nat) (zs : List (Int × Int)) (w : World) (hr : RowAt w a zs) (hn : zs.length = n) (hm : n ≤ 1048576) :
    Calls Try.prog 28 #[.slice a n c] w fun e w' => e = .returned (.bool (vSegs zs)) ∧ Ext w w' := by
  go_enter Try.func28, Try.ntmps28
  go_wp2_with fail
  go_loopw [7] (fun kk wr => ∃ i : Nat, kk = .int .i64 i ∧ i ≤ n ∧ Ext w wr ∧ Hid (∀ j, j < i → okSeg (zs.getD j (0, 0)) = true)) (fun kk _ => n - (intOf kk).toNat)
  case atStart => exact ⟨0, rfl, Nat.zero_le _, Ext.refl _, Lib.hid (fun j hj => by omega)⟩
  case round =>
    obtain ⟨i, rfl, hi, xw, hh⟩ := hrel
    by_cases h0 : i < n
    · obtain ⟨b, off, rfl, hb, x, y, ex, ey, c0, c1⟩ := (hr.ext xw).look (j := i) (by omega)
      have t1 : decide ((i : Int) < (n : Int)) = true := by simp; omega
      have ok := Lib.hid (okSeg_of ex.out ey.out)
      have hne : wr.heap.size ≠ b := by omega
      clear ex ey hr
      cases h1 : inB x 1 240
      · have e := Lib.hid (vSegs_bad hn h0 (by rw [ok.out, h1]; rfl))
        go_wp2_with (first | (go_at_call 61; refine (within_any _ _ _ _).mono ?_; rintro e w1 ⟨rfl, rfl⟩) | (go_at_call 62; refine (isTemp_any _ _).mono ?_; rintro e w1 ⟨rfl, rfl⟩))
        go_ret
        exact ⟨ret_bool e.out, xw.alloc _⟩
      · cases h2 : inB y (-400) 600
        · have e := Lib.hid (vSegs_bad hn h0 (by rw [ok.out, h1, h2]; rfl))
          go_wp2_with (first | (go_at_call 61; refine (within_any _ _ _ _).mono ?_; rintro e w1 ⟨rfl, rfl⟩) | (go_at_call 62; refine (isTemp_any _ _).mono ?_; rintro e w1 ⟨rfl, rfl⟩))
          go_ret
          exact ⟨ret_bool e.out, xw.alloc _⟩
        · have hk := Lib.hid (show ∀ j, j < i + 1 → okSeg (zs.getD j (0, 0)) = true from fun j hj => by
            by_cases hji : j = i
            · rw [hji, ok.out, h1, h2]; rfl
            · exact hh.out j (by omega))
          go_wp2_with (first | (go_at_call 61; refine (within_any _ _ _ _).mono ?_; rintro e w1 ⟨rfl, rfl⟩) | (go_at_call 62; refine (isTemp_any _ _).mono ?_; rintro e w1 ⟨rfl, rfl⟩))
          go_roundw
          case rel => exact ⟨i + 1, by go_num, by omega, xw.alloc _, hk⟩
          case measure => simp [intOf]; omega
    · have hin : i = n := by omega
      subst hin
      have e := Lib.hid (vSegs_upto hn hh.out rfl)
      have t1 : decide ((i : Int) < (i : Int)) = false := by simp
      clear hr
      go_wp2
      go_ret
      exact ⟨ret_bool e.out, xw⟩

set_option maxHeartbeats 4000000 in
theorem l12List_any (a : Option Addr) (n c : Nat) (zs : List (Int × Int)) (w : World) (hr : RowAt w a zs) (hn : zs.length = n) (hm : n ≤ 1048576) :
    Calls Try.prog 66 #[.slice a n c] w fun e w' => e = .returned (.bool (vSegs zs)) ∧ Ext w w' := by
  go_enter Try.func66, Try.ntmps66
  go_wp2_with fail
  go_loopw [3] (fun kk wr => ∃ i : Nat, kk = .int .i64 i ∧ i ≤ n ∧ Ext w wr ∧ Hid (∀ j, j < i → okSeg (zs.getD j (0, 0)) = true)) (fun kk _ => n - (intOf kk).toNat)
  case atStart => exact ⟨0, rfl, Nat.zero_le _, Ext.refl _, Lib.hid (fun j hj => by omega)⟩
  case round =>
    obtain ⟨i, rfl, hi, xw, hh⟩ := hrel
    by_cases h0 : i < n
    · obtain ⟨b, off, rfl, hb, x, y, ex, ey, c0, c1⟩ := (hr.ext xw).look (j := i) (by omega)
      have t1 : decide ((i : Int) < (n : Int)) = true := by simp; omega
      have ok := Lib.hid (okSeg_of ex.out ey.out)
      clear ex ey hr
      cases h1 : inB x 1 240
      · have e := Lib.hid (vSegs_bad hn h0 (by rw [ok.out, h1]; rfl))
        go_wp2_with (first | (go_at_call 90; refine (l00In_any _ _ _ _).mono ?_; rintro e w1 ⟨rfl, rfl⟩) | (go_at_call 63; refine (l12Temp_any _ _).mono ?_; rintro e w1 ⟨rfl, rfl⟩))
        go_ret
        exact ⟨ret_bool e.out, xw⟩
      · cases h2 : inB y (-400) 600
        · have e := Lib.hid (vSegs_bad hn h0 (by rw [ok.out, h1, h2]; rfl))
          go_wp2_with (first | (go_at_call 90; refine (l00In_any _ _ _ _).mono ?_; rintro e w1 ⟨rfl, rfl⟩) | (go_at_call 63; refine (l12Temp_any _ _).mono ?_; rintro e w1 ⟨rfl, rfl⟩))
          go_ret
          exact ⟨ret_bool e.out, xw⟩
        · have hk := Lib.hid (show ∀ j, j < i + 1 → okSeg (zs.getD j (0, 0)) = true from fun j hj => by
            by_cases hji : j = i
            · rw [hji, ok.out, h1, h2]; rfl
            · exact hh.out j (by omega))
          go_wp2_with (first | (go_at_call 90; refine (l00In_any _ _ _ _).mono ?_; rintro e w1 ⟨rfl, rfl⟩) | (go_at_call 63; refine (l12Temp_any _ _).mono ?_; rintro e w1 ⟨rfl, rfl⟩))
          go_roundw
          case rel => exact ⟨i + 1, by go_num, by omega, xw, hk⟩
          case measure => simp [intOf]; omega
    · have hin : i = n := by omega
      subst hin
      have e := Lib.hid (vSegs_upto hn hh.out rfl)
      have t1 : decide ((i : Int) < (i : Int)) = false := by simp
      clear hr
      go_wp2
      go_ret
      exact ⟨ret_bool e.out, xw⟩

set_option maxHeartbeats 400000 in
theorem specValidSegments_any (a : Option Addr) (n c : Nat) (zs : List (Int × Int)) (w : World) (hr : RowAt w a zs) (hn : zs.length = n) (hm : n ≤ 1048576) :
    Calls Try.prog 26 #[.slice a n c] w fun e w' => e = .returned (.bool (vSegs zs)) ∧ Ext w w' := by
  go_enter Try.func26, Try.ntmps26
  go_wp2_with (go_at_call 66; refine (l12List_any _ _ _ zs _ hr hn hm).mono ?_; rintro e w1 ⟨rfl, x1⟩)
  go_ret
  exact ⟨rfl, x1⟩

set_option maxHeartbeats 4000000 in
theorem validSegments_walk (a : Option Addr) (n c : Nat) (zs : List (Int × Int)) (w : World) (hr : RowAt w a zs) (hn : zs.length = n) (hm : n ≤ 9223372036854775807) :
    Calls Try.prog 6 #[.slice a n c] w fun e w' => e = .returned (.bool true) ∧ Ext w w' := by
  by_cases hs : n ≤ 1048576
  · have z := Lib.hid (show szOf n = 1048576 - (n : Int) by simp [szOf, hs])
    have t0 : ¬ (1048576 - (n : Int)) < 0 := by omega
    go_enter Try.func6, Try.ntmps6
    have x0 := Ext.refl w
    go_wp2_with (first | (go_at_call 25; refine (szSegmentS_any _ _ _ _ hm).mono ?_; rintro e w1 ⟨rfl, rfl⟩; rw [z.out]) | (go_at_call 27; refine (toSegmentS_any _ _ _ zs _ (hr.ext x0) hn hs).mono ?_; rintro e w1 ⟨rfl, hf, x1⟩; (try have hp := RowAt.ext hg x1); have hg := hf.row hn.symm; have x0 := x0.trans x1; clear x1) | (go_at_call 28; refine (implValidSegments_any _ _ _ zs _ hg hn hs).mono ?_; rintro e w1 ⟨rfl, x1⟩; have hg := hg.ext x1; have x0 := x0.trans x1; clear x1) | (go_at_call 26; refine (specValidSegments_any _ _ _ zs _ hg hn hs).mono ?_; rintro e w1 ⟨rfl, x1⟩; have hg := hg.ext x1; have x0 := x0.trans x1; clear x1) | (go_at_call 29; refine (eqSegmentS_any _ _ _ _ _ zs _ hp hg hn hs).mono ?_; rintro e w1 ⟨rfl, x1⟩; have x0 := x0.trans x1; clear x1))
    go_ret
    exact ⟨rfl, x0⟩
  · have z := Lib.hid (show szOf n = -1 by simp [szOf, hs])
    go_enter Try.func6, Try.ntmps6
    go_wp2_with (first | (go_at_call 25; refine (szSegmentS_any _ _ _ _ hm).mono ?_; rintro e w1 ⟨rfl, rfl⟩; rw [z.out]))
    go_ret
    exact ⟨rfl, Ext.refl _⟩
end Go.Proofs.Ytiodlbgfgeimoaa

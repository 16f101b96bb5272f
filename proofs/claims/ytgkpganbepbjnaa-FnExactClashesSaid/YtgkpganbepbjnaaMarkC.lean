/-
  Numbers are written into a row of segments of the call's own, and found there again.
-/
import Derived.Test.YtgkpganbepbjnaaOwnC
import Derived.Test.YtgkpganbepbjnaaMark
namespace Go.Proofs.Ytgkpganbepbjnaa
open Go.RowKit
set_option linter.unusedSimpArgs false
set_option linter.unusedVariables false

theorem set2_at {ys : List (Int × Int)} {i : Nat} {x y : Int} (hi : i < ys.length) (j : Nat) :
    ((ys.set i (x, (ys.getD i (0, 0)).2)).set i (((ys.set i (x, (ys.getD i (0, 0)).2)).getD i (0, 0)).1, y)).getD j (0, 0) = if i = j then (x, y) else ys.getD j (0, 0) := by
  have h1 : (ys.set i (x, (ys.getD i (0, 0)).2)).getD i (0, 0) = (x, (ys.getD i (0, 0)).2) := by
    rw [List.getD_eq_getElem?_getD, List.getElem?_set]; simp [hi]
  rw [h1]
  by_cases h : i = j
  · subst h
    rw [if_pos rfl, List.getD_eq_getElem?_getD, List.getElem?_set]
    simp [hi]
  · rw [if_neg h, List.getD_eq_getElem?_getD, List.getElem?_set, if_neg h, List.getElem?_set, if_neg h, ← List.getD_eq_getElem?_getD]

set_option maxHeartbeats 4000000 in
theorem markOwn_any (a : Option Addr) (n c B : Nat) (s : Int) (zs : List (Int × Int)) (w : World) (hr : PairsOf w B (.slice a n c) zs) (hm : n ≤ 1048576) (hs : 0 ≤ s ∧ s ≤ 1000000000) :
    Calls Try.prog 50 #[.slice a n c, .int .i64 s] w fun e w' => e = .returned (.int .i64 (s + 2 * n)) ∧ (∃ ys, PairsOf w' B (.slice a n c) ys ∧ ∀ j, j < n → ys.getD j (0, 0) = (s + 2 * j, s + 2 * j + 1)) ∧ Wrote (Value.ownBlock (.slice a n c)) w w' := by
  go_enter Try.func50, Try.ntmps50
  go_wp2_with fail
  go_loopw [1, 5] (fun ss kk wr => ∃ i : Nat, kk = .int .i64 i ∧ ss = .int .i64 (s + 2 * i) ∧ i ≤ n ∧ Wrote (Value.ownBlock (.slice a n c)) w wr ∧ ∃ ys, PairsOf wr B (.slice a n c) ys ∧ ∀ j, j < i → ys.getD j (0, 0) = (s + 2 * j, s + 2 * j + 1)) (fun _ kk _ => n - (intOf kk).toNat)
  case atStart => exact ⟨0, rfl, by simp, Nat.zero_le _, Wrote.refl _ _, zs, hr, fun j hj => by omega⟩
  case round =>
    clear hr
    obtain ⟨i, rfl, rfl, hi, xw, ys, hy, hh⟩ := hrel
    have hyn := Lib.hid hy.len
    replace hh := Lib.hid hh
    by_cases h0 : i < n
    · obtain ⟨g, x, y, rfl, hg, hx, hy2, c0, c1, z0, z1⟩ := hy.nth (j := i) (by rw [hyn.out]; exact h0)
      have t1 : decide ((i : Int) < (n : Int)) = true := by simp; omega
      have q1 : IntKind.i64.wrap (s + 2 * (i : Int) + 1) = s + 2 * (i : Int) + 1 := IntWalk.i64_in _ (by omega)
      have q2 : IntKind.i64.wrap (s + 2 * (i : Int) + 1 + 1) = s + 2 * (i : Int) + 1 + 1 := IntWalk.i64_in _ (by omega)
      have hset := Lib.hid ((hy.set0 (j := i) (by rw [hyn.out]; exact h0) (s + 2 * (i : Int))).set1 (j := i) (by rw [List.length_set, hyn.out]; exact h0) (s + 2 * (i : Int) + 1))
      clear hy hx hy2
      go_wp2_with fail
      go_roundw
      case rel =>
        refine ⟨i + 1, by go_num, by congr 1; omega, by omega, (xw.trans (Wrote.set _ _ _ _)).trans (Wrote.set _ _ _ _), _, hset.out, fun j hj => ?_⟩
        rw [set2_at (by rw [hyn.out]; exact h0)]
        by_cases hji : i = j
        · subst hji; rw [if_pos rfl]
        · rw [if_neg hji]; exact hh.out j (by omega)
      case measure => simp [intOf]; omega
    · have hin : i = n := by omega
      subst hin
      have t1 : decide ((i : Int) < (i : Int)) = false := by simp
      replace hy := Lib.hid hy
      go_wp2
      go_ret
      exact ⟨rfl, ⟨ys, hy.out, hh.out⟩, xw⟩

set_option maxHeartbeats 4000000 in
theorem heldOwn_any (a : Option Addr) (n c B : Nat) (s : Int) (zs : List (Int × Int)) (w : World) (hr : PairsOf w B (.slice a n c) zs) (hz : ∀ j, j < n → zs.getD j (0, 0) = (s + 2 * j, s + 2 * j + 1)) (hm : n ≤ 1048576) (hs : 0 ≤ s ∧ s ≤ 1000000000) :
    Calls Try.prog 51 #[.slice a n c, .int .i64 s] w fun e w' => e = .returned (.int .i64 (s + 2 * n)) ∧ Ext w w' := by
  have hn := Lib.hid hr.len
  replace hz := Lib.hid hz
  go_enter Try.func51, Try.ntmps51
  go_wp2_with fail
  go_loopw [1, 5] (fun ss kk wr => ∃ i : Nat, kk = .int .i64 i ∧ ss = .int .i64 (s + 2 * i) ∧ i ≤ n ∧ Ext w wr) (fun _ kk _ => n - (intOf kk).toNat)
  case atStart => exact ⟨0, rfl, by simp, Nat.zero_le _, Ext.refl _⟩
  case round =>
    obtain ⟨i, rfl, rfl, hi, xw⟩ := hrel
    by_cases h0 : i < n
    · obtain ⟨g, x, y, rfl, hg, hx, hy, c0, c1, _, _⟩ := (hr.ext xw).nth (j := i) (by rw [hn.out]; exact h0)
      have hxx : x = s + 2 * (i : Int) := by rw [← hx.out, hz.out i h0]
      have hyy : y = s + 2 * (i : Int) + 1 := by rw [← hy.out, hz.out i h0]
      subst hxx
      subst hyy
      have t1 : decide ((i : Int) < (n : Int)) = true := by simp; omega
      have q1 : IntKind.i64.wrap (s + 2 * (i : Int) + 1) = s + 2 * (i : Int) + 1 := IntWalk.i64_in _ (by omega)
      have q2 : IntKind.i64.wrap (s + 2 * (i : Int) + 1 + 1) = s + 2 * (i : Int) + 1 + 1 := IntWalk.i64_in _ (by omega)
      clear hr hx hy
      go_wp2_with fail
      go_roundw
      case rel => exact ⟨i + 1, by go_num, by congr 1; omega, by omega, xw⟩
      case measure => simp [intOf]; omega
    · have hin : i = n := by omega
      subst hin
      have t1 : decide ((i : Int) < (i : Int)) = false := by simp
      clear hr
      go_wp2
      go_ret
      exact ⟨rfl, xw⟩
end Go.Proofs.Ytgkpganbepbjnaa

/-
  Numbers are written into a row of integers, and found there again.
-/
import Derived.Test.YtgkpganbepbjnaaEqInts
namespace Go.Proofs.Ytgkpganbepbjnaa
open Go.RowKit
set_option linter.unusedSimpArgs false
set_option linter.unusedVariables false

/-- The world w' is w but for the block of one row. -/
def Wrote (row : Option Nat) (w w' : World) : Prop := w.grownBy w' row ∧ w.drawn ≤ w'.drawn
theorem Wrote.refl (row : Option Nat) (w : World) : Wrote row w w := ⟨World.grownBy.refl w row, Nat.le_refl _⟩
theorem Wrote.trans {row : Option Nat} {a b c : World} (h : Wrote row a b) (k : Wrote row b c) : Wrote row a c :=
  ⟨⟨k.1.os.trans h.1.os, k.1.tape.trans h.1.tape, k.1.output.trans h.1.output, Nat.le_trans h.1.size k.1.size,
    fun i hi hne => (k.1.block i (Nat.lt_of_lt_of_le hi h.1.size) hne).trans (h.1.block i hi hne)⟩, Nat.le_trans h.2 k.2⟩
theorem Wrote.set (w : World) (g j : Nat) (v : Value) : Wrote (some g) w (w.setCell ⟨g, j, none⟩ v) :=
  ⟨⟨rfl, rfl, rfl, by simp [World.setCell], fun k hk hne => Below.heap_setCell _ _ _ _ (by intro e; apply hne; rw [e])⟩, Nat.le_refl _⟩
theorem IntsOf.set {w : World} {base n cap g : Nat} {zs : List Int} (h : IntsOf w base (.slice (some ⟨g, 0, none⟩) n cap) zs) (j : Nat) (x : Int) :
    IntsOf (w.setCell ⟨g, j, none⟩ (.int .i64 x)) base (.slice (some ⟨g, 0, none⟩) n cap) (zs.set j x) := by
  have hn := h.len
  subst hn
  have := World.ownsRow.stored h j (.int .i64 x)
  unfold IntsOf
  rw [List.length_set, List.map_set]
  exact this.1

set_option maxHeartbeats 4000000 in
theorem markInt64S_any (a : Option Addr) (n c B : Nat) (s : Int) (zs : List Int) (w : World) (hr : IntsOf w B (.slice a n c) zs) (hm : n ≤ 1048576) (hs : 0 ≤ s ∧ s ≤ 1000000000) :
    Calls Try.prog 33 #[.slice a n c, .int .i64 s] w fun e w' => e = .returned (.int .i64 (s + n)) ∧ (∃ ys, IntsOf w' B (.slice a n c) ys ∧ ∀ j, j < n → ys.getD j 0 = s + j) ∧ Wrote (Value.ownBlock (.slice a n c)) w w' := by
  have hn := Lib.hid hr.len
  go_enter Try.func33, Try.ntmps33
  go_wp2_with fail
  go_loopw [1, 5] (fun ss kk wr => ∃ i : Nat, kk = .int .i64 i ∧ ss = .int .i64 (s + i) ∧ i ≤ n ∧ Wrote (Value.ownBlock (.slice a n c)) w wr ∧ ∃ ys, IntsOf wr B (.slice a n c) ys ∧ ∀ j, j < i → ys.getD j 0 = s + j) (fun _ kk _ => n - (intOf kk).toNat)
  case atStart => exact ⟨0, rfl, by simp, Nat.zero_le _, Wrote.refl _ _, zs, hr, fun j hj => by omega⟩
  case round =>
    clear hr
    obtain ⟨i, rfl, rfl, hi, xw, ys, hy, hh⟩ := hrel
    have hyn := Lib.hid hy.len
    replace hh := Lib.hid hh
    by_cases h0 : i < n
    · obtain ⟨g, x, rfl, hg, hx, c0⟩ := hy.nth (j := i) (by rw [hyn.out]; exact h0)
      have hfz : wr.frozen? ⟨g, i, none⟩ = false := by
        have h9 := hy.len
        subst h9
        exact World.ownsRow.frozenAt hy i
      have t1 : decide ((i : Int) < (n : Int)) = true := by simp; omega
      have q1 : IntKind.i64.wrap (s + (i : Int) + 1) = s + (i : Int) + 1 := IntWalk.i64_in _ (by omega)
      have hset := Lib.hid (hy.set i (s + (i : Int)))
      clear hy hx
      go_wp2_with fail
      go_roundw
      case rel =>
        refine ⟨i + 1, by go_num, by go_num, by omega, xw.trans (Wrote.set _ _ _ _), _, hset.out, fun j hj => ?_⟩
        rw [List.getD_eq_getElem?_getD, List.getElem?_set]
        by_cases hji : i = j
        · subst hji; simp [hyn.out, h0]
        · rw [if_neg hji, ← List.getD_eq_getElem?_getD]; exact hh.out j (by omega)
      case measure => simp [intOf]; omega
    · have hin : i = n := by omega
      subst hin
      have t1 : decide ((i : Int) < (i : Int)) = false := by simp
      replace hy := Lib.hid hy
      go_wp2
      go_ret
      exact ⟨rfl, ⟨ys, hy.out, hh.out⟩, xw⟩

set_option maxHeartbeats 4000000 in
theorem heldInt64S_any (a : Option Addr) (n c B : Nat) (s : Int) (zs : List Int) (w : World) (hr : IntsOf w B (.slice a n c) zs) (hz : ∀ j, j < n → zs.getD j 0 = s + j) (hm : n ≤ 1048576) (hs : 0 ≤ s ∧ s ≤ 1000000000) :
    Calls Try.prog 34 #[.slice a n c, .int .i64 s] w fun e w' => e = .returned (.int .i64 (s + n)) ∧ Ext w w' := by
  have hn := Lib.hid hr.len
  replace hz := Lib.hid hz
  go_enter Try.func34, Try.ntmps34
  go_wp2_with fail
  go_loopw [1, 5] (fun ss kk wr => ∃ i : Nat, kk = .int .i64 i ∧ ss = .int .i64 (s + i) ∧ i ≤ n ∧ Ext w wr) (fun _ kk _ => n - (intOf kk).toNat)
  case atStart => exact ⟨0, rfl, by simp, Nat.zero_le _, Ext.refl _⟩
  case round =>
    obtain ⟨i, rfl, rfl, hi, xw⟩ := hrel
    by_cases h0 : i < n
    · obtain ⟨g, x, rfl, hg, hx, c0⟩ := (hr.ext xw).nth (j := i) (by rw [hn.out]; exact h0)
      have hxx : x = s + (i : Int) := hx.out.symm.trans (hz.out i h0)
      subst hxx
      have t1 : decide ((i : Int) < (n : Int)) = true := by simp; omega
      have q1 : IntKind.i64.wrap (s + (i : Int) + 1) = s + (i : Int) + 1 := IntWalk.i64_in _ (by omega)
      clear hr hx
      go_wp2_with fail
      go_roundw
      case rel => exact ⟨i + 1, by go_num, by go_num, by omega, xw⟩
      case measure => simp [intOf]; omega
    · have hin : i = n := by omega
      subst hin
      have t1 : decide ((i : Int) < (i : Int)) = false := by simp
      clear hr
      go_wp2
      go_ret
      exact ⟨rfl, xw⟩
end Go.Proofs.Ytgkpganbepbjnaa

/-
  The state behind a swing.
-/
import Derived.Test.YtehebhphlaghfaaSwing
namespace Go.Proofs.Ytehebhphlaghfaa
open Go.RowKit
set_option linter.unusedSimpArgs false
set_option linter.unusedVariables false

/-- Is the count of ticks not full behind the swing? -/
def afOk (u l q n k : Int) : Bool := !(swT u l q n && k == 1000000000)
def afK (u l q n k : Int) : Int := if swT u l q n = true then k + 1 else k
def cdE (z u i l m q n k : Int) : Int := if vBeat z u i l m n k = false then 1 else if inB q 0 1000 = false then 2 else 0
theorem cdE_ok {z u i l m q n k : Int} (h : cdE z u i l m q n k = 0) : EV z u i l m ∧ ((0 ≤ n ∧ n ≤ m) ∧ (0 ≤ k ∧ k ≤ 1000000000)) ∧ (0 ≤ q ∧ q ≤ 1000) := by
  unfold cdE at h
  split at h
  · omega
  · split at h
    · omega
    · rename_i h1 h2
      simp [vBeat] at h1 h2
      exact ⟨vEsc_iff.1 h1.1, vBt_iff.1 h1.2, inB_iff.1 h2⟩
def aE (u i l m q n k : Int) : Int := if afOk u l q n k = true then swE u i l m q n else 0
def aK (u l q n k : Int) : Int := if afOk u l q n k = true then afK u l q n k else 0
def aT (u l q n k : Int) : Bool := if afOk u l q n k = true then swT u l q n else false
def aC (u l q n k : Int) : Int := if afOk u l q n k = true then 0 else 5
def sgE (z u i l m q n k : Int) : Int := if cdE z u i l m q n k = 0 then aE u i l m q n k else 0
def sgK (z u i l m q n k : Int) : Int := if cdE z u i l m q n k = 0 then aK u l q n k else 0
def sgT (z u i l m q n k : Int) : Bool := if cdE z u i l m q n k = 0 then aT u l q n k else false
def sgC (z u i l m q n k : Int) : Int := if cdE z u i l m q n k = 0 then aC u l q n k else cdE z u i l m q n k

theorem st3 {a b c d x y : Int} {s t : Bool} (h : a = b) (k : c = d) (l : s = t) (m : x = y) :
    Ending.returned (.tuple #[.agg #[.int .i64 a, .int .i64 c], .bool s, .int .i64 x]) = .returned (.tuple #[.agg #[.int .i64 b, .int .i64 d], .bool t, .int .i64 y]) := by rw [h, k, l, m]
theorem st2 {a b c d x y : Int} (h : a = b) (k : c = d) (m : x = y) :
    Ending.returned (.tuple #[.agg #[.int .i64 a, .int .i64 c], .int .i64 x]) = .returned (.tuple #[.agg #[.int .i64 b, .int .i64 d], .int .i64 y]) := by rw [h, k, m]

set_option maxHeartbeats 1000000 in
theorem after_any (z u i l m q n k : Int) (w : World) (hu : 1 ≤ u ∧ u ≤ 100000) (hi : 0 ≤ i ∧ i ≤ 100000) (hl : 0 ≤ l ∧ l ≤ 1000) (hm : 1 ≤ m ∧ m ≤ 100000) (hq : 0 ≤ q ∧ q ≤ 1000) (hn : 0 ≤ n ∧ n ≤ 100000) (hk : 0 ≤ k ∧ k ≤ 1000000000) :
    Calls Try.prog 69 #[.agg #[.int .i64 z, .int .i64 u, .int .i64 i, .int .i64 l, .int .i64 m], .int .i64 q, .agg #[.int .i64 n, .int .i64 k]] w fun e w' => e = .returned (.tuple #[.agg #[.int .i64 (aE u i l m q n k), .int .i64 (aK u l q n k)], .bool (aT u l q n k), .int .i64 (aC u l q n k)]) ∧ Ext w w' := by
  cases ht : swT u l q n
  · have o1 : afOk u l q n k = true := by simp [afOk, ht]
    have e1 := Lib.hid (show (swE u i l m q n) = aE u i l m q n k by simp [aE, o1, ht])
    have e2 := Lib.hid (show k = aK u l q n k by simp [aK, afK, o1, ht])
    have e3 := Lib.hid (show false = aT u l q n k by simp [aT, o1, ht])
    have e4 := Lib.hid (show 0 = aC u l q n k by simp [aC, o1, ht])
    clear o1
    go_enter Try.func69, Try.ntmps69
    go_wp2_with fail
    refine (implswing_any z u i l m q n _ hu hi hl hm hq hn).mono ?_
    rintro e w1 ⟨rfl, x0⟩
    obtain ⟨xc, xf, xs⟩ := x0.cells
    go_wp2
    exact bodyPost_ret (v := .tuple #[.agg #[.int .i64 (swE u i l m q n), .int .i64 k], .bool false, .int .i64 0]) (by simp [results, Try.results69, go_sem, *]) rfl ⟨st3 e1.out e2.out e3.out e4.out, by (iterate 3 (refine Ext.setCell ?_ (by simp; try omega) _)); exact ((((Ext.refl _).alloc _).alloc _).alloc _).trans x0⟩
  · by_cases hf : k = 1000000000
    · subst hf
      have o1 : afOk u l q n 1000000000 = false := by simp [afOk, ht]
      have e1 := Lib.hid (show 0 = aE u i l m q n 1000000000 by simp [aE, o1])
      have e2 := Lib.hid (show 0 = aK u l q n 1000000000 by simp [aK, afK, o1])
      have e3 := Lib.hid (show false = aT u l q n 1000000000 by simp [aT, o1])
      have e4 := Lib.hid (show 5 = aC u l q n 1000000000 by simp [aC, o1])
      clear o1
      go_enter Try.func69, Try.ntmps69
      go_wp2_with fail
      refine (implswing_any z u i l m q n _ hu hi hl hm hq hn).mono ?_
      rintro e w1 ⟨rfl, x0⟩
      obtain ⟨xc, xf, xs⟩ := x0.cells
      go_wp2
      exact bodyPost_ret (v := .tuple #[.agg #[.int .i64 0, .int .i64 0], .bool false, .int .i64 5]) (by simp [results, Try.results69, go_sem, *]) rfl ⟨st3 e1.out e2.out e3.out e4.out, by (iterate 4 (refine Ext.setCell ?_ (by simp; try omega) _)); exact ((((Ext.refl _).alloc _).alloc _).alloc _).trans x0⟩
    · have o1 : afOk u l q n k = true := by simp [afOk, hf]
      have hk2 : k + 1 ≤ 1000000000 := by omega
      have e1 := Lib.hid (show (swE u i l m q n) = aE u i l m q n k by simp [aE, o1, ht])
      have e2 := Lib.hid (show k + 1 = aK u l q n k by simp [aK, afK, o1, ht])
      have e3 := Lib.hid (show true = aT u l q n k by simp [aT, o1, ht])
      have e4 := Lib.hid (show 0 = aC u l q n k by simp [aC, o1, ht])
      clear o1
      go_enter Try.func69, Try.ntmps69
      go_wp2_with fail
      refine (implswing_any z u i l m q n _ hu hi hl hm hq hn).mono ?_
      rintro e w1 ⟨rfl, x0⟩
      obtain ⟨xc, xf, xs⟩ := x0.cells
      go_wp2
      exact bodyPost_ret (v := .tuple #[.agg #[.int .i64 (swE u i l m q n), .int .i64 (k + 1)], .bool true, .int .i64 0]) (by simp [results, Try.results69, go_sem, *]) rfl ⟨st3 e1.out e2.out e3.out e4.out, by (iterate 4 (refine Ext.setCell ?_ (by simp; try omega) _)); exact ((((Ext.refl _).alloc _).alloc _).alloc _).trans x0⟩

set_option maxHeartbeats 1000000 in
theorem l11Code_any (z u i l m q n k : Int) (w : World) :
    Calls Try.prog 73 #[.agg #[.int .i64 z, .int .i64 u, .int .i64 i, .int .i64 l, .int .i64 m], .int .i64 q, .agg #[.int .i64 n, .int .i64 k]] w fun e w' => e = .returned (.int .i64 (cdE z u i l m q n k)) ∧ Ext w w' := by
  cases h1 : vBeat z u i l m n k
  · have e1 := Lib.hid (show 1 = cdE z u i l m q n k by simp [cdE, h1])
    go_enter Try.func73, Try.ntmps73
    go_wp2_with (go_at_call 59; refine (l11Beat_any z u i l m n k _).mono ?_; rintro e w1 ⟨rfl, x1⟩; (try clear xc xf xs); (first | replace x0 := x0.trans x1 | replace x0 := (x0.alloc _).trans x1 | replace x0 := (x0.drew).trans x1 | replace x0 := ((x0.alloc _).alloc _).trans x1 | have x0 := x1); clear x1; obtain ⟨xc, xf, xs⟩ := x0.cells)
    go_ret
    exact ⟨ret_int e1.out, (((Ext.refl _).alloc _).alloc _).trans x0⟩
  · cases h2 : inB q 0 1000
    · have e1 := Lib.hid (show 2 = cdE z u i l m q n k by simp [cdE, h1, h2])
      go_enter Try.func73, Try.ntmps73
      go_wp2_with (first | (go_at_call 59; refine (l11Beat_any z u i l m n k _).mono ?_; rintro e w1 ⟨rfl, x1⟩; (try clear xc xf xs); (first | replace x0 := x0.trans x1 | replace x0 := (x0.alloc _).trans x1 | replace x0 := (x0.drew).trans x1 | replace x0 := ((x0.alloc _).alloc _).trans x1 | have x0 := x1); clear x1; obtain ⟨xc, xf, xs⟩ := x0.cells) | (go_at_call 66; refine (l00In_any _ _ _ _).mono ?_; rintro e w1 ⟨rfl, rfl⟩))
      go_ret
      exact ⟨ret_int e1.out, (((Ext.refl _).alloc _).alloc _).trans x0⟩
    · have e1 := Lib.hid (show 0 = cdE z u i l m q n k by simp [cdE, h1, h2])
      go_enter Try.func73, Try.ntmps73
      go_wp2_with (first | (go_at_call 59; refine (l11Beat_any z u i l m n k _).mono ?_; rintro e w1 ⟨rfl, x1⟩; (try clear xc xf xs); (first | replace x0 := x0.trans x1 | replace x0 := (x0.alloc _).trans x1 | replace x0 := (x0.drew).trans x1 | replace x0 := ((x0.alloc _).alloc _).trans x1 | have x0 := x1); clear x1; obtain ⟨xc, xf, xs⟩ := x0.cells) | (go_at_call 66; refine (l00In_any _ _ _ _).mono ?_; rintro e w1 ⟨rfl, rfl⟩))
      go_ret
      exact ⟨ret_int e1.out, (((Ext.refl _).alloc _).alloc _).trans x0⟩

end Go.Proofs.Ytehebhphlaghfaa

/-
  One swing of a state, and the walk of its law.
-/
import Derived.Test.YtehebhphlaghfaaAfter
namespace Go.Proofs.Ytehebhphlaghfaa
open Go.RowKit
set_option linter.unusedSimpArgs false
set_option linter.unusedVariables false

set_option maxHeartbeats 1000000 in
theorem implSwing_any (z u i l m q n k : Int) (w : World) :
    Calls Try.prog 29 #[.agg #[.int .i64 z, .int .i64 u, .int .i64 i, .int .i64 l, .int .i64 m], .int .i64 q, .agg #[.int .i64 n, .int .i64 k]] w fun e w' => e = .returned (.tuple #[.agg #[.int .i64 (sgE z u i l m q n k), .int .i64 (sgK z u i l m q n k)], .bool (sgT z u i l m q n k), .int .i64 (sgC z u i l m q n k)]) ∧ Ext w w' := by
  cases h1 : vBeat z u i l m n k
  · have hc : cdE z u i l m q n k = 1 := by simp [cdE, h1]
    have e1 := Lib.hid (show 0 = sgE z u i l m q n k by simp [sgE, hc])
    have e2 := Lib.hid (show 0 = sgK z u i l m q n k by simp [sgK, hc])
    have e3 := Lib.hid (show false = sgT z u i l m q n k by simp [sgT, hc])
    have e4 := Lib.hid (show 1 = sgC z u i l m q n k by simp [sgC, hc])
    clear hc
    go_enter Try.func29, Try.ntmps29
    go_wp2_with (first | (go_at_call 23; refine (implValidBeat_any z u i l m n k _).mono ?_; rintro e w1 ⟨rfl, x1⟩; (try clear xc xf xs); (first | replace x0 := x0.trans x1 | replace x0 := (x0.alloc _).trans x1 | replace x0 := (x0.drew).trans x1 | replace x0 := ((x0.alloc _).alloc _).trans x1 | have x0 := x1); clear x1; obtain ⟨xc, xf, xs⟩ := x0.cells))
    exact bodyPost_ret (v := .tuple #[.agg #[.int .i64 0, .int .i64 0], .bool false, .int .i64 1]) (by simp [results, Try.results29, go_sem, *]) rfl ⟨st3 e1.out e2.out e3.out e4.out, by (repeat (refine Ext.setCell ?_ (by simp; try omega) _)); exact ((((Ext.refl _).alloc _).alloc _).alloc _).trans x0⟩
  · cases h2 : inB q 0 1000
    · have hc : cdE z u i l m q n k = 2 := by simp [cdE, h1, h2]
      have e1 := Lib.hid (show 0 = sgE z u i l m q n k by simp [sgE, hc])
      have e2 := Lib.hid (show 0 = sgK z u i l m q n k by simp [sgK, hc])
      have e3 := Lib.hid (show false = sgT z u i l m q n k by simp [sgT, hc])
      have e4 := Lib.hid (show 2 = sgC z u i l m q n k by simp [sgC, hc])
      clear hc
      go_enter Try.func29, Try.ntmps29
      go_wp2_with (first | (go_at_call 23; refine (implValidBeat_any z u i l m n k _).mono ?_; rintro e w1 ⟨rfl, x1⟩; (try clear xc xf xs); (first | replace x0 := x0.trans x1 | replace x0 := (x0.alloc _).trans x1 | replace x0 := (x0.drew).trans x1 | replace x0 := ((x0.alloc _).alloc _).trans x1 | have x0 := x1); clear x1; obtain ⟨xc, xf, xs⟩ := x0.cells) | (go_at_call 64; refine (isTorque_any _ _).mono ?_; rintro e w1 ⟨rfl, rfl⟩))
      exact bodyPost_ret (v := .tuple #[.agg #[.int .i64 0, .int .i64 0], .bool false, .int .i64 2]) (by simp [results, Try.results29, go_sem, *]) rfl ⟨st3 e1.out e2.out e3.out e4.out, by (repeat (refine Ext.setCell ?_ (by simp; try omega) _)); exact ((((Ext.refl _).alloc _).alloc _).alloc _).trans x0⟩
    · have hc : cdE z u i l m q n k = 0 := by simp [cdE, h1, h2]
      have e1 := Lib.hid (show aE u i l m q n k = sgE z u i l m q n k by simp [sgE, hc])
      have e2 := Lib.hid (show aK u l q n k = sgK z u i l m q n k by simp [sgK, hc])
      have e3 := Lib.hid (show aT u l q n k = sgT z u i l m q n k by simp [sgT, hc])
      have e4 := Lib.hid (show aC u l q n k = sgC z u i l m q n k by simp [sgC, hc])
      obtain ⟨ev, ⟨hn0, hk⟩, hq⟩ := cdE_ok hc
      have hu := ev.bu; have hi := ev.bi; have hl := ev.bl
      have hm : 1 ≤ m ∧ m ≤ 100000 := by have := ev.bm; omega
      have hn : 0 ≤ n ∧ n ≤ 100000 := by omega
      clear hc ev
      go_enter Try.func29, Try.ntmps29
      go_wp2_with (first | (go_at_call 23; refine (implValidBeat_any z u i l m n k _).mono ?_; rintro e w1 ⟨rfl, x1⟩; (try clear xc xf xs); (first | replace x0 := x0.trans x1 | replace x0 := (x0.alloc _).trans x1 | replace x0 := (x0.drew).trans x1 | replace x0 := ((x0.alloc _).alloc _).trans x1 | have x0 := x1); clear x1; obtain ⟨xc, xf, xs⟩ := x0.cells) | (go_at_call 64; refine (isTorque_any _ _).mono ?_; rintro e w1 ⟨rfl, rfl⟩) | (go_at_call 69; refine (after_any z u i l m q n k _ hu hi hl hm hq hn hk).mono ?_; rintro e w1 ⟨rfl, x1⟩; (try clear xc xf xs); (first | replace x0 := x0.trans x1 | replace x0 := (x0.alloc _).trans x1 | replace x0 := (x0.drew).trans x1 | replace x0 := ((x0.alloc _).alloc _).trans x1 | have x0 := x1); clear x1; obtain ⟨xc, xf, xs⟩ := x0.cells))
      exact bodyPost_ret (v := .tuple #[.agg #[.int .i64 (aE u i l m q n k), .int .i64 (aK u l q n k)], .bool (aT u l q n k), .int .i64 (aC u l q n k)]) (by simp [results, Try.results29, go_sem, *]) rfl ⟨st3 e1.out e2.out e3.out e4.out, by (repeat (refine Ext.setCell ?_ (by simp; try omega) _)); exact ((((Ext.refl _).alloc _).alloc _).alloc _).trans x0⟩

set_option maxHeartbeats 1000000 in
theorem specSwing_any (z u i l m q n k : Int) (w : World) :
    Calls Try.prog 37 #[.agg #[.int .i64 z, .int .i64 u, .int .i64 i, .int .i64 l, .int .i64 m], .int .i64 q, .agg #[.int .i64 n, .int .i64 k]] w fun e w' => e = .returned (.tuple #[.agg #[.int .i64 (sgE z u i l m q n k), .int .i64 (sgK z u i l m q n k)], .bool (sgT z u i l m q n k), .int .i64 (sgC z u i l m q n k)]) ∧ Ext w w' := by
  by_cases hc : cdE z u i l m q n k = 0
  · obtain ⟨ev, ⟨hn0, hk⟩, hq⟩ := cdE_ok hc
    have hu := ev.bu; have hi := ev.bi; have hl := ev.bl
    have hm : 1 ≤ m ∧ m ≤ 100000 := by have := ev.bm; omega
    have hn : 0 ≤ n ∧ n ≤ 100000 := by omega
    have f0 : (cdE z u i l m q n k != 0) = false := by rw [hc]; rfl
    clear ev
    cases ht : swT u l q n
    · have o1 : afOk u l q n k = true := by simp [afOk, ht]
      have e1 := Lib.hid (show (swE u i l m q n) = sgE z u i l m q n k by simp [sgE, hc, aE, aK, aT, aC, afK, o1, ht])
      have e2 := Lib.hid (show k = sgK z u i l m q n k by simp [sgK, hc, aE, aK, aT, aC, afK, o1, ht])
      have e3 := Lib.hid (show false = sgT z u i l m q n k by simp [sgT, hc, aE, aK, aT, aC, afK, o1, ht])
      have e4 := Lib.hid (show 0 = sgC z u i l m q n k by simp [sgC, hc, aE, aK, aT, aC, afK, o1, ht])
      clear hc o1
      go_enter Try.func37, Try.ntmps37
      go_wp2_with (first | (go_at_call 73; refine (l11Code_any z u i l m q n k _).mono ?_; rintro e w1 ⟨rfl, x1⟩; (try clear xc xf xs); (first | replace x0 := x0.trans x1 | replace x0 := (x0.alloc _).trans x1 | replace x0 := (x0.drew).trans x1 | replace x0 := ((x0.alloc _).alloc _).trans x1 | have x0 := x1); clear x1; obtain ⟨xc, xf, xs⟩ := x0.cells) | (go_at_call 67; refine (l11Swing_any z u i l m q n _ hu hi hl hm hq hn).mono ?_; rintro e w1 ⟨rfl, x1⟩; (try clear xc xf xs); (first | replace x0 := x0.trans x1 | replace x0 := (x0.alloc _).trans x1 | replace x0 := (x0.drew).trans x1 | replace x0 := ((x0.alloc _).alloc _).trans x1 | have x0 := x1); clear x1; obtain ⟨xc, xf, xs⟩ := x0.cells))
      exact bodyPost_ret (v := .tuple #[.agg #[.int .i64 (swE u i l m q n), .int .i64 k], .bool false, .int .i64 0]) (by simp [results, Try.results37, go_sem, *]) rfl ⟨st3 e1.out e2.out e3.out e4.out, by (repeat (refine Ext.setCell ?_ (by simp; try omega) _)); exact ((((Ext.refl _).alloc _).alloc _).alloc _).trans x0⟩
    · by_cases hf : k = 1000000000
      · subst hf
        have o1 : afOk u l q n 1000000000 = false := by simp [afOk, ht]
        have e1 := Lib.hid (show 0 = sgE z u i l m q n 1000000000 by simp [sgE, hc, aE, aK, aT, aC, afK, o1, ht])
        have e2 := Lib.hid (show 0 = sgK z u i l m q n 1000000000 by simp [sgK, hc, aE, aK, aT, aC, afK, o1, ht])
        have e3 := Lib.hid (show false = sgT z u i l m q n 1000000000 by simp [sgT, hc, aE, aK, aT, aC, afK, o1, ht])
        have e4 := Lib.hid (show 5 = sgC z u i l m q n 1000000000 by simp [sgC, hc, aE, aK, aT, aC, afK, o1, ht])
        clear hc o1
        go_enter Try.func37, Try.ntmps37
        go_wp2_with (first | (go_at_call 73; refine (l11Code_any z u i l m q n 1000000000 _).mono ?_; rintro e w1 ⟨rfl, x1⟩; (try clear xc xf xs); (first | replace x0 := x0.trans x1 | replace x0 := (x0.alloc _).trans x1 | replace x0 := (x0.drew).trans x1 | replace x0 := ((x0.alloc _).alloc _).trans x1 | have x0 := x1); clear x1; obtain ⟨xc, xf, xs⟩ := x0.cells) | (go_at_call 67; refine (l11Swing_any z u i l m q n _ hu hi hl hm hq hn).mono ?_; rintro e w1 ⟨rfl, x1⟩; (try clear xc xf xs); (first | replace x0 := x0.trans x1 | replace x0 := (x0.alloc _).trans x1 | replace x0 := (x0.drew).trans x1 | replace x0 := ((x0.alloc _).alloc _).trans x1 | have x0 := x1); clear x1; obtain ⟨xc, xf, xs⟩ := x0.cells))
        exact bodyPost_ret (v := .tuple #[.agg #[.int .i64 0, .int .i64 0], .bool false, .int .i64 5]) (by simp [results, Try.results37, go_sem, *]) rfl ⟨st3 e1.out e2.out e3.out e4.out, by (repeat (refine Ext.setCell ?_ (by simp; try omega) _)); exact ((((Ext.refl _).alloc _).alloc _).alloc _).trans x0⟩
      · have o1 : afOk u l q n k = true := by simp [afOk, hf]
        have f1 : (k == 1000000000) = false := by simpa using hf
        have hk2 : k + 1 ≤ 1000000000 := by omega
        have e1 := Lib.hid (show (swE u i l m q n) = sgE z u i l m q n k by simp [sgE, hc, aE, aK, aT, aC, afK, o1, ht])
        have e2 := Lib.hid (show k + 1 = sgK z u i l m q n k by simp [sgK, hc, aE, aK, aT, aC, afK, o1, ht])
        have e3 := Lib.hid (show true = sgT z u i l m q n k by simp [sgT, hc, aE, aK, aT, aC, afK, o1, ht])
        have e4 := Lib.hid (show 0 = sgC z u i l m q n k by simp [sgC, hc, aE, aK, aT, aC, afK, o1, ht])
        clear hc o1 hf
        go_enter Try.func37, Try.ntmps37
        go_wp2_with (first | (go_at_call 73; refine (l11Code_any z u i l m q n k _).mono ?_; rintro e w1 ⟨rfl, x1⟩; (try clear xc xf xs); (first | replace x0 := x0.trans x1 | replace x0 := (x0.alloc _).trans x1 | replace x0 := (x0.drew).trans x1 | replace x0 := ((x0.alloc _).alloc _).trans x1 | have x0 := x1); clear x1; obtain ⟨xc, xf, xs⟩ := x0.cells) | (go_at_call 67; refine (l11Swing_any z u i l m q n _ hu hi hl hm hq hn).mono ?_; rintro e w1 ⟨rfl, x1⟩; (try clear xc xf xs); (first | replace x0 := x0.trans x1 | replace x0 := (x0.alloc _).trans x1 | replace x0 := (x0.drew).trans x1 | replace x0 := ((x0.alloc _).alloc _).trans x1 | have x0 := x1); clear x1; obtain ⟨xc, xf, xs⟩ := x0.cells))
        exact bodyPost_ret (v := .tuple #[.agg #[.int .i64 (swE u i l m q n), .int .i64 (k + 1)], .bool true, .int .i64 0]) (by simp [results, Try.results37, go_sem, *]) rfl ⟨st3 e1.out e2.out e3.out e4.out, by (repeat (refine Ext.setCell ?_ (by simp; try omega) _)); exact ((((Ext.refl _).alloc _).alloc _).alloc _).trans x0⟩
  · have f0 : (cdE z u i l m q n k != 0) = true := by simpa using hc
    have e1 := Lib.hid (show 0 = sgE z u i l m q n k by simp [sgE, hc])
    have e2 := Lib.hid (show 0 = sgK z u i l m q n k by simp [sgK, hc])
    have e3 := Lib.hid (show false = sgT z u i l m q n k by simp [sgT, hc])
    have e4 := Lib.hid (show cdE z u i l m q n k = sgC z u i l m q n k by simp [sgC, hc])
    clear hc
    go_enter Try.func37, Try.ntmps37
    go_wp2_with (first | (go_at_call 73; refine (l11Code_any z u i l m q n k _).mono ?_; rintro e w1 ⟨rfl, x1⟩; (try clear xc xf xs); (first | replace x0 := x0.trans x1 | replace x0 := (x0.alloc _).trans x1 | replace x0 := (x0.drew).trans x1 | replace x0 := ((x0.alloc _).alloc _).trans x1 | have x0 := x1); clear x1; obtain ⟨xc, xf, xs⟩ := x0.cells))
    exact bodyPost_ret (v := .tuple #[.agg #[.int .i64 0, .int .i64 0], .bool false, .int .i64 (cdE z u i l m q n k)]) (by simp [results, Try.results37, go_sem, *]) rfl ⟨st3 e1.out e2.out e3.out e4.out, by (repeat (refine Ext.setCell ?_ (by simp; try omega) _)); exact ((((Ext.refl _).alloc _).alloc _).alloc _).trans x0⟩

set_option maxHeartbeats 400000 in
theorem eqBeat_same (a b : Int) (w : World) : Calls Try.prog 38 #[.agg #[.int .i64 a, .int .i64 b], .agg #[.int .i64 a, .int .i64 b]] w fun e w' => e = .returned (.bool true) ∧ Ext w w' := by
  go_enter Try.func38, Try.ntmps38
  go_wp2
  go_ret
  exact ⟨rfl, (((Ext.refl _).alloc _).alloc _)⟩

end Go.Proofs.Ytehebhphlaghfaa

/-
  Many swings with one torque.
-/
import Derived.Test.YtehebhphlaghfaaSwPlain
import Derived.Test.YtehebhphlaghfaaSwingB
namespace Go.Proofs.Ytehebhphlaghfaa
open Go.RowKit
set_option linter.unusedSimpArgs false
set_option linter.unusedVariables false

/-- The state behind N swings; none if the count of ticks grows full. -/
def many (u i l m q : Int) : Nat → Int → Int → Option (Int × Int)
  | 0, n, k => some (n, k)
  | N + 1, n, k => if afOk u l q n k = true then many u i l m q N (swE u i l m q n) (afK u l q n k) else none
def cdM (z u i l m q N n k : Int) : Int := if cdE z u i l m q n k = 0 then (if inB N 0 2000 = false then 2 else 0) else cdE z u i l m q n k
def smE (z u i l m q N n k : Int) : Int := if cdM z u i l m q N n k = 0 then ((many u i l m q N.toNat n k).map Prod.fst).getD 0 else 0
def smK (z u i l m q N n k : Int) : Int := if cdM z u i l m q N n k = 0 then ((many u i l m q N.toNat n k).map Prod.snd).getD 0 else 0
def smC (z u i l m q N n k : Int) : Int := if cdM z u i l m q N n k = 0 then (if (many u i l m q N.toNat n k).isSome = true then 0 else 5) else cdM z u i l m q N n k

theorem cdE_zero {z u i l m q n k : Int} (hv : EV z u i l m) (hn : 0 ≤ n ∧ n ≤ m) (hk : 0 ≤ k ∧ k ≤ 1000000000) (hq : 0 ≤ q ∧ q ≤ 1000) : cdE z u i l m q n k = 0 := by
  have h1 := vEsc_iff.2 hv
  have h2 := vBt_iff.2 ⟨hn, hk⟩
  have h3 := inB_iff.2 hq
  simp [cdE, vBeat, h1, h2, h3]
theorem afK_bd {u l q n k : Int} (hk : 0 ≤ k ∧ k ≤ 1000000000) (h : afOk u l q n k = true) : 0 ≤ afK u l q n k ∧ afK u l q n k ≤ 1000000000 := by
  unfold afK
  unfold afOk at h
  cases ht : swT u l q n
  · simp; omega
  · simp [ht] at h
    simp; omega
theorem many_yes {u i l m q n k : Int} {N : Nat} (h : afOk u l q n k = true) : many u i l m q (N + 1) n k = many u i l m q N (aE u i l m q n k) (aK u l q n k) := by simp [many, aE, aK, h]
theorem many_no {u i l m q n k : Int} {N : Nat} (h : afOk u l q n k = false) : many u i l m q (N + 1) n k = none := by simp [many, h]
theorem aC_yes {u l q n k : Int} (h : afOk u l q n k = true) : aC u l q n k = 0 := by simp [aC, h]
theorem aC_no {u l q n k : Int} (h : afOk u l q n k = false) : aC u l q n k = 5 := by simp [aC, h]

set_option maxHeartbeats 4000000 in
theorem implSwingMany_yes (z u i l m q N n k : Int) (w : World) (hcm : cdM z u i l m q N n k = 0) :
    Calls Try.prog 47 #[.agg #[.int .i64 z, .int .i64 u, .int .i64 i, .int .i64 l, .int .i64 m], .int .i64 q, .int .i64 N, .agg #[.int .i64 n, .int .i64 k]] w fun e w' => e = .returned (.tuple #[.agg #[.int .i64 (smE z u i l m q N n k), .int .i64 (smK z u i l m q N n k)], .int .i64 (smC z u i l m q N n k)]) ∧ Ext w w' := by
  have hce : cdE z u i l m q n k = 0 := by unfold cdM at hcm; split at hcm <;> omega
  have hNN : inB N 0 2000 = true := by
    unfold cdM at hcm
    rw [if_pos hce] at hcm
    cases h : inB N 0 2000
    · rw [h] at hcm; simp at hcm
    · rfl
  have hN := inB_iff.1 hNN
  have g1 := Lib.hid (show smE z u i l m q N n k = ((many u i l m q N.toNat n k).map Prod.fst).getD 0 by simp [smE, hcm])
  have g2 := Lib.hid (show smK z u i l m q N n k = ((many u i l m q N.toNat n k).map Prod.snd).getD 0 by simp [smK, hcm])
  have g4 := Lib.hid (show smC z u i l m q N n k = if (many u i l m q N.toNat n k).isSome = true then 0 else 5 by simp [smC, hcm])
  obtain ⟨ev, ⟨hn0, hk⟩, hq⟩ := cdE_ok hce
  have hu := ev.bu; have hi := ev.bi; have hl := ev.bl
  have hm : 1 ≤ m ∧ m ≤ 100000 := by have := ev.bm; omega
  have v1 : vBeat z u i l m n k = true := by unfold cdE at hce; split at hce <;> simp_all
  have v2 : inB q 0 1000 = true := inB_iff.2 hq
  clear hcm hce
  go_enter Try.func47, Try.ntmps47
  go_wp2_with fail
  generalize hW : (((w.alloc (Obj.cells #[.int .i64 z, .int .i64 u, .int .i64 i, .int .i64 l, .int .i64 m] 25)).alloc (Obj.cells #[.int .i64 n, .int .i64 k] 31)).alloc (Obj.cells #[.int .i64 0, .int .i64 0] 31)) = W
  have hE : Ext w W := by rw [← hW]; exact ((((Ext.refl _).alloc _).alloc _).alloc _)
  have hl0 : w.heap.size < W.heap.size := by rw [← hW]; simp; try omega
  have hl1 : w.heap.size + 1 < W.heap.size := by rw [← hW]; simp; try omega
  have hl2 : w.heap.size + 1 + 1 < W.heap.size := by rw [← hW]; simp; try omega
  have f0_0 : W.cell? ⟨w.heap.size, 0, none⟩ = some (.int .i64 z) := by rw [← hW]; simp [go_sem]
  have f0_1 : W.cell? ⟨w.heap.size, 1, none⟩ = some (.int .i64 u) := by rw [← hW]; simp [go_sem]
  have f0_2 : W.cell? ⟨w.heap.size, 2, none⟩ = some (.int .i64 i) := by rw [← hW]; simp [go_sem]
  have f0_3 : W.cell? ⟨w.heap.size, 3, none⟩ = some (.int .i64 l) := by rw [← hW]; simp [go_sem]
  have f0_4 : W.cell? ⟨w.heap.size, 4, none⟩ = some (.int .i64 m) := by rw [← hW]; simp [go_sem]
  have f1_0 : W.cell? ⟨w.heap.size + 1, 0, none⟩ = some (.int .i64 n) := by rw [← hW]; simp [go_sem]
  have f1_1 : W.cell? ⟨w.heap.size + 1, 1, none⟩ = some (.int .i64 k) := by rw [← hW]; simp [go_sem]
  have f2_0 : W.cell? ⟨w.heap.size + 1 + 1, 0, none⟩ = some (.int .i64 0) := by rw [← hW]; simp [go_sem]
  have f2_1 : W.cell? ⟨w.heap.size + 1 + 1, 1, none⟩ = some (.int .i64 0) := by rw [← hW]; simp [go_sem]
  have q1_0 : W.frozen? ⟨w.heap.size + 1, 0, none⟩ = false := by rw [← hW]; simp [go_sem]
  have q1_1 : W.frozen? ⟨w.heap.size + 1, 1, none⟩ = false := by rw [← hW]; simp [go_sem]
  have q2_0 : W.frozen? ⟨w.heap.size + 1 + 1, 0, none⟩ = false := by rw [← hW]; simp [go_sem]
  have q2_1 : W.frozen? ⟨w.heap.size + 1 + 1, 1, none⟩ = false := by rw [← hW]; simp [go_sem]
  clear hW
  have x0 := Ext.refl W
  go_wp2_with (first | (go_at_call 23; refine (implValidBeat_any z u i l m n k _).mono ?_; rintro e w1 ⟨rfl, x1⟩; (try clear xc xf xs); (first | replace x0 := x0.trans x1 | replace x0 := (x0.alloc _).trans x1 | replace x0 := (x0.drew).trans x1 | replace x0 := (x0.drew.alloc _).trans x1 | replace x0 := (x0.alloc _).drew.trans x1 | replace x0 := ((x0.alloc _).alloc _).trans x1 | have x0 := x1); clear x1; obtain ⟨xc, xf, xs⟩ := x0.cells) | (go_at_call 64; refine (isTorque_any _ _).mono ?_; rintro e w1 ⟨rfl, rfl⟩) | (go_at_call 58; refine (within_any _ _ _ _).mono ?_; rintro e w1 ⟨rfl, rfl⟩))
  go_loopw [2] (fun kk wr => ∃ (x y : Int) (c : Nat), kk = .int .i64 c ∧ c ≤ N.toNat ∧ (0 ≤ x ∧ x ≤ m) ∧ (0 ≤ y ∧ y ≤ 1000000000) ∧ Ext w wr ∧ w.heap.size < wr.heap.size ∧ w.heap.size + 1 < wr.heap.size ∧ w.heap.size + 1 + 1 < wr.heap.size ∧ wr.cell? ⟨w.heap.size, 0, none⟩ = some (.int .i64 z) ∧ wr.cell? ⟨w.heap.size, 1, none⟩ = some (.int .i64 u) ∧ wr.cell? ⟨w.heap.size, 2, none⟩ = some (.int .i64 i) ∧ wr.cell? ⟨w.heap.size, 3, none⟩ = some (.int .i64 l) ∧ wr.cell? ⟨w.heap.size, 4, none⟩ = some (.int .i64 m) ∧ wr.cell? ⟨w.heap.size + 1, 0, none⟩ = some (.int .i64 x) ∧ wr.cell? ⟨w.heap.size + 1, 1, none⟩ = some (.int .i64 y) ∧ wr.cell? ⟨w.heap.size + 1 + 1, 0, none⟩ = some (.int .i64 0) ∧ wr.cell? ⟨w.heap.size + 1 + 1, 1, none⟩ = some (.int .i64 0) ∧ wr.frozen? ⟨w.heap.size + 1, 0, none⟩ = false ∧ wr.frozen? ⟨w.heap.size + 1, 1, none⟩ = false ∧ wr.frozen? ⟨w.heap.size + 1 + 1, 0, none⟩ = false ∧ wr.frozen? ⟨w.heap.size + 1 + 1, 1, none⟩ = false ∧ Hid (many u i l m q N.toNat n k = many u i l m q c x y)) (fun kk _ => (intOf kk).toNat)
  case atStart => exact ⟨n, k, N.toNat, by rw [show ((N.toNat : Nat) : Int) = N by omega], Nat.le_refl _, hn0, hk, hE.trans x0, Nat.lt_of_lt_of_le hl0 x0.size, Nat.lt_of_lt_of_le hl1 x0.size, Nat.lt_of_lt_of_le hl2 x0.size, (xc _ _ hl0).trans f0_0, (xc _ _ hl0).trans f0_1, (xc _ _ hl0).trans f0_2, (xc _ _ hl0).trans f0_3, (xc _ _ hl0).trans f0_4, (xc _ _ hl1).trans f1_0, (xc _ _ hl1).trans f1_1, (xc _ _ hl2).trans f2_0, (xc _ _ hl2).trans f2_1, (xf _ _ hl1).trans q1_0, (xf _ _ hl1).trans q1_1, (xf _ _ hl2).trans q2_0, (xf _ _ hl2).trans q2_1, rfl⟩
  case round =>
    clear x0 xc xf xs hE hl0 hl1 hl2 q1_0 q1_1 q2_0 q2_1 f0_0 f0_1 f0_2 f0_3 f0_4 f1_0 f1_1 f2_0 f2_1
    obtain ⟨x, y, c, rfl, hcN, hx, hy, xw, hl0, hl1, hl2, c0_0, c0_1, c0_2, c0_3, c0_4, c1_0, c1_1, c2_0, c2_1, z1_0, z1_1, z2_0, z2_1, hh⟩ := hrel
    rcases c with _ | c
    · have e1 := Lib.hid (show x = smE z u i l m q N n k by rw [g1.out, hh.out]; rfl)
      have e2 := Lib.hid (show y = smK z u i l m q N n k by rw [g2.out, hh.out]; rfl)
      have e4 := Lib.hid (show 0 = smC z u i l m q N n k by rw [g4.out, hh.out]; rfl)
      
      go_wp2
      exact bodyPost_ret (v := .tuple #[.agg #[.int .i64 x, .int .i64 y], .int .i64 0]) (by simp [results, Try.results47, go_sem, *]) rfl ⟨st2 e1.out e2.out e4.out, by (repeat (refine Ext.setCell ?_ (by simp; try omega) _)); exact xw⟩
    · cases hok : afOk u l q x y
      · have hmm : many u i l m q N.toNat n k = none := hh.out.trans (many_no hok)
        have e1 := Lib.hid (show 0 = smE z u i l m q N n k by rw [g1.out, hmm]; rfl)
        have e2 := Lib.hid (show 0 = smK z u i l m q N n k by rw [g2.out, hmm]; rfl)
        have e4 := Lib.hid (show 5 = smC z u i l m q N n k by rw [g4.out, hmm]; rfl)
        have a0 := aC_no hok
        clear hmm hok
        go_wp2_with (go_at_call 69; refine (after_any z u i l m q x y _ hu hi hl hm hq (by omega) hy).mono ?_; rintro e w1 ⟨rfl, x1⟩; obtain ⟨xc, xf, xs⟩ := x1.cells; have hv0 := Nat.lt_of_lt_of_le hl0 x1.size; have hv1 := Nat.lt_of_lt_of_le hl1 x1.size; have hv2 := Nat.lt_of_lt_of_le hl2 x1.size)
        exact bodyPost_ret (v := .tuple #[.agg #[.int .i64 0, .int .i64 0], .int .i64 5]) (by simp [results, Try.results47, go_sem, *]) rfl ⟨st2 e1.out e2.out e4.out, by (repeat (first | refine Ext.setCell ?_ (by simp; try omega) _ | refine Ext.alloc ?_ _)); exact xw.trans x1⟩
      · have hmm := Lib.hid (hh.out.trans (many_yes hok))
        have a0 := aC_yes hok
        have hnx : 0 ≤ aE u i l m q x y ∧ aE u i l m q x y ≤ m := by have := swE_bd (u := u) (i := i) (l := l) (m := m) (q := q) (n := x) hu.1 hi.1 hl (by omega) hq.1 hx; simpa [aE, hok] using this
        have hny : 0 ≤ aK u l q x y ∧ aK u l q x y ≤ 1000000000 := by have := afK_bd hy hok; simpa [aK, hok] using this
        clear hok
        go_wp2_with (go_at_call 69; refine (after_any z u i l m q x y _ hu hi hl hm hq (by omega) hy).mono ?_; rintro e w1 ⟨rfl, x1⟩; obtain ⟨xc, xf, xs⟩ := x1.cells; have hv0 := Nat.lt_of_lt_of_le hl0 x1.size; have hv1 := Nat.lt_of_lt_of_le hl1 x1.size; have hv2 := Nat.lt_of_lt_of_le hl2 x1.size)
        go_roundw
        case rel =>
          refine ⟨_, _, c, by go_num, by omega, hnx, hny, (((xw.trans x1).setCell (by simp) _).setCell (by simp) _).alloc _, ?_, ?_, ?_, ?_, ?_, ?_, ?_, ?_, ?_, ?_, ?_, ?_, ?_, ?_, ?_, ?_, hmm.out⟩
          all_goals simp [go_sem, *]
        case measure => simp [intOf]

theorem swing_ok (z u i l m q n k : Int) (w : World) (hv : EV z u i l m) (hn : 0 ≤ n ∧ n ≤ m) (hk : 0 ≤ k ∧ k ≤ 1000000000) (hq : 0 ≤ q ∧ q ≤ 1000) :
    Calls Try.prog 37 #[.agg #[.int .i64 z, .int .i64 u, .int .i64 i, .int .i64 l, .int .i64 m], .int .i64 q, .agg #[.int .i64 n, .int .i64 k]] w fun e w' => e = .returned (.tuple #[.agg #[.int .i64 (aE u i l m q n k), .int .i64 (aK u l q n k)], .bool (aT u l q n k), .int .i64 (aC u l q n k)]) ∧ Ext w w' := by
  have h := specSwing_any z u i l m q n k w
  have hc := cdE_zero hv hn hk hq
  have a : sgE z u i l m q n k = aE u i l m q n k := by simp [sgE, hc]
  have b : sgK z u i l m q n k = aK u l q n k := by simp [sgK, hc]
  have c : sgT z u i l m q n k = aT u l q n k := by simp [sgT, hc]
  have d : sgC z u i l m q n k = aC u l q n k := by simp [sgC, hc]
  rw [a, b, c, d] at h
  exact h

set_option maxHeartbeats 4000000 in
theorem specSwingMany_yes (z u i l m q N n k : Int) (w : World) (hcm : cdM z u i l m q N n k = 0) :
    Calls Try.prog 46 #[.agg #[.int .i64 z, .int .i64 u, .int .i64 i, .int .i64 l, .int .i64 m], .int .i64 q, .int .i64 N, .agg #[.int .i64 n, .int .i64 k]] w fun e w' => e = .returned (.tuple #[.agg #[.int .i64 (smE z u i l m q N n k), .int .i64 (smK z u i l m q N n k)], .int .i64 (smC z u i l m q N n k)]) ∧ Ext w w' := by
  have hce : cdE z u i l m q n k = 0 := by unfold cdM at hcm; split at hcm <;> omega
  have hNN : inB N 0 2000 = true := by
    unfold cdM at hcm
    rw [if_pos hce] at hcm
    cases h : inB N 0 2000
    · rw [h] at hcm; simp at hcm
    · rfl
  have hN := inB_iff.1 hNN
  have g1 := Lib.hid (show smE z u i l m q N n k = ((many u i l m q N.toNat n k).map Prod.fst).getD 0 by simp [smE, hcm])
  have g2 := Lib.hid (show smK z u i l m q N n k = ((many u i l m q N.toNat n k).map Prod.snd).getD 0 by simp [smK, hcm])
  have g4 := Lib.hid (show smC z u i l m q N n k = if (many u i l m q N.toNat n k).isSome = true then 0 else 5 by simp [smC, hcm])
  obtain ⟨ev, ⟨hn0, hk⟩, hq⟩ := cdE_ok hce
  have hu := ev.bu; have hi := ev.bi; have hl := ev.bl
  have hm : 1 ≤ m ∧ m ≤ 100000 := by have := ev.bm; omega
  have f0 : (cdE z u i l m q n k == 0) = true := by rw [hce]; rfl
  have f1 : (cdE z u i l m q n k != 0) = false := by rw [hce]; rfl
  clear hcm hce
  go_enter Try.func46, Try.ntmps46
  go_wp2_with fail
  generalize hW : (((w.alloc (Obj.cells #[.int .i64 z, .int .i64 u, .int .i64 i, .int .i64 l, .int .i64 m] 25)).alloc (Obj.cells #[.int .i64 n, .int .i64 k] 31)).alloc (Obj.cells #[.int .i64 0, .int .i64 0] 31)) = W
  have hE : Ext w W := by rw [← hW]; exact ((((Ext.refl _).alloc _).alloc _).alloc _)
  have hl0 : w.heap.size < W.heap.size := by rw [← hW]; simp; try omega
  have hl1 : w.heap.size + 1 < W.heap.size := by rw [← hW]; simp; try omega
  have hl2 : w.heap.size + 1 + 1 < W.heap.size := by rw [← hW]; simp; try omega
  have f0_0 : W.cell? ⟨w.heap.size, 0, none⟩ = some (.int .i64 z) := by rw [← hW]; simp [go_sem]
  have f0_1 : W.cell? ⟨w.heap.size, 1, none⟩ = some (.int .i64 u) := by rw [← hW]; simp [go_sem]
  have f0_2 : W.cell? ⟨w.heap.size, 2, none⟩ = some (.int .i64 i) := by rw [← hW]; simp [go_sem]
  have f0_3 : W.cell? ⟨w.heap.size, 3, none⟩ = some (.int .i64 l) := by rw [← hW]; simp [go_sem]
  have f0_4 : W.cell? ⟨w.heap.size, 4, none⟩ = some (.int .i64 m) := by rw [← hW]; simp [go_sem]
  have f1_0 : W.cell? ⟨w.heap.size + 1, 0, none⟩ = some (.int .i64 n) := by rw [← hW]; simp [go_sem]
  have f1_1 : W.cell? ⟨w.heap.size + 1, 1, none⟩ = some (.int .i64 k) := by rw [← hW]; simp [go_sem]
  have f2_0 : W.cell? ⟨w.heap.size + 1 + 1, 0, none⟩ = some (.int .i64 0) := by rw [← hW]; simp [go_sem]
  have f2_1 : W.cell? ⟨w.heap.size + 1 + 1, 1, none⟩ = some (.int .i64 0) := by rw [← hW]; simp [go_sem]
  have q1_0 : W.frozen? ⟨w.heap.size + 1, 0, none⟩ = false := by rw [← hW]; simp [go_sem]
  have q1_1 : W.frozen? ⟨w.heap.size + 1, 1, none⟩ = false := by rw [← hW]; simp [go_sem]
  have q2_0 : W.frozen? ⟨w.heap.size + 1 + 1, 0, none⟩ = false := by rw [← hW]; simp [go_sem]
  have q2_1 : W.frozen? ⟨w.heap.size + 1 + 1, 1, none⟩ = false := by rw [← hW]; simp [go_sem]
  clear hW
  have x0 := Ext.refl W
  go_wp2_with (first | (go_at_call 73; refine (l11Code_any z u i l m q n k _).mono ?_; rintro e w1 ⟨rfl, x1⟩; (try clear xc xf xs); (first | replace x0 := x0.trans x1 | replace x0 := (x0.alloc _).trans x1 | replace x0 := (x0.drew).trans x1 | replace x0 := (x0.drew.alloc _).trans x1 | replace x0 := (x0.alloc _).drew.trans x1 | replace x0 := ((x0.alloc _).alloc _).trans x1 | have x0 := x1); clear x1; obtain ⟨xc, xf, xs⟩ := x0.cells) | (go_at_call 66; refine (l00In_any _ _ _ _).mono ?_; rintro e w1 ⟨rfl, rfl⟩))
  go_loopw [11] (fun kk wr => ∃ (x y : Int) (c : Nat), kk = .int .i64 ((N.toNat : Int) - c) ∧ c ≤ N.toNat ∧ (0 ≤ x ∧ x ≤ m) ∧ (0 ≤ y ∧ y ≤ 1000000000) ∧ Ext w wr ∧ w.heap.size < wr.heap.size ∧ w.heap.size + 1 < wr.heap.size ∧ w.heap.size + 1 + 1 < wr.heap.size ∧ wr.cell? ⟨w.heap.size, 0, none⟩ = some (.int .i64 z) ∧ wr.cell? ⟨w.heap.size, 1, none⟩ = some (.int .i64 u) ∧ wr.cell? ⟨w.heap.size, 2, none⟩ = some (.int .i64 i) ∧ wr.cell? ⟨w.heap.size, 3, none⟩ = some (.int .i64 l) ∧ wr.cell? ⟨w.heap.size, 4, none⟩ = some (.int .i64 m) ∧ wr.cell? ⟨w.heap.size + 1, 0, none⟩ = some (.int .i64 x) ∧ wr.cell? ⟨w.heap.size + 1, 1, none⟩ = some (.int .i64 y) ∧ wr.cell? ⟨w.heap.size + 1 + 1, 0, none⟩ = some (.int .i64 0) ∧ wr.cell? ⟨w.heap.size + 1 + 1, 1, none⟩ = some (.int .i64 0) ∧ wr.frozen? ⟨w.heap.size + 1, 0, none⟩ = false ∧ wr.frozen? ⟨w.heap.size + 1, 1, none⟩ = false ∧ wr.frozen? ⟨w.heap.size + 1 + 1, 0, none⟩ = false ∧ wr.frozen? ⟨w.heap.size + 1 + 1, 1, none⟩ = false ∧ Hid (many u i l m q N.toNat n k = many u i l m q c x y)) (fun kk _ => (N - intOf kk).toNat)
  case atStart => exact ⟨n, k, N.toNat, by simp, Nat.le_refl _, hn0, hk, hE.trans x0, Nat.lt_of_lt_of_le hl0 x0.size, Nat.lt_of_lt_of_le hl1 x0.size, Nat.lt_of_lt_of_le hl2 x0.size, (xc _ _ hl0).trans f0_0, (xc _ _ hl0).trans f0_1, (xc _ _ hl0).trans f0_2, (xc _ _ hl0).trans f0_3, (xc _ _ hl0).trans f0_4, (xc _ _ hl1).trans f1_0, (xc _ _ hl1).trans f1_1, (xc _ _ hl2).trans f2_0, (xc _ _ hl2).trans f2_1, (xf _ _ hl1).trans q1_0, (xf _ _ hl1).trans q1_1, (xf _ _ hl2).trans q2_0, (xf _ _ hl2).trans q2_1, rfl⟩
  case round =>
    clear x0 xc xf xs hE hl0 hl1 hl2 q1_0 q1_1 q2_0 q2_1 f0_0 f0_1 f0_2 f0_3 f0_4 f1_0 f1_1 f2_0 f2_1
    obtain ⟨x, y, c, rfl, hcN, hx, hy, xw, hl0, hl1, hl2, c0_0, c0_1, c0_2, c0_3, c0_4, c1_0, c1_1, c2_0, c2_1, z1_0, z1_1, z2_0, z2_1, hh⟩ := hrel
    rcases c with _ | c
    · have e1 := Lib.hid (show x = smE z u i l m q N n k by rw [g1.out, hh.out]; rfl)
      have e2 := Lib.hid (show y = smK z u i l m q N n k by rw [g2.out, hh.out]; rfl)
      have e4 := Lib.hid (show 0 = smC z u i l m q N n k by rw [g4.out, hh.out]; rfl)
      rw [show (N.toNat : Int) - ((0 : Nat) : Int) = N by omega]
      go_wp2
      exact bodyPost_ret (v := .tuple #[.agg #[.int .i64 x, .int .i64 y], .int .i64 0]) (by simp [results, Try.results46, go_sem, *]) rfl ⟨st2 e1.out e2.out e4.out, by (repeat (refine Ext.setCell ?_ (by simp; try omega) _)); exact xw⟩
    · cases hok : afOk u l q x y
      · have hmm : many u i l m q N.toNat n k = none := hh.out.trans (many_no hok)
        have e1 := Lib.hid (show 0 = smE z u i l m q N n k by rw [g1.out, hmm]; rfl)
        have e2 := Lib.hid (show 0 = smK z u i l m q N n k by rw [g2.out, hmm]; rfl)
        have e4 := Lib.hid (show 5 = smC z u i l m q N n k by rw [g4.out, hmm]; rfl)
        have a0 := aC_no hok
        clear hmm hok
        go_wp2_with (go_at_call 37; refine (swing_ok z u i l m q x y _ ev hx hy hq).mono ?_; rintro e w1 ⟨rfl, x1⟩; obtain ⟨xc, xf, xs⟩ := x1.cells; have hv0 := Nat.lt_of_lt_of_le hl0 x1.size; have hv1 := Nat.lt_of_lt_of_le hl1 x1.size; have hv2 := Nat.lt_of_lt_of_le hl2 x1.size)
        exact bodyPost_ret (v := .tuple #[.agg #[.int .i64 0, .int .i64 0], .int .i64 5]) (by simp [results, Try.results46, go_sem, *]) rfl ⟨st2 e1.out e2.out e4.out, by (repeat (first | refine Ext.setCell ?_ (by simp; try omega) _ | refine Ext.alloc ?_ _)); exact xw.trans x1⟩
      · have hmm := Lib.hid (hh.out.trans (many_yes hok))
        have a0 := aC_yes hok
        have hnx : 0 ≤ aE u i l m q x y ∧ aE u i l m q x y ≤ m := by have := swE_bd (u := u) (i := i) (l := l) (m := m) (q := q) (n := x) hu.1 hi.1 hl (by omega) hq.1 hx; simpa [aE, hok] using this
        have hny : 0 ≤ aK u l q x y ∧ aK u l q x y ≤ 1000000000 := by have := afK_bd hy hok; simpa [aK, hok] using this
        clear hok
        go_wp2_with (go_at_call 37; refine (swing_ok z u i l m q x y _ ev hx hy hq).mono ?_; rintro e w1 ⟨rfl, x1⟩; obtain ⟨xc, xf, xs⟩ := x1.cells; have hv0 := Nat.lt_of_lt_of_le hl0 x1.size; have hv1 := Nat.lt_of_lt_of_le hl1 x1.size; have hv2 := Nat.lt_of_lt_of_le hl2 x1.size)
        go_roundw
        case rel =>
          refine ⟨_, _, c, by go_num, by omega, hnx, hny, (((xw.trans x1).setCell (by simp) _).setCell (by simp) _).alloc _, ?_, ?_, ?_, ?_, ?_, ?_, ?_, ?_, ?_, ?_, ?_, ?_, ?_, ?_, ?_, ?_, hmm.out⟩
          all_goals simp [go_sem, *]
        case measure => simp [intOf]; omega

end Go.Proofs.Ytehebhphlaghfaa

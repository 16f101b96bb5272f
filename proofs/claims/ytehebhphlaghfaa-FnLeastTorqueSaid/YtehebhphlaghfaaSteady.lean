/-
  The steady energy: the two functions, and the walk of their law.
-/
import Derived.Test.YtehebhphlaghfaaSwPlain
import Derived.Test.YtehebhphlaghfaaAfter
namespace Go.Proofs.Ytehebhphlaghfaa
open Go.RowKit
set_option linter.unusedSimpArgs false
set_option linter.unusedVariables false

def seR (z u i l m q : Int) : Int := if vEsc z u i l m = false then 0 else if inB q 0 1000 = false then 0 else if steady u i l m q = -1 then 0 else steady u i l m q
def seC (z u i l m q : Int) : Int := if vEsc z u i l m = false then 1 else if inB q 0 1000 = false then 2 else if steady u i l m q = -1 then 3 else 0

theorem steady_down {u i l m q y : Int} (hl : 0 ≤ l ∧ l ≤ 1000) (hy : 0 ≤ y) (hf : 0 ≤ swE u i l m q y) (hle : swE u i l m q y ≤ y) (hne : swE u i l m q y ≠ y) (ht : swT u l q y = true) :
    upF (stP u i l m q) (y.toNat + 1) = upF (stP u i l m q) ((swE u i l m q y).toNat + 1) := by
  refine upF_gap (by omega) (fun x h1 h2 => ?_)
  cases hp : stP u i l m q x
  · rfl
  · simp [stP] at hp
    have := swE_mono (u := u) (i := i) (m := m) (q := q) hl (show (x : Int) ≤ y by omega) hp.1
    omega
theorem steady_none {u i l m q y : Int} (hl : 0 ≤ l ∧ l ≤ 1000) (hy : 0 ≤ y) (ht : swT u l q y = false) : upF (stP u i l m q) (y.toNat + 1) = -1 := by
  refine upF_none (fun x h2 => ?_)
  cases hp : stP u i l m q x
  · rfl
  · simp [stP] at hp
    have := swT_mono (u := u) (q := q) hl (show (x : Int) ≤ y by omega) hp.1
    rw [ht] at this
    cases this
theorem steady_found {u i l m q y : Int} (hy : 0 ≤ y) (ht : swT u l q y = true) (hf : swE u i l m q y = y) : upF (stP u i l m q) (y.toNat + 1) = y := by
  have h : stP u i l m q (y.toNat : Int) = true := by
    rw [show (y.toNat : Int) = y by omega]
    simp [stP, ht, hf]
  rw [upF_yes h]
  omega

set_option maxHeartbeats 2000000 in
theorem implSteady_any (z u i l m q : Int) (w : World) :
    Calls Try.prog 26 #[.agg #[.int .i64 z, .int .i64 u, .int .i64 i, .int .i64 l, .int .i64 m], .int .i64 q] w fun e w' => e = .returned (.tuple #[.int .i64 (seR z u i l m q), .int .i64 (seC z u i l m q)]) ∧ Ext w w' := by
  cases h1 : vEsc z u i l m
  · have e1 := Lib.hid (show 0 = seR z u i l m q by simp [seR, h1])
    have e2 := Lib.hid (show 1 = seC z u i l m q by simp [seC, h1])
    go_enter Try.func26, Try.ntmps26
    go_wp2_with (first | (go_at_call 20; refine (implValidEscapement_any z u i l m _).mono ?_; rintro e w1 ⟨rfl, x1⟩; (try clear xc xf xs); (first | replace x0 := x0.trans x1 | replace x0 := (x0.alloc _).trans x1 | replace x0 := (x0.drew).trans x1 | replace x0 := (x0.drew.alloc _).trans x1 | replace x0 := (x0.alloc _).drew.trans x1 | replace x0 := ((x0.alloc _).alloc _).trans x1 | have x0 := x1); clear x1; obtain ⟨xc, xf, xs⟩ := x0.cells))
    go_ret2
    exact ⟨ret2 e1.out e2.out, ((Ext.refl _).alloc _).trans x0⟩
  · cases h2 : inB q 0 1000
    · have e1 := Lib.hid (show 0 = seR z u i l m q by simp [seR, h1, h2])
      have e2 := Lib.hid (show 2 = seC z u i l m q by simp [seC, h1, h2])
      go_enter Try.func26, Try.ntmps26
      go_wp2_with (first | (go_at_call 20; refine (implValidEscapement_any z u i l m _).mono ?_; rintro e w1 ⟨rfl, x1⟩; (try clear xc xf xs); (first | replace x0 := x0.trans x1 | replace x0 := (x0.alloc _).trans x1 | replace x0 := (x0.drew).trans x1 | replace x0 := (x0.drew.alloc _).trans x1 | replace x0 := (x0.alloc _).drew.trans x1 | replace x0 := ((x0.alloc _).alloc _).trans x1 | have x0 := x1); clear x1; obtain ⟨xc, xf, xs⟩ := x0.cells) | (go_at_call 64; refine (isTorque_any _ _).mono ?_; rintro e w1 ⟨rfl, rfl⟩))
      go_ret2
      exact ⟨ret2 e1.out e2.out, ((Ext.refl _).alloc _).trans x0⟩
    · have g1 := Lib.hid (show seR z u i l m q = if steady u i l m q = -1 then 0 else steady u i l m q by simp [seR, h1, h2])
      have g2 := Lib.hid (show seC z u i l m q = if steady u i l m q = -1 then 3 else 0 by simp [seC, h1, h2])
      have ev := vEsc_iff.1 h1
      have hq := inB_iff.1 h2
      have hu := ev.bu; have hi := ev.bi; have hl := ev.bl
      have hm : 1 ≤ m ∧ m ≤ 100000 := by have := ev.bm; omega
      clear ev
      go_enter Try.func26, Try.ntmps26
      go_wp2_with fail
      generalize hW : (w.alloc (Obj.cells #[.int .i64 z, .int .i64 u, .int .i64 i, .int .i64 l, .int .i64 m] 25)) = W
      have hE : Ext w W := by rw [← hW]; exact ((Ext.refl _).alloc _)
      have hl0 : w.heap.size < W.heap.size := by rw [← hW]; simp; try omega
      have f0_0 : W.cell? ⟨w.heap.size, 0, none⟩ = some (.int .i64 z) := by rw [← hW]; simp
      have f0_1 : W.cell? ⟨w.heap.size, 1, none⟩ = some (.int .i64 u) := by rw [← hW]; simp
      have f0_2 : W.cell? ⟨w.heap.size, 2, none⟩ = some (.int .i64 i) := by rw [← hW]; simp
      have f0_3 : W.cell? ⟨w.heap.size, 3, none⟩ = some (.int .i64 l) := by rw [← hW]; simp
      have f0_4 : W.cell? ⟨w.heap.size, 4, none⟩ = some (.int .i64 m) := by rw [← hW]; simp
      clear hW
      have x0 := Ext.refl W
      go_wp2_with (first | (go_at_call 20; refine (implValidEscapement_any z u i l m _).mono ?_; rintro e w1 ⟨rfl, x1⟩; (try clear xc xf xs); (first | replace x0 := x0.trans x1 | replace x0 := (x0.alloc _).trans x1 | replace x0 := (x0.drew).trans x1 | replace x0 := (x0.drew.alloc _).trans x1 | replace x0 := (x0.alloc _).drew.trans x1 | replace x0 := ((x0.alloc _).alloc _).trans x1 | have x0 := x1); clear x1; obtain ⟨xc, xf, xs⟩ := x0.cells) | (go_at_call 64; refine (isTorque_any _ _).mono ?_; rintro e w1 ⟨rfl, rfl⟩))
      go_loopw [6] (fun en wr => ∃ c : Nat, (c : Int) ≤ m + 1 ∧ en = .int .i64 ((c : Int) - 1) ∧ Ext W wr ∧ Hid (steady u i l m q = upF (stP u i l m q) c)) (fun en _ => (intOf en + 1).toNat)
      case atStart => exact ⟨m.toNat + 1, by omega, by rw [show ((m.toNat + 1 : Nat) : Int) - 1 = m by omega], x0, rfl⟩
      case round =>
        clear x0 xc xf xs
        obtain ⟨c, hc, rfl, x0, hs⟩ := hrel
        obtain ⟨xc, xf, xs⟩ := x0.cells
        rcases c with _ | c
        · have hv : steady u i l m q = -1 := hs.out
          have e1 := Lib.hid (show 0 = seR z u i l m q by rw [g1.out, if_pos hv])
          have e2 := Lib.hid (show 3 = seC z u i l m q by rw [g2.out, if_pos hv])
          clear hv
          go_wp2
          go_ret2
          exact ⟨ret2 e1.out e2.out, hE.trans x0⟩
        · rw [show ((c + 1 : Nat) : Int) - 1 = (c : Int) by omega]
          have hnx := swE_bd (u := u) (i := i) (l := l) (m := m) (q := q) (n := c) hu.1 hi.1 hl (by omega) hq.1 (by omega)
          cases ht : swT u l q c
          · have hv := Lib.hid (hs.out.trans (upF_no (p := stP u i l m q) (n := c) (by simp [stP, ht])))
            go_wp2_with (go_at_call 65; refine (implswing_any z u i l m q c _ hu hi hl hm hq (by omega)).mono ?_; rintro e w1 ⟨rfl, x1⟩; (try clear xc xf xs); (first | replace x0 := x0.trans x1 | replace x0 := (x0.alloc _).trans x1 | replace x0 := (x0.drew).trans x1 | replace x0 := (x0.drew.alloc _).trans x1 | replace x0 := (x0.alloc _).drew.trans x1 | replace x0 := ((x0.alloc _).alloc _).trans x1 | have x0 := x1); clear x1; obtain ⟨xc, xf, xs⟩ := x0.cells)
            go_roundw
            case rel => exact ⟨c, by omega, by go_num, x0, hv.out⟩
            case measure => simp [intOf]
          · by_cases hf : swE u i l m q c = c
            · have hv : steady u i l m q = (c : Int) := hs.out.trans (upF_yes (p := stP u i l m q) (n := c) (by simp [stP, ht, hf]))
              have e1 := Lib.hid (show (c : Int) = seR z u i l m q by rw [g1.out, hv, if_neg (by omega)])
              have e2 := Lib.hid (show 0 = seC z u i l m q by rw [g2.out, hv, if_neg (by omega)])
              have f1 : (swE u i l m q c == (c : Int)) = true := by simpa using hf
              clear hv hf
              go_wp2_with (go_at_call 65; refine (implswing_any z u i l m q c _ hu hi hl hm hq (by omega)).mono ?_; rintro e w1 ⟨rfl, x1⟩; (try clear xc xf xs); (first | replace x0 := x0.trans x1 | replace x0 := (x0.alloc _).trans x1 | replace x0 := (x0.drew).trans x1 | replace x0 := (x0.drew.alloc _).trans x1 | replace x0 := (x0.alloc _).drew.trans x1 | replace x0 := ((x0.alloc _).alloc _).trans x1 | have x0 := x1); clear x1; obtain ⟨xc, xf, xs⟩ := x0.cells)
              go_ret2
              exact ⟨ret2 e1.out e2.out, hE.trans x0⟩
            · have f1 : (swE u i l m q c == (c : Int)) = false := by simpa using hf
              have hv := Lib.hid (hs.out.trans (upF_no (p := stP u i l m q) (n := c) (by simp [stP, hf])))
              clear hf
              go_wp2_with (go_at_call 65; refine (implswing_any z u i l m q c _ hu hi hl hm hq (by omega)).mono ?_; rintro e w1 ⟨rfl, x1⟩; (try clear xc xf xs); (first | replace x0 := x0.trans x1 | replace x0 := (x0.alloc _).trans x1 | replace x0 := (x0.drew).trans x1 | replace x0 := (x0.drew.alloc _).trans x1 | replace x0 := (x0.alloc _).drew.trans x1 | replace x0 := ((x0.alloc _).alloc _).trans x1 | have x0 := x1); clear x1; obtain ⟨xc, xf, xs⟩ := x0.cells)
              go_roundw
              case rel => exact ⟨c, by omega, by go_num, x0, hv.out⟩
              case measure => simp [intOf]

set_option maxHeartbeats 2000000 in
theorem specSteady_any (z u i l m q : Int) (w : World) :
    Calls Try.prog 27 #[.agg #[.int .i64 z, .int .i64 u, .int .i64 i, .int .i64 l, .int .i64 m], .int .i64 q] w fun e w' => e = .returned (.tuple #[.int .i64 (seR z u i l m q), .int .i64 (seC z u i l m q)]) ∧ Ext w w' := by
  cases h1 : vEsc z u i l m
  · have e1 := Lib.hid (show 0 = seR z u i l m q by simp [seR, h1])
    have e2 := Lib.hid (show 1 = seC z u i l m q by simp [seC, h1])
    go_enter Try.func27, Try.ntmps27
    go_wp2_with (first | (go_at_call 57; refine (l11Ok_any z u i l m _).mono ?_; rintro e w1 ⟨rfl, x1⟩; (try clear xc xf xs); (first | replace x0 := x0.trans x1 | replace x0 := (x0.alloc _).trans x1 | replace x0 := (x0.drew).trans x1 | replace x0 := (x0.drew.alloc _).trans x1 | replace x0 := (x0.alloc _).drew.trans x1 | replace x0 := ((x0.alloc _).alloc _).trans x1 | have x0 := x1); clear x1; obtain ⟨xc, xf, xs⟩ := x0.cells))
    go_ret2
    exact ⟨ret2 e1.out e2.out, ((Ext.refl _).alloc _).trans x0⟩
  · cases h2 : inB q 0 1000
    · have e1 := Lib.hid (show 0 = seR z u i l m q by simp [seR, h1, h2])
      have e2 := Lib.hid (show 2 = seC z u i l m q by simp [seC, h1, h2])
      go_enter Try.func27, Try.ntmps27
      go_wp2_with (first | (go_at_call 57; refine (l11Ok_any z u i l m _).mono ?_; rintro e w1 ⟨rfl, x1⟩; (try clear xc xf xs); (first | replace x0 := x0.trans x1 | replace x0 := (x0.alloc _).trans x1 | replace x0 := (x0.drew).trans x1 | replace x0 := (x0.drew.alloc _).trans x1 | replace x0 := (x0.alloc _).drew.trans x1 | replace x0 := ((x0.alloc _).alloc _).trans x1 | have x0 := x1); clear x1; obtain ⟨xc, xf, xs⟩ := x0.cells) | (go_at_call 66; refine (l00In_any _ _ _ _).mono ?_; rintro e w1 ⟨rfl, rfl⟩))
      go_ret2
      exact ⟨ret2 e1.out e2.out, ((Ext.refl _).alloc _).trans x0⟩
    · have g1 := Lib.hid (show seR z u i l m q = if steady u i l m q = -1 then 0 else steady u i l m q by simp [seR, h1, h2])
      have g2 := Lib.hid (show seC z u i l m q = if steady u i l m q = -1 then 3 else 0 by simp [seC, h1, h2])
      have ev := vEsc_iff.1 h1
      have hq := inB_iff.1 h2
      have hu := ev.bu; have hi := ev.bi; have hl := ev.bl
      have hm : 1 ≤ m ∧ m ≤ 100000 := by have := ev.bm; omega
      clear ev
      go_enter Try.func27, Try.ntmps27
      go_wp2_with fail
      generalize hW : (w.alloc (Obj.cells #[.int .i64 z, .int .i64 u, .int .i64 i, .int .i64 l, .int .i64 m] 25)) = W
      have hE : Ext w W := by rw [← hW]; exact ((Ext.refl _).alloc _)
      have hl0 : w.heap.size < W.heap.size := by rw [← hW]; simp; try omega
      have f0_0 : W.cell? ⟨w.heap.size, 0, none⟩ = some (.int .i64 z) := by rw [← hW]; simp
      have f0_1 : W.cell? ⟨w.heap.size, 1, none⟩ = some (.int .i64 u) := by rw [← hW]; simp
      have f0_2 : W.cell? ⟨w.heap.size, 2, none⟩ = some (.int .i64 i) := by rw [← hW]; simp
      have f0_3 : W.cell? ⟨w.heap.size, 3, none⟩ = some (.int .i64 l) := by rw [← hW]; simp
      have f0_4 : W.cell? ⟨w.heap.size, 4, none⟩ = some (.int .i64 m) := by rw [← hW]; simp
      clear hW
      have x0 := Ext.refl W
      go_wp2_with (first | (go_at_call 57; refine (l11Ok_any z u i l m _).mono ?_; rintro e w1 ⟨rfl, x1⟩; (try clear xc xf xs); (first | replace x0 := x0.trans x1 | replace x0 := (x0.alloc _).trans x1 | replace x0 := (x0.drew).trans x1 | replace x0 := (x0.drew.alloc _).trans x1 | replace x0 := (x0.alloc _).drew.trans x1 | replace x0 := ((x0.alloc _).alloc _).trans x1 | have x0 := x1); clear x1; obtain ⟨xc, xf, xs⟩ := x0.cells) | (go_at_call 66; refine (l00In_any _ _ _ _).mono ?_; rintro e w1 ⟨rfl, rfl⟩))
      go_loopw [6] (fun en wr => ∃ y : Int, (0 ≤ y ∧ y ≤ m) ∧ en = .int .i64 y ∧ Ext W wr ∧ Hid (swT u l q y = true → swE u i l m q y ≤ y) ∧ Hid (steady u i l m q = upF (stP u i l m q) (y.toNat + 1))) (fun en _ => (intOf en).toNat)
      case atStart => exact ⟨m, by omega, rfl, x0, fun ht => swE_le ht, rfl⟩
      case round =>
        clear x0 xc xf xs
        obtain ⟨y, hy, rfl, x0, hd, hs⟩ := hrel
        obtain ⟨xc, xf, xs⟩ := x0.cells
        have hnx := swE_bd (u := u) (i := i) (l := l) (m := m) (q := q) (n := y) hu.1 hi.1 hl (by omega) hq.1 hy
        cases ht : swT u l q y
        · have hv : steady u i l m q = -1 := hs.out.trans (steady_none hl hy.1 ht)
          have e1 := Lib.hid (show 0 = seR z u i l m q by rw [g1.out, if_pos hv])
          have e2 := Lib.hid (show 3 = seC z u i l m q by rw [g2.out, if_pos hv])
          clear hv
          go_wp2_with (go_at_call 67; refine (l11Swing_any z u i l m q y _ hu hi hl hm hq (by omega)).mono ?_; rintro e w1 ⟨rfl, x1⟩; (try clear xc xf xs); (first | replace x0 := x0.trans x1 | replace x0 := (x0.alloc _).trans x1 | replace x0 := (x0.drew).trans x1 | replace x0 := (x0.drew.alloc _).trans x1 | replace x0 := (x0.alloc _).drew.trans x1 | replace x0 := ((x0.alloc _).alloc _).trans x1 | have x0 := x1); clear x1; obtain ⟨xc, xf, xs⟩ := x0.cells)
          go_ret2
          exact ⟨ret2 e1.out e2.out, hE.trans x0⟩
        · have hle := hd.out ht
          by_cases hf : swE u i l m q y = y
          · have hv : steady u i l m q = y := hs.out.trans (steady_found hy.1 ht hf)
            have e1 := Lib.hid (show y = seR z u i l m q by rw [g1.out, hv, if_neg (by omega)])
            have e2 := Lib.hid (show 0 = seC z u i l m q by rw [g2.out, hv, if_neg (by omega)])
            have f1 : (swE u i l m q y == y) = true := by simpa using hf
            clear hv hf
            go_wp2_with (go_at_call 67; refine (l11Swing_any z u i l m q y _ hu hi hl hm hq (by omega)).mono ?_; rintro e w1 ⟨rfl, x1⟩; (try clear xc xf xs); (first | replace x0 := x0.trans x1 | replace x0 := (x0.alloc _).trans x1 | replace x0 := (x0.drew).trans x1 | replace x0 := (x0.drew.alloc _).trans x1 | replace x0 := (x0.alloc _).drew.trans x1 | replace x0 := ((x0.alloc _).alloc _).trans x1 | have x0 := x1); clear x1; obtain ⟨xc, xf, xs⟩ := x0.cells)
            go_ret2
            exact ⟨ret2 e1.out e2.out, hE.trans x0⟩
          · have f1 : (swE u i l m q y == y) = false := by simpa using hf
            have hv := Lib.hid (hs.out.trans (steady_down hl hy.1 hnx.1 hle hf ht))
            have hd2 := Lib.hid (fun _ : swT u l q (swE u i l m q y) = true => swE_mono (u := u) (i := i) (m := m) (q := q) hl hle (by assumption))
            have hlt : swE u i l m q y < y := by omega
            clear hf
            go_wp2_with (go_at_call 67; refine (l11Swing_any z u i l m q y _ hu hi hl hm hq (by omega)).mono ?_; rintro e w1 ⟨rfl, x1⟩; (try clear xc xf xs); (first | replace x0 := x0.trans x1 | replace x0 := (x0.alloc _).trans x1 | replace x0 := (x0.drew).trans x1 | replace x0 := (x0.drew.alloc _).trans x1 | replace x0 := (x0.alloc _).drew.trans x1 | replace x0 := ((x0.alloc _).alloc _).trans x1 | have x0 := x1); clear x1; obtain ⟨xc, xf, xs⟩ := x0.cells)
            go_roundw
            case rel => exact ⟨_, hnx, rfl, x0, hd2.out, hv.out⟩
            case measure => simp [intOf]; omega

set_option maxHeartbeats 1000000 in
theorem steady_walk (z u i l m q : Int) (w : World) (b0 : -9223372036854775808 ≤ z ∧ z ≤ 9223372036854775807) (b1 : -9223372036854775808 ≤ u ∧ u ≤ 9223372036854775807) (b2 : -9223372036854775808 ≤ i ∧ i ≤ 9223372036854775807) (b3 : -9223372036854775808 ≤ l ∧ l ≤ 9223372036854775807) (b4 : -9223372036854775808 ≤ m ∧ m ≤ 9223372036854775807) (b5 : -9223372036854775808 ≤ q ∧ q ≤ 9223372036854775807) :
    Calls Try.prog 6 #[.agg #[.int .i64 z, .int .i64 u, .int .i64 i, .int .i64 l, .int .i64 m], .int .i64 q] w fun e w' => e = .returned (.bool true) ∧ Ext w w' := by
  clear b0 b1 b2 b3 b4 b5
  go_enter Try.func6, Try.ntmps6
  go_wp2_with fail
  have x0 := Ext.refl (w.alloc (Obj.cells #[.int .i64 z, .int .i64 u, .int .i64 i, .int .i64 l, .int .i64 m] 23))
  go_wp2_with (first | (go_at_call 19; refine (toEscapement_any _ _ _ _ _ _).mono ?_; rintro e w1 ⟨rfl, x1⟩; (try clear xc xf xs); (first | replace x0 := x0.trans x1 | replace x0 := (x0.alloc _).trans x1 | replace x0 := (x0.drew).trans x1 | replace x0 := (x0.drew.alloc _).trans x1 | replace x0 := (x0.alloc _).drew.trans x1 | replace x0 := ((x0.alloc _).alloc _).trans x1 | have x0 := x1); clear x1; obtain ⟨xc, xf, xs⟩ := x0.cells) | (go_at_call 27; refine (specSteady_any z u i l m q _).mono ?_; rintro e w1 ⟨rfl, x1⟩; (try clear xc xf xs); (first | replace x0 := x0.trans x1 | replace x0 := (x0.alloc _).trans x1 | replace x0 := (x0.drew).trans x1 | replace x0 := (x0.drew.alloc _).trans x1 | replace x0 := (x0.alloc _).drew.trans x1 | replace x0 := ((x0.alloc _).alloc _).trans x1 | have x0 := x1); clear x1; obtain ⟨xc, xf, xs⟩ := x0.cells) | (go_at_call 26; refine (implSteady_any z u i l m q _).mono ?_; rintro e w1 ⟨rfl, x1⟩; (try clear xc xf xs); (first | replace x0 := x0.trans x1 | replace x0 := (x0.alloc _).trans x1 | replace x0 := (x0.drew).trans x1 | replace x0 := (x0.drew.alloc _).trans x1 | replace x0 := (x0.alloc _).drew.trans x1 | replace x0 := ((x0.alloc _).alloc _).trans x1 | have x0 := x1); clear x1; obtain ⟨xc, xf, xs⟩ := x0.cells))
  go_ret
  exact ⟨rfl, ((Ext.refl _).alloc _).trans x0⟩

end Go.Proofs.Ytehebhphlaghfaa

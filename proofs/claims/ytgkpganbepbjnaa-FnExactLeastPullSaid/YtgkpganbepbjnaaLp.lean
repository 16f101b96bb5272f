/-
  The least torque of the first arbor.
-/
import Derived.Test.YtgkpganbepbjnaaLpP
import Derived.Test.YtgkpganbepbjnaaSearchN
import Derived.Test.YtgkpganbepbjnaaAl
import Derived.Test.YtgkpganbepbjnaaHeld
namespace Go.Proofs.Ytgkpganbepbjnaa
open Go.RowKit
set_option linter.unusedSimpArgs false
set_option linter.unusedVariables false

theorem impllast_pull (a : Option Addr) (n c : Nat) (zs : List (Int × Int)) (q u : Int) (w : World) (hr : RowAt w a zs) (hn : zs.length = n) (hm : n ≤ 1048576) (hv : vTrain zs = true) (hq : 0 ≤ q ∧ q ≤ 1000000) (hu : 0 ≤ u ∧ u ≤ 1000) :
    Calls Try.prog 70 #[.slice a n c, .int .i64 q, .int .i64 u] w fun e w' => ∃ g cp x, e = .returned (.slice (some ⟨g, 0, none⟩) (n + 1) cp) ∧ Hid (x = paS zs u q n) ∧ w'.cell? ⟨g, n, none⟩ = some (.int .i64 x) ∧ Ext w w' := by
  refine (implpullAlong_any a n c zs q u w hr hn hm hv hq hu).mono ?_
  rintro e w1 ⟨v, rfl, h, x1⟩
  obtain ⟨sa, sc, rfl⟩ := h.shape
  obtain ⟨g, x, rfl, hg, hx, c0⟩ := h.nth (j := n) (by rw [paL_length]; omega)
  refine ⟨g, sc, x, by rw [paL_length], Lib.hid ?_, c0, x1⟩
  rw [← hx.out, paL, List.getD_eq_getElem?_getD, List.getElem?_map, List.getElem?_range (by omega)]
  rfl

theorem speclast_pull (a : Option Addr) (n c : Nat) (zs : List (Int × Int)) (q u : Int) (w : World) (hr : RowAt w a zs) (hn : zs.length = n) (hm : n ≤ 1048576) (hv : vTrain zs = true) (hq : 0 ≤ q ∧ q ≤ 1000000) (hu : 0 ≤ u ∧ u ≤ 1000) :
    Calls Try.prog 65 #[.slice a n c, .int .i64 q, .int .i64 u] w fun e w' => ∃ g cp x, e = .returned (.slice (some ⟨g, 0, none⟩) (n + 1) cp) ∧ Hid (x = paS zs u q n) ∧ w'.cell? ⟨g, n, none⟩ = some (.int .i64 x) ∧ Ext w w' := by
  refine (l13Along_any a n c zs q u w hr hn hm hv hq hu).mono ?_
  rintro e w1 ⟨v, rfl, h, x1⟩
  obtain ⟨sa, sc, rfl⟩ := h.shape
  obtain ⟨g, x, rfl, hg, hx, c0⟩ := h.nth (j := n) (by rw [paL_length]; omega)
  refine ⟨g, sc, x, by rw [paL_length], Lib.hid ?_, c0, x1⟩
  rw [← hx.out, paL, List.getD_eq_getElem?_getD, List.getElem?_map, List.getElem?_range (by omega)]
  rfl

set_option maxRecDepth 100000 in
set_option maxHeartbeats 4000000 in
theorem lpFn_any (a : Option Addr) (n c : Nat) (zs : List (Int × Int)) (need u : Int) (t B : Nat) (W : World) (hr : RowAt W a zs) (hn : zs.length = n) (hm : n ≤ 1048576) (hv : vTrain zs = true) (hu : 0 ≤ u ∧ u ≤ 1000) (ht : t < 1000001)
    (l0 : B < W.heap.size) (l1 : B + 1 < W.heap.size) (l2 : B + 1 + 1 < W.heap.size) (f0 : W.cell? ⟨B, 0, none⟩ = some (.slice a n c)) (f1 : W.cell? ⟨B + 1, 0, none⟩ = some (.int .i64 need)) (f2 : W.cell? ⟨B + 1 + 1, 0, none⟩ = some (.int .i64 u)) :
    Calls Try.prog 69 (#[.int .i64 t] ++ #[.pointer (some ⟨B, 0, none⟩), .pointer (some ⟨B + 1 + 1, 0, none⟩), .pointer (some ⟨B + 1, 0, none⟩)]) W fun e w' => e = .returned (.bool (lpP zs u need t)) ∧ Ext W w' := by
  have e := Lib.hid (show decide (need ≤ paS zs u t n) = lpP zs u need t by rw [lpP, hn])
  have t5 : (n : Int) < ((n + 1 : Nat) : Int) := by omega
  have t8 : n < n + 1 := by omega
  have x0 := Ext.refl W
  replace hv := Lib.hid hv
  go_enter Try.func69, Try.ntmps69
  go_wp2_with fail
  refine wp_region_noPanic ?_
  refine wp_region_held_drew (S := fun w' => w'.cell? ⟨B, 0, none⟩ = some (.slice a n c) ∧ w'.cell? ⟨B + 1, 0, none⟩ = some (.int .i64 need) ∧ w'.cell? ⟨B + 1 + 1, 0, none⟩ = some (.int .i64 u)) (by kernel_rfl) ?_ (fun hHeld => ?_)
  · (try dsimp only)
    (refine ⟨?_, ?_, ?_⟩ <;> (refine keep_ext (W := W) ?_ (by assumption) (by assumption) <;> (repeat (first | exact x0 | refine Ext.drew ?_))))
  refine wpAnyH_take (i := 0) (oi := _) (v := ?_) rfl (by kernel_rfl) (by kernel_rfl) (by kernel_rfl) (fun _ _ _ h => h) (Or.inl ⟨by rfl, ?_⟩) (by assumption) ?_
  rotate_left
  · (intro w hSw; (try dsimp only at hSw); go_simp; (try with_reducible rfl))
  try simp only [Act.put, List.setIfInBounds_toArray, List.set_cons_zero, List.set_cons_succ]
  refine wpAnyH_take (i := 1) (oi := _) (v := ?_) rfl (by kernel_rfl) (by kernel_rfl) (by kernel_rfl) (fun _ _ _ h => h) (Or.inl ⟨by rfl, ?_⟩) (by assumption) ?_
  rotate_left
  · (intro w hSw; (try dsimp only at hSw); go_simp; (try with_reducible rfl))
  try simp only [Act.put, List.setIfInBounds_toArray, List.set_cons_zero, List.set_cons_succ]
  refine wpAnyH_take (i := 2) (oi := _) (v := ?_) rfl (by kernel_rfl) (by kernel_rfl) (by kernel_rfl) (fun _ _ _ h => h) (Or.inl ⟨by rfl, ?_⟩) (by assumption) ?_
  rotate_left
  · (intro w hSw; (try dsimp only at hSw); go_simp; (try with_reducible rfl))
  try simp only [Act.put, List.setIfInBounds_toArray, List.set_cons_zero, List.set_cons_succ]
  refine wpAnyH_take (i := 4) (oi := _) (v := ?_) rfl (by kernel_rfl) (by kernel_rfl) (by kernel_rfl) (fun _ _ _ h => h) (Or.inl ⟨by rfl, ?_⟩) (by assumption) ?_
  rotate_left
  · (intro w hSw; (try dsimp only at hSw); go_simp; (try with_reducible rfl))
  try simp only [Act.put, List.setIfInBounds_toArray, List.set_cons_zero, List.set_cons_succ]
  refine wpAnyH_take (i := 5) (oi := _) (v := ?_) rfl (by kernel_rfl) (by kernel_rfl) (by kernel_rfl) (fun _ _ _ h => h) (Or.inl ⟨by rfl, ?_⟩) (by assumption) ?_
  rotate_left
  · (intro w hSw; (try dsimp only at hSw); go_simp; (try with_reducible rfl))
  try simp only [Act.put, List.setIfInBounds_toArray, List.set_cons_zero, List.set_cons_succ]
  refine wpAnyH_take (i := 8) (oi := _) (v := ?_) rfl (by kernel_rfl) (by kernel_rfl) (by kernel_rfl) (fun _ _ _ h => h) (Or.inl ⟨by rfl, ?_⟩) (by assumption) ?_
  rotate_left
  · (intro w hSw; (try dsimp only at hSw); go_simp; (try with_reducible rfl))
  try simp only [Act.put, List.setIfInBounds_toArray, List.set_cons_zero, List.set_cons_succ]
  refine wpAnyH_ready (rs := [3]) (by kernel_rfl) (by simp) ?_
  refine AllReadyH.cons (o := _) rfl (fun K hK => ?_) AllReadyH.nil
  go_simp
  go_wp2_with (first | (go_at_call 70; refine (impllast_pull _ _ _ zs _ u _ (hr.ext (by first | exact x0 | exact x0.drew)) hn hm hv.out (by omega) hu).mono ?_; rintro e w1 ⟨g, cp, xx, rfl, hxx, c0, x1⟩; (try clear xc xf xs); (first | replace x0 := x0.trans x1 | replace x0 := (x0.alloc _).trans x1 | replace x0 := (x0.drew).trans x1 | replace x0 := (x0.drew.alloc _).trans x1 | replace x0 := (x0.alloc _).drew.trans x1 | replace x0 := ((x0.alloc _).alloc _).trans x1 | have x0 := x1); clear x1; obtain ⟨xc, xf, xs⟩ := x0.cells))
  refine hK.out _ _ ?_ (fun hHeld => ?_)
  · (try dsimp only)
    (refine ⟨?_, ?_, ?_⟩ <;> (refine keep_ext (W := W) ?_ (by assumption) (by assumption) <;> (repeat (first | exact x0 | refine Ext.drew ?_))))
  clear hK K
  try simp only [Act.put, List.setIfInBounds_toArray, List.set_cons_zero, List.set_cons_succ]
  refine wpAnyH_ready (rs := [6]) (by kernel_rfl) (by simp) ?_
  refine AllReadyH.cons (o := _) rfl (fun K hK => ?_) AllReadyH.nil
  go_simp
  (try go_wp2_with fail)
  refine hK.out _ _ ?_ (fun hHeld => ?_)
  · (try dsimp only)
    (refine ⟨?_, ?_, ?_⟩ <;> (refine keep_ext (W := W) ?_ (by assumption) (by assumption) <;> (repeat (first | exact x0 | refine Ext.drew ?_))))
  clear hK K
  try simp only [Act.put, List.setIfInBounds_toArray, List.set_cons_zero, List.set_cons_succ]
  refine wpAnyH_ready (rs := [7]) (by kernel_rfl) (by simp) ?_
  refine AllReadyH.cons (o := _) rfl (fun K hK => ?_) AllReadyH.nil
  go_simp
  (try go_wp2_with fail)
  refine hK.out _ _ ?_ (fun hHeld => ?_)
  · (try dsimp only)
    (refine ⟨?_, ?_, ?_⟩ <;> (refine keep_ext (W := W) ?_ (by assumption) (by assumption) <;> (repeat (first | exact x0 | refine Ext.drew ?_))))
  clear hK K
  try simp only [Act.put, List.setIfInBounds_toArray, List.set_cons_zero, List.set_cons_succ]
  refine wpAnyH_ready (rs := [9]) (by kernel_rfl) (by simp) ?_
  refine AllReadyH.cons (o := _) rfl (fun K hK => ?_) AllReadyH.nil
  go_simp
  (try go_wp2_with fail)
  refine hK.out _ _ ?_ (fun hHeld => ?_)
  · (try dsimp only)
    (refine ⟨?_, ?_, ?_⟩ <;> (refine keep_ext (W := W) ?_ (by assumption) (by assumption) <;> (repeat (first | exact x0 | refine Ext.drew ?_))))
  clear hK K
  try simp only [Act.put, List.setIfInBounds_toArray, List.set_cons_zero, List.set_cons_succ]
  refine wpAnyH_ready (rs := [10]) (by kernel_rfl) (by simp) ?_
  refine AllReadyH.cons (o := _) rfl (fun K hK => ?_) AllReadyH.nil
  go_simp
  (try go_wp2_with fail)
  refine hK.out _ _ ?_ (fun hHeld => ?_)
  · (try dsimp only)
    (refine ⟨?_, ?_, ?_⟩ <;> (refine keep_ext (W := W) ?_ (by assumption) (by assumption) <;> (repeat (first | exact x0 | refine Ext.drew ?_))))
  clear hK K
  try simp only [Act.put, List.setIfInBounds_toArray, List.set_cons_zero, List.set_cons_succ]
  refine wpAnyH_done (by kernel_rfl) ?_ _
  refine NoPanic.normal ?_
  go_wp2_with fail
  go_ret
  exact ⟨ret_bool (by rw [hxx.out]; exact e.out), (by first | exact x0 | exact x0.drew)⟩

set_option maxRecDepth 100000 in
set_option maxHeartbeats 8000000 in
theorem implLeastPull_any (a : Option Addr) (n c : Nat) (zs : List (Int × Int)) (need u : Int) (w : World) (hr : RowAt w a zs) (hn : zs.length = n) (hm : n ≤ 1048576) :
    Calls Try.prog 27 #[.slice a n c, .int .i64 need, .int .i64 u] w fun e w' => e = .returned (.tuple #[.int .i64 (lpR zs need u), .int .i64 (lpC zs need u)]) ∧ Ext w w' := by
  cases h1 : vTrain zs
  · have hc : lpCd zs need u = 1 := by simp [lpCd, h1]
    have e1 := Lib.hid (show 0 = lpR zs need u by simp [lpR, hc])
    have e2 := Lib.hid (show 1 = lpC zs need u by simp [lpC, hc])
    clear hc
    go_enter Try.func27, Try.ntmps27
    go_wp2_with fail
    generalize hW : (((w.alloc (Obj.cells #[.slice a n c] 45)).alloc (Obj.cells #[.int .i64 need] 2)).alloc (Obj.cells #[.int .i64 u] 2)) = W
    have hE : Ext w W := by rw [← hW]; exact ((((Ext.refl _).alloc _).alloc _).alloc _)
    have hl0 : w.heap.size < W.heap.size := by rw [← hW]; simp; try omega
    have hl1 : w.heap.size + 1 < W.heap.size := by rw [← hW]; simp; try omega
    have hl2 : w.heap.size + 1 + 1 < W.heap.size := by rw [← hW]; simp; try omega
    have f0 : W.cell? ⟨w.heap.size, 0, none⟩ = some (.slice a n c) := by rw [← hW]; simp [go_sem]
    have f1 : W.cell? ⟨w.heap.size + 1, 0, none⟩ = some (.int .i64 need) := by rw [← hW]; simp [go_sem]
    have f2 : W.cell? ⟨w.heap.size + 1 + 1, 0, none⟩ = some (.int .i64 u) := by rw [← hW]; simp [go_sem]
    clear hW
    have hrW := hr.ext hE
    have x0 := Ext.refl W
    go_wp2_with (first | (go_at_call 67; refine (implValidTrain_any _ _ _ zs _ (hrW.ext x0) hn hm).mono ?_; rintro e w1 ⟨rfl, x1⟩; (try clear xc xf xs); (first | replace x0 := x0.trans x1 | replace x0 := (x0.alloc _).trans x1 | replace x0 := (x0.drew).trans x1 | replace x0 := (x0.drew.alloc _).trans x1 | replace x0 := (x0.alloc _).drew.trans x1 | replace x0 := ((x0.alloc _).alloc _).trans x1 | have x0 := x1); clear x1; obtain ⟨xc, xf, xs⟩ := x0.cells) | (go_at_call 62; refine (isPull_any _ _).mono ?_; rintro e w1 ⟨rfl, rfl⟩) | (go_at_call 55; refine (within_any _ _ _ _).mono ?_; rintro e w1 ⟨rfl, rfl⟩))
    go_ret2
    exact ⟨ret2 e1.out e2.out, hE.trans x0⟩
  cases h2 : inB need 0 1000000
  · have hc : lpCd zs need u = 2 := by simp [lpCd, h1, h2]
    have e1 := Lib.hid (show 0 = lpR zs need u by simp [lpR, hc])
    have e2 := Lib.hid (show 2 = lpC zs need u by simp [lpC, hc])
    clear hc
    go_enter Try.func27, Try.ntmps27
    go_wp2_with fail
    generalize hW : (((w.alloc (Obj.cells #[.slice a n c] 45)).alloc (Obj.cells #[.int .i64 need] 2)).alloc (Obj.cells #[.int .i64 u] 2)) = W
    have hE : Ext w W := by rw [← hW]; exact ((((Ext.refl _).alloc _).alloc _).alloc _)
    have hl0 : w.heap.size < W.heap.size := by rw [← hW]; simp; try omega
    have hl1 : w.heap.size + 1 < W.heap.size := by rw [← hW]; simp; try omega
    have hl2 : w.heap.size + 1 + 1 < W.heap.size := by rw [← hW]; simp; try omega
    have f0 : W.cell? ⟨w.heap.size, 0, none⟩ = some (.slice a n c) := by rw [← hW]; simp [go_sem]
    have f1 : W.cell? ⟨w.heap.size + 1, 0, none⟩ = some (.int .i64 need) := by rw [← hW]; simp [go_sem]
    have f2 : W.cell? ⟨w.heap.size + 1 + 1, 0, none⟩ = some (.int .i64 u) := by rw [← hW]; simp [go_sem]
    clear hW
    have hrW := hr.ext hE
    have x0 := Ext.refl W
    go_wp2_with (first | (go_at_call 67; refine (implValidTrain_any _ _ _ zs _ (hrW.ext x0) hn hm).mono ?_; rintro e w1 ⟨rfl, x1⟩; (try clear xc xf xs); (first | replace x0 := x0.trans x1 | replace x0 := (x0.alloc _).trans x1 | replace x0 := (x0.drew).trans x1 | replace x0 := (x0.drew.alloc _).trans x1 | replace x0 := (x0.alloc _).drew.trans x1 | replace x0 := ((x0.alloc _).alloc _).trans x1 | have x0 := x1); clear x1; obtain ⟨xc, xf, xs⟩ := x0.cells) | (go_at_call 62; refine (isPull_any _ _).mono ?_; rintro e w1 ⟨rfl, rfl⟩) | (go_at_call 55; refine (within_any _ _ _ _).mono ?_; rintro e w1 ⟨rfl, rfl⟩))
    go_ret2
    exact ⟨ret2 e1.out e2.out, hE.trans x0⟩
  cases h3 : inB u 0 1000
  · have hc : lpCd zs need u = 2 := by simp [lpCd, h1, h2, h3]
    have e1 := Lib.hid (show 0 = lpR zs need u by simp [lpR, hc])
    have e2 := Lib.hid (show 2 = lpC zs need u by simp [lpC, hc])
    clear hc
    go_enter Try.func27, Try.ntmps27
    go_wp2_with fail
    generalize hW : (((w.alloc (Obj.cells #[.slice a n c] 45)).alloc (Obj.cells #[.int .i64 need] 2)).alloc (Obj.cells #[.int .i64 u] 2)) = W
    have hE : Ext w W := by rw [← hW]; exact ((((Ext.refl _).alloc _).alloc _).alloc _)
    have hl0 : w.heap.size < W.heap.size := by rw [← hW]; simp; try omega
    have hl1 : w.heap.size + 1 < W.heap.size := by rw [← hW]; simp; try omega
    have hl2 : w.heap.size + 1 + 1 < W.heap.size := by rw [← hW]; simp; try omega
    have f0 : W.cell? ⟨w.heap.size, 0, none⟩ = some (.slice a n c) := by rw [← hW]; simp [go_sem]
    have f1 : W.cell? ⟨w.heap.size + 1, 0, none⟩ = some (.int .i64 need) := by rw [← hW]; simp [go_sem]
    have f2 : W.cell? ⟨w.heap.size + 1 + 1, 0, none⟩ = some (.int .i64 u) := by rw [← hW]; simp [go_sem]
    clear hW
    have hrW := hr.ext hE
    have x0 := Ext.refl W
    go_wp2_with (first | (go_at_call 67; refine (implValidTrain_any _ _ _ zs _ (hrW.ext x0) hn hm).mono ?_; rintro e w1 ⟨rfl, x1⟩; (try clear xc xf xs); (first | replace x0 := x0.trans x1 | replace x0 := (x0.alloc _).trans x1 | replace x0 := (x0.drew).trans x1 | replace x0 := (x0.drew.alloc _).trans x1 | replace x0 := (x0.alloc _).drew.trans x1 | replace x0 := ((x0.alloc _).alloc _).trans x1 | have x0 := x1); clear x1; obtain ⟨xc, xf, xs⟩ := x0.cells) | (go_at_call 62; refine (isPull_any _ _).mono ?_; rintro e w1 ⟨rfl, rfl⟩) | (go_at_call 55; refine (within_any _ _ _ _).mono ?_; rintro e w1 ⟨rfl, rfl⟩))
    go_ret2
    exact ⟨ret2 e1.out e2.out, hE.trans x0⟩
  have hc : lpCd zs need u = 0 := by simp [lpCd, h1, h2, h3]
  have hv := Lib.hid h1
  have hu := inB_iff.1 h3
  have HM := Lib.hid (show ∀ a b, a ≤ b → b < 1000001 → lpP zs u need a = true → lpP zs u need b = true from fun a b hab _ hp => lpP_mono h1 hu hab hp)
  have hmm := Lib.hid (show ((1000001 : Nat) : Int) = 1000001 from rfl)
  have eg : ∀ args w, (callFunc 69 args).run Try.prog w = .ok (.enter 69 args) w := enters_of Try.func69 (by kernel_rfl) rfl
  obtain ⟨Q, hqe⟩ : ∃ Q, lpQ zs need u = Q := ⟨_, rfl⟩
  by_cases hq : Q ≤ 1000000
  · have e1 := Lib.hid (show (Q : Int) = lpR zs need u by rw [lpR, if_pos hc, hqe, if_pos hq])
    have e2 := Lib.hid (show 0 = lpC zs need u by rw [lpC, if_pos hc, hqe, if_pos hq])
    have hq2 : ¬ 1000000 < (Q : Int) := by omega
    unfold lpQ at hqe
    replace hqe := Lib.hid hqe
    clear hc hq
    go_enter Try.func27, Try.ntmps27
    go_wp2_with fail
    generalize hW : (((w.alloc (Obj.cells #[.slice a n c] 45)).alloc (Obj.cells #[.int .i64 need] 2)).alloc (Obj.cells #[.int .i64 u] 2)) = W
    have hE : Ext w W := by rw [← hW]; exact ((((Ext.refl _).alloc _).alloc _).alloc _)
    have hl0 : w.heap.size < W.heap.size := by rw [← hW]; simp; try omega
    have hl1 : w.heap.size + 1 < W.heap.size := by rw [← hW]; simp; try omega
    have hl2 : w.heap.size + 1 + 1 < W.heap.size := by rw [← hW]; simp; try omega
    have f0 : W.cell? ⟨w.heap.size, 0, none⟩ = some (.slice a n c) := by rw [← hW]; simp [go_sem]
    have f1 : W.cell? ⟨w.heap.size + 1, 0, none⟩ = some (.int .i64 need) := by rw [← hW]; simp [go_sem]
    have f2 : W.cell? ⟨w.heap.size + 1 + 1, 0, none⟩ = some (.int .i64 u) := by rw [← hW]; simp [go_sem]
    clear hW
    have hrW := hr.ext hE
    have x0 := Ext.refl W
    have HF := Lib.hid (show ∀ (t : Nat) (wx : World), t < 1000001 → Ext W wx → Calls Try.prog 69 (#[.int .i64 t] ++ #[.pointer (some ⟨w.heap.size, 0, none⟩), .pointer (some ⟨w.heap.size + 1 + 1, 0, none⟩), .pointer (some ⟨w.heap.size + 1, 0, none⟩)]) wx fun e w' => e = .returned (.bool (lpP zs u need t)) ∧ Ext wx w' from fun t wx ht x => lpFn_any a n c zs need u t w.heap.size wx (hrW.ext x) hn hm hv.out hu ht (Nat.lt_of_lt_of_le hl0 x.size) (Nat.lt_of_lt_of_le hl1 x.size) (Nat.lt_of_lt_of_le hl2 x.size) ((x.cells.1 _ _ hl0).trans f0) ((x.cells.1 _ _ hl1).trans f1) ((x.cells.1 _ _ hl2).trans f2))
    go_wp2_with (first | (go_at_call 67; refine (implValidTrain_any _ _ _ zs _ (hrW.ext x0) hn hm).mono ?_; rintro e w1 ⟨rfl, x1⟩; (try clear xc xf xs); (first | replace x0 := x0.trans x1 | replace x0 := (x0.alloc _).trans x1 | replace x0 := (x0.drew).trans x1 | replace x0 := (x0.drew.alloc _).trans x1 | replace x0 := (x0.alloc _).drew.trans x1 | replace x0 := ((x0.alloc _).alloc _).trans x1 | have x0 := x1); clear x1; obtain ⟨xc, xf, xs⟩ := x0.cells) | (go_at_call 62; refine (isPull_any _ _).mono ?_; rintro e w1 ⟨rfl, rfl⟩) | (go_at_call 55; refine (within_any _ _ _ _).mono ?_; rintro e w1 ⟨rfl, rfl⟩) | (go_at_call 68; refine (search_at 69 _ 1000001 _ (lpP zs u need) _ hmm eg (by omega) (fun i wx hi x => HF.out i wx hi (x0.trans x)) HM.out).mono ?_; rintro e w1 ⟨rfl, x1⟩; rw [hqe.out]; (try clear xc xf xs); (first | replace x0 := x0.trans x1 | replace x0 := (x0.alloc _).trans x1 | replace x0 := (x0.drew).trans x1 | replace x0 := (x0.drew.alloc _).trans x1 | replace x0 := (x0.alloc _).drew.trans x1 | replace x0 := ((x0.alloc _).alloc _).trans x1 | have x0 := x1); clear x1; obtain ⟨xc, xf, xs⟩ := x0.cells))
    go_ret2
    exact ⟨ret2 e1.out e2.out, hE.trans x0⟩
  · have e1 := Lib.hid (show 0 = lpR zs need u by rw [lpR, if_pos hc, hqe, if_neg hq])
    have e2 := Lib.hid (show 3 = lpC zs need u by rw [lpC, if_pos hc, hqe, if_neg hq])
    have hq2 : 1000000 < (Q : Int) := by omega
    unfold lpQ at hqe
    replace hqe := Lib.hid hqe
    clear hc hq
    go_enter Try.func27, Try.ntmps27
    go_wp2_with fail
    generalize hW : (((w.alloc (Obj.cells #[.slice a n c] 45)).alloc (Obj.cells #[.int .i64 need] 2)).alloc (Obj.cells #[.int .i64 u] 2)) = W
    have hE : Ext w W := by rw [← hW]; exact ((((Ext.refl _).alloc _).alloc _).alloc _)
    have hl0 : w.heap.size < W.heap.size := by rw [← hW]; simp; try omega
    have hl1 : w.heap.size + 1 < W.heap.size := by rw [← hW]; simp; try omega
    have hl2 : w.heap.size + 1 + 1 < W.heap.size := by rw [← hW]; simp; try omega
    have f0 : W.cell? ⟨w.heap.size, 0, none⟩ = some (.slice a n c) := by rw [← hW]; simp [go_sem]
    have f1 : W.cell? ⟨w.heap.size + 1, 0, none⟩ = some (.int .i64 need) := by rw [← hW]; simp [go_sem]
    have f2 : W.cell? ⟨w.heap.size + 1 + 1, 0, none⟩ = some (.int .i64 u) := by rw [← hW]; simp [go_sem]
    clear hW
    have hrW := hr.ext hE
    have x0 := Ext.refl W
    have HF := Lib.hid (show ∀ (t : Nat) (wx : World), t < 1000001 → Ext W wx → Calls Try.prog 69 (#[.int .i64 t] ++ #[.pointer (some ⟨w.heap.size, 0, none⟩), .pointer (some ⟨w.heap.size + 1 + 1, 0, none⟩), .pointer (some ⟨w.heap.size + 1, 0, none⟩)]) wx fun e w' => e = .returned (.bool (lpP zs u need t)) ∧ Ext wx w' from fun t wx ht x => lpFn_any a n c zs need u t w.heap.size wx (hrW.ext x) hn hm hv.out hu ht (Nat.lt_of_lt_of_le hl0 x.size) (Nat.lt_of_lt_of_le hl1 x.size) (Nat.lt_of_lt_of_le hl2 x.size) ((x.cells.1 _ _ hl0).trans f0) ((x.cells.1 _ _ hl1).trans f1) ((x.cells.1 _ _ hl2).trans f2))
    go_wp2_with (first | (go_at_call 67; refine (implValidTrain_any _ _ _ zs _ (hrW.ext x0) hn hm).mono ?_; rintro e w1 ⟨rfl, x1⟩; (try clear xc xf xs); (first | replace x0 := x0.trans x1 | replace x0 := (x0.alloc _).trans x1 | replace x0 := (x0.drew).trans x1 | replace x0 := (x0.drew.alloc _).trans x1 | replace x0 := (x0.alloc _).drew.trans x1 | replace x0 := ((x0.alloc _).alloc _).trans x1 | have x0 := x1); clear x1; obtain ⟨xc, xf, xs⟩ := x0.cells) | (go_at_call 62; refine (isPull_any _ _).mono ?_; rintro e w1 ⟨rfl, rfl⟩) | (go_at_call 55; refine (within_any _ _ _ _).mono ?_; rintro e w1 ⟨rfl, rfl⟩) | (go_at_call 68; refine (search_at 69 _ 1000001 _ (lpP zs u need) _ hmm eg (by omega) (fun i wx hi x => HF.out i wx hi (x0.trans x)) HM.out).mono ?_; rintro e w1 ⟨rfl, x1⟩; rw [hqe.out]; (try clear xc xf xs); (first | replace x0 := x0.trans x1 | replace x0 := (x0.alloc _).trans x1 | replace x0 := (x0.drew).trans x1 | replace x0 := (x0.drew.alloc _).trans x1 | replace x0 := (x0.alloc _).drew.trans x1 | replace x0 := ((x0.alloc _).alloc _).trans x1 | have x0 := x1); clear x1; obtain ⟨xc, xf, xs⟩ := x0.cells))
    go_ret2
    exact ⟨ret2 e1.out e2.out, hE.trans x0⟩

set_option maxRecDepth 100000 in
set_option maxHeartbeats 8000000 in
theorem specLeastPull_any (a : Option Addr) (n c : Nat) (zs : List (Int × Int)) (need u : Int) (w : World) (hr : RowAt w a zs) (hn : zs.length = n) (hm : n ≤ 1048576) :
    Calls Try.prog 25 #[.slice a n c, .int .i64 need, .int .i64 u] w fun e w' => e = .returned (.tuple #[.int .i64 (lpR zs need u), .int .i64 (lpC zs need u)]) ∧ Ext w w' := by
  cases h1 : vTrain zs
  · have hc : lpCd zs need u = 1 := by simp [lpCd, h1]
    have e1 := Lib.hid (show 0 = lpR zs need u by simp [lpR, hc])
    have e2 := Lib.hid (show 1 = lpC zs need u by simp [lpC, hc])
    clear hc
    go_enter Try.func25, Try.ntmps25
    have hE := Ext.refl w
    have hrW := hr
    have x0 := Ext.refl w
    go_wp2_with (first | (go_at_call 64; refine (l05Ok_any _ _ _ zs _ (hrW.ext x0) hn hm).mono ?_; rintro e w1 ⟨rfl, x1⟩; (try clear xc xf xs); (first | replace x0 := x0.trans x1 | replace x0 := (x0.alloc _).trans x1 | replace x0 := (x0.drew).trans x1 | replace x0 := (x0.drew.alloc _).trans x1 | replace x0 := (x0.alloc _).drew.trans x1 | replace x0 := ((x0.alloc _).alloc _).trans x1 | have x0 := x1); clear x1; obtain ⟨xc, xf, xs⟩ := x0.cells) | (go_at_call 54; refine (l00In_any _ _ _ _).mono ?_; rintro e w1 ⟨rfl, rfl⟩))
    go_ret2
    exact ⟨ret2 e1.out e2.out, hE.trans x0⟩
  cases h2 : inB need 0 1000000
  · have hc : lpCd zs need u = 2 := by simp [lpCd, h1, h2]
    have e1 := Lib.hid (show 0 = lpR zs need u by simp [lpR, hc])
    have e2 := Lib.hid (show 2 = lpC zs need u by simp [lpC, hc])
    clear hc
    go_enter Try.func25, Try.ntmps25
    have hE := Ext.refl w
    have hrW := hr
    have x0 := Ext.refl w
    go_wp2_with (first | (go_at_call 64; refine (l05Ok_any _ _ _ zs _ (hrW.ext x0) hn hm).mono ?_; rintro e w1 ⟨rfl, x1⟩; (try clear xc xf xs); (first | replace x0 := x0.trans x1 | replace x0 := (x0.alloc _).trans x1 | replace x0 := (x0.drew).trans x1 | replace x0 := (x0.drew.alloc _).trans x1 | replace x0 := (x0.alloc _).drew.trans x1 | replace x0 := ((x0.alloc _).alloc _).trans x1 | have x0 := x1); clear x1; obtain ⟨xc, xf, xs⟩ := x0.cells) | (go_at_call 54; refine (l00In_any _ _ _ _).mono ?_; rintro e w1 ⟨rfl, rfl⟩))
    go_ret2
    exact ⟨ret2 e1.out e2.out, hE.trans x0⟩
  cases h3 : inB u 0 1000
  · have hc : lpCd zs need u = 2 := by simp [lpCd, h1, h2, h3]
    have e1 := Lib.hid (show 0 = lpR zs need u by simp [lpR, hc])
    have e2 := Lib.hid (show 2 = lpC zs need u by simp [lpC, hc])
    clear hc
    go_enter Try.func25, Try.ntmps25
    have hE := Ext.refl w
    have hrW := hr
    have x0 := Ext.refl w
    go_wp2_with (first | (go_at_call 64; refine (l05Ok_any _ _ _ zs _ (hrW.ext x0) hn hm).mono ?_; rintro e w1 ⟨rfl, x1⟩; (try clear xc xf xs); (first | replace x0 := x0.trans x1 | replace x0 := (x0.alloc _).trans x1 | replace x0 := (x0.drew).trans x1 | replace x0 := (x0.drew.alloc _).trans x1 | replace x0 := (x0.alloc _).drew.trans x1 | replace x0 := ((x0.alloc _).alloc _).trans x1 | have x0 := x1); clear x1; obtain ⟨xc, xf, xs⟩ := x0.cells) | (go_at_call 54; refine (l00In_any _ _ _ _).mono ?_; rintro e w1 ⟨rfl, rfl⟩))
    go_ret2
    exact ⟨ret2 e1.out e2.out, hE.trans x0⟩
  have hc : lpCd zs need u = 0 := by simp [lpCd, h1, h2, h3]
  have hv := Lib.hid h1
  have hu := inB_iff.1 h3
  have HM := Lib.hid (show ∀ a b, a ≤ b → b < 1000001 → lpP zs u need a = true → lpP zs u need b = true from fun a b hab _ hp => lpP_mono h1 hu hab hp)
  have t5 : (n : Int) < ((n + 1 : Nat) : Int) := by omega
  have t8 : n < n + 1 := by omega
  cases h9 : lpP zs u need 1000000
  · have hq : ¬ lpQ zs need u ≤ 1000000 := by
      have : lpQ zs need u = 1000001 := leastN_no h9
      omega
    have e1 := Lib.hid (show 0 = lpR zs need u by rw [lpR, if_pos hc, if_neg hq])
    have e2 := Lib.hid (show 3 = lpC zs need u by rw [lpC, if_pos hc, if_neg hq])
    have h8 := Lib.hid (lpP_at (show ((1000000 : Nat) : Int) = 1000000 from rfl) false h9)
    rw [hn] at h8
    clear hc hq h9
    have hE := Ext.refl w
    have hrW := hr
    have x0 := Ext.refl w
    go_enter Try.func25, Try.ntmps25
    go_wp2_with (first | (go_at_call 64; refine (l05Ok_any _ _ _ zs _ (hrW.ext x0) hn hm).mono ?_; rintro e w1 ⟨rfl, x1⟩; (try clear xc xf xs); (first | replace x0 := x0.trans x1 | replace x0 := (x0.alloc _).trans x1 | replace x0 := (x0.drew).trans x1 | replace x0 := (x0.drew.alloc _).trans x1 | replace x0 := (x0.alloc _).drew.trans x1 | replace x0 := ((x0.alloc _).alloc _).trans x1 | have x0 := x1); clear x1; obtain ⟨xc, xf, xs⟩ := x0.cells) | (go_at_call 54; refine (l00In_any _ _ _ _).mono ?_; rintro e w1 ⟨rfl, rfl⟩) | (go_at_call 65; refine (speclast_pull _ _ _ zs _ u _ (hrW.ext x0) hn hm hv.out (by omega) hu).mono ?_; rintro e w1 ⟨g, cp, xx, rfl, hxx, c0, x1⟩; have h7 : xx < need := (by have := h8.out; rw [← hxx.out] at this; simpa using this); (try clear xc xf xs); (first | replace x0 := x0.trans x1 | replace x0 := (x0.alloc _).trans x1 | replace x0 := (x0.drew).trans x1 | replace x0 := (x0.drew.alloc _).trans x1 | replace x0 := (x0.alloc _).drew.trans x1 | replace x0 := ((x0.alloc _).alloc _).trans x1 | have x0 := x1); clear x1; obtain ⟨xc, xf, xs⟩ := x0.cells))
    go_ret2
    exact ⟨ret2 e1.out e2.out, hE.trans x0⟩
  · have hq : lpQ zs need u ≤ 1000000 := leastN_yes h9
    have e1 := Lib.hid (show (lpQ zs need u : Int) = lpR zs need u by rw [lpR, if_pos hc, if_pos hq])
    have e2 := Lib.hid (show 0 = lpC zs need u by rw [lpC, if_pos hc, if_pos hq])
    have h8 := Lib.hid (lpP_at (show ((1000000 : Nat) : Int) = 1000000 from rfl) true h9)
    rw [hn] at h8
    have hI : Hid ((∀ t, t < 0 → lpP zs u need t = false) ∧ (∀ t, 1000000 ≤ t → t < 1000001 → lpP zs u need t = true)) := Lib.hid ⟨fun t ht => by omega, fun t h1 h2 => by rw [show t = 1000000 by omega]; exact h9⟩
    clear hc hq h9
    have hE := Ext.refl w
    have hrW := hr
    have x0 := Ext.refl w
    go_enter Try.func25, Try.ntmps25
    go_wp2_with (first | (go_at_call 64; refine (l05Ok_any _ _ _ zs _ (hrW.ext x0) hn hm).mono ?_; rintro e w1 ⟨rfl, x1⟩; (try clear xc xf xs); (first | replace x0 := x0.trans x1 | replace x0 := (x0.alloc _).trans x1 | replace x0 := (x0.drew).trans x1 | replace x0 := (x0.drew.alloc _).trans x1 | replace x0 := (x0.alloc _).drew.trans x1 | replace x0 := ((x0.alloc _).alloc _).trans x1 | have x0 := x1); clear x1; obtain ⟨xc, xf, xs⟩ := x0.cells) | (go_at_call 54; refine (l00In_any _ _ _ _).mono ?_; rintro e w1 ⟨rfl, rfl⟩) | (go_at_call 65; refine (speclast_pull _ _ _ zs _ u _ (hrW.ext x0) hn hm hv.out (by omega) hu).mono ?_; rintro e w1 ⟨g, cp, xx, rfl, hxx, c0, x1⟩; have h7 : need ≤ xx := (by have := h8.out; rw [← hxx.out] at this; simpa using this); (try clear xc xf xs); (first | replace x0 := x0.trans x1 | replace x0 := (x0.alloc _).trans x1 | replace x0 := (x0.drew).trans x1 | replace x0 := (x0.drew.alloc _).trans x1 | replace x0 := (x0.alloc _).drew.trans x1 | replace x0 := ((x0.alloc _).alloc _).trans x1 | have x0 := x1); clear x1; obtain ⟨xc, xf, xs⟩ := x0.cells))
    go_loopw [8, 9] (fun s8 s9 wr => ∃ (lo hh : Nat), s8 = .int .i64 lo ∧ s9 = .int .i64 hh ∧ lo ≤ hh ∧ hh ≤ 1000000 ∧ Ext w wr ∧ Hid ((∀ t, t < lo → lpP zs u need t = false) ∧ (∀ t, hh ≤ t → t < 1000001 → lpP zs u need t = true))) (fun a b _ => (intOf b).toNat - (intOf a).toNat)
    case atStart => exact ⟨0, 1000000, rfl, rfl, by omega, Nat.le_refl _, x0, hI⟩
    case round =>
      clear x0 hI h8; (try clear xc xf xs)
      obtain ⟨lo, hh, rfl, rfl, hlh, hin, x0, I⟩ := hrel
      obtain ⟨xc, xf, xs⟩ := x0.cells
      by_cases hlt : lo < hh
      · obtain ⟨md, hmd⟩ : ∃ md, md = (lo + hh) / 2 := ⟨_, rfl⟩
        have hm1 : ((lo : Int) + (hh : Int)) / 2 = (md : Int) := by omega
        have hm2 : ((lo : Int) + (hh : Int)).tdiv 2 = (md : Int) := by rw [Int.tdiv_eq_ediv_of_nonneg (by omega)]; omega
        have t1 : (lo : Int) < (hh : Int) := by omega
        have hb1 : lo ≤ md := by omega
        have hb2 : md < hh := by omega
        clear hmd
        cases hp : lpP zs u need md
        · have HP := Lib.hid hp
          have h8 := Lib.hid (lpP_at (show ((md : Nat) : Int) = (md : Int) from rfl) false hp)
          rw [hn] at h8
          clear hp
          go_wp2_with (first | (go_at_call 65; refine (speclast_pull _ _ _ zs _ u _ (hrW.ext x0) hn hm hv.out (by omega) hu).mono ?_; rintro e w1 ⟨g, cp, xx, rfl, hxx, c0, x1⟩; have h7 : xx < need := (by have := h8.out; rw [← hxx.out] at this; simpa using this); (try clear xc xf xs); (first | replace x0 := x0.trans x1 | replace x0 := (x0.alloc _).trans x1 | replace x0 := (x0.drew).trans x1 | replace x0 := (x0.drew.alloc _).trans x1 | replace x0 := (x0.alloc _).drew.trans x1 | replace x0 := ((x0.alloc _).alloc _).trans x1 | have x0 := x1); clear x1; obtain ⟨xc, xf, xs⟩ := x0.cells))
          go_roundw
          case rel => exact ⟨md + 1, hh, by first | rfl | go_num, by first | rfl | go_num, by omega, by omega, x0, Lib.hid ⟨fun t ht => (by
            cases h : lpP zs u need t with
            | false => rfl
            | true => have := HM.out t md (by omega) (by omega) h; rw [HP.out] at this; cases this), I.out.2⟩⟩
          case measure => simp [intOf]; omega
        · have HP := Lib.hid hp
          have h8 := Lib.hid (lpP_at (show ((md : Nat) : Int) = (md : Int) from rfl) true hp)
          rw [hn] at h8
          clear hp
          go_wp2_with (first | (go_at_call 65; refine (speclast_pull _ _ _ zs _ u _ (hrW.ext x0) hn hm hv.out (by omega) hu).mono ?_; rintro e w1 ⟨g, cp, xx, rfl, hxx, c0, x1⟩; have h7 : need ≤ xx := (by have := h8.out; rw [← hxx.out] at this; simpa using this); (try clear xc xf xs); (first | replace x0 := x0.trans x1 | replace x0 := (x0.alloc _).trans x1 | replace x0 := (x0.drew).trans x1 | replace x0 := (x0.drew.alloc _).trans x1 | replace x0 := (x0.alloc _).drew.trans x1 | replace x0 := ((x0.alloc _).alloc _).trans x1 | have x0 := x1); clear x1; obtain ⟨xc, xf, xs⟩ := x0.cells))
          go_roundw
          case rel => exact ⟨lo, md, by first | rfl | go_num, by first | rfl | go_num, by omega, by omega, x0, Lib.hid ⟨I.out.1, fun t ht htn => HM.out md t ht htn HP.out⟩⟩
          case measure => simp [intOf]; omega
      · obtain rfl : hh = lo := by omega
        have hz := Lib.hid (show (hh : Int) = lpR zs need u by rw [← e1.out, show lpQ zs need u = hh from leastN_eq (by omega) I.out.1 I.out.2])
        have t1 : ¬ (hh : Int) < (hh : Int) := by omega
        go_wp2_with fail
        go_ret2
        exact ⟨ret2 hz.out e2.out, hE.trans x0⟩

end Go.Proofs.Ytgkpganbepbjnaa

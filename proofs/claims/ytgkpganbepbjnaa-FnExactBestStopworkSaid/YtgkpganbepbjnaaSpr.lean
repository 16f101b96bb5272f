/-
  Springs: the ends, the positions, and what the program and the reference make of them.
-/
import Derived.Test.YtgkpganbepbjnaaSprP
import Derived.Test.YtgkpganbepbjnaaPull
import Derived.Test.YtgkpganbepbjnaaSpring2
namespace Go.Proofs.Ytgkpganbepbjnaa
open Go.RowKit
set_option linter.unusedSimpArgs false
set_option linter.unusedVariables false

set_option maxHeartbeats 1000000 in
theorem implfirst_any (a : Option Addr) (n c : Nat) (zs : List (Int × Int)) (w : World) (hr : RowAt w a zs) (hn : zs.length = n) (hn1 : 1 ≤ n) :
    Calls Try.prog 79 #[.agg #[.slice a n c]] w fun e w' => e = .returned (.int .i64 (fst1 zs)) ∧ Ext w w' := by
  obtain ⟨bb, off, rfl, hb, x, y, ex, ey, c0, c1⟩ := hr.look (j := 0) (by omega)
  have hx := Lib.hid (show x = fst1 zs from ex.out.symm)
  simp only [Nat.zero_mul, Nat.add_zero] at c0 c1
  have t5 : (0 : Int) < (n : Int) := by omega
  have t6 : 0 < n := by omega
  have hne : w.heap.size ≠ bb := by omega
  clear ex ey hr hn hn1
  go_enter Try.func79, Try.ntmps79
  go_wp2
  go_ret
  exact ⟨ret_int hx.out, (Ext.refl _).alloc _⟩

set_option maxHeartbeats 1000000 in
theorem impllast_any (a : Option Addr) (n c : Nat) (zs : List (Int × Int)) (w : World) (hr : RowAt w a zs) (hn : zs.length = n) (hn1 : 1 ≤ n) (hm : n ≤ 1048576) :
    Calls Try.prog 78 #[.agg #[.slice a n c]] w fun e w' => e = .returned (.int .i64 (lst1 zs)) ∧ Ext w w' := by
  obtain ⟨q, rfl⟩ : ∃ q, n = q + 1 := ⟨n - 1, by omega⟩
  have t7 : IntKind.i64.wrap (((q + 1 : Nat) : Int) - 1) = (q : Int) := by rw [IntWalk.i64_in _ (by omega)]; omega
  have t5 : (q : Int) < ((q + 1 : Nat) : Int) := by omega
  have t8 : q < q + 1 := by omega
  obtain ⟨bb, off, rfl, hb, x, y, ex, ey, c0, c1⟩ := hr.look (j := q) (by omega)
  have hx := Lib.hid (show x = lst1 zs by rw [lst1, hn]; exact ex.out.symm)
  have hne : w.heap.size ≠ bb := by omega
  clear ex ey hr hn hn1 hm
  generalize hi1 : q + 1 = i at *
  replace hi1 := Lib.hid hi1
  go_enter Try.func78, Try.ntmps78
  go_wp2
  go_ret
  exact ⟨ret_int hx.out, (Ext.refl _).alloc _⟩

set_option maxHeartbeats 1000000 in
theorem specfirst_any (a : Option Addr) (n c : Nat) (zs : List (Int × Int)) (w : World) (hr : RowAt w a zs) (hn : zs.length = n) (hn1 : 1 ≤ n) :
    Calls Try.prog 77 #[.agg #[.slice a n c]] w fun e w' => e = .returned (.int .i64 (fst1 zs)) ∧ Ext w w' := by
  obtain ⟨bb, off, rfl, hb, x, y, ex, ey, c0, c1⟩ := hr.look (j := 0) (by omega)
  have hx := Lib.hid (show x = fst1 zs from ex.out.symm)
  simp only [Nat.zero_mul, Nat.add_zero] at c0 c1
  have t5 : (0 : Int) < (n : Int) := by omega
  have t6 : 0 < n := by omega
  have hne : w.heap.size ≠ bb := by omega
  clear ex ey hr hn hn1
  go_enter Try.func77, Try.ntmps77
  go_wp2
  go_ret
  exact ⟨ret_int hx.out, (Ext.refl _).alloc _⟩

set_option maxHeartbeats 1000000 in
theorem speclast_any (a : Option Addr) (n c : Nat) (zs : List (Int × Int)) (w : World) (hr : RowAt w a zs) (hn : zs.length = n) (hn1 : 1 ≤ n) (hm : n ≤ 1048576) :
    Calls Try.prog 76 #[.agg #[.slice a n c]] w fun e w' => e = .returned (.int .i64 (lst1 zs)) ∧ Ext w w' := by
  obtain ⟨q, rfl⟩ : ∃ q, n = q + 1 := ⟨n - 1, by omega⟩
  have t7 : IntKind.i64.wrap (((q + 1 : Nat) : Int) - 1) = (q : Int) := by rw [IntWalk.i64_in _ (by omega)]; omega
  have t5 : (q : Int) < ((q + 1 : Nat) : Int) := by omega
  have t8 : q < q + 1 := by omega
  obtain ⟨bb, off, rfl, hb, x, y, ex, ey, c0, c1⟩ := hr.look (j := q) (by omega)
  have hx := Lib.hid (show x = lst1 zs by rw [lst1, hn]; exact ex.out.symm)
  have hne : w.heap.size ≠ bb := by omega
  clear ex ey hr hn hn1 hm
  generalize hi1 : q + 1 = i at *
  replace hi1 := Lib.hid hi1
  go_enter Try.func76, Try.ntmps76
  go_wp2
  go_ret
  exact ⟨ret_int hx.out, (Ext.refl _).alloc _⟩

set_option maxHeartbeats 1000000 in
theorem implposn_any (a : Option Addr) (n c : Nat) (zs : List (Int × Int)) (t : Int) (w : World) (hr : RowAt w a zs) (hn : zs.length = n) (hn1 : 1 ≤ n) (hm : n ≤ 1048576) :
    Calls Try.prog 74 #[.agg #[.slice a n c], .int .i64 t] w fun e w' => e = .returned (.bool (posn zs t)) ∧ Ext w w' := by
  have e := Lib.hid (show inB t (fst1 zs) (lst1 zs) = posn zs t from rfl)
  go_enter Try.func74, Try.ntmps74
  go_wp2_with fail
  generalize hW : (w.alloc (Obj.cells #[.slice a n c] 38)) = W
  have hE : Ext w W := by rw [← hW]; exact (Ext.refl _).alloc _
  have hlw : w.heap.size < W.heap.size := by rw [← hW]; simp
  have f0 : W.cell? ⟨w.heap.size, 0, none⟩ = some (.slice a n c) := by rw [← hW]; simp [go_sem]
  clear hW
  have hrW := hr.ext hE
  have x0 := Ext.refl W
  go_region_held3 (fun w' => w'.cell? ⟨w.heap.size, 0, none⟩ = some (.slice a n c))
    (refine keep_ext (W := W) ?_ (by assumption) (by assumption) <;> (repeat (first | exact x0 | refine Ext.drew ?_)))
    (first | (go_at_call 79; refine (implfirst_any _ _ _ zs _ (by first | exact hrW.ext x0 | exact hrW.ext x0.drew | exact hrW.ext (x0.drewN _)) hn hn1).mono ?_; rintro e w1 ⟨rfl, x1⟩; (try clear xc xf xs); (first | replace x0 := x0.trans x1 | replace x0 := (x0.alloc _).trans x1 | replace x0 := (x0.drew).trans x1 | replace x0 := (x0.drew.alloc _).trans x1 | replace x0 := (x0.alloc _).drew.trans x1 | replace x0 := ((x0.alloc _).alloc _).trans x1 | have x0 := x1); clear x1; obtain ⟨xc, xf, xs⟩ := x0.cells) | (go_at_call 78; refine (impllast_any _ _ _ zs _ (by first | exact hrW.ext x0 | exact hrW.ext x0.drew | exact hrW.ext (x0.drewN _)) hn hn1 hm).mono ?_; rintro e w1 ⟨rfl, x1⟩; (try clear xc xf xs); (first | replace x0 := x0.trans x1 | replace x0 := (x0.alloc _).trans x1 | replace x0 := (x0.drew).trans x1 | replace x0 := (x0.drew.alloc _).trans x1 | replace x0 := (x0.alloc _).drew.trans x1 | replace x0 := ((x0.alloc _).alloc _).trans x1 | have x0 := x1); clear x1; obtain ⟨xc, xf, xs⟩ := x0.cells) | (go_at_call 55; refine (within_any _ _ _ _).mono ?_; rintro e w1 ⟨rfl, rfl⟩))
  all_goals go_wp2_with fail
  all_goals go_ret
  all_goals exact ⟨ret_bool e.out, hE.trans (by first | exact x0 | exact x0.drew)⟩

set_option maxHeartbeats 1000000 in
theorem specposn_any (a : Option Addr) (n c : Nat) (zs : List (Int × Int)) (t : Int) (w : World) (hr : RowAt w a zs) (hn : zs.length = n) (hn1 : 1 ≤ n) (hm : n ≤ 1048576) :
    Calls Try.prog 72 #[.agg #[.slice a n c], .int .i64 t] w fun e w' => e = .returned (.bool (posn zs t)) ∧ Ext w w' := by
  have e := Lib.hid (show inB t (fst1 zs) (lst1 zs) = posn zs t from rfl)
  go_enter Try.func72, Try.ntmps72
  go_wp2_with fail
  generalize hW : (w.alloc (Obj.cells #[.slice a n c] 38)) = W
  have hE : Ext w W := by rw [← hW]; exact (Ext.refl _).alloc _
  have hlw : w.heap.size < W.heap.size := by rw [← hW]; simp
  have f0 : W.cell? ⟨w.heap.size, 0, none⟩ = some (.slice a n c) := by rw [← hW]; simp [go_sem]
  clear hW
  have hrW := hr.ext hE
  have x0 := Ext.refl W
  go_region_held3 (fun w' => w'.cell? ⟨w.heap.size, 0, none⟩ = some (.slice a n c))
    (refine keep_ext (W := W) ?_ (by assumption) (by assumption) <;> (repeat (first | exact x0 | refine Ext.drew ?_)))
    (first | (go_at_call 77; refine (specfirst_any _ _ _ zs _ (by first | exact hrW.ext x0 | exact hrW.ext x0.drew | exact hrW.ext (x0.drewN _)) hn hn1).mono ?_; rintro e w1 ⟨rfl, x1⟩; (try clear xc xf xs); (first | replace x0 := x0.trans x1 | replace x0 := (x0.alloc _).trans x1 | replace x0 := (x0.drew).trans x1 | replace x0 := (x0.drew.alloc _).trans x1 | replace x0 := (x0.alloc _).drew.trans x1 | replace x0 := ((x0.alloc _).alloc _).trans x1 | have x0 := x1); clear x1; obtain ⟨xc, xf, xs⟩ := x0.cells) | (go_at_call 76; refine (speclast_any _ _ _ zs _ (by first | exact hrW.ext x0 | exact hrW.ext x0.drew | exact hrW.ext (x0.drewN _)) hn hn1 hm).mono ?_; rintro e w1 ⟨rfl, x1⟩; (try clear xc xf xs); (first | replace x0 := x0.trans x1 | replace x0 := (x0.alloc _).trans x1 | replace x0 := (x0.drew).trans x1 | replace x0 := (x0.drew.alloc _).trans x1 | replace x0 := (x0.alloc _).drew.trans x1 | replace x0 := ((x0.alloc _).alloc _).trans x1 | have x0 := x1); clear x1; obtain ⟨xc, xf, xs⟩ := x0.cells) | (go_at_call 54; refine (l00In_any _ _ _ _).mono ?_; rintro e w1 ⟨rfl, rfl⟩))
  all_goals go_wp2_with fail
  all_goals go_ret
  all_goals exact ⟨ret_bool e.out, hE.trans (by first | exact x0 | exact x0.drew)⟩

set_option maxRecDepth 100000 in
set_option maxHeartbeats 4000000 in
theorem implPullAt_any (a : Option Addr) (n c : Nat) (zs : List (Int × Int)) (t : Int) (w : World) (hr : RowAt w a zs) (hn : zs.length = n) (hm : n ≤ 1048576) :
    Calls Try.prog 36 #[.agg #[.slice a n c], .int .i64 t] w fun e w' => e = .returned (.tuple #[.int .i64 (ptR zs t), .int .i64 (ptC zs t)]) ∧ Ext w w' := by
  cases hv0 : vSpr zs
  · have e1 := Lib.hid (show 0 = ptR zs t by simp [ptR, hv0])
    have e2 := Lib.hid (show 1 = ptC zs t by simp [ptC, hv0])
    go_enter Try.func36, Try.ntmps36
    go_wp2_with fail
    generalize hW : (w.alloc (Obj.cells #[.slice a n c] 38)) = W
    have hE : Ext w W := by rw [← hW]; exact (Ext.refl _).alloc _
    have hlw : w.heap.size < W.heap.size := by rw [← hW]; simp
    have f0 : W.cell? ⟨w.heap.size, 0, none⟩ = some (.slice a n c) := by rw [← hW]; simp [go_sem]
    clear hW
    have hrW := hr.ext hE
    have x0 := Ext.refl W
    go_wp2_with (first | (go_at_call 22; refine (implValidSpring_any _ _ _ zs _ (by first | exact hrW.ext x0 | exact hrW.ext x0.drew | exact hrW.ext (x0.drewN _)) hn hm).mono ?_; rintro e w1 ⟨rfl, x1⟩; (try clear xc xf xs); (first | replace x0 := x0.trans x1 | replace x0 := (x0.alloc _).trans x1 | replace x0 := (x0.drew).trans x1 | replace x0 := (x0.drew.alloc _).trans x1 | replace x0 := (x0.alloc _).drew.trans x1 | replace x0 := ((x0.alloc _).alloc _).trans x1 | have x0 := x1); clear x1; obtain ⟨xc, xf, xs⟩ := x0.cells))
    go_ret2
    exact ⟨ret2 e1.out e2.out, hE.trans x0⟩
  · have hn1 : 1 ≤ n := by have := vSpr_n hv0; omega
    have hv := Lib.hid hv0
    cases ht0 : posn zs t
    · have e1 := Lib.hid (show 0 = ptR zs t by simp [ptR, hv0, ht0])
      have e2 := Lib.hid (show 2 = ptC zs t by simp [ptC, hv0, ht0])
      go_enter Try.func36, Try.ntmps36
      go_wp2_with fail
      generalize hW : (w.alloc (Obj.cells #[.slice a n c] 38)) = W
      have hE : Ext w W := by rw [← hW]; exact (Ext.refl _).alloc _
      have hlw : w.heap.size < W.heap.size := by rw [← hW]; simp
      have f0 : W.cell? ⟨w.heap.size, 0, none⟩ = some (.slice a n c) := by rw [← hW]; simp [go_sem]
      clear hW
      have hrW := hr.ext hE
      have x0 := Ext.refl W
      go_wp2_with (first | (go_at_call 22; refine (implValidSpring_any _ _ _ zs _ (by first | exact hrW.ext x0 | exact hrW.ext x0.drew | exact hrW.ext (x0.drewN _)) hn hm).mono ?_; rintro e w1 ⟨rfl, x1⟩; (try clear xc xf xs); (first | replace x0 := x0.trans x1 | replace x0 := (x0.alloc _).trans x1 | replace x0 := (x0.drew).trans x1 | replace x0 := (x0.drew.alloc _).trans x1 | replace x0 := (x0.alloc _).drew.trans x1 | replace x0 := ((x0.alloc _).alloc _).trans x1 | have x0 := x1); clear x1; obtain ⟨xc, xf, xs⟩ := x0.cells) | (go_at_call 74; refine (implposn_any _ _ _ zs _ _ (by first | exact hrW.ext x0 | exact hrW.ext x0.drew | exact hrW.ext (x0.drewN _)) hn hn1 hm).mono ?_; rintro e w1 ⟨rfl, x1⟩; (try clear xc xf xs); (first | replace x0 := x0.trans x1 | replace x0 := (x0.alloc _).trans x1 | replace x0 := (x0.drew).trans x1 | replace x0 := (x0.drew.alloc _).trans x1 | replace x0 := (x0.alloc _).drew.trans x1 | replace x0 := ((x0.alloc _).alloc _).trans x1 | have x0 := x1); clear x1; obtain ⟨xc, xf, xs⟩ := x0.cells))
      go_ret2
      exact ⟨ret2 e1.out e2.out, hE.trans x0⟩
    · have ht := Lib.hid ht0
      have e1 := Lib.hid (show pl zs t = ptR zs t by simp [ptR, hv0, ht0])
      have e2 := Lib.hid (show 0 = ptC zs t by simp [ptC, hv0, ht0])
      go_enter Try.func36, Try.ntmps36
      go_wp2_with fail
      generalize hW : (w.alloc (Obj.cells #[.slice a n c] 38)) = W
      have hE : Ext w W := by rw [← hW]; exact (Ext.refl _).alloc _
      have hlw : w.heap.size < W.heap.size := by rw [← hW]; simp
      have f0 : W.cell? ⟨w.heap.size, 0, none⟩ = some (.slice a n c) := by rw [← hW]; simp [go_sem]
      clear hW
      have hrW := hr.ext hE
      have x0 := Ext.refl W
      go_wp2_with (first | (go_at_call 22; refine (implValidSpring_any _ _ _ zs _ (by first | exact hrW.ext x0 | exact hrW.ext x0.drew | exact hrW.ext (x0.drewN _)) hn hm).mono ?_; rintro e w1 ⟨rfl, x1⟩; (try clear xc xf xs); (first | replace x0 := x0.trans x1 | replace x0 := (x0.alloc _).trans x1 | replace x0 := (x0.drew).trans x1 | replace x0 := (x0.drew.alloc _).trans x1 | replace x0 := (x0.alloc _).drew.trans x1 | replace x0 := ((x0.alloc _).alloc _).trans x1 | have x0 := x1); clear x1; obtain ⟨xc, xf, xs⟩ := x0.cells) | (go_at_call 74; refine (implposn_any _ _ _ zs _ _ (by first | exact hrW.ext x0 | exact hrW.ext x0.drew | exact hrW.ext (x0.drewN _)) hn hn1 hm).mono ?_; rintro e w1 ⟨rfl, x1⟩; (try clear xc xf xs); (first | replace x0 := x0.trans x1 | replace x0 := (x0.alloc _).trans x1 | replace x0 := (x0.drew).trans x1 | replace x0 := (x0.drew.alloc _).trans x1 | replace x0 := (x0.alloc _).drew.trans x1 | replace x0 := ((x0.alloc _).alloc _).trans x1 | have x0 := x1); clear x1; obtain ⟨xc, xf, xs⟩ := x0.cells) | (go_at_call 75; refine (implpullAt_any _ _ _ zs _ _ (by first | exact hrW.ext x0 | exact hrW.ext x0.drew | exact hrW.ext (x0.drewN _)) hn hv.out ht.out).mono ?_; rintro e w1 ⟨rfl, x1⟩; (try clear xc xf xs); (first | replace x0 := x0.trans x1 | replace x0 := (x0.alloc _).trans x1 | replace x0 := (x0.drew).trans x1 | replace x0 := (x0.drew.alloc _).trans x1 | replace x0 := (x0.alloc _).drew.trans x1 | replace x0 := ((x0.alloc _).alloc _).trans x1 | have x0 := x1); clear x1; obtain ⟨xc, xf, xs⟩ := x0.cells))
      go_ret2
      exact ⟨ret2 e1.out e2.out, hE.trans x0⟩

set_option maxRecDepth 100000 in
set_option maxHeartbeats 4000000 in
theorem specPullAt_any (a : Option Addr) (n c : Nat) (zs : List (Int × Int)) (t : Int) (w : World) (hr : RowAt w a zs) (hn : zs.length = n) (hm : n ≤ 1048576) :
    Calls Try.prog 35 #[.agg #[.slice a n c], .int .i64 t] w fun e w' => e = .returned (.tuple #[.int .i64 (ptR zs t), .int .i64 (ptC zs t)]) ∧ Ext w w' := by
  cases hv0 : vSpr zs
  · have e1 := Lib.hid (show 0 = ptR zs t by simp [ptR, hv0])
    have e2 := Lib.hid (show 1 = ptC zs t by simp [ptC, hv0])
    go_enter Try.func35, Try.ntmps35
    go_wp2_with fail
    generalize hW : (w.alloc (Obj.cells #[.slice a n c] 38)) = W
    have hE : Ext w W := by rw [← hW]; exact (Ext.refl _).alloc _
    have hlw : w.heap.size < W.heap.size := by rw [← hW]; simp
    have f0 : W.cell? ⟨w.heap.size, 0, none⟩ = some (.slice a n c) := by rw [← hW]; simp [go_sem]
    clear hW
    have hrW := hr.ext hE
    have x0 := Ext.refl W
    go_wp2_with (first | (go_at_call 60; refine (l13Ok_any _ _ _ zs _ (by first | exact hrW.ext x0 | exact hrW.ext x0.drew | exact hrW.ext (x0.drewN _)) hn hm).mono ?_; rintro e w1 ⟨rfl, x1⟩; (try clear xc xf xs); (first | replace x0 := x0.trans x1 | replace x0 := (x0.alloc _).trans x1 | replace x0 := (x0.drew).trans x1 | replace x0 := (x0.drew.alloc _).trans x1 | replace x0 := (x0.alloc _).drew.trans x1 | replace x0 := ((x0.alloc _).alloc _).trans x1 | have x0 := x1); clear x1; obtain ⟨xc, xf, xs⟩ := x0.cells))
    go_ret2
    exact ⟨ret2 e1.out e2.out, hE.trans x0⟩
  · have hn1 : 1 ≤ n := by have := vSpr_n hv0; omega
    have hv := Lib.hid hv0
    cases ht0 : posn zs t
    · have e1 := Lib.hid (show 0 = ptR zs t by simp [ptR, hv0, ht0])
      have e2 := Lib.hid (show 2 = ptC zs t by simp [ptC, hv0, ht0])
      go_enter Try.func35, Try.ntmps35
      go_wp2_with fail
      generalize hW : (w.alloc (Obj.cells #[.slice a n c] 38)) = W
      have hE : Ext w W := by rw [← hW]; exact (Ext.refl _).alloc _
      have hlw : w.heap.size < W.heap.size := by rw [← hW]; simp
      have f0 : W.cell? ⟨w.heap.size, 0, none⟩ = some (.slice a n c) := by rw [← hW]; simp [go_sem]
      clear hW
      have hrW := hr.ext hE
      have x0 := Ext.refl W
      go_wp2_with (first | (go_at_call 60; refine (l13Ok_any _ _ _ zs _ (by first | exact hrW.ext x0 | exact hrW.ext x0.drew | exact hrW.ext (x0.drewN _)) hn hm).mono ?_; rintro e w1 ⟨rfl, x1⟩; (try clear xc xf xs); (first | replace x0 := x0.trans x1 | replace x0 := (x0.alloc _).trans x1 | replace x0 := (x0.drew).trans x1 | replace x0 := (x0.drew.alloc _).trans x1 | replace x0 := (x0.alloc _).drew.trans x1 | replace x0 := ((x0.alloc _).alloc _).trans x1 | have x0 := x1); clear x1; obtain ⟨xc, xf, xs⟩ := x0.cells) | (go_at_call 72; refine (specposn_any _ _ _ zs _ _ (by first | exact hrW.ext x0 | exact hrW.ext x0.drew | exact hrW.ext (x0.drewN _)) hn hn1 hm).mono ?_; rintro e w1 ⟨rfl, x1⟩; (try clear xc xf xs); (first | replace x0 := x0.trans x1 | replace x0 := (x0.alloc _).trans x1 | replace x0 := (x0.drew).trans x1 | replace x0 := (x0.drew.alloc _).trans x1 | replace x0 := (x0.alloc _).drew.trans x1 | replace x0 := ((x0.alloc _).alloc _).trans x1 | have x0 := x1); clear x1; obtain ⟨xc, xf, xs⟩ := x0.cells))
      go_ret2
      exact ⟨ret2 e1.out e2.out, hE.trans x0⟩
    · have ht := Lib.hid ht0
      have e1 := Lib.hid (show pl zs t = ptR zs t by simp [ptR, hv0, ht0])
      have e2 := Lib.hid (show 0 = ptC zs t by simp [ptC, hv0, ht0])
      go_enter Try.func35, Try.ntmps35
      go_wp2_with fail
      generalize hW : (w.alloc (Obj.cells #[.slice a n c] 38)) = W
      have hE : Ext w W := by rw [← hW]; exact (Ext.refl _).alloc _
      have hlw : w.heap.size < W.heap.size := by rw [← hW]; simp
      have f0 : W.cell? ⟨w.heap.size, 0, none⟩ = some (.slice a n c) := by rw [← hW]; simp [go_sem]
      clear hW
      have hrW := hr.ext hE
      have x0 := Ext.refl W
      go_wp2_with (first | (go_at_call 60; refine (l13Ok_any _ _ _ zs _ (by first | exact hrW.ext x0 | exact hrW.ext x0.drew | exact hrW.ext (x0.drewN _)) hn hm).mono ?_; rintro e w1 ⟨rfl, x1⟩; (try clear xc xf xs); (first | replace x0 := x0.trans x1 | replace x0 := (x0.alloc _).trans x1 | replace x0 := (x0.drew).trans x1 | replace x0 := (x0.drew.alloc _).trans x1 | replace x0 := (x0.alloc _).drew.trans x1 | replace x0 := ((x0.alloc _).alloc _).trans x1 | have x0 := x1); clear x1; obtain ⟨xc, xf, xs⟩ := x0.cells) | (go_at_call 72; refine (specposn_any _ _ _ zs _ _ (by first | exact hrW.ext x0 | exact hrW.ext x0.drew | exact hrW.ext (x0.drewN _)) hn hn1 hm).mono ?_; rintro e w1 ⟨rfl, x1⟩; (try clear xc xf xs); (first | replace x0 := x0.trans x1 | replace x0 := (x0.alloc _).trans x1 | replace x0 := (x0.drew).trans x1 | replace x0 := (x0.drew.alloc _).trans x1 | replace x0 := (x0.alloc _).drew.trans x1 | replace x0 := ((x0.alloc _).alloc _).trans x1 | have x0 := x1); clear x1; obtain ⟨xc, xf, xs⟩ := x0.cells) | (go_at_call 73; refine (specpullAt_any _ _ _ zs _ _ (by first | exact hrW.ext x0 | exact hrW.ext x0.drew | exact hrW.ext (x0.drewN _)) hn hv.out ht.out).mono ?_; rintro e w1 ⟨rfl, x1⟩; (try clear xc xf xs); (first | replace x0 := x0.trans x1 | replace x0 := (x0.alloc _).trans x1 | replace x0 := (x0.drew).trans x1 | replace x0 := (x0.drew.alloc _).trans x1 | replace x0 := (x0.alloc _).drew.trans x1 | replace x0 := ((x0.alloc _).alloc _).trans x1 | have x0 := x1); clear x1; obtain ⟨xc, xf, xs⟩ := x0.cells))
      go_ret2
      exact ⟨ret2 e1.out e2.out, hE.trans x0⟩

set_option maxRecDepth 100000 in
set_option maxHeartbeats 8000000 in
theorem implEnergyBetween_any (a : Option Addr) (n c : Nat) (zs : List (Int × Int)) (f t : Int) (w : World) (hr : RowAt w a zs) (hn : zs.length = n) (hm : n ≤ 1048576) :
    Calls Try.prog 38 #[.agg #[.slice a n c], .int .i64 f, .int .i64 t] w fun e w' => e = .returned (.tuple #[.int .i64 (ebR zs f t), .int .i64 (ebCd zs f t)]) ∧ Ext w w' := by
  cases hv0 : vSpr zs
  · have e2 := Lib.hid (show 1 = ebCd zs f t by simp [ebCd, hv0])
    have e1 := Lib.hid (show 0 = ebR zs f t by rw [ebR, ← e2.out]; rfl)
    go_enter Try.func38, Try.ntmps38
    go_wp2_with fail
    generalize hW : (w.alloc (Obj.cells #[.slice a n c] 38)) = W
    have hE : Ext w W := by rw [← hW]; exact (Ext.refl _).alloc _
    have hlw : w.heap.size < W.heap.size := by rw [← hW]; simp
    have f0 : W.cell? ⟨w.heap.size, 0, none⟩ = some (.slice a n c) := by rw [← hW]; simp [go_sem]
    clear hW
    have hrW := hr.ext hE
    have x0 := Ext.refl W
    go_wp2_with (first | (go_at_call 22; refine (implValidSpring_any _ _ _ zs _ (by first | exact hrW.ext x0 | exact hrW.ext x0.drew | exact hrW.ext (x0.drewN _)) hn hm).mono ?_; rintro e w1 ⟨rfl, x1⟩; (try clear xc xf xs); (first | replace x0 := x0.trans x1 | replace x0 := (x0.alloc _).trans x1 | replace x0 := (x0.drew).trans x1 | replace x0 := (x0.drew.alloc _).trans x1 | replace x0 := (x0.alloc _).drew.trans x1 | replace x0 := ((x0.alloc _).alloc _).trans x1 | have x0 := x1); clear x1; obtain ⟨xc, xf, xs⟩ := x0.cells))
    go_ret2
    exact ⟨ret2 e1.out e2.out, hE.trans x0⟩
  have hn1 : 1 ≤ n := by have := vSpr_n hv0; omega
  have hv := Lib.hid hv0
  cases h1 : posn zs f
  · have e2 := Lib.hid (show 2 = ebCd zs f t by simp [ebCd, hv0, h1])
    have e1 := Lib.hid (show 0 = ebR zs f t by rw [ebR, ← e2.out]; rfl)
    go_enter Try.func38, Try.ntmps38
    go_wp2_with fail
    generalize hW : (w.alloc (Obj.cells #[.slice a n c] 38)) = W
    have hE : Ext w W := by rw [← hW]; exact (Ext.refl _).alloc _
    have hlw : w.heap.size < W.heap.size := by rw [← hW]; simp
    have f0 : W.cell? ⟨w.heap.size, 0, none⟩ = some (.slice a n c) := by rw [← hW]; simp [go_sem]
    clear hW
    have hrW := hr.ext hE
    have x0 := Ext.refl W
    go_wp2_with (first | (go_at_call 22; refine (implValidSpring_any _ _ _ zs _ (by first | exact hrW.ext x0 | exact hrW.ext x0.drew | exact hrW.ext (x0.drewN _)) hn hm).mono ?_; rintro e w1 ⟨rfl, x1⟩; (try clear xc xf xs); (first | replace x0 := x0.trans x1 | replace x0 := (x0.alloc _).trans x1 | replace x0 := (x0.drew).trans x1 | replace x0 := (x0.drew.alloc _).trans x1 | replace x0 := (x0.alloc _).drew.trans x1 | replace x0 := ((x0.alloc _).alloc _).trans x1 | have x0 := x1); clear x1; obtain ⟨xc, xf, xs⟩ := x0.cells) | (go_at_call 74; refine (implposn_any _ _ _ zs _ _ (by first | exact hrW.ext x0 | exact hrW.ext x0.drew | exact hrW.ext (x0.drewN _)) hn hn1 hm).mono ?_; rintro e w1 ⟨rfl, x1⟩; (try clear xc xf xs); (first | replace x0 := x0.trans x1 | replace x0 := (x0.alloc _).trans x1 | replace x0 := (x0.drew).trans x1 | replace x0 := (x0.drew.alloc _).trans x1 | replace x0 := (x0.alloc _).drew.trans x1 | replace x0 := ((x0.alloc _).alloc _).trans x1 | have x0 := x1); clear x1; obtain ⟨xc, xf, xs⟩ := x0.cells))
    go_ret2
    exact ⟨ret2 e1.out e2.out, hE.trans x0⟩
  cases h2 : posn zs t
  · have e2 := Lib.hid (show 2 = ebCd zs f t by simp [ebCd, hv0, h1, h2])
    have e1 := Lib.hid (show 0 = ebR zs f t by rw [ebR, ← e2.out]; rfl)
    go_enter Try.func38, Try.ntmps38
    go_wp2_with fail
    generalize hW : (w.alloc (Obj.cells #[.slice a n c] 38)) = W
    have hE : Ext w W := by rw [← hW]; exact (Ext.refl _).alloc _
    have hlw : w.heap.size < W.heap.size := by rw [← hW]; simp
    have f0 : W.cell? ⟨w.heap.size, 0, none⟩ = some (.slice a n c) := by rw [← hW]; simp [go_sem]
    clear hW
    have hrW := hr.ext hE
    have x0 := Ext.refl W
    go_wp2_with (first | (go_at_call 22; refine (implValidSpring_any _ _ _ zs _ (by first | exact hrW.ext x0 | exact hrW.ext x0.drew | exact hrW.ext (x0.drewN _)) hn hm).mono ?_; rintro e w1 ⟨rfl, x1⟩; (try clear xc xf xs); (first | replace x0 := x0.trans x1 | replace x0 := (x0.alloc _).trans x1 | replace x0 := (x0.drew).trans x1 | replace x0 := (x0.drew.alloc _).trans x1 | replace x0 := (x0.alloc _).drew.trans x1 | replace x0 := ((x0.alloc _).alloc _).trans x1 | have x0 := x1); clear x1; obtain ⟨xc, xf, xs⟩ := x0.cells) | (go_at_call 74; refine (implposn_any _ _ _ zs _ _ (by first | exact hrW.ext x0 | exact hrW.ext x0.drew | exact hrW.ext (x0.drewN _)) hn hn1 hm).mono ?_; rintro e w1 ⟨rfl, x1⟩; (try clear xc xf xs); (first | replace x0 := x0.trans x1 | replace x0 := (x0.alloc _).trans x1 | replace x0 := (x0.drew).trans x1 | replace x0 := (x0.drew.alloc _).trans x1 | replace x0 := (x0.alloc _).drew.trans x1 | replace x0 := ((x0.alloc _).alloc _).trans x1 | have x0 := x1); clear x1; obtain ⟨xc, xf, xs⟩ := x0.cells))
    go_ret2
    exact ⟨ret2 e1.out e2.out, hE.trans x0⟩
  by_cases h3 : t < f
  · have h4 : ¬ f ≤ t := by omega
    have e2 := Lib.hid (show 2 = ebCd zs f t by simp [ebCd, hv0, h1, h2, h4])
    have e1 := Lib.hid (show 0 = ebR zs f t by rw [ebR, ← e2.out]; rfl)
    clear h4
    go_enter Try.func38, Try.ntmps38
    go_wp2_with fail
    generalize hW : (w.alloc (Obj.cells #[.slice a n c] 38)) = W
    have hE : Ext w W := by rw [← hW]; exact (Ext.refl _).alloc _
    have hlw : w.heap.size < W.heap.size := by rw [← hW]; simp
    have f0 : W.cell? ⟨w.heap.size, 0, none⟩ = some (.slice a n c) := by rw [← hW]; simp [go_sem]
    clear hW
    have hrW := hr.ext hE
    have x0 := Ext.refl W
    go_wp2_with (first | (go_at_call 22; refine (implValidSpring_any _ _ _ zs _ (by first | exact hrW.ext x0 | exact hrW.ext x0.drew | exact hrW.ext (x0.drewN _)) hn hm).mono ?_; rintro e w1 ⟨rfl, x1⟩; (try clear xc xf xs); (first | replace x0 := x0.trans x1 | replace x0 := (x0.alloc _).trans x1 | replace x0 := (x0.drew).trans x1 | replace x0 := (x0.drew.alloc _).trans x1 | replace x0 := (x0.alloc _).drew.trans x1 | replace x0 := ((x0.alloc _).alloc _).trans x1 | have x0 := x1); clear x1; obtain ⟨xc, xf, xs⟩ := x0.cells) | (go_at_call 74; refine (implposn_any _ _ _ zs _ _ (by first | exact hrW.ext x0 | exact hrW.ext x0.drew | exact hrW.ext (x0.drewN _)) hn hn1 hm).mono ?_; rintro e w1 ⟨rfl, x1⟩; (try clear xc xf xs); (first | replace x0 := x0.trans x1 | replace x0 := (x0.alloc _).trans x1 | replace x0 := (x0.drew).trans x1 | replace x0 := (x0.drew.alloc _).trans x1 | replace x0 := (x0.alloc _).drew.trans x1 | replace x0 := ((x0.alloc _).alloc _).trans x1 | have x0 := x1); clear x1; obtain ⟨xc, xf, xs⟩ := x0.cells))
    go_ret2
    exact ⟨ret2 e1.out e2.out, hE.trans x0⟩
  have e2 := Lib.hid (show 0 = ebCd zs f t by simp [ebCd, hv0, h1, h2, show f ≤ t by omega])
  have e1 := Lib.hid (show ebS zs f (t - f).toNat = ebR zs f t by rw [ebR, if_pos e2.out.symm])
  have hfb := posn_bd hv0 h1
  have htb := posn_bd hv0 h2
  have hv0' := Lib.hid hv0
  have h1' := Lib.hid h1
  have h2' := Lib.hid h2
  go_enter Try.func38, Try.ntmps38
  go_wp2_with fail
  generalize hW : (w.alloc (Obj.cells #[.slice a n c] 38)) = W
  have hE : Ext w W := by rw [← hW]; exact (Ext.refl _).alloc _
  have hlw : w.heap.size < W.heap.size := by rw [← hW]; simp
  have f0 : W.cell? ⟨w.heap.size, 0, none⟩ = some (.slice a n c) := by rw [← hW]; simp [go_sem]
  clear hW
  have hrW := hr.ext hE
  have x0 := Ext.refl W
  go_wp2_with (first | (go_at_call 22; refine (implValidSpring_any _ _ _ zs _ (by first | exact hrW.ext x0 | exact hrW.ext x0.drew | exact hrW.ext (x0.drewN _)) hn hm).mono ?_; rintro e w1 ⟨rfl, x1⟩; (try clear xc xf xs); (first | replace x0 := x0.trans x1 | replace x0 := (x0.alloc _).trans x1 | replace x0 := (x0.drew).trans x1 | replace x0 := (x0.drew.alloc _).trans x1 | replace x0 := (x0.alloc _).drew.trans x1 | replace x0 := ((x0.alloc _).alloc _).trans x1 | have x0 := x1); clear x1; obtain ⟨xc, xf, xs⟩ := x0.cells) | (go_at_call 74; refine (implposn_any _ _ _ zs _ _ (by first | exact hrW.ext x0 | exact hrW.ext x0.drew | exact hrW.ext (x0.drewN _)) hn hn1 hm).mono ?_; rintro e w1 ⟨rfl, x1⟩; (try clear xc xf xs); (first | replace x0 := x0.trans x1 | replace x0 := (x0.alloc _).trans x1 | replace x0 := (x0.drew).trans x1 | replace x0 := (x0.drew.alloc _).trans x1 | replace x0 := (x0.alloc _).drew.trans x1 | replace x0 := ((x0.alloc _).alloc _).trans x1 | have x0 := x1); clear x1; obtain ⟨xc, xf, xs⟩ := x0.cells))
  go_loopw [8, 9] (fun ss tt wr => ∃ d : Nat, ss = .int .i64 (ebS zs f d) ∧ tt = .int .i64 (f + d) ∧ f + d ≤ t ∧ Ext W wr) (fun _ tt _ => (t - intOf tt).toNat)
  case atStart => exact ⟨0, rfl, by simp, by omega, x0⟩
  case round =>
    clear x0 h1 h2 hv0; (try clear xc xf xs)
    obtain ⟨d, rfl, rfl, hd, x1⟩ := hrel
    have g0 := (x1.cells.1 _ _ hlw).trans f0
    have hl1 := Nat.lt_of_lt_of_le hlw x1.size
    have hXW := x1
    replace hE := hE.trans x1
    replace hrW := hrW.ext x1
    have x0 := Ext.refl wr
    by_cases hlt : f + d < t
    · have p1 := Lib.hid (posn_mid h1'.out h2'.out (x := f + d) (by omega) (by omega))
      have p2 := Lib.hid (posn_mid h1'.out h2'.out (x := f + d + 1) (by omega) (by omega))
      have b1 := pl_bd hv.out p1.out
      have b2 := pl_bd hv.out p2.out
      have b3 := ebS_bd hv.out h1'.out h2'.out d (by omega)
      have hs := Lib.hid (show ebS zs f (d + 1) = ebS zs f d + (pl zs (f + d) + pl zs (f + d + 1)) from rfl)
      have hfd : f + ((d + 1 : Nat) : Int) = f + d + 1 := by omega
      have hx0 : 0 ≤ f + (d : Int) ∧ f + (d : Int) ≤ 2000 := by omega
      have hd2 : d ≤ 2000 := by omega
      generalize hS : ebS zs f d = S at *
      generalize hA : pl zs (f + d) = A at *
      generalize hB : pl zs (f + d + 1) = B at *
      generalize hx : f + (d : Int) = x at *
      replace hS := Lib.hid hS; replace hA := Lib.hid hA; replace hB := Lib.hid hB; replace hx := Lib.hid hx; replace hfd := Lib.hid hfd
      have q1 : IntKind.i64.wrap (x + 1) = x + 1 := IntWalk.i64_in _ (by omega)
      have q2 : IntKind.i64.wrap (A + B) = A + B := IntWalk.i64_in _ (by omega)
      have q3 : IntKind.i64.wrap (S + (A + B)) = S + (A + B) := IntWalk.i64_in _ (by omega)
      have hdx := hx.out
      go_upto_region 9 with fail
      go_region_held3 (fun w' => w'.cell? ⟨w.heap.size, 0, none⟩ = some (.slice a n c))
        (refine keep_ext (W := wr) ?_ (by assumption) (by assumption) <;> (repeat (first | exact x0 | refine Ext.drew ?_)))
        (first | (go_at_call 75; refine (implpullAt_any _ _ _ zs _ _ (by first | exact hrW.ext x0 | exact hrW.ext x0.drew | exact hrW.ext (x0.drewN _)) hn hv.out (by first | exact p1.out | exact p2.out)).mono ?_; rintro e w1 ⟨rfl, x1⟩; (first | rw [hA.out] | rw [hB.out]); (try clear xc xf xs); (first | replace x0 := x0.trans x1 | replace x0 := (x0.alloc _).trans x1 | replace x0 := (x0.drew).trans x1 | replace x0 := (x0.drew.alloc _).trans x1 | replace x0 := (x0.alloc _).drew.trans x1 | replace x0 := ((x0.alloc _).alloc _).trans x1 | have x0 := x1); clear x1; obtain ⟨xc, xf, xs⟩ := x0.cells))
      all_goals go_wp2_with fail
      all_goals go_roundw
      all_goals first | (case rel => exact ⟨d + 1, by rw [hs.out], by rw [hfd.out], by rw [hfd.out]; omega, hXW.trans (by first | exact x0 | exact x0.drew)⟩) | (case measure => simp [intOf]; omega) | skip
    · have hde : (t - f).toNat = d := by omega
      rw [hde] at e1
      clear hde
      go_wp2_with fail
      go_ret2
      exact ⟨ret2 e1.out e2.out, hE.trans x0⟩

set_option maxRecDepth 100000 in
set_option maxHeartbeats 8000000 in
theorem specEnergyBetween_any (a : Option Addr) (n c : Nat) (zs : List (Int × Int)) (f t : Int) (w : World) (hr : RowAt w a zs) (hn : zs.length = n) (hm : n ≤ 1048576) :
    Calls Try.prog 37 #[.agg #[.slice a n c], .int .i64 f, .int .i64 t] w fun e w' => e = .returned (.tuple #[.int .i64 (ebR zs f t), .int .i64 (ebCd zs f t)]) ∧ Ext w w' := by
  cases hv0 : vSpr zs
  · have e2 := Lib.hid (show 1 = ebCd zs f t by simp [ebCd, hv0])
    have e1 := Lib.hid (show 0 = ebR zs f t by rw [ebR, ← e2.out]; rfl)
    go_enter Try.func37, Try.ntmps37
    go_wp2_with fail
    generalize hW : (w.alloc (Obj.cells #[.slice a n c] 38)) = W
    have hE : Ext w W := by rw [← hW]; exact (Ext.refl _).alloc _
    have hlw : w.heap.size < W.heap.size := by rw [← hW]; simp
    have f0 : W.cell? ⟨w.heap.size, 0, none⟩ = some (.slice a n c) := by rw [← hW]; simp [go_sem]
    clear hW
    have hrW := hr.ext hE
    have x0 := Ext.refl W
    go_wp2_with (first | (go_at_call 60; refine (l13Ok_any _ _ _ zs _ (by first | exact hrW.ext x0 | exact hrW.ext x0.drew | exact hrW.ext (x0.drewN _)) hn hm).mono ?_; rintro e w1 ⟨rfl, x1⟩; (try clear xc xf xs); (first | replace x0 := x0.trans x1 | replace x0 := (x0.alloc _).trans x1 | replace x0 := (x0.drew).trans x1 | replace x0 := (x0.drew.alloc _).trans x1 | replace x0 := (x0.alloc _).drew.trans x1 | replace x0 := ((x0.alloc _).alloc _).trans x1 | have x0 := x1); clear x1; obtain ⟨xc, xf, xs⟩ := x0.cells))
    go_ret2
    exact ⟨ret2 e1.out e2.out, hE.trans x0⟩
  have hn1 : 1 ≤ n := by have := vSpr_n hv0; omega
  have hv := Lib.hid hv0
  cases h1 : posn zs f
  · have e2 := Lib.hid (show 2 = ebCd zs f t by simp [ebCd, hv0, h1])
    have e1 := Lib.hid (show 0 = ebR zs f t by rw [ebR, ← e2.out]; rfl)
    go_enter Try.func37, Try.ntmps37
    go_wp2_with fail
    generalize hW : (w.alloc (Obj.cells #[.slice a n c] 38)) = W
    have hE : Ext w W := by rw [← hW]; exact (Ext.refl _).alloc _
    have hlw : w.heap.size < W.heap.size := by rw [← hW]; simp
    have f0 : W.cell? ⟨w.heap.size, 0, none⟩ = some (.slice a n c) := by rw [← hW]; simp [go_sem]
    clear hW
    have hrW := hr.ext hE
    have x0 := Ext.refl W
    go_wp2_with (first | (go_at_call 60; refine (l13Ok_any _ _ _ zs _ (by first | exact hrW.ext x0 | exact hrW.ext x0.drew | exact hrW.ext (x0.drewN _)) hn hm).mono ?_; rintro e w1 ⟨rfl, x1⟩; (try clear xc xf xs); (first | replace x0 := x0.trans x1 | replace x0 := (x0.alloc _).trans x1 | replace x0 := (x0.drew).trans x1 | replace x0 := (x0.drew.alloc _).trans x1 | replace x0 := (x0.alloc _).drew.trans x1 | replace x0 := ((x0.alloc _).alloc _).trans x1 | have x0 := x1); clear x1; obtain ⟨xc, xf, xs⟩ := x0.cells) | (go_at_call 72; refine (specposn_any _ _ _ zs _ _ (by first | exact hrW.ext x0 | exact hrW.ext x0.drew | exact hrW.ext (x0.drewN _)) hn hn1 hm).mono ?_; rintro e w1 ⟨rfl, x1⟩; (try clear xc xf xs); (first | replace x0 := x0.trans x1 | replace x0 := (x0.alloc _).trans x1 | replace x0 := (x0.drew).trans x1 | replace x0 := (x0.drew.alloc _).trans x1 | replace x0 := (x0.alloc _).drew.trans x1 | replace x0 := ((x0.alloc _).alloc _).trans x1 | have x0 := x1); clear x1; obtain ⟨xc, xf, xs⟩ := x0.cells))
    go_ret2
    exact ⟨ret2 e1.out e2.out, hE.trans x0⟩
  cases h2 : posn zs t
  · have e2 := Lib.hid (show 2 = ebCd zs f t by simp [ebCd, hv0, h1, h2])
    have e1 := Lib.hid (show 0 = ebR zs f t by rw [ebR, ← e2.out]; rfl)
    go_enter Try.func37, Try.ntmps37
    go_wp2_with fail
    generalize hW : (w.alloc (Obj.cells #[.slice a n c] 38)) = W
    have hE : Ext w W := by rw [← hW]; exact (Ext.refl _).alloc _
    have hlw : w.heap.size < W.heap.size := by rw [← hW]; simp
    have f0 : W.cell? ⟨w.heap.size, 0, none⟩ = some (.slice a n c) := by rw [← hW]; simp [go_sem]
    clear hW
    have hrW := hr.ext hE
    have x0 := Ext.refl W
    go_wp2_with (first | (go_at_call 60; refine (l13Ok_any _ _ _ zs _ (by first | exact hrW.ext x0 | exact hrW.ext x0.drew | exact hrW.ext (x0.drewN _)) hn hm).mono ?_; rintro e w1 ⟨rfl, x1⟩; (try clear xc xf xs); (first | replace x0 := x0.trans x1 | replace x0 := (x0.alloc _).trans x1 | replace x0 := (x0.drew).trans x1 | replace x0 := (x0.drew.alloc _).trans x1 | replace x0 := (x0.alloc _).drew.trans x1 | replace x0 := ((x0.alloc _).alloc _).trans x1 | have x0 := x1); clear x1; obtain ⟨xc, xf, xs⟩ := x0.cells) | (go_at_call 72; refine (specposn_any _ _ _ zs _ _ (by first | exact hrW.ext x0 | exact hrW.ext x0.drew | exact hrW.ext (x0.drewN _)) hn hn1 hm).mono ?_; rintro e w1 ⟨rfl, x1⟩; (try clear xc xf xs); (first | replace x0 := x0.trans x1 | replace x0 := (x0.alloc _).trans x1 | replace x0 := (x0.drew).trans x1 | replace x0 := (x0.drew.alloc _).trans x1 | replace x0 := (x0.alloc _).drew.trans x1 | replace x0 := ((x0.alloc _).alloc _).trans x1 | have x0 := x1); clear x1; obtain ⟨xc, xf, xs⟩ := x0.cells))
    go_ret2
    exact ⟨ret2 e1.out e2.out, hE.trans x0⟩
  by_cases h3 : t < f
  · have h4 : ¬ f ≤ t := by omega
    have e2 := Lib.hid (show 2 = ebCd zs f t by simp [ebCd, hv0, h1, h2, h4])
    have e1 := Lib.hid (show 0 = ebR zs f t by rw [ebR, ← e2.out]; rfl)
    clear h4
    go_enter Try.func37, Try.ntmps37
    go_wp2_with fail
    generalize hW : (w.alloc (Obj.cells #[.slice a n c] 38)) = W
    have hE : Ext w W := by rw [← hW]; exact (Ext.refl _).alloc _
    have hlw : w.heap.size < W.heap.size := by rw [← hW]; simp
    have f0 : W.cell? ⟨w.heap.size, 0, none⟩ = some (.slice a n c) := by rw [← hW]; simp [go_sem]
    clear hW
    have hrW := hr.ext hE
    have x0 := Ext.refl W
    go_wp2_with (first | (go_at_call 60; refine (l13Ok_any _ _ _ zs _ (by first | exact hrW.ext x0 | exact hrW.ext x0.drew | exact hrW.ext (x0.drewN _)) hn hm).mono ?_; rintro e w1 ⟨rfl, x1⟩; (try clear xc xf xs); (first | replace x0 := x0.trans x1 | replace x0 := (x0.alloc _).trans x1 | replace x0 := (x0.drew).trans x1 | replace x0 := (x0.drew.alloc _).trans x1 | replace x0 := (x0.alloc _).drew.trans x1 | replace x0 := ((x0.alloc _).alloc _).trans x1 | have x0 := x1); clear x1; obtain ⟨xc, xf, xs⟩ := x0.cells) | (go_at_call 72; refine (specposn_any _ _ _ zs _ _ (by first | exact hrW.ext x0 | exact hrW.ext x0.drew | exact hrW.ext (x0.drewN _)) hn hn1 hm).mono ?_; rintro e w1 ⟨rfl, x1⟩; (try clear xc xf xs); (first | replace x0 := x0.trans x1 | replace x0 := (x0.alloc _).trans x1 | replace x0 := (x0.drew).trans x1 | replace x0 := (x0.drew.alloc _).trans x1 | replace x0 := (x0.alloc _).drew.trans x1 | replace x0 := ((x0.alloc _).alloc _).trans x1 | have x0 := x1); clear x1; obtain ⟨xc, xf, xs⟩ := x0.cells))
    go_ret2
    exact ⟨ret2 e1.out e2.out, hE.trans x0⟩
  have e2 := Lib.hid (show 0 = ebCd zs f t by simp [ebCd, hv0, h1, h2, show f ≤ t by omega])
  have e1 := Lib.hid (show ebS zs f (t - f).toNat = ebR zs f t by rw [ebR, if_pos e2.out.symm])
  have hfb := posn_bd hv0 h1
  have htb := posn_bd hv0 h2
  have hv0' := Lib.hid hv0
  have h1' := Lib.hid h1
  have h2' := Lib.hid h2
  go_enter Try.func37, Try.ntmps37
  go_wp2_with fail
  generalize hW : (w.alloc (Obj.cells #[.slice a n c] 38)) = W
  have hE : Ext w W := by rw [← hW]; exact (Ext.refl _).alloc _
  have hlw : w.heap.size < W.heap.size := by rw [← hW]; simp
  have f0 : W.cell? ⟨w.heap.size, 0, none⟩ = some (.slice a n c) := by rw [← hW]; simp [go_sem]
  clear hW
  have hrW := hr.ext hE
  have x0 := Ext.refl W
  go_wp2_with (first | (go_at_call 60; refine (l13Ok_any _ _ _ zs _ (by first | exact hrW.ext x0 | exact hrW.ext x0.drew | exact hrW.ext (x0.drewN _)) hn hm).mono ?_; rintro e w1 ⟨rfl, x1⟩; (try clear xc xf xs); (first | replace x0 := x0.trans x1 | replace x0 := (x0.alloc _).trans x1 | replace x0 := (x0.drew).trans x1 | replace x0 := (x0.drew.alloc _).trans x1 | replace x0 := (x0.alloc _).drew.trans x1 | replace x0 := ((x0.alloc _).alloc _).trans x1 | have x0 := x1); clear x1; obtain ⟨xc, xf, xs⟩ := x0.cells) | (go_at_call 72; refine (specposn_any _ _ _ zs _ _ (by first | exact hrW.ext x0 | exact hrW.ext x0.drew | exact hrW.ext (x0.drewN _)) hn hn1 hm).mono ?_; rintro e w1 ⟨rfl, x1⟩; (try clear xc xf xs); (first | replace x0 := x0.trans x1 | replace x0 := (x0.alloc _).trans x1 | replace x0 := (x0.drew).trans x1 | replace x0 := (x0.drew.alloc _).trans x1 | replace x0 := (x0.alloc _).drew.trans x1 | replace x0 := ((x0.alloc _).alloc _).trans x1 | have x0 := x1); clear x1; obtain ⟨xc, xf, xs⟩ := x0.cells))
  go_loopw [8, 9] (fun ss tt wr => ∃ d : Nat, ss = .int .i64 (ebS zs f d) ∧ tt = .int .i64 (f + d) ∧ f + d ≤ t ∧ Ext W wr) (fun _ tt _ => (t - intOf tt).toNat)
  case atStart => exact ⟨0, rfl, by simp, by omega, x0⟩
  case round =>
    clear x0 h1 h2 hv0; (try clear xc xf xs)
    obtain ⟨d, rfl, rfl, hd, x1⟩ := hrel
    have g0 := (x1.cells.1 _ _ hlw).trans f0
    have hl1 := Nat.lt_of_lt_of_le hlw x1.size
    have hXW := x1
    replace hE := hE.trans x1
    replace hrW := hrW.ext x1
    have x0 := Ext.refl wr
    by_cases hlt : f + d < t
    · have p1 := Lib.hid (posn_mid h1'.out h2'.out (x := f + d) (by omega) (by omega))
      have p2 := Lib.hid (posn_mid h1'.out h2'.out (x := f + d + 1) (by omega) (by omega))
      have b1 := pl_bd hv.out p1.out
      have b2 := pl_bd hv.out p2.out
      have b3 := ebS_bd hv.out h1'.out h2'.out d (by omega)
      have hs := Lib.hid (show ebS zs f (d + 1) = ebS zs f d + (pl zs (f + d) + pl zs (f + d + 1)) from rfl)
      have hfd : f + ((d + 1 : Nat) : Int) = f + d + 1 := by omega
      have hx0 : 0 ≤ f + (d : Int) ∧ f + (d : Int) ≤ 2000 := by omega
      have hd2 : d ≤ 2000 := by omega
      generalize hS : ebS zs f d = S at *
      generalize hA : pl zs (f + d) = A at *
      generalize hB : pl zs (f + d + 1) = B at *
      generalize hx : f + (d : Int) = x at *
      replace hS := Lib.hid hS; replace hA := Lib.hid hA; replace hB := Lib.hid hB; replace hx := Lib.hid hx; replace hfd := Lib.hid hfd
      have q1 : IntKind.i64.wrap (x + 1) = x + 1 := IntWalk.i64_in _ (by omega)
      have q2 : IntKind.i64.wrap (A + B) = A + B := IntWalk.i64_in _ (by omega)
      have q3 : IntKind.i64.wrap (S + (A + B)) = S + (A + B) := IntWalk.i64_in _ (by omega)
      have hdx := hx.out
      go_upto_region 9 with fail
      go_region_held3 (fun w' => w'.cell? ⟨w.heap.size, 0, none⟩ = some (.slice a n c))
        (refine keep_ext (W := wr) ?_ (by assumption) (by assumption) <;> (repeat (first | exact x0 | refine Ext.drew ?_)))
        (first | (go_at_call 73; refine (specpullAt_any _ _ _ zs _ _ (by first | exact hrW.ext x0 | exact hrW.ext x0.drew | exact hrW.ext (x0.drewN _)) hn hv.out (by first | exact p1.out | exact p2.out)).mono ?_; rintro e w1 ⟨rfl, x1⟩; (first | rw [hA.out] | rw [hB.out]); (try clear xc xf xs); (first | replace x0 := x0.trans x1 | replace x0 := (x0.alloc _).trans x1 | replace x0 := (x0.drew).trans x1 | replace x0 := (x0.drew.alloc _).trans x1 | replace x0 := (x0.alloc _).drew.trans x1 | replace x0 := ((x0.alloc _).alloc _).trans x1 | have x0 := x1); clear x1; obtain ⟨xc, xf, xs⟩ := x0.cells))
      all_goals go_wp2_with fail
      all_goals go_roundw
      all_goals first | (case rel => exact ⟨d + 1, by rw [hs.out], by rw [hfd.out], by rw [hfd.out]; omega, hXW.trans (by first | exact x0 | exact x0.drew)⟩) | (case measure => simp [intOf]; omega) | skip
    · have hde : (t - f).toNat = d := by omega
      rw [hde] at e1
      clear hde
      go_wp2_with fail
      go_ret2
      exact ⟨ret2 e1.out e2.out, hE.trans x0⟩

end Go.Proofs.Ytgkpganbepbjnaa

/-
  The sums of the drifts of segments.
-/
import Derived.Test.YtiodlbgfgeimoaaVSegs
import Derived.Test.YtiodlbgfgeimoaaInts
namespace Go.Proofs.Ytiodlbgfgeimoaa
open Go.RowKit
set_option linter.unusedSimpArgs false
set_option linter.unusedVariables false

def sumTo (b l c m : Int) (zs : List (Int × Int)) : Nat → Int
  | 0 => 0
  | k + 1 => sumTo b l c m zs k + (zs.getD k (0, 0)).1 * rtAt b l c m (zs.getD k (0, 0)).2
def sums (b l c m : Int) (zs : List (Int × Int)) (k : Nat) : List Int := (List.range k).map fun j => sumTo b l c m zs (j + 1)
theorem sums_succ (b l c m : Int) (zs : List (Int × Int)) (k : Nat) : sums b l c m zs (k + 1) = sums b l c m zs k ++ [sumTo b l c m zs (k + 1)] := by simp [sums, List.range_succ]
theorem sums_length (b l c m : Int) (zs : List (Int × Int)) (k : Nat) : (sums b l c m zs k).length = k := by simp [sums]
theorem rtAt_bd {b l c m t : Int} (hb : -100000000 ≤ b ∧ b ≤ 100000000) (hl : -10000 ≤ l ∧ l ≤ 10000) (hc : -1000 ≤ c ∧ c ≤ 1000) (hm : -400 ≤ m ∧ m ≤ 600) (ht : -400 ≤ t ∧ t ≤ 600) : -2000000000 ≤ rtAt b l c m t ∧ rtAt b l c m t ≤ 2000000000 := by
  unfold rtAt
  have h1 := mul_abs (x := l) (y := t - m) (X := 10000) (Y := 1000) hl (by omega)
  have h2 := mul_abs (x := c) (y := t - m) (X := 1000) (Y := 1000) hc (by omega)
  have h3 := mul_abs (x := c * (t - m)) (y := t - m) (X := 1000000) (Y := 1000) (by omega) (by omega)
  omega
theorem vSegs_at {zs : List (Int × Int)} (h : vSegs zs = true) {j : Nat} (hj : j < zs.length) : (1 ≤ (zs.getD j (0, 0)).1 ∧ (zs.getD j (0, 0)).1 ≤ 240) ∧ (-400 ≤ (zs.getD j (0, 0)).2 ∧ (zs.getD j (0, 0)).2 ≤ 600) := by
  unfold vSegs at h
  rw [Bool.and_eq_true, List.all_eq_true] at h
  have := h.1 (zs.getD j (0, 0)) (by rw [List.getD_eq_getElem?_getD, List.getElem?_eq_getElem hj]; exact List.getElem_mem _)
  unfold okSeg at this
  rw [Bool.and_eq_true] at this
  exact ⟨inB_iff.1 this.1, inB_iff.1 this.2⟩
theorem vSegs_len {zs : List (Int × Int)} (h : vSegs zs = true) : zs.length ≤ 60 := by
  unfold vSegs at h
  rw [Bool.and_eq_true] at h
  exact of_decide_eq_true h.2
theorem sumTo_bd {b l c m : Int} {zs : List (Int × Int)} (hb : -100000000 ≤ b ∧ b ≤ 100000000) (hl : -10000 ≤ l ∧ l ≤ 10000) (hc : -1000 ≤ c ∧ c ≤ 1000) (hm : -400 ≤ m ∧ m ≤ 600) (hv : vSegs zs = true) (k : Nat) (hk : k ≤ zs.length) :
    -(480000000000 * (k : Int)) ≤ sumTo b l c m zs k ∧ sumTo b l c m zs k ≤ 480000000000 * (k : Int) := by
  induction k with
  | zero => simp [sumTo]
  | succ k ih =>
    have h1 := ih (by omega)
    obtain ⟨h2, h3⟩ := vSegs_at hv (j := k) (by omega)
    have h4 := rtAt_bd hb hl hc hm h3
    have h5 := mul_abs (x := (zs.getD k (0, 0)).1) (y := rtAt b l c m (zs.getD k (0, 0)).2) (X := 240) (Y := 2000000000) (by omega) h4
    simp only [sumTo]
    omega

set_option maxHeartbeats 4000000 in
theorem sumsOf_any (b l c m : Int) (a : Option Addr) (n cp : Nat) (zs : List (Int × Int)) (w : World) (hb : -100000000 ≤ b ∧ b ≤ 100000000) (hl : -10000 ≤ l ∧ l ≤ 10000) (hc : -1000 ≤ c ∧ c ≤ 1000) (hm : -400 ≤ m ∧ m ≤ 600)
    (hv : vSegs zs = true) (hr : RowAt w a zs) (hn : zs.length = n) :
    Calls Try.prog 74 #[.agg #[.int .i64 b, .int .i64 l, .int .i64 c, .int .i64 m], .slice a n cp] w fun e w' => ∃ v, e = .returned v ∧ IntsOf w' w.heap.size v (sums b l c m zs n) ∧ Ext w w' := by
  obtain ⟨i0, hii, hz0, hz1, hz2⟩ := int_info
  go_enter Try.func74, Try.ntmps74
  go_wp2_with fail
  generalize hW : (w.alloc (Obj.cells #[.int .i64 b, .int .i64 l, .int .i64 c, .int .i64 m] 25)) = W
  have hE : Ext w W := by rw [← hW]; exact (Ext.refl _).alloc _
  have hl0 : w.heap.size < W.heap.size := by rw [← hW]; simp
  have f0_0 : W.cell? ⟨w.heap.size, 0, none⟩ = some (.int .i64 b) := by rw [← hW]; simp [go_sem]
  have f0_1 : W.cell? ⟨w.heap.size, 1, none⟩ = some (.int .i64 l) := by rw [← hW]; simp [go_sem]
  have f0_2 : W.cell? ⟨w.heap.size, 2, none⟩ = some (.int .i64 c) := by rw [← hW]; simp [go_sem]
  have f0_3 : W.cell? ⟨w.heap.size, 3, none⟩ = some (.int .i64 m) := by rw [← hW]; simp [go_sem]
  clear hW
  go_loopw [5, 6, 11] (fun v s k wr => ∃ i : Nat, k = .int .i64 i ∧ i ≤ n ∧ s = .int .i64 (sumTo b l c m zs i) ∧ IntsOf wr W.heap.size v (sums b l c m zs i) ∧ Ext W wr) (fun _ _ kk _ => n - (intOf kk).toNat)
  case atStart => exact ⟨0, rfl, Nat.zero_le _, rfl, World.ownsRow_nil _ _ _ _, Ext.refl _⟩
  case round =>
    obtain ⟨i, rfl, hi, rfl, hown, xw⟩ := hrel
    by_cases h0 : i < n
    · obtain ⟨hbx, hby⟩ := vSegs_at hv (j := i) (by omega)
      have hs0 := sumTo_bd hb hl hc hm hv i (by omega)
      have hs1 := sumTo_bd hb hl hc hm hv (i + 1) (by omega)
      have hlen := vSegs_len hv
      obtain ⟨bb, off, rfl, hbb, x, y, ex, ey, c0, c1⟩ := ((hr.ext hE).ext xw).look (j := i) (by omega)
      have hst := Lib.hid (show sumTo b l c m zs (i + 1) = sumTo b l c m zs i + x * rtAt b l c m y by rw [← ex.out, ← ey.out]; rfl)
      rw [ex.out] at hbx
      rw [ey.out] at hby
      have hrt := rtAt_bd hb hl hc hm hby
      have hpr := mul_abs (x := x) (y := rtAt b l c m y) (X := 240) (Y := 2000000000) (by omega) hrt
      have hsu := Lib.hid (sums_succ b l c m zs i)
      generalize hS : sumTo b l c m zs i = S at *
      generalize hT : sumTo b l c m zs (i + 1) = T at *
      generalize hR : rtAt b l c m y = R at *
      have hR := Lib.hid hR
      have q1 : IntKind.i64.wrap (x * R) = x * R := IntWalk.i64_in _ (by omega)
      have q2 : IntKind.i64.wrap (S + x * R) = S + x * R := IntWalk.i64_in _ (by omega)
      have t1 : decide ((i : Int) < (n : Int)) = true := by simp; omega
      have hne : wr.heap.size ≠ bb := by omega
      go_wp2_with fail
      generalize hV : (wr.alloc (Obj.cells #[.int .i64 x, .int .i64 y] 61)) = V
      have xV : Ext wr V := by rw [← hV]; exact (Ext.refl _).alloc _
      have xW := xw.trans xV
      have hl1 : w.heap.size < V.heap.size := Nat.lt_of_lt_of_le hl0 xW.size
      have hl2 : wr.heap.size < V.heap.size := by rw [← hV]; simp
      have g0_0 := (xW.cells.1 _ _ hl0).trans f0_0
      have g0_1 := (xW.cells.1 _ _ hl0).trans f0_1
      have g0_2 := (xW.cells.1 _ _ hl0).trans f0_2
      have g0_3 := (xW.cells.1 _ _ hl0).trans f0_3
      have g1_0 : V.cell? ⟨wr.heap.size, 0, none⟩ = some (.int .i64 x) := by rw [← hV]; simp [go_sem]
      have g1_1 : V.cell? ⟨wr.heap.size, 1, none⟩ = some (.int .i64 y) := by rw [← hV]; simp [go_sem]
      replace hown := hown.ext xV
      clear hV c0 c1 hne f0_0 f0_1 f0_2 f0_3 hr ex ey
      have x0 := Ext.refl V
      go_region_held3 (fun w' => w'.cell? ⟨w.heap.size, 0, none⟩ = some (.int .i64 b) ∧ w'.cell? ⟨w.heap.size, 1, none⟩ = some (.int .i64 l) ∧ w'.cell? ⟨w.heap.size, 2, none⟩ = some (.int .i64 c) ∧ w'.cell? ⟨w.heap.size, 3, none⟩ = some (.int .i64 m) ∧ w'.cell? ⟨wr.heap.size, 0, none⟩ = some (.int .i64 x) ∧ w'.cell? ⟨wr.heap.size, 1, none⟩ = some (.int .i64 y))
        (first | (refine ⟨?_, ?_, ?_, ?_, ?_, ?_⟩ <;> (refine (xc _ _ ?_).trans ?_ <;> assumption)) | (refine ⟨?_, ?_, ?_, ?_, ?_, ?_⟩ <;> assumption) | go_keep)
        (first | (go_at_call 65; refine (rateAt_any b l c m y _ hb hl hc hm hby).mono ?_; rintro e w1 ⟨rfl, x1⟩; rw [hR.out]; (try clear xc xf xs); (first | replace x0 := x0.trans x1 | replace x0 := (x0.alloc _).trans x1 | replace x0 := (x0.drew).trans x1 | replace x0 := (x0.drew.alloc _).trans x1 | replace x0 := (x0.alloc _).drew.trans x1 | replace x0 := ((x0.alloc _).alloc _).trans x1 | have x0 := x1); clear x1; obtain ⟨xc, xf, xs⟩ := x0.cells))
      replace hown := hown.ext x0
      replace xW := xW.trans x0
      go_wp2_with (at_builtin; refine wpList_append_ext _ rfl _ _ 49 rfl W.heap.size 2 i0 (.int .i64 0) 1 8 Try.underlying49 hii hz0 hz1 hz2 rfl (by decide) _ _ _ rfl (hown.ext ((Ext.refl _).alloc _)) ⟨w1.heap.size, 0, none⟩ 1 1 [.int .i64 (S + x * R)] rfl rfl (one_new _ _ rfl) (one_cell _) ?c3 ?c4 ?c5 ?_)
      case c3 => rw [sums_length]; unfold maxLen; omega
      case c4 => rw [sums_length]; omega
      case c5 => have := xW.size; simp; omega
      intro v' w2 h2 hx
      go_wp2_with fail
      go_roundw
      case rel => exact ⟨i + 1, by go_num, by omega, by rw [hT, hst.out], IntsOf.push h2 (by rw [hsu.out, hst.out]), hx W (xW.alloc _) (Nat.le_refl _)⟩
      case measure => simp [intOf]; omega
    · have hin : i = n := by omega
      subst hin
      have t1 : decide ((i : Int) < (i : Int)) = false := by simp
      clear hr
      go_wp2
      go_ret
      exact ⟨_, rfl, own_base hown (by have := hE.size; omega), hE.trans xw⟩

set_option maxHeartbeats 4000000 in
theorem l12Sums_any (b l c m : Int) (a : Option Addr) (n cp : Nat) (zs : List (Int × Int)) (w : World) (hb : -100000000 ≤ b ∧ b ≤ 100000000) (hl : -10000 ≤ l ∧ l ≤ 10000) (hc : -1000 ≤ c ∧ c ≤ 1000) (hm : -400 ≤ m ∧ m ≤ 600)
    (hv : vSegs zs = true) (hr : RowAt w a zs) (hn : zs.length = n) :
    Calls Try.prog 73 #[.agg #[.int .i64 b, .int .i64 l, .int .i64 c, .int .i64 m], .slice a n cp] w fun e w' => ∃ v, e = .returned v ∧ IntsOf w' w.heap.size v (sums b l c m zs n) ∧ Ext w w' := by
  obtain ⟨i0, hii, hz0, hz1, hz2⟩ := int_info
  go_enter Try.func73, Try.ntmps73
  go_wp2_with fail
  have hst0 : ((w.alloc (Obj.cells #[.int .i64 b, .int .i64 l, .int .i64 c, .int .i64 m] 25)).alloc (Obj.cells #[] 2)).ownsRow (w.heap.size + 1) 2 1 (.slice (some ⟨w.heap.size + 1, 0, none⟩) 0 0) 0 [] := by
    have := World.ownsRow_made (w := w.alloc (Obj.cells #[.int .i64 b, .int .i64 l, .int .i64 c, .int .i64 m] 25)) (base := w.heap.size + 1) (e := 2) (size := 1) #[] 0 (by simp) (by decide) rfl
    simpa using this
  generalize hW : (w.alloc (Obj.cells #[.int .i64 b, .int .i64 l, .int .i64 c, .int .i64 m] 25)) = W
  have hE : Ext w W := by rw [← hW]; exact (Ext.refl _).alloc _
  have hl0 : w.heap.size < W.heap.size := by rw [← hW]; simp
  have hsz := Lib.hid (show W.heap.size = w.heap.size + 1 by rw [← hW]; simp)
  have f0_0 : W.cell? ⟨w.heap.size, 0, none⟩ = some (.int .i64 b) := by rw [← hW]; simp [go_sem]
  have f0_1 : W.cell? ⟨w.heap.size, 1, none⟩ = some (.int .i64 l) := by rw [← hW]; simp [go_sem]
  have f0_2 : W.cell? ⟨w.heap.size, 2, none⟩ = some (.int .i64 c) := by rw [← hW]; simp [go_sem]
  have f0_3 : W.cell? ⟨w.heap.size, 3, none⟩ = some (.int .i64 m) := by rw [← hW]; simp [go_sem]
  rw [hW] at hst0
  clear hW
  go_loopw [5, 6, 7] (fun v s k wr => ∃ i : Nat, k = .int .i64 i ∧ i ≤ n ∧ s = .int .i64 (sumTo b l c m zs i) ∧ IntsOf wr W.heap.size v (sums b l c m zs i) ∧ Ext W wr) (fun _ _ kk _ => n - (intOf kk).toNat)
  case atStart => exact ⟨0, rfl, Nat.zero_le _, rfl, by rw [hsz.out]; exact hst0, (Ext.refl _).alloc _⟩
  case round =>
    obtain ⟨i, rfl, hi, rfl, hown, xw⟩ := hrel
    by_cases h0 : i < n
    · obtain ⟨hbx, hby⟩ := vSegs_at hv (j := i) (by omega)
      have hs0 := sumTo_bd hb hl hc hm hv i (by omega)
      have hs1 := sumTo_bd hb hl hc hm hv (i + 1) (by omega)
      have hlen := vSegs_len hv
      obtain ⟨bb, off, rfl, hbb, x, y, ex, ey, c0, c1⟩ := ((hr.ext hE).ext xw).look (j := i) (by omega)
      have hst := Lib.hid (show sumTo b l c m zs (i + 1) = sumTo b l c m zs i + x * rtAt b l c m y by rw [← ex.out, ← ey.out]; rfl)
      rw [ex.out] at hbx
      rw [ey.out] at hby
      have hrt := rtAt_bd hb hl hc hm hby
      have hpr := mul_abs (x := x) (y := rtAt b l c m y) (X := 240) (Y := 2000000000) (by omega) hrt
      have hsu := Lib.hid (sums_succ b l c m zs i)
      generalize hS : sumTo b l c m zs i = S at *
      generalize hT : sumTo b l c m zs (i + 1) = T at *
      generalize hR : rtAt b l c m y = R at *
      have hR := Lib.hid hR
      have q1 : IntKind.i64.wrap (x * R) = x * R := IntWalk.i64_in _ (by omega)
      have q2 : IntKind.i64.wrap (S + x * R) = S + x * R := IntWalk.i64_in _ (by omega)
      have t1 : decide ((i : Int) < (n : Int)) = true := by simp; omega
      have hl1 : w.heap.size < wr.heap.size := Nat.lt_of_lt_of_le hl0 xw.size
      have g0_0 := (xw.cells.1 _ _ hl0).trans f0_0
      have g0_1 := (xw.cells.1 _ _ hl0).trans f0_1
      have g0_2 := (xw.cells.1 _ _ hl0).trans f0_2
      have g0_3 := (xw.cells.1 _ _ hl0).trans f0_3
      clear f0_0 f0_1 f0_2 f0_3 hr ex ey
      have x0 := Ext.refl wr
      go_wp2_with fail
      go_region_held3 (fun w' => w'.cell? ⟨w.heap.size, 0, none⟩ = some (.int .i64 b) ∧ w'.cell? ⟨w.heap.size, 1, none⟩ = some (.int .i64 l) ∧ w'.cell? ⟨w.heap.size, 2, none⟩ = some (.int .i64 c) ∧ w'.cell? ⟨w.heap.size, 3, none⟩ = some (.int .i64 m) ∧ w'.cell? ⟨bb, off + i * 2, none⟩ = some (.int .i64 x) ∧ w'.cell? ⟨bb, off + i * 2 + 1, none⟩ = some (.int .i64 y))
        (first | (refine ⟨?_, ?_, ?_, ?_, ?_, ?_⟩ <;> (refine (xc _ _ ?_).trans ?_ <;> assumption)) | (refine ⟨?_, ?_, ?_, ?_, ?_, ?_⟩ <;> assumption) | go_keep)
        (first | (go_at_call 64; refine (l12At_any b l c m y _ hb hl hc hm hby).mono ?_; rintro e w1 ⟨rfl, x1⟩; rw [hR.out]; (try clear xc xf xs); (first | replace x0 := x0.trans x1 | replace x0 := (x0.alloc _).trans x1 | replace x0 := (x0.drew).trans x1 | replace x0 := (x0.drew.alloc _).trans x1 | replace x0 := (x0.alloc _).drew.trans x1 | replace x0 := ((x0.alloc _).alloc _).trans x1 | have x0 := x1); clear x1; obtain ⟨xc, xf, xs⟩ := x0.cells))
      replace hown := hown.ext x0
      have xW := xw.trans x0
      go_wp2_with (at_builtin; refine wpList_append_ext _ rfl _ _ 49 rfl W.heap.size 2 i0 (.int .i64 0) 1 8 Try.underlying49 hii hz0 hz1 hz2 rfl (by decide) _ _ _ rfl (hown.ext ((Ext.refl _).alloc _)) ⟨w1.heap.size, 0, none⟩ 1 1 [.int .i64 (S + x * R)] rfl rfl (one_new _ _ rfl) (one_cell _) ?c3 ?c4 ?c5 ?_)
      case c3 => rw [sums_length]; unfold maxLen; omega
      case c4 => rw [sums_length]; omega
      case c5 => have := xW.size; simp; omega
      intro v' w2 h2 hx
      go_wp2_with fail
      go_roundw
      case rel => exact ⟨i + 1, by go_num, by omega, by rw [hT, hst.out], IntsOf.push h2 (by rw [hsu.out, hst.out]), hx W (xW.alloc _) (Nat.le_refl _)⟩
      case measure => simp [intOf]; omega
    · have hin : i = n := by omega
      subst hin
      have t1 : decide ((i : Int) < (i : Int)) = false := by simp
      clear hr
      go_wp2
      go_ret
      exact ⟨_, rfl, own_base hown (by have := hE.size; omega), hE.trans xw⟩

def lastOf (zs : List Int) : Int := if zs.length = 0 then 0 else zs.getD (zs.length - 1) 0
theorem lastOf_zero {zs : List Int} (h : zs.length = 0) : 0 = lastOf zs := by rw [lastOf, if_pos h]
theorem lastOf_get {zs : List Int} {x : Int} (h : zs.length ≠ 0) (hx : zs.getD (zs.length - 1) 0 = x) : x = lastOf zs := by rw [lastOf, if_neg h, hx]

set_option maxHeartbeats 1000000 in
theorem l12Last_any (v : Value) (B : Nat) (zs : List Int) (w : World) (hr : IntsOf w B v zs) (hn : zs.length ≤ 1000) : Calls Try.prog 72 #[v] w fun e w' => e = .returned (.int .i64 (lastOf zs)) ∧ w = w' := by
  by_cases h0 : zs.length = 0
  · obtain ⟨a, cap, rfl⟩ := hr.shape
    have e := Lib.hid (lastOf_zero h0)
    clear hr
    go_enter Try.func72, Try.ntmps72
    go_wp2
    go_ret
    exact ⟨ret_int e.out, rfl⟩
  · obtain ⟨g, cap, x, rfl, hg, hx, hc⟩ := hr.look (j := zs.length - 1) (by omega)
    have e := Lib.hid (lastOf_get h0 hx.out)
    generalize hL : zs.length = L at *
    clear hr hx
    obtain ⟨k, rfl⟩ : ∃ k, L = k + 1 := ⟨L - 1, by omega⟩
    rw [show k + 1 - 1 = k by omega] at hc
    go_enter Try.func72, Try.ntmps72
    go_wp2
    go_ret
    exact ⟨ret_int e.out, rfl⟩
end Go.Proofs.Ytiodlbgfgeimoaa

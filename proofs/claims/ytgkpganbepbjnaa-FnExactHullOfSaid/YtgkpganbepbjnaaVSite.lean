/-
  Sites and plates: when they are valid; one site; a name among the sites before it.
-/
import Derived.Test.YtgkpganbepbjnaaName2
import Derived.Test.YtgkpganbepbjnaaSite
import Derived.Test.YtgkpganbepbjnaaHeld
import Derived.Deep.DeepCutAuto
namespace Go.Proofs.Ytgkpganbepbjnaa
open Go.RowKit
set_option linter.unusedSimpArgs false
set_option linter.unusedVariables false

def siOk (pw ph : Int) (z : Sit) : Bool := isNm z.s && inB z.x 0 pw && inB z.y 0 ph && inB z.st 1 1000 && inB z.wh z.st 10000
def eqN (a b : ByteArray) : Bool := a.toList == b.toList
/-- Has one of the first i sites this name? -/
def anyN (zs : List Sit) (i : Nat) (nm : ByteArray) : Bool := (List.range i).any fun k => eqN (zs.getD k Sit.d).s nm
def rdOk (pw ph : Int) (zs : List Sit) (i : Nat) : Bool := siOk pw ph (zs.getD i Sit.d) && !(anyN zs i (zs.getD i Sit.d).s)
def hdOk (pw ph pm pg : Int) (n : Nat) : Bool := inB pw 1 10000 && inB ph 1 10000 && inB pm 0 1000 && inB pg 0 1000 && decide (n ≤ 20)
def plOk (pw ph pm pg : Int) (zs : List Sit) : Bool := hdOk pw ph pm pg zs.length && (List.range zs.length).all (rdOk pw ph zs)
theorem anyN_hit {zs : List Sit} {i k : Nat} {nm : ByteArray} (hk : k < i) (h : eqN (zs.getD k Sit.d).s nm = true) : anyN zs i nm = true := List.any_eq_true.2 ⟨k, List.mem_range.2 hk, h⟩
theorem anyN_miss {zs : List Sit} {i : Nat} {nm : ByteArray} (h : ∀ k, k < i → eqN (zs.getD k Sit.d).s nm = false) : anyN zs i nm = false := List.any_eq_false.2 (fun k hk e => by rw [h k (List.mem_range.1 hk)] at e; cases e)
theorem plOk_head {pw ph pm pg : Int} {zs : List Sit} {n : Nat} (hn : zs.length = n) (h : hdOk pw ph pm pg n = false) : false = plOk pw ph pm pg zs := by rw [plOk, hn, h, Bool.false_and]
theorem plOk_bad {pw ph pm pg : Int} {zs : List Sit} {i : Nat} (hi : i < zs.length) (h : rdOk pw ph zs i = false) : false = plOk pw ph pm pg zs := by
  have : (List.range zs.length).all (rdOk pw ph zs) = false := by
    rw [List.all_eq_false]
    exact ⟨i, List.mem_range.2 hi, by rw [h]; simp⟩
  rw [plOk, this, Bool.and_false]
theorem plOk_ok {pw ph pm pg : Int} {zs : List Sit} (h : hdOk pw ph pm pg zs.length = true) (hh : ∀ j, j < zs.length → rdOk pw ph zs j = true) : true = plOk pw ph pm pg zs := by
  have : (List.range zs.length).all (rdOk pw ph zs) = true := by
    rw [List.all_eq_true]
    exact fun j hj => hh j (List.mem_range.1 hj)
  rw [plOk, h, this]
  rfl
theorem plOk_len {pw ph pm pg : Int} {zs : List Sit} (h : plOk pw ph pm pg zs = true) : zs.length ≤ 20 := by
  unfold plOk hdOk at h
  simp only [Bool.and_eq_true, decide_eq_true_eq] at h
  exact h.1.2
theorem plOk_gap {pw ph pm pg : Int} {zs : List Sit} (h : plOk pw ph pm pg zs = true) : 0 ≤ pg ∧ pg ≤ 1000 := by
  unfold plOk hdOk at h
  simp only [Bool.and_eq_true, inB_iff] at h
  exact h.1.1.2
theorem plOk_site {pw ph pm pg : Int} {zs : List Sit} (h : plOk pw ph pm pg zs = true) {j : Nat} (hj : j < zs.length) :
    (0 ≤ (zs.getD j Sit.d).x ∧ (zs.getD j Sit.d).x ≤ 10000) ∧ (0 ≤ (zs.getD j Sit.d).y ∧ (zs.getD j Sit.d).y ≤ 10000) ∧ (0 ≤ (zs.getD j Sit.d).wh ∧ (zs.getD j Sit.d).wh ≤ 10000) ∧ (0 ≤ (zs.getD j Sit.d).st ∧ (zs.getD j Sit.d).st ≤ 10000) := by
  unfold plOk hdOk at h
  simp only [Bool.and_eq_true, inB_iff, List.all_eq_true] at h
  have h2 := h.2 j (List.mem_range.2 hj)
  unfold rdOk siOk at h2
  simp only [Bool.and_eq_true, inB_iff] at h2
  omega

set_option maxHeartbeats 2000000 in
theorem closure_any (s nm : ByteArray) (x y wh st : Int) (B : Nat) (w : World) (hB : B < w.heap.size) (hc : w.cell? ⟨B, 0, none⟩ = some (.string nm)) :
    Calls Try.prog 109 #[.agg #[.string s, .int .i64 x, .int .i64 y, .int .i64 wh, .int .i64 st], .pointer (some ⟨B, 0, none⟩)] w fun e w' => e = .returned (.bool (eqN s nm)) ∧ Ext w w' := by
  have hne : ¬ w.heap.size = B := by omega
  have hne2 : ¬ B = w.heap.size := by omega
  unfold eqN
  go_enter Try.func109, Try.ntmps109
  go_wp2
  go_ret
  exact ⟨rfl, (Ext.refl _).alloc _⟩
/-- The place of the first of the first n sites that has this name. -/
def findN (zs : List Sit) (nm : ByteArray) (n : Nat) : Int := if anyN zs n nm = true then 0 else -1
set_option maxHeartbeats 4000000 in
theorem indexFunc_any (b off n c : Nat) (zs : List Sit) (nm : ByteArray) (B : Nat) (w : World) (hr : SRow w (some ⟨b, off, none⟩) zs) (hn : n ≤ zs.length) (hm : n ≤ 1048576) (hB : B < w.heap.size) (hc : w.cell? ⟨B, 0, none⟩ = some (.string nm)) :
    Calls Try.prog 123 #[.slice (some ⟨b, off, none⟩) n c, .func (.func 109) #[] #[.pointer (some ⟨B, 0, none⟩)]] w fun e w' => (∃ r, e = .returned (.int .i64 r) ∧ decide (0 ≤ r) = anyN zs n nm) ∧ Ext w w' := by
  go_enter Try.func123, Try.ntmps123
  go_wp2_with fail
  go_loopw [5, 8] (fun _ kk wr => ∃ i : Nat, kk = .int .i64 i ∧ i ≤ n ∧ Ext w wr ∧ Hid (∀ j, j < i → eqN (zs.getD j Sit.d).s nm = false)) (fun _ kk _ => n - (intOf kk).toNat)
  case atStart => exact ⟨0, rfl, Nat.zero_le _, Ext.refl _, Lib.hid (fun j hj => by omega)⟩
  case round =>
    obtain ⟨i, rfl, hi, xw, hh⟩ := hrel
    by_cases h0 : i < n
    · obtain ⟨b1, off1, hab, hb, s, x, y, wh, st, hz, c0, c1, c2, c3, c4⟩ := (hr.ext xw).look (j := i) (by omega)
      injection hab with hab
      injection hab with e1 e2
      subst e1; subst e2
      have t1 : decide ((i : Int) < (n : Int)) = true := by simp; omega
      have t2 : (i : Int) < (n : Int) := by omega
      have hcW := (xw.cells.1 _ _ hB).trans hc
      have hBW := Nat.lt_of_lt_of_le hB xw.size
      have hzs : (zs.getD i Sit.d).s = s := by rw [hz.out]
      cases hq : eqN s nm
      · have hk := Lib.hid (show ∀ j, j < i + 1 → eqN (zs.getD j Sit.d).s nm = false from fun j hj => by
          by_cases hji : j = i
          · subst hji; rw [hzs]; exact hq
          · exact hh.out j (by omega))
        clear hh hz hzs
        go_wp2_with (go_at_call 109; refine (closure_any s nm x y wh st B _ hBW hcW).mono ?_; rintro e w1 ⟨rfl, x1⟩; rw [hq])
        go_roundw
        case rel => exact ⟨i + 1, by go_num, by omega, xw.trans x1, hk⟩
        case measure => simp [intOf]; omega
      · have e := Lib.hid (anyN_hit (nm := nm) h0 (by rw [hzs]; exact hq))
        clear hh hz hzs
        go_wp2_with (go_at_call 109; refine (closure_any s nm x y wh st B _ hBW hcW).mono ?_; rintro e w1 ⟨rfl, x1⟩; rw [hq])
        go_ret
        exact ⟨⟨_, rfl, by rw [e.out]; simp⟩, xw.trans x1⟩
    · have : i = n := by omega
      subst this
      have t1 : decide ((i : Int) < (i : Int)) = false := by simp
      have e := Lib.hid (anyN_miss (nm := nm) hh.out)
      clear hh
      go_wp2
      go_ret
      exact ⟨⟨_, rfl, by rw [e.out]; simp⟩, xw⟩
set_option maxHeartbeats 2000000 in
theorem containsFunc_any (b off n c : Nat) (zs : List Sit) (nm : ByteArray) (B : Nat) (w : World) (hr : SRow w (some ⟨b, off, none⟩) zs) (hn : n ≤ zs.length) (hm : n ≤ 1048576) (hB : B < w.heap.size) (hc : w.cell? ⟨B, 0, none⟩ = some (.string nm)) :
    Calls Try.prog 108 #[.slice (some ⟨b, off, none⟩) n c, .func (.func 109) #[] #[.pointer (some ⟨B, 0, none⟩)]] w fun e w' => e = .returned (.bool (anyN zs n nm)) ∧ Ext w w' := by
  go_enter Try.func108, Try.ntmps108
  go_wp2_with (go_at_call 123; refine (indexFunc_any b off n c zs nm B _ hr hn hm hB hc).mono ?_; rintro e w1 ⟨⟨r, rfl, hq⟩, x1⟩)
  go_ret
  exact ⟨rfl, x1⟩
set_option maxHeartbeats 4000000 in
theorem validSite_any (pw ph pm pg : Int) (a : Option Addr) (n c : Nat) (s : ByteArray) (x y wh st : Int) (w : World) (hs : s.size ≤ 9223372036854775807) :
    Calls Try.prog 107 #[.agg #[.int .i64 pw, .int .i64 ph, .int .i64 pm, .int .i64 pg, .slice a n c], .agg #[.string s, .int .i64 x, .int .i64 y, .int .i64 wh, .int .i64 st]] w fun e w' => e = .returned (.bool (siOk pw ph ⟨s, x, y, wh, st⟩)) ∧ Ext w w' := by
  go_enter Try.func107, Try.ntmps107
  go_upto_region 1 with fail
  generalize hW : World.alloc _ _ = W
  have hE : Ext w W := by rw [← hW]; exact ((Ext.refl _).alloc _).alloc _
  have l0 : w.heap.size < W.heap.size := by rw [← hW]; simp; omega
  have l1 : w.heap.size + 1 < W.heap.size := by rw [← hW]; simp
  have p0 : W.cell? ⟨w.heap.size, 0, none⟩ = some (.int .i64 pw) := by rw [← hW]; simp [go_sem]
  have p1 : W.cell? ⟨w.heap.size, 1, none⟩ = some (.int .i64 ph) := by rw [← hW]; simp [go_sem]
  have s0 : W.cell? ⟨w.heap.size + 1, 0, none⟩ = some (.string s) := by rw [← hW]; simp [go_sem]
  have s1 : W.cell? ⟨w.heap.size + 1, 1, none⟩ = some (.int .i64 x) := by rw [← hW]; simp [go_sem]
  have s2 : W.cell? ⟨w.heap.size + 1, 2, none⟩ = some (.int .i64 y) := by rw [← hW]; simp [go_sem]
  have s3 : W.cell? ⟨w.heap.size + 1, 3, none⟩ = some (.int .i64 wh) := by rw [← hW]; simp [go_sem]
  have s4 : W.cell? ⟨w.heap.size + 1, 4, none⟩ = some (.int .i64 st) := by rw [← hW]; simp [go_sem]
  clear hW
  cases h0 : isNm s
  · have ev := Lib.hid (show false = siOk pw ph ⟨s, x, y, wh, st⟩ by simp [siOk, h0])
    go_wp2_with (first | (go_at_call 122; refine (implIsName_any s _ hs).mono ?_; rintro e w1 ⟨rfl, x1⟩; obtain ⟨xc, xf, xs⟩ := x1.cells) | (go_at_call 55; refine (within_any _ _ _ _).mono ?_; rintro e w1 ⟨rfl, rfl⟩))
    go_ret
    exact ⟨ret_bool ev.out, hE.trans x1⟩
  cases h1 : inB x 0 pw
  · have ev := Lib.hid (show false = siOk pw ph ⟨s, x, y, wh, st⟩ by simp [siOk, h0, h1])
    go_wp2_with (first | (go_at_call 122; refine (implIsName_any s _ hs).mono ?_; rintro e w1 ⟨rfl, x1⟩; obtain ⟨xc, xf, xs⟩ := x1.cells) | (go_at_call 55; refine (within_any _ _ _ _).mono ?_; rintro e w1 ⟨rfl, rfl⟩))
    go_ret
    exact ⟨ret_bool ev.out, hE.trans x1⟩
  cases h2 : inB y 0 ph
  · have ev := Lib.hid (show false = siOk pw ph ⟨s, x, y, wh, st⟩ by simp [siOk, h0, h1, h2])
    go_wp2_with (first | (go_at_call 122; refine (implIsName_any s _ hs).mono ?_; rintro e w1 ⟨rfl, x1⟩; obtain ⟨xc, xf, xs⟩ := x1.cells) | (go_at_call 55; refine (within_any _ _ _ _).mono ?_; rintro e w1 ⟨rfl, rfl⟩))
    go_ret
    exact ⟨ret_bool ev.out, hE.trans x1⟩
  cases h3 : inB st 1 1000
  · have ev := Lib.hid (show false = siOk pw ph ⟨s, x, y, wh, st⟩ by simp [siOk, h0, h1, h2, h3])
    go_wp2_with (first | (go_at_call 122; refine (implIsName_any s _ hs).mono ?_; rintro e w1 ⟨rfl, x1⟩; obtain ⟨xc, xf, xs⟩ := x1.cells) | (go_at_call 55; refine (within_any _ _ _ _).mono ?_; rintro e w1 ⟨rfl, rfl⟩))
    go_ret
    exact ⟨ret_bool ev.out, hE.trans x1⟩
  cases h4 : inB wh st 10000
  · have ev := Lib.hid (show false = siOk pw ph ⟨s, x, y, wh, st⟩ by simp [siOk, h0, h1, h2, h3, h4])
    go_wp2_with (first | (go_at_call 122; refine (implIsName_any s _ hs).mono ?_; rintro e w1 ⟨rfl, x1⟩; obtain ⟨xc, xf, xs⟩ := x1.cells) | (go_at_call 55; refine (within_any _ _ _ _).mono ?_; rintro e w1 ⟨rfl, rfl⟩))
    go_ret
    exact ⟨ret_bool ev.out, hE.trans x1⟩
  have ev := Lib.hid (show true = siOk pw ph ⟨s, x, y, wh, st⟩ by simp [siOk, h0, h1, h2, h3, h4])
  go_wp2_with (first | (go_at_call 122; refine (implIsName_any s _ hs).mono ?_; rintro e w1 ⟨rfl, x1⟩; obtain ⟨xc, xf, xs⟩ := x1.cells) | (go_at_call 55; refine (within_any _ _ _ _).mono ?_; rintro e w1 ⟨rfl, rfl⟩))
  go_ret
  exact ⟨ret_bool ev.out, hE.trans x1⟩
end Go.Proofs.Ytgkpganbepbjnaa

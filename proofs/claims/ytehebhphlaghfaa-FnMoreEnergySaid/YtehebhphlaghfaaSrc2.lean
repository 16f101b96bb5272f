/-
  The source of choices: picks.
-/
import Derived.Test.YtehebhphlaghfaaSrc
namespace Go.Proofs.Ytehebhphlaghfaa
open Go.RowKit
set_option linter.unusedSimpArgs false
set_option linter.unusedVariables false

theorem Src.more {w : World} {g n cp k k' : Nat} {a : Option Addr} (h : Src w g a n cp k) (hk : k ≤ k') : Src w g a n cp k' :=
  ⟨h.lt, h.c0, by obtain ⟨t, ht, hc⟩ := h.c1; exact ⟨t, by omega, hc⟩, h.c2, h.z1, h.z2⟩
theorem tm_bd {x m : Int} (hx : 0 ≤ x ∧ x ≤ 65535) (hm : 1 < m) : (0 ≤ x.tmod m ∧ x.tmod m < m) ∧ IntKind.i64.wrap (x.tmod m) = x.tmod m ∧ x.tmod m = x % m := by
  have h1 := Int.tmod_eq_emod_of_nonneg (b := m) hx.1
  have h2 := Int.emod_nonneg x (show m ≠ 0 by omega)
  have h3 := Int.emod_lt_of_pos x (show 0 < m by omega)
  have h4 : x % m ≤ x := by
    by_cases h : x < m
    · rw [Int.emod_eq_of_lt hx.1 h]; exact Int.le_refl _
    · omega
  rw [h1]
  exact ⟨⟨h2, h3⟩, IntWalk.i64_in _ (by omega), rfl⟩

set_option maxRecDepth 100000 in
set_option maxHeartbeats 4000000 in
theorem pick_any (g n cp k : Nat) (m : Int) (a : Option Addr) (w : World) (h : Src w g a n cp k) (hb : RowB w g a n) (hk : k ≤ 900000) (hn : n ≤ 1048576) :
    Calls Try.prog 70 #[.pointer (some ⟨g, 0, none⟩), .int .i64 m] w fun e w' => ∃ x, e = .returned (.int .i64 x) ∧ (0 ≤ x ∧ (x < m ∨ x = 0)) ∧ Src w' g a n cp (k + 2) ∧ Wrote (some g) w w' := by
  by_cases h1 : m ≤ 1
  · go_enter Try.func70, Try.ntmps70
    go_wp2_with fail
    go_ret
    exact ⟨0, rfl, ⟨by omega, .inr rfl⟩, h.more (by omega), Wrote.refl _ _⟩
  have hm0 : ¬ m = 0 := by omega
  by_cases h2 : 200 < m
  · have N2 := fun (W : World) (x : Int) (hS : Src W g a n cp (k + 1)) (hB : RowB W g a n) => next_any g n cp (k + 1) a W hS hB (by omega) hn
    replace N2 := Lib.hid N2
    go_enter Try.func70, Try.ntmps70
    go_upto_region 5 with (go_at_call 89; refine (next_any g n cp k a _ h hb (by omega) hn).mono ?_; rintro e w1 ⟨x, rfl, hx, hS, hW⟩)
    have q1 : IntKind.i64.wrap (x * 256) = x * 256 := IntWalk.i64_in _ (by omega)
    have hB := hb.wrote hW
    clear h hb
    go_upto_region 6 with (go_at_call 89; refine (next_any g n cp (k + 1) a _ hS hB (by omega) hn).mono ?_; rintro e w2 ⟨y, rfl, hy, hS2, hW2⟩; have q2 : IntKind.i64.wrap (x * 256 + y) = x * 256 + y := (IntWalk.i64_in _ (by omega)))
    have ht := tm_bd (x := x * 256 + y) (m := m) (by omega) (by omega)
    have q3 := ht.2.1
    have q4 := Lib.hid ht.2.2
    have q5 := Lib.hid ht.1
    clear ht hS hB hx hy
    have q6 : IntKind.i64.wrap ((x * 256 + y) % m) = (x * 256 + y) % m := by rw [← q4.out]; exact q3
    go_wp2_with fail
    go_ret
    first | exact ⟨_, rfl, ⟨q5.out.1, .inl q5.out.2⟩, hS2, hW.trans hW2⟩ | exact ⟨_, rfl, ⟨by rw [← q4.out]; exact q5.out.1, .inl (by rw [← q4.out]; exact q5.out.2)⟩, hS2, hW.trans hW2⟩
  · go_enter Try.func70, Try.ntmps70
    go_upto_region 6 with (go_at_call 89; refine (next_any g n cp k a _ h hb (by omega) hn).mono ?_; rintro e w1 ⟨x, rfl, hx, hS, hW⟩)
    have ht := tm_bd (x := x) (m := m) (by omega) (by omega)
    have q3 := ht.2.1
    have q4 := Lib.hid ht.2.2
    have q5 := Lib.hid ht.1
    have q6 : IntKind.i64.wrap (x % m) = x % m := by rw [← q4.out]; exact q3
    clear ht hx h hb
    go_wp2_with fail
    go_ret
    first | exact ⟨_, rfl, ⟨q5.out.1, .inl q5.out.2⟩, hS.more (by omega), hW⟩ | exact ⟨_, rfl, ⟨by rw [← q4.out]; exact q5.out.1, .inl (by rw [← q4.out]; exact q5.out.2)⟩, hS.more (by omega), hW⟩

set_option maxHeartbeats 1000000 in
theorem one_any (g n cp k : Nat) (m : Int) (a : Option Addr) (w : World) (h : Src w g a n cp k) (hb : RowB w g a n) (hk : k ≤ 900000) (hn : n ≤ 1048576) :
    Calls Try.prog 71 #[.pointer (some ⟨g, 0, none⟩), .int .i64 m] w fun e w' => ∃ x, e = .returned (.bool x) ∧ Src w' g a n cp (k + 2) ∧ Wrote (some g) w w' := by
  go_enter Try.func71, Try.ntmps71
  go_wp2_with (go_at_call 70; refine (pick_any g n cp k m a _ h hb hk hn).mono ?_; rintro e w1 ⟨x, rfl, hx, hS, hW⟩)
  go_ret
  exact ⟨_, rfl, hS, hW⟩

set_option maxHeartbeats 1000000 in
theorem among_any (g n cp k gl L c : Nat) (zs : List Int) (B : Nat) (a : Option Addr) (w : World) (h : Src w g a n cp k) (hb : RowB w g a n) (hk : k ≤ 900000) (hn : n ≤ 1048576)
    (hr : IntsOf w B (.slice (some ⟨gl, 0, none⟩) L c) zs) (hL : 1 ≤ L ∧ L ≤ 1000) (hg : gl ≠ g) :
    Calls Try.prog 86 #[.pointer (some ⟨g, 0, none⟩), .slice (some ⟨gl, 0, none⟩) L c] w fun e w' => ∃ x, e = .returned (.int .i64 x) ∧ Src w' g a n cp (k + 2) ∧ Wrote (some g) w w' := by
  have hl := hr.len
  go_enter Try.func86, Try.ntmps86
  go_wp2_with (go_at_call 70; refine (pick_any g n cp k L a _ h hb hk hn).mono ?_; rintro e w1 ⟨x, rfl, hx, hS, hW⟩; have hr1 := IntsOf.wrote hr hW (.inr (fun e => hg (by injection e))); obtain ⟨j, rfl⟩ : ∃ j : Nat, x = j := ⟨x.toNat, (by omega)⟩; obtain ⟨g1, y, hge, hg1, hy, c0⟩ := hr1.nth (j := j) (by omega); injection hge with hge; injection hge with hge; subst hge; have t1 : (j : Int) < (L : Int) := (by omega); have t2 : j < L := (by omega))
  go_ret
  exact ⟨_, rfl, hS, hW⟩

set_option maxHeartbeats 1000000 in
theorem l00From_any (a : Option Addr) (n cp : Nat) (w : World) :
    Calls Try.prog 61 #[.slice a n cp] w fun e w' => e = .returned (.pointer (some ⟨w.heap.size, 0, none⟩)) ∧ Src w' w.heap.size a n cp 0 ∧ Ext w w' := by
  go_enter Try.func61, Try.ntmps61
  go_wp2_with fail
  go_ret
  exact ⟨rfl, ⟨by simp, by simp [go_sem], ⟨0, Nat.le_refl _, by simp [go_sem]⟩, ⟨0, by simp [go_sem]⟩, by simp, by simp⟩, (Ext.refl _).alloc _⟩
end Go.Proofs.Ytehebhphlaghfaa

/-
  sort.Search with a test of the call's own that makes memory: the least place from which on the test says yes.
-/
import Derived.Test.YtehebhphlaghfaaLeastP
import Derived.Shelf.SlSorted.Search
namespace Go.Proofs.Ytehebhphlaghfaa
open Go.RowKit
set_option linter.unusedSimpArgs false
set_option linter.unusedVariables false

set_option maxHeartbeats 4000000 in
theorem search_any (g : Nat) (cb : Array Value) (n : Nat) (p : Nat → Bool) (w : World) (eg : ∀ args w, (callFunc g args).run Try.prog w = .ok (.enter g args) w) (hsz : n < 4611686018427387904)
    (hf : ∀ (i : Nat) (wx : World), i < n → Ext w wx → Calls Try.prog g (#[.int .i64 i] ++ cb) wx fun e w' => e = .returned (.bool (p i)) ∧ Ext wx w')
    (hmono : ∀ a b, a ≤ b → b < n → p a = true → p b = true) :
    Calls Try.prog 78 #[.int .i64 n, .func (.func g) #[] cb] w fun e w' => e = .returned (.int .i64 (leastN p n)) ∧ Ext w w' := by
  have HF := Lib.hid hf
  have M := Lib.hid hmono
  clear hf hmono
  generalize hcnt : leastN p n = cnt
  have CN := Lib.hid hcnt
  clear hcnt
  go_enter Try.func78, Try.ntmps78
  go_wp2
  go_loopw [5, 6] (fun s5 s6 wr => ∃ (lo hi : Nat), s5 = .int .i64 lo ∧ s6 = .int .i64 hi ∧ lo ≤ hi ∧ hi ≤ n ∧ Ext w wr ∧ Hid ((∀ t, t < lo → p t = false) ∧ (∀ t, hi ≤ t → t < n → p t = true))) (fun a b _ => (intOf b).toNat - (intOf a).toNat)
  case atStart => exact ⟨0, n, rfl, rfl, Nat.zero_le _, Nat.le_refl _, Ext.refl _, Lib.hid ⟨fun t ht => absurd ht (Nat.not_lt_zero _), fun t h1 h2 => by omega⟩⟩
  case round =>
    obtain ⟨lo, hi, rfl, rfl, hlh, hin, xw, I⟩ := hrel
    by_cases hlt : lo < hi
    · have hc := HF.out ((lo + hi) / 2) _ (by omega) xw
      rw [show (((lo + hi) / 2 : Nat) : Int) = ((lo : Int) + (hi : Int)) / 2 by omega] at hc
      cases hp : p ((lo + hi) / 2) <;> rw [hp] at hc
      · have HP := Lib.hid hp
        clear hp
        go_wp2_with (go_at_fn g; refine hc.mono ?_; rintro e w' ⟨rfl, x1⟩)
        go_roundw
        case rel =>
          refine ⟨(lo + hi) / 2 + 1, hi, by rw [show ((lo : Int) + (hi : Int)) / 2 + 1 = (((lo + hi) / 2 + 1 : Nat) : Int) by omega], rfl, by omega, hin, xw.trans x1, Lib.hid ⟨fun t ht => ?_, I.out.2⟩⟩
          cases h : p t with
          | false => rfl
          | true => have := M.out t ((lo + hi) / 2) (by omega) (by omega) h; rw [HP.out] at this; cases this
        case measure => simp [intOf]; omega
      · have HP := Lib.hid hp
        clear hp
        go_wp2_with (go_at_fn g; refine hc.mono ?_; rintro e w' ⟨rfl, x1⟩)
        go_roundw
        case rel =>
          exact ⟨lo, (lo + hi) / 2, rfl, by rw [show ((lo : Int) + (hi : Int)) / 2 = (((lo + hi) / 2 : Nat) : Int) by omega], by omega, by omega, xw.trans x1, Lib.hid ⟨I.out.1, fun t ht htn => M.out ((lo + hi) / 2) t ht htn HP.out⟩⟩
        case measure => simp [intOf]; omega
    · obtain rfl : hi = lo := by omega
      have ecnt := Lib.hid (show hi = cnt by rw [← CN.out]; exact (leastN_eq hin I.out.1 I.out.2).symm)
      clear HF
      go_wp2
      go_ret
      exact ⟨ret_int (show (hi : Int) = cnt by rw [ecnt.out]), xw⟩

/-- The same, the length spelt otherwise. -/
theorem search_at (g : Nat) (cb : Array Value) (n : Nat) (nn : Int) (p : Nat → Bool) (w : World) (hnn : Hid ((n : Int) = nn)) (eg : ∀ args w, (callFunc g args).run Try.prog w = .ok (.enter g args) w) (hsz : n < 4611686018427387904)
    (hf : ∀ (i : Nat) (wx : World), i < n → Ext w wx → Calls Try.prog g (#[.int .i64 i] ++ cb) wx fun e w' => e = .returned (.bool (p i)) ∧ Ext wx w')
    (hmono : ∀ a b, a ≤ b → b < n → p a = true → p b = true) :
    Calls Try.prog 78 #[.int .i64 nn, .func (.func g) #[] cb] w fun e w' => e = .returned (.int .i64 (leastN p n)) ∧ Ext w w' := by
  rw [← hnn.out]
  exact search_any g cb n p w eg hsz hf hmono

end Go.Proofs.Ytehebhphlaghfaa

/-
  A mark's text: some string.
-/
import Derived.Test.YtgkpganbepbjnaaNum
import Derived.Laws.BytesArg
import Derived.Lib.Hide
import Derived.Deep.DeepCutAuto
namespace Go.Proofs.Ytgkpganbepbjnaa
open Go.RowKit
set_option linter.unusedSimpArgs false
set_option linter.unusedVariables false

set_option maxRecDepth 100000 in
set_option maxHeartbeats 2000000 in
theorem markText_any (k : Int) (w : World) (hk : 0 ≤ k ∧ k ≤ 1000000000) :
    Calls Try.prog 113 #[.int .i64 k] w fun e w' => (∃ s, e = .returned (.string s)) ∧ Ext w w' := by
  go_enter Try.func113, Try.ntmps113
  by_cases h0 : k ≤ 0
  · go_wp2
    go_ret
    exact ⟨⟨_, rfl⟩, Ext.refl _⟩
  · go_wp2_with fail
    go_loopw [0, 3] (fun kk ss wr => ∃ (j : Int) (s : ByteArray), kk = .int .i64 j ∧ ss = .string s ∧ (0 ≤ j ∧ j ≤ 1000000000) ∧ (s.size : Int) + j ≤ 1000000000 ∧ Ext w wr) (fun kk _ _ => (intOf kk).toNat)
    case atStart => exact ⟨k, _, rfl, rfl, hk, by show (0 : Int) + k ≤ 1000000000; omega, Ext.refl _⟩
    case round =>
      obtain ⟨j, s, rfl, rfl, hj, hs, xw⟩ := hrel
      by_cases h1 : 0 < j
      · have hz : ¬ (10 : Int) = 0 := by decide
        have hcv := run_convert_bytes_arg (P := Try.prog) (wr.alloc (Obj.cells #[.int .u8 (48 + j % 10)] 5)) 140 5 Try.underlying140 Try.underlying5 wr.heap.size 0 1 1 [48 + j % 10] rfl (fun i hi => by (obtain rfl : i = 0 := (by omega)); simp [go_sem]) 9 Try.underlying9
        have hS : (strOfNums [48 + j % 10]).size = 1 := strOfNums_size _
        generalize strOfNums [48 + j % 10] = S at *
        have hl : (S ++ s).size = S.size + s.size := ByteArray.size_append
        have t9 : ¬ (9223372036854775807 : Int) < (S.size : Int) + (s.size : Int) := by omega
        have hq : 0 ≤ j / 10 ∧ j / 10 + 1 ≤ j := by omega
        go_wp2_with fail
        go_roundw
        case rel => exact ⟨j / 10, S ++ s, rfl, rfl, by omega, by omega, xw.alloc _⟩
        case measure => simp [intOf]; omega
      · have t9 : ¬ (9223372036854775807 : Int) < (1 : Int) + (s.size : Int) := by omega
        go_wp2
        go_ret
        exact ⟨⟨_, rfl⟩, xw⟩
end Go.Proofs.Ytgkpganbepbjnaa

/-
  Absolute values in the laws; how large a drift is.
-/
import Derived.Test.YtiodlbgfgeimoaaDrift
import Derived.Deep.DeepCutAuto
namespace Go.Proofs.Ytiodlbgfgeimoaa
open Go.RowKit
set_option linter.unusedSimpArgs false
set_option linter.unusedVariables false

set_option maxHeartbeats 400000 in
theorem f6size_any (n : Int) (w : World) (hn : -9223372036854775807 ≤ n ∧ n ≤ 9223372036854775807) : Calls Try.prog 57 #[.int .i64 n] w fun e w' => e = .returned (.int .i64 (n.natAbs : Int)) ∧ w = w' := by
  by_cases h : n < 0
  · have e := Lib.hid (show -n = (n.natAbs : Int) by omega)
    go_enter Try.func57, Try.ntmps57
    go_wp2
    go_ret
    exact ⟨ret_int e.out, rfl⟩
  · have e := Lib.hid (show n = (n.natAbs : Int) by omega)
    go_enter Try.func57, Try.ntmps57
    go_wp2
    go_ret
    exact ⟨ret_int e.out, rfl⟩
theorem ds_bd (b l c m : Int) (zs : List (Int × Int)) : -30000000000000 ≤ dsR b l c m zs ∧ dsR b l c m zs ≤ 30000000000000 := by
  unfold dsR
  split
  · rename_i h1
    split
    · rename_i h2
      obtain ⟨hb, hl, hc, hm⟩ := vRate_iff.1 h1
      have := sumTo_bd hb hl hc hm h2 zs.length (Nat.le_refl _)
      have := vSegs_len h2
      omega
    · omega
  · omega
end Go.Proofs.Ytiodlbgfgeimoaa

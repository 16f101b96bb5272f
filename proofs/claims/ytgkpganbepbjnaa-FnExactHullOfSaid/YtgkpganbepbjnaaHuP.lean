/-
  The hull of a plate's sites: words that the walks share.
-/
import Derived.Test.YtgkpganbepbjnaaHullR
import Derived.Test.YtgkpganbepbjnaaVSite
import Derived.Laws.StructEq
namespace Go.Proofs.Ytgkpganbepbjnaa
open Go.RowKit
set_option linter.unusedVariables false
set_option linter.unusedSimpArgs false

theorem rtH {v : Value} {c d : Int} (h : c = d) : Ending.returned (.tuple #[v, .int .i64 c]) = .returned (.tuple #[v, .int .i64 d]) := by rw [h]
def psOf (zs : List Sit) : List (Int × Int) := zs.map fun z => (z.x, z.y)
theorem psOf_len (zs : List Sit) : (psOf zs).length = zs.length := by simp [psOf]
theorem pt_of (zs : List Sit) (j : Nat) : pt (psOf zs) j = ((zs.getD j Sit.d).x, (zs.getD j Sit.d).y) := by
  unfold pt psOf
  rw [List.getD_eq_getElem?_getD, List.getD_eq_getElem?_getD, List.getElem?_map]
  cases zs[j]? <;> rfl
theorem pt_at {zs : List Sit} {j : Nat} {s : ByteArray} {x y wh st : Int} (h : zs.getD j Sit.d = ⟨s, x, y, wh, st⟩) : pt (psOf zs) j = (x, y) := by rw [pt_of, h]
theorem st_take {ps : List (Int × Int)} {k : Nat} (h : lowB (pt ps k) (pt ps (stF ps k)) = true) : k = stF ps (k + 1) := by rw [stF, if_pos h]
theorem st_keep {ps : List (Int × Int)} {k : Nat} (h : lowB (pt ps k) (pt ps (stF ps k)) = false) : stF ps k = stF ps (k + 1) := by rw [stF, if_neg (by rw [h]; decide)]
theorem st_lt (ps : List (Int × Int)) {k n : Nat} (hk : k ≤ n) (hn : 0 < n) : stF ps k < n := by
  rcases Nat.eq_zero_or_pos k with h | h
  · subst h; exact hn
  · have := (low_st ps k).1 h; omega
theorem nx_take {ps : List (Int × Int)} {a st k : Nat} (h : updB (pt ps a) (pt ps (nxF ps a st k)) (pt ps k) = true) : k = nxF ps a st (k + 1) := by rw [nxF, if_pos h]
theorem nx_keep {ps : List (Int × Int)} {a st k : Nat} (h : updB (pt ps a) (pt ps (nxF ps a st k)) (pt ps k) = false) : nxF ps a st k = nxF ps a st (k + 1) := by rw [nxF, if_neg (by rw [h]; decide)]
theorem hul_zero {ps : List (Int × Int)} (h : ps.length = 0) : [] = hulL ps := by rw [hulL, if_pos h]
def eqP (a b : Int × Int) : Bool := decide (a = b)
theorem eqP_mk (x y x' y' : Int) : eqP (x, y) (x', y') = ((x == x') && (y == y')) := by
  unfold eqP
  by_cases h1 : x = x' <;> by_cases h2 : y = y' <;> simp [h1, h2]
theorem run_pt_eql (w : World) (x y x' y' : Int) : (binOp .eql 104 (.agg #[.int .i64 x, .int .i64 y]) (.agg #[.int .i64 x', .int .i64 y'])).run Try.prog w = .ok (.bool (eqP (x, y) (x', y'))) w := by
  have hq : Try.prog.underlying 104 = some (.struct (Try.prog.fieldsOf 104)) := by kernel_rfl
  have hs : Try.prog.stoodInHeld 104 = false := by kernel_rfl
  have hi := Try.underlying2
  rw [run_eql_struct, show (10000 : Nat) = 9998 + 1 + 1 from rfl, run_equalIn_agg w (9998 + 1) 104 _ _ hq hs, eqP_mk]
  simp [go_sem, Try.underlying104, run_equalIn_int w 9998 2 .i64 .i64 _ _ hi]
  by_cases h1 : x = x' <;> by_cases h2 : y = y' <;> simp [h1, h2]
theorem run_pt_neq (w : World) (x y x' y' : Int) : (binOp .neq 104 (.agg #[.int .i64 x, .int .i64 y]) (.agg #[.int .i64 x', .int .i64 y'])).run Try.prog w = .ok (.bool (!(eqP (x, y) (x', y')))) w := by
  have hq : Try.prog.underlying 104 = some (.struct (Try.prog.fieldsOf 104)) := by kernel_rfl
  have hs : Try.prog.stoodInHeld 104 = false := by kernel_rfl
  have hi := Try.underlying2
  rw [run_neq_struct, show (10000 : Nat) = 9998 + 1 + 1 from rfl, run_equalIn_agg w (9998 + 1) 104 _ _ hq hs, eqP_mk]
  simp [go_sem, Try.underlying104, run_equalIn_int w 9998 2 .i64 .i64 _ _ hi]
  by_cases h1 : x = x' <;> by_cases h2 : y = y' <;> simp [h1, h2]
theorem updB_self {a b s : Int × Int} (h : s = a) : updB a b s = false := by simp [updB, h]
theorem updB_new {a b s : Int × Int} (h1 : s ≠ a) (h2 : b = a) : updB a b s = true := by simp [updB, h1, h2]
theorem updB_turn {a b s : Int × Int} (h1 : s ≠ a) (h2 : b ≠ a) (h3 : crs a b s < 0) : updB a b s = true := by simp [updB, h1, h2, h3]
theorem updB_past {a b s : Int × Int} (h2 : b ≠ a) (h3 : ¬ crs a b s < 0) (h4 : ¬ crs a b s = 0) : updB a b s = false := by simp [updB, h2, h4]; intro _; omega
theorem updB_line {a b s : Int × Int} (h1 : s ≠ a) (h2 : b ≠ a) (h4 : crs a b s = 0) : updB a b s = decide (sqd a b < sqd a s) := by simp [updB, h1, h2, h4]
def huR (pw ph pm pg : Int) (zs : List Sit) : List Int := if plOk pw ph pm pg zs = true then hulL (psOf zs) else []
def huC (pw ph pm pg : Int) (zs : List Sit) : Int := if plOk pw ph pm pg zs = true then 0 else 1
theorem huR_len (pw ph pm pg : Int) (zs : List Sit) : (huR pw ph pm pg zs).length ≤ 1048576 := by
  unfold huR
  split
  · rename_i h
    have h1 := plOk_len h
    have h2 := hul_le (psOf zs)
    rw [psOf_len] at h2
    omega
  · simp
end Go.Proofs.Ytgkpganbepbjnaa

/-
  The clashes of a plate as a list.
-/
import Derived.Test.YtgkpganbepbjnaaClear2
import Derived.Test.YtgkpganbepbjnaaVSite
namespace Go.Proofs.Ytgkpganbepbjnaa
set_option linter.unusedVariables false

theorem rtC {v : Value} {c d : Int} (h : c = d) : Ending.returned (.tuple #[v, .int .i64 c]) = .returned (.tuple #[v, .int .i64 d]) := by rw [h]
theorem plOk_sok {pw ph pm pg : Int} {zs : List Sit} {n : Nat} (hn : zs.length = n) (h : plOk pw ph pm pg zs = true) : ∀ k, k < n → SOk (zs.getD k Sit.d) := fun k hk => by
  obtain ⟨h1, h2, h3, h4⟩ := plOk_site h (j := k) (by omega)
  exact ⟨h1, h2, h3, h4⟩
def clB (zs : List Sit) (g : Int) (i j : Nat) : Bool := decide (i ≠ j) && decide (clrZ (zs.getD i Sit.d) (zs.getD j Sit.d) < g)
def clRow (zs : List Sit) (g : Int) (i j : Nat) : List (Int × Int) := ((List.range j).filter (clB zs g i)).map fun (k : Nat) => ((i : Int), (k : Int))
def clT (zs : List Sit) (g : Int) (n i : Nat) : List (Int × Int) := (List.range i).flatMap fun i => clRow zs g i n
/-- The clashes found when j staffs have been held against wheel i. -/
def clAt (zs : List Sit) (g : Int) (n i j : Nat) : List (Int × Int) := clT zs g n i ++ clRow zs g i j
theorem clAt_yes {zs : List Sit} {g : Int} {n i j : Nat} (h : clB zs g i j = true) : clAt zs g n i j ++ [((i : Int), (j : Int))] = clAt zs g n i (j + 1) := by
  simp [clAt, clRow, List.range_succ, List.filter_append, h]
theorem clAt_no {zs : List Sit} {g : Int} {n i j : Nat} (h : clB zs g i j = false) : clAt zs g n i j = clAt zs g n i (j + 1) := by
  simp [clAt, clRow, List.range_succ, List.filter_append, h]
theorem clAt_row (zs : List Sit) (g : Int) (n i : Nat) : clAt zs g n i n = clAt zs g n (i + 1) 0 := by
  simp [clAt, clT, clRow, List.range_succ]
theorem clAt_zero (zs : List Sit) (g : Int) (n : Nat) : [] = clAt zs g n 0 0 := by simp [clAt, clT, clRow]
theorem clAt_end (zs : List Sit) (g : Int) (n : Nat) : clAt zs g n n 0 = clT zs g n n := by simp [clAt, clRow]
theorem clRow_len (zs : List Sit) (g : Int) (i j : Nat) : (clRow zs g i j).length ≤ j := by
  have := List.length_filter_le (clB zs g i) (List.range j)
  simpa [clRow] using this
theorem clT_len (zs : List Sit) (g : Int) (n i : Nat) : (clT zs g n i).length ≤ i * n := by
  induction i with
  | zero => simp [clT]
  | succ i ih =>
    have h1 := clRow_len zs g i n
    have : clT zs g n (i + 1) = clT zs g n i ++ clRow zs g i n := by simp [clT, List.range_succ]
    rw [this, List.length_append, Nat.add_mul]
    omega
theorem clAt_len (zs : List Sit) (g : Int) {n i j : Nat} (hn : n ≤ 20) (hi : i ≤ n) (hj : j ≤ n) : (clAt zs g n i j).length ≤ 500 := by
  have h1 := clT_len zs g n i
  have h2 := clRow_len zs g i j
  have h3 : i * n ≤ 20 * 20 := Nat.mul_le_mul (by omega) hn
  rw [clAt, List.length_append]
  omega
def clR (pw ph pm pg : Int) (zs : List Sit) : List (Int × Int) := if plOk pw ph pm pg zs = true then clT zs pg zs.length zs.length else []
def clC (pw ph pm pg : Int) (zs : List Sit) : Int := if plOk pw ph pm pg zs = true then 0 else 1
theorem clR_len (pw ph pm pg : Int) (zs : List Sit) : (clR pw ph pm pg zs).length ≤ 1048576 := by
  unfold clR
  split
  · rename_i h
    have h1 := plOk_len h
    have h2 := clT_len zs pg zs.length zs.length
    have h3 : zs.length * zs.length ≤ 20 * 20 := Nat.mul_le_mul h1 h1
    omega
  · simp
end Go.Proofs.Ytgkpganbepbjnaa

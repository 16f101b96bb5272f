/-
  Plain laws on the integer root: what it is, and how it is found from above and by halving.
-/
import Derived.Test.YtgkpganbepbjnaaBase
import Derived.Lib.BitFns
namespace Go.Proofs.Ytgkpganbepbjnaa
set_option linter.unusedVariables false

def rootN : Nat → Nat
  | 0 => 0
  | n + 1 => if (rootN n + 1) * (rootN n + 1) ≤ n + 1 then rootN n + 1 else rootN n
theorem rootN_spec (n : Nat) : rootN n * rootN n ≤ n ∧ n < (rootN n + 1) * (rootN n + 1) := by
  induction n with
  | zero => simp [rootN]
  | succ n ih =>
    unfold rootN
    split
    · rename_i h
      refine ⟨h, ?_⟩
      have e : (rootN n + 1 + 1) * (rootN n + 1 + 1) = (rootN n + 1) * (rootN n + 1) + 2 * (rootN n + 1) + 1 := by grind
      omega
    · omega
/-- The greatest integer whose square is at most n. -/
def rootI (n : Int) : Int := (rootN n.toNat : Int)
theorem rootI_spec {n : Int} (h : 0 ≤ n) : 0 ≤ rootI n ∧ rootI n * rootI n ≤ n ∧ n < (rootI n + 1) * (rootI n + 1) := by
  obtain ⟨h1, h2⟩ := rootN_spec n.toNat
  unfold rootI
  refine ⟨by omega, ?_, ?_⟩
  · have : ((rootN n.toNat * rootN n.toNat : Nat) : Int) ≤ n := by omega
    rwa [Int.natCast_mul] at this
  · have : n < (((rootN n.toNat + 1) * (rootN n.toNat + 1) : Nat) : Int) := by omega
    rwa [Int.natCast_mul] at this
theorem sqI_lt {a b : Int} (hb : 0 ≤ b) (h : a * a < b * b) : a < b := by
  rcases Int.lt_or_le a b with h1 | h1
  · exact h1
  · have := Int.mul_le_mul h1 h1 hb (by omega)
    omega
theorem sqI_le {a b : Int} (ha : 0 ≤ a) (h : a ≤ b) : a * a ≤ b * b := Int.mul_le_mul h h ha (by omega)
theorem rootI_le {n r : Int} (hn : 0 ≤ n) (hr : 0 ≤ r) (h : n < (r + 1) * (r + 1)) : rootI n ≤ r := by
  have := rootI_spec hn
  have := sqI_lt (a := rootI n) (b := r + 1) (by omega) (by omega)
  omega
theorem rootI_ge {n r : Int} (hn : 0 ≤ n) (h : r * r ≤ n) : r ≤ rootI n := by
  have h1 := rootI_spec hn
  have := sqI_lt (a := r) (b := rootI n + 1) (by omega) (by omega)
  omega
theorem rootI_eq {n r : Int} (hr : 0 ≤ r) (h1 : r * r ≤ n) (h2 : n < (r + 1) * (r + 1)) : r = rootI n := by
  have hn : 0 ≤ n := Int.le_trans (Int.mul_nonneg hr hr) h1
  have := rootI_le hn hr h2
  have := rootI_ge hn h1
  omega
theorem rootI_mono {m n : Int} (hm : 0 ≤ m) (h : m ≤ n) : rootI m ≤ rootI n := by
  have := rootI_spec hm
  exact rootI_ge (by omega) (by omega)
theorem rootI_sq {r : Int} (hr : 0 ≤ r) : rootI (r * r) = r := by
  refine (rootI_eq hr (Int.le_refl _) ?_).symm
  have e : (r + 1) * (r + 1) = r * r + 2 * r + 1 := by grind
  omega
/-- A step of Newton's from above does not fall below the root. -/
theorem newt_up {n r : Int} (hn : 0 ≤ n) (hr : 1 ≤ r) : rootI n ≤ (r + n / r) / 2 := by
  obtain ⟨h0, h1, h2⟩ := rootI_spec hn
  generalize rootI n = s at *
  have e : (2 * s - r) * r ≤ n := by
    have : 0 ≤ (s - r) * (s - r) := by
      rcases Int.le_total 0 (s - r) with h | h
      · exact Int.mul_nonneg h h
      · exact Int.mul_nonneg_of_nonpos_of_nonpos h h
    have e : (s - r) * (s - r) = s * s - (2 * s - r) * r := by grind
    omega
  have := (Int.le_ediv_iff_mul_le (show 0 < r by omega)).2 e
  omega
/-- When a step of Newton's does not lead down, the root is there. -/
theorem newt_stop {n r : Int} (hn : 0 ≤ n) (hr : 1 ≤ r) (hs : rootI n ≤ r) (h : ¬ (r + n / r) / 2 < r) : r = rootI n := by
  have h1 : r ≤ n / r := by omega
  have h2 := (Int.le_ediv_iff_mul_le (show 0 < r by omega)).1 h1
  have := rootI_ge hn h2
  omega
theorem newt_bd {n r : Int} (hn : 1 ≤ n) (hr : 1 ≤ r) (hs : rootI n ≤ r) : 1 ≤ (r + n / r) / 2 ∧ 0 ≤ n / r ∧ n / r ≤ n := by
  have h1 : 1 ≤ rootI n := rootI_ge (by omega) (by omega)
  have := newt_up (n := n) (r := r) (by omega) hr
  have := Int.ediv_nonneg (show 0 ≤ n by omega) (show 0 ≤ r by omega)
  have := Int.ediv_le_self r (show 0 ≤ n by omega)
  omega
theorem bl_up (f : Nat) : ∀ x : Nat, x < 2 ^ f → x < 2 ^ Lib.bitLenAux f x := by
  induction f with
  | zero => intro x h; simp [Lib.bitLenAux] at *; omega
  | succ f ih =>
    intro x h
    unfold Lib.bitLenAux
    split
    · simp; omega
    · have := ih (x / 2) (by rw [Nat.pow_succ] at h; omega)
      rw [Nat.add_comm, Nat.pow_succ]
      omega
theorem bl_le (f : Nat) : ∀ x m : Nat, x < 2 ^ m → Lib.bitLenAux f x ≤ m := by
  induction f with
  | zero => intro x m h; simp [Lib.bitLenAux]
  | succ f ih =>
    intro x m h
    unfold Lib.bitLenAux
    split
    · omega
    · cases m with
      | zero => simp at h; omega
      | succ m =>
        have := ih (x / 2) m (by rw [Nat.pow_succ] at h; omega)
        omega
/-- Where Newton's way starts. -/
theorem newt_start {n : Int} (hn : 1 ≤ n) (hb : n ≤ 4000000000000000000) : let k := (Lib.bitLen n.toNat + 1) / 2; k ≤ 31 ∧ rootI n ≤ (2 : Int) ^ k ∧ (1 : Int) ≤ 2 ^ k ∧ (2 : Int) ^ k ≤ 2147483648 := by
  have h1 : n.toNat < 2 ^ Lib.bitLen n.toNat := bl_up 64 _ (by omega)
  have h2 : Lib.bitLen n.toNat ≤ 62 := bl_le 64 _ 62 (by omega)
  intro k
  have hk : k ≤ 31 := by omega
  have hp : (1 : Int) ≤ 2 ^ k := by
    have : (1 : Nat) ≤ 2 ^ k := Nat.one_le_two_pow
    have e : ((2 ^ k : Nat) : Int) = (2 : Int) ^ k := by simp
    omega
  have hp2 : (2 : Int) ^ k ≤ 2147483648 := by
    have : 2 ^ k ≤ 2 ^ 31 := Nat.pow_le_pow_right (by omega) hk
    have e : ((2 ^ k : Nat) : Int) = (2 : Int) ^ k := by simp
    omega
  refine ⟨hk, ?_, hp, hp2⟩
  have h3 : (n.toNat : Nat) < 2 ^ k * 2 ^ k := by
    rw [← Nat.pow_add]
    exact Nat.lt_of_lt_of_le h1 (Nat.pow_le_pow_right (by omega) (by omega))
  have h4 : n < (2 : Int) ^ k * 2 ^ k := by
    have e : ((2 ^ k * 2 ^ k : Nat) : Int) = (2 : Int) ^ k * 2 ^ k := by simp
    omega
  exact rootI_le (by omega) (by omega) (by have := sqI_le (a := (2 : Int) ^ k) (b := 2 ^ k + 1) (by omega) (by omega); omega)
/-- The least integer whose square is at least n. -/
def upI (n : Int) : Int := if rootI n * rootI n < n then rootI n + 1 else rootI n
theorem upI_spec {n : Int} (h : 0 ≤ n) : n ≤ upI n * upI n ∧ rootI n ≤ upI n ∧ upI n ≤ rootI n + 1 := by
  obtain ⟨h0, h1, h2⟩ := rootI_spec h
  unfold upI
  split
  · exact ⟨by omega, by omega, by omega⟩
  · exact ⟨by omega, by omega, by omega⟩
theorem upI_le {n r : Int} (h : 0 ≤ n) (hr : 0 ≤ r) (h1 : n ≤ r * r) : upI n ≤ r := by
  obtain ⟨k0, k1, k2⟩ := rootI_spec h
  unfold upI
  split
  · rename_i h3
    have := sqI_lt (a := rootI n) (b := r) hr (by omega)
    omega
  · rename_i h3
    rcases Int.lt_or_le r (rootI n) with h4 | h4
    · have h5 := sqI_le (a := r + 1) (b := rootI n) (by omega) (by omega)
      have e : (r + 1) * (r + 1) = r * r + 2 * r + 1 := by grind
      omega
    · exact h4
theorem upI_mono {m n : Int} (hm : 0 ≤ m) (h : m ≤ n) : upI m ≤ upI n := by
  have h1 := upI_spec (n := n) (by omega)
  have h2 := rootI_spec (n := n) (by omega)
  exact upI_le hm (by omega) (by omega)
end Go.Proofs.Ytgkpganbepbjnaa

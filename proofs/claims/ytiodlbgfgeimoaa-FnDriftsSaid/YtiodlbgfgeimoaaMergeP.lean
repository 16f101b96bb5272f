/-
  Segments put together: the plain words.
-/
import Derived.Test.YtiodlbgfgeimoaaSums
namespace Go.Proofs.Ytiodlbgfgeimoaa
set_option linter.unusedVariables false

def lastP (O : List (Int × Int)) : Int × Int := O.getD (O.length - 1) (0, 0)
def mgS (O : List (Int × Int)) (s : Int × Int) : List (Int × Int) :=
  if 0 < O.length ∧ (lastP O).2 = s.2 ∧ (lastP O).1 + s.1 ≤ 240 then O.set (O.length - 1) ((lastP O).1 + s.1, (lastP O).2) else O ++ [s]
/-- The segments behind the first k, put together. -/
def mg (zs : List (Int × Int)) : Nat → List (Int × Int)
  | 0 => []
  | k + 1 => mgS (mg zs k) (zs.getD k (0, 0))
theorem mgS_len (O : List (Int × Int)) (s : Int × Int) : (mgS O s).length ≤ O.length + 1 := by
  unfold mgS
  split
  · simp
  · simp
theorem mg_len (zs : List (Int × Int)) (k : Nat) : (mg zs k).length ≤ k := by
  induction k with
  | zero => simp [mg]
  | succ k ih => have := mgS_len (mg zs k) (zs.getD k (0, 0)); simp only [mg]; omega
theorem mg_bd {zs : List (Int × Int)} (hv : vSegs zs = true) (k : Nat) (hk : k ≤ zs.length) : ∀ p ∈ mg zs k, (1 ≤ p.1 ∧ p.1 ≤ 240) ∧ (-400 ≤ p.2 ∧ p.2 ≤ 600) := by
  induction k with
  | zero => intro p hp; simp [mg] at hp
  | succ k ih =>
    have ih := ih (by omega)
    have hs := vSegs_at hv (j := k) (by omega)
    intro p hp
    simp only [mg, mgS] at hp
    split at hp
    · rename_i h
      have hl : lastP (mg zs k) ∈ mg zs k := by
        unfold lastP
        rw [List.getD_eq_getElem?_getD, List.getElem?_eq_getElem (by omega)]
        exact List.getElem_mem _
      have hb := ih _ hl
      rcases List.mem_or_eq_of_mem_set hp with h1 | h1
      · exact ih p h1
      · subst h1
        exact ⟨by simp only; omega, by simp only; omega⟩
    · rcases List.mem_append.1 hp with h1 | h1
      · exact ih p h1
      · simp at h1
        subst h1
        exact hs
theorem mg_at {zs : List (Int × Int)} (hv : vSegs zs = true) {k j : Nat} (hk : k ≤ zs.length) (hj : j < (mg zs k).length) : (1 ≤ ((mg zs k).getD j (0, 0)).1 ∧ ((mg zs k).getD j (0, 0)).1 ≤ 240) ∧ (-400 ≤ ((mg zs k).getD j (0, 0)).2 ∧ ((mg zs k).getD j (0, 0)).2 ≤ 600) := by
  apply mg_bd hv k hk
  rw [List.getD_eq_getElem?_getD, List.getElem?_eq_getElem hj]
  exact List.getElem_mem _
def mgR (zs : List (Int × Int)) : List (Int × Int) := if vSegs zs = true then mg zs zs.length else []
def mgC (zs : List (Int × Int)) : Int := if vSegs zs = true then 0 else 1
theorem mgR_len (zs : List (Int × Int)) (n : Nat) (hn : zs.length = n) : (mgR zs).length ≤ n := by
  unfold mgR
  split
  · have := mg_len zs zs.length; omega
  · simp
theorem mgS_join {O : List (Int × Int)} {s : Int × Int} {k : Nat} {a b x y : Int} (hk : O.length = k + 1) (ha : (O.getD k (0, 0)).1 = a) (hb : (O.getD k (0, 0)).2 = b) (hx : s.1 = x) (hy : s.2 = y) (h1 : b = y) (h2 : a + x ≤ 240) :
    O.set k (a + x, (O.getD k (0, 0)).2) = mgS O s := by
  have hl : lastP O = O.getD k (0, 0) := by rw [lastP, hk]; rfl
  unfold mgS
  rw [if_pos (by rw [hl, ha, hb, hx, hy]; exact ⟨by omega, h1, h2⟩), hl, ha, hx, hk]
  rfl
theorem mgS_apart {O : List (Int × Int)} {s : Int × Int} {x y : Int} (hx : s.1 = x) (hy : s.2 = y) (h : O.length = 0 ∨ ∃ k a b, O.length = k + 1 ∧ (O.getD k (0, 0)).1 = a ∧ (O.getD k (0, 0)).2 = b ∧ (b ≠ y ∨ 240 < a + x)) : mgS O s = O ++ [(x, y)] := by
  have hs : s = (x, y) := by rw [← hx, ← hy]
  unfold mgS
  rw [if_neg, hs]
  rintro ⟨h1, h2, h3⟩
  rcases h with h | ⟨k, a, b, hk, ha, hb, h4⟩
  · omega
  · have hl : lastP O = O.getD k (0, 0) := by rw [lastP, hk]; rfl
    rw [hl, hb, hy] at h2
    rw [hl, ha, hx] at h3
    rcases h4 with h4 | h4
    · exact h4 h2
    · omega
end Go.Proofs.Ytiodlbgfgeimoaa

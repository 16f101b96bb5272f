/-
  Rows of points of the call's own: built by append.
-/
import Derived.Test.YtgkpganbepbjnaaRow2
import Derived.Test.YtgkpganbepbjnaaPlace
namespace Go.Proofs.Ytgkpganbepbjnaa
open Go.RowKit
set_option linter.unusedSimpArgs false
set_option linter.unusedVariables false

def flat : List (Int × Int) → List Value
  | [] => []
  | p :: zs => Value.int .i64 p.1 :: Value.int .i64 p.2 :: flat zs
theorem flat_length (zs : List (Int × Int)) : (flat zs).length = zs.length * 2 := by
  induction zs with
  | nil => rfl
  | cons p zs ih => simp only [flat, List.length_cons, ih]; omega
theorem flat_append (xs ys : List (Int × Int)) : flat (xs ++ ys) = flat xs ++ flat ys := by
  induction xs with
  | nil => rfl
  | cons p xs ih => simp only [List.cons_append, flat, ih]
theorem flat_get0 {zs : List (Int × Int)} : ∀ {j : Nat}, j < zs.length → (flat zs)[j * 2]? = some (.int .i64 (zs.getD j (0, 0)).1) := by
  induction zs with
  | nil => intro j h; simp at h
  | cons p zs ih =>
    intro j h
    cases j with
    | zero => simp [flat]
    | succ j =>
      rw [show (j + 1) * 2 = j * 2 + 1 + 1 by omega]
      simp only [flat, List.getElem?_cons_succ, List.getD_cons_succ]
      exact ih (by simpa using h)
theorem flat_get1 {zs : List (Int × Int)} : ∀ {j : Nat}, j < zs.length → (flat zs)[j * 2 + 1]? = some (.int .i64 (zs.getD j (0, 0)).2) := by
  induction zs with
  | nil => intro j h; simp at h
  | cons p zs ih =>
    intro j h
    cases j with
    | zero => simp [flat]
    | succ j =>
      rw [show (j + 1) * 2 + 1 = j * 2 + 1 + 1 + 1 by omega]
      simp only [flat, List.getElem?_cons_succ, List.getD_cons_succ]
      exact ih (by simpa using h)
theorem flat_set0 {zs : List (Int × Int)} (x : Int) : ∀ {j : Nat}, j < zs.length → (flat zs).set (j * 2) (.int .i64 x) = flat (zs.set j (x, (zs.getD j (0, 0)).2)) := by
  induction zs with
  | nil => intro j h; simp at h
  | cons p zs ih =>
    intro j h
    cases j with
    | zero => simp [flat]
    | succ j =>
      rw [show (j + 1) * 2 = j * 2 + 1 + 1 by omega]
      simp only [flat, List.set_cons_succ, List.getD_cons_succ]
      rw [ih (by simpa using h)]
theorem flat_set1 {zs : List (Int × Int)} (y : Int) : ∀ {j : Nat}, j < zs.length → (flat zs).set (j * 2 + 1) (.int .i64 y) = flat (zs.set j ((zs.getD j (0, 0)).1, y)) := by
  induction zs with
  | nil => intro j h; simp at h
  | cons p zs ih =>
    intro j h
    cases j with
    | zero => simp [flat]
    | succ j =>
      rw [show (j + 1) * 2 + 1 = j * 2 + 1 + 1 + 1 by omega]
      simp only [flat, List.set_cons_succ, List.getD_cons_succ]
      rw [ih (by simpa using h)]

/-- The slice value v is a row of these pairs, of the call's own. -/
def PairsOf (w : World) (base : Nat) (v : Value) (zs : List (Int × Int)) : Prop := w.ownsRow base 104 2 v zs.length (flat zs)
theorem PairsOf.ext {w w' : World} {base : Nat} {v : Value} {zs : List (Int × Int)} (h : PairsOf w base v zs) (x : Ext w w') : PairsOf w' base v zs := own_ext h x
theorem PairsOf.low {w : World} {base base' : Nat} {v : Value} {zs : List (Int × Int)} (h : PairsOf w base v zs) (hb : base' ≤ base) : PairsOf w base' v zs := own_base h hb
theorem PairsOf.push {w : World} {base : Nat} {v : Value} {zs ys : List (Int × Int)} {x y : Int} (h : w.ownsRow base 104 2 v (zs.length + 1) (flat zs ++ [Value.int .i64 x, Value.int .i64 y])) (e : ys = zs ++ [(x, y)]) : PairsOf w base v ys := by
  subst e
  unfold PairsOf
  rw [flat_append, List.length_append]
  exact h
theorem PairsOf.shape {w : World} {base : Nat} {v : Value} {zs : List (Int × Int)} (h : PairsOf w base v zs) : ∃ a cap, v = .slice a zs.length cap := by
  rcases h.2 with ⟨rfl, h0⟩ | ⟨g, cap, cur, rfl, hbg, hg, hnc, hcm, hcs, htake⟩
  · rw [h0]; exact ⟨_, _, rfl⟩
  · exact ⟨_, _, rfl⟩
theorem PairsOf.len {w : World} {base n cap : Nat} {a : Option Addr} {zs : List (Int × Int)} (h : PairsOf w base (.slice a n cap) zs) : zs.length = n := by
  obtain ⟨a1, cap1, e⟩ := h.shape
  injection e with e1 e2 e3
  exact e2.symm
theorem PairsOf.lt {w : World} {B : Nat} {v : Value} {zs : List (Int × Int)} (h : PairsOf w B v zs) : ∀ k, v.ownBlock = some k → B ≤ k ∧ k < w.heap.size := World.ownsRow.lt h
theorem PairsOf.wrote {w w' : World} {B : Nat} {v : Value} {zs : List (Int × Int)} {row : Option Nat} (h : PairsOf w B v zs) (x : Wrote row w w') (hne : v.ownBlock = none ∨ v.ownBlock ≠ row) : PairsOf w' B v zs :=
  World.ownsRow.kept h x.1 hne
theorem PairsOf.nth {w : World} {base n cap : Nat} {a : Option Addr} {zs : List (Int × Int)} (h : PairsOf w base (.slice a n cap) zs) {j : Nat} (hj : j < zs.length) :
    ∃ g x y, a = some ⟨g, 0, none⟩ ∧ g < w.heap.size ∧ Hid ((zs.getD j (0, 0)).1 = x) ∧ Hid ((zs.getD j (0, 0)).2 = y) ∧ w.cell? ⟨g, j * 2, none⟩ = some (.int .i64 x) ∧ w.cell? ⟨g, j * 2 + 1, none⟩ = some (.int .i64 y) ∧ w.frozen? ⟨g, j * 2, none⟩ = false ∧ w.frozen? ⟨g, j * 2 + 1, none⟩ = false := by
  have hn := h.len
  subst hn
  rcases h.2 with ⟨_, h0⟩ | ⟨g, cap1, cur, e, hbg, hg, hnc, hcm, hcs, htake⟩
  · omega
  · injection e with e1 e2 e3
    subst e1
    subst e3
    have hc0 := World.ownsRow.cellAt h (j * 2) (by omega)
    have hc1 := World.ownsRow.cellAt h (j * 2 + 1) (by omega)
    rw [flat_get0 hj] at hc0
    rw [flat_get1 hj] at hc1
    exact ⟨g, _, _, rfl, World.block_lt_of_cell? _ _ hc0, Lib.hid rfl, Lib.hid rfl, hc0, hc1, World.ownsRow.frozenAt h _, World.ownsRow.frozenAt h _⟩
theorem PairsOf.set0 {w : World} {base n cap g : Nat} {zs : List (Int × Int)} (h : PairsOf w base (.slice (some ⟨g, 0, none⟩) n cap) zs) {j : Nat} (hj : j < zs.length) (x : Int) :
    PairsOf (w.setCell ⟨g, j * 2, none⟩ (.int .i64 x)) base (.slice (some ⟨g, 0, none⟩) n cap) (zs.set j (x, (zs.getD j (0, 0)).2)) := by
  have hn := h.len
  subst hn
  have := World.ownsRow.stored h (j * 2) (.int .i64 x)
  unfold PairsOf
  rw [List.length_set, ← flat_set0 x hj]
  exact this.1
theorem PairsOf.set1 {w : World} {base n cap g : Nat} {zs : List (Int × Int)} (h : PairsOf w base (.slice (some ⟨g, 0, none⟩) n cap) zs) {j : Nat} (hj : j < zs.length) (y : Int) :
    PairsOf (w.setCell ⟨g, j * 2 + 1, none⟩ (.int .i64 y)) base (.slice (some ⟨g, 0, none⟩) n cap) (zs.set j ((zs.getD j (0, 0)).1, y)) := by
  have hn := h.len
  subst hn
  have := World.ownsRow.stored h (j * 2 + 1) (.int .i64 y)
  unfold PairsOf
  rw [List.length_set, ← flat_set1 y hj]
  exact this.1
theorem PairsOf.row {w : World} {B n c : Nat} {a : Option Addr} {zs : List (Int × Int)} (h : PairsOf w B (.slice a n c) zs) : RowAt w a zs := by
  by_cases h0 : zs.length = 0
  · exact .inl h0
  · obtain ⟨g, x, y, rfl, hg, _⟩ := h.nth (j := 0) (by omega)
    refine .inr ⟨g, 0, rfl, hg, fun j hj => ?_⟩
    obtain ⟨g', x', y', e, _, hx, hy, hc0, hc1, _⟩ := h.nth hj
    injection e with e
    injection e with e
    subst e
    rw [hx.out, hy.out, Nat.zero_add]
    exact ⟨hc0, hc1⟩
theorem seg_info : ∃ i, Try.prog.info? 104 = some i ∧ i.zero = some pairZero ∧ i.size = 2 ∧ i.bytes = 16 := by
  have he : (Try.prog.info? 104).map (fun i => (i.zero, i.size, i.bytes)) = some (some pairZero, 2, 16) := by kernel_rfl
  cases hi : Try.prog.info? 104 with
  | none => rw [hi] at he; simp at he
  | some i =>
    rw [hi] at he
    simp only [Option.map_some, Option.some.injEq, Prod.mk.injEq] at he
    exact ⟨i, rfl, he.1, he.2.1, he.2.2⟩
theorem pair_new {w w' : World} (x y : Int) (e : TypeId) (h : w' = w.alloc (.cells #[.int .i64 x, .int .i64 y] e)) : ∀ j u, [Value.int .i64 x, Value.int .i64 y][j]? = some u → w'.cell? ((⟨w.heap.size, 0, none⟩ : Addr).add j) = some u := by
  intro j u hj
  subst h
  match j, hj with
  | 0, hj => simp at hj; subst hj; simp [Addr.add]
  | 1, hj => simp at hj; subst hj; simp [Addr.add]
theorem pair_cells (x y : Int) : ∀ u ∈ [Value.int .i64 x, Value.int .i64 y], u.oneCell' = true := by
  intro u hu
  simp at hu
  rcases hu with rfl | rfl <;> rfl
end Go.Proofs.Ytgkpganbepbjnaa

/-
  The hull of points, in plain words: where it starts, which corner is next, where it ends; two ways to find the next corner agree.
-/
import Derived.Test.YtgkpganbepbjnaaHullP
namespace Go.Proofs.Ytgkpganbepbjnaa
set_option linter.unusedVariables false

def pt (ps : List (Int × Int)) (j : Nat) : Int × Int := ps.getD j (0, 0)
/-- s lies lower than t, or as low and to its left. -/
def lowB (s t : Int × Int) : Bool := decide (s.2 < t.2 ∨ (s.2 = t.2 ∧ s.1 < t.1))
def stF (ps : List (Int × Int)) : Nat → Nat
  | 0 => 0
  | k + 1 => if lowB (pt ps k) (pt ps (stF ps k)) = true then k else stF ps k
def crs (a b c : Int × Int) : Int := (b.1 - a.1) * (c.2 - a.2) - (b.2 - a.2) * (c.1 - a.1)
def sqd (a b : Int × Int) : Int := (a.1 - b.1) * (a.1 - b.1) + (a.2 - b.2) * (a.2 - b.2)
/-- From a, s is a better way on than b. -/
def updB (a b s : Int × Int) : Bool := decide (s ≠ a ∧ (b = a ∨ crs a b s < 0 ∨ (crs a b s = 0 ∧ sqd a b < sqd a s)))
def nxF (ps : List (Int × Int)) (at' st : Nat) : Nat → Nat
  | 0 => st
  | k + 1 => if updB (pt ps at') (pt ps (nxF ps at' st k)) (pt ps k) = true then k else nxF ps at' st k
def nxt (ps : List (Int × Int)) (st at' : Nat) : Nat := nxF ps at' st ps.length
def tra (ps : List (Int × Int)) (st : Nat) : Nat → Nat
  | 0 => st
  | k + 1 => nxt ps st (tra ps st k)
def First (ps : List (Int × Int)) (i : Nat) : Prop := i < ps.length ∧ ∀ j, j < i → pt ps j ≠ pt ps i
def Corner (ps : List (Int × Int)) (i : Nat) : Prop := ∃ p1 p2 q1 q2 : Int, ∀ j, j < ps.length → pt ps j ≠ pt ps i → lexp p1 p2 q1 q2 ((pt ps j).1 - (pt ps i).1) ((pt ps j).2 - (pt ps i).2)
def geA (a b x : Int × Int) : Prop := geV (b.1 - a.1) (b.2 - a.2) (x.1 - a.1) (x.2 - a.2)
def Best (ps : List (Int × Int)) (i b : Nat) : Prop := b < ps.length ∧ pt ps b ≠ pt ps i ∧ ∀ j, j < ps.length → pt ps j ≠ pt ps i → geA (pt ps i) (pt ps b) (pt ps j)

theorem pair_ne {a b : Int × Int} (h : a ≠ b) : ¬ (a.1 - b.1 = 0 ∧ a.2 - b.2 = 0) := fun k => h (Prod.ext (by omega) (by omega))
theorem sqd_of (a b : Int × Int) : sqd a b = (b.1 - a.1) * (b.1 - a.1) + (b.2 - a.2) * (b.2 - a.2) := by unfold sqd; grind
theorem updB_yes {a b s : Int × Int} (h : updB a b s = true) : s ≠ a ∧ (b = a ∨ ¬ geA a b s) := by
  have h := of_decide_eq_true h
  refine ⟨h.1, ?_⟩
  rcases h.2 with h2 | h2
  · exact .inl h2
  · refine .inr fun g => ?_
    rw [sqd_of, sqd_of] at h2
    unfold crs at h2
    unfold geA geV at g
    generalize (b.1 - a.1) * (s.2 - a.2) - (b.2 - a.2) * (s.1 - a.1) = C at *
    generalize (s.1 - a.1) * (s.1 - a.1) + (s.2 - a.2) * (s.2 - a.2) = S at *
    generalize (b.1 - a.1) * (b.1 - a.1) + (b.2 - a.2) * (b.2 - a.2) = T at *
    omega
theorem updB_no {a b s : Int × Int} (h : updB a b s = false) : s = a ∨ (b ≠ a ∧ geA a b s) := by
  have h := of_decide_eq_false h
  apply Classical.byContradiction
  intro k
  apply h
  refine ⟨fun e => k (.inl e), ?_⟩
  by_cases e : b = a
  · exact .inl e
  · refine .inr ?_
    have g : ¬ geA a b s := fun g => k (.inr ⟨e, g⟩)
    rw [sqd_of, sqd_of]
    unfold crs
    unfold geA geV at g
    generalize (b.1 - a.1) * (s.2 - a.2) - (b.2 - a.2) * (s.1 - a.1) = C at *
    generalize (s.1 - a.1) * (s.1 - a.1) + (s.2 - a.2) * (s.2 - a.2) = S at *
    generalize (b.1 - a.1) * (b.1 - a.1) + (b.2 - a.2) * (b.2 - a.2) = T at *
    omega
theorem geA_trans {ps : List (Int × Int)} {i x y z : Nat} (hc : Corner ps i) (hx : x < ps.length) (hy : y < ps.length) (hz : z < ps.length) (nx : pt ps x ≠ pt ps i) (ny : pt ps y ≠ pt ps i) (nz : pt ps z ≠ pt ps i)
    (h1 : geA (pt ps i) (pt ps x) (pt ps y)) (h2 : geA (pt ps i) (pt ps y) (pt ps z)) : geA (pt ps i) (pt ps x) (pt ps z) := by
  obtain ⟨p1, p2, q1, q2, hc⟩ := hc
  exact geV_trans (hc x hx nx) (hc y hy ny) (hc z hz nz) h1 h2

theorem low_st (ps : List (Int × Int)) (k : Nat) : (0 < k → stF ps k < k) ∧ (∀ j, j < k → lowB (pt ps j) (pt ps (stF ps k)) = false) ∧ (∀ j, j < stF ps k → pt ps j ≠ pt ps (stF ps k)) := by
  induction k with
  | zero => exact ⟨by omega, by omega, fun j h => by simp [stF] at h⟩
  | succ k ih =>
    obtain ⟨h1, h2, h3⟩ := ih
    unfold stF
    split
    · rename_i h
      have hl := of_decide_eq_true h
      refine ⟨by omega, fun j hj => ?_, fun j hj e => ?_⟩
      · by_cases e : j = k
        · subst e; exact decide_eq_false (by omega)
        · have := of_decide_eq_false (h2 j (by omega))
          exact decide_eq_false (by omega)
      · have := of_decide_eq_false (h2 j hj)
        rw [e] at this
        omega
    · rename_i h
      refine ⟨fun _ => ?_, fun j hj => ?_, h3⟩
      · rcases Nat.eq_zero_or_pos k with h0 | h0
        · subst h0; simp [stF]
        · have := h1 h0; omega
      · by_cases e : j = k
        · subst e; simpa using h
        · exact h2 j (by omega)
theorem st_first {ps : List (Int × Int)} (h : 0 < ps.length) : First ps (stF ps ps.length) := ⟨(low_st ps ps.length).1 h, (low_st ps ps.length).2.2⟩
theorem st_corner {ps : List (Int × Int)} : Corner ps (stF ps ps.length) := by
  refine ⟨0, 1, 1, 0, fun j hj hne => ?_⟩
  have := of_decide_eq_false ((low_st ps ps.length).2.1 j hj)
  have := pair_ne hne
  unfold lexp
  omega

/-- The search for the next corner, as far as k. -/
theorem nx_inv {ps : List (Int × Int)} {i st : Nat} (hc : Corner ps i) (hst : First ps st) (k : Nat) : k ≤ ps.length → First ps (nxF ps i st k) ∧
    (pt ps (nxF ps i st k) = pt ps i → ∀ j, j < k → pt ps j = pt ps i) ∧ (pt ps (nxF ps i st k) ≠ pt ps i → ∀ j, j < k → pt ps j ≠ pt ps i → geA (pt ps i) (pt ps (nxF ps i st k)) (pt ps j)) := by
  induction k with
  | zero => intro _; exact ⟨hst, fun _ j h => by omega, fun _ j h => by omega⟩
  | succ k ih =>
    intro hk
    obtain ⟨h1, h2, h3⟩ := ih (by omega)
    unfold nxF
    split
    · rename_i hu
      obtain ⟨u1, u2⟩ := updB_yes hu
      refine ⟨⟨by omega, fun j hj e => ?_⟩, fun e => absurd e u1, fun _ j hj hne => ?_⟩
      · by_cases b : pt ps (nxF ps i st k) = pt ps i
        · exact u1 (by rw [← e]; exact h2 b j hj)
        · rcases u2 with u2 | u2
          · exact b u2
          · apply u2
            rw [← e]
            exact h3 b j hj (by rw [e]; exact u1)
      · by_cases e : j = k
        · subst e; exact geV_refl _ _
        · by_cases b : pt ps (nxF ps i st k) = pt ps i
          · exact absurd (h2 b j (by omega)) hne
          · rcases u2 with u2 | u2
            · exact absurd u2 b
            · exact geA_trans hc (by omega) h1.1 (by omega) u1 b hne (geV_total u2) (h3 b j (by omega) hne)
    · rename_i hu
      have u := updB_no (by simpa using hu)
      refine ⟨h1, fun b j hj => ?_, fun b j hj hne => ?_⟩
      · by_cases e : j = k
        · subst e
          rcases u with u | u
          · exact u
          · exact absurd b u.1
        · exact h2 b j (by omega)
      · by_cases e : j = k
        · subst e
          rcases u with u | u
          · exact absurd u hne
          · exact u.2
        · exact h3 b j (by omega) hne
theorem nxt_spec {ps : List (Int × Int)} {i st : Nat} (hc : Corner ps i) (hst : First ps st) : First ps (nxt ps st i) ∧ ((pt ps (nxt ps st i) = pt ps i ∧ ∀ j, j < ps.length → pt ps j = pt ps i) ∨ Best ps i (nxt ps st i)) := by
  obtain ⟨h1, h2, h3⟩ := nx_inv hc hst ps.length (Nat.le_refl _)
  refine ⟨h1, ?_⟩
  by_cases e : pt ps (nxt ps st i) = pt ps i
  · exact .inl ⟨e, h2 e⟩
  · exact .inr ⟨h1.1, e, h3 e⟩
theorem first_eq {ps : List (Int × Int)} {x y : Nat} (hx : First ps x) (hy : First ps y) (e : pt ps x = pt ps y) : x = y := by
  rcases Nat.lt_trichotomy x y with h | h | h
  · exact absurd e (hy.2 x h)
  · exact h
  · exact absurd e.symm (hx.2 y h)
theorem best_unique {ps : List (Int × Int)} {i x y : Nat} (hc : Corner ps i) (hx : Best ps i x) (hy : Best ps i y) (fx : First ps x) (fy : First ps y) : x = y := by
  obtain ⟨p1, p2, q1, q2, hc⟩ := hc
  have := geV_anti (hc x hx.1 hx.2.1) (hc y hy.1 hy.2.1) (hx.2.2 y hy.1 hy.2.1) (hy.2.2 x hx.1 hx.2.1)
  exact first_eq fx fy (Prod.ext (by omega) (by omega))
theorem best_corner {ps : List (Int × Int)} {i b : Nat} (h : Best ps i b) : Corner ps b := by
  obtain ⟨h1, h2, h3⟩ := h
  refine ⟨-((pt ps b).2 - (pt ps i).2), (pt ps b).1 - (pt ps i).1, -((pt ps b).1 - (pt ps i).1), -((pt ps b).2 - (pt ps i).2), fun j hj hne => ?_⟩
  by_cases e : pt ps j = pt ps i
  · rw [e]
    have := geV_back (pair_ne h2)
    rwa [show (0 : Int) - ((pt ps b).1 - (pt ps i).1) = (pt ps i).1 - (pt ps b).1 by omega, show (0 : Int) - ((pt ps b).2 - (pt ps i).2) = (pt ps i).2 - (pt ps b).2 by omega] at this
  · have := geV_next (h3 j hj e) (fun k => hne (Prod.ext (by omega) (by omega)))
    rwa [show (pt ps j).1 - (pt ps i).1 - ((pt ps b).1 - (pt ps i).1) = (pt ps j).1 - (pt ps b).1 by omega, show (pt ps j).2 - (pt ps i).2 - ((pt ps b).2 - (pt ps i).2) = (pt ps j).2 - (pt ps b).2 by omega] at this
/-- Two corners have no corner in common that is next. -/
theorem best_inj {ps : List (Int × Int)} {i k c : Nat} (hi : i < ps.length) (hk : k < ps.length) (ci : Corner ps i) (ck : Corner ps k) (cc : Corner ps c) (h1 : Best ps i c) (h2 : Best ps k c) (hne : pt ps k ≠ pt ps i) : False := by
  have g1 := h1.2.2 k hk hne
  have g2 := h2.2.2 i hi (Ne.symm hne)
  have n1 := pair_ne h1.2.1
  have n2 := pair_ne hne
  have n3 := pair_ne h2.2.1
  obtain ⟨p1, p2, p3, p4, ci⟩ := ci
  obtain ⟨r1, r2, r3, r4, ck⟩ := ck
  obtain ⟨s1, s2, s3, s4, cc⟩ := cc
  have a1 := ci c h1.1 h1.2.1
  have a2 := ci k hk hne
  have b1 := ck i hi (Ne.symm hne)
  have b2 := ck c h2.1 h2.2.1
  have c1 := cc i hi (Ne.symm h1.2.1)
  have c2 := cc k hk (Ne.symm h2.2.1)
  unfold geA at g1 g2
  generalize hx : (pt ps c).1 - (pt ps i).1 = x at *
  generalize hy : (pt ps c).2 - (pt ps i).2 = y at *
  generalize hu : (pt ps k).1 - (pt ps i).1 = u at *
  generalize hv : (pt ps k).2 - (pt ps i).2 = v at *
  rw [show (pt ps i).1 - (pt ps k).1 = 0 - u by omega, show (pt ps i).2 - (pt ps k).2 = 0 - v by omega] at b1 g2
  rw [show (pt ps c).1 - (pt ps k).1 = x - u by omega, show (pt ps c).2 - (pt ps k).2 = y - v by omega] at b2 g2
  rw [show (pt ps i).1 - (pt ps c).1 = 0 - x by omega, show (pt ps i).2 - (pt ps c).2 = 0 - y by omega] at c1
  rw [show (pt ps k).1 - (pt ps c).1 = u - x by omega, show (pt ps k).2 - (pt ps c).2 = v - y by omega] at c2
  have e1 : (x - u) * (0 - v) - (y - v) * (0 - u) = -(x * v - y * u) := by grind
  have hc : x * v - y * u = 0 := by
    unfold geV at g1 g2
    rw [e1] at g2
    generalize x * v - y * u = C at *
    omega
  rcases three n1 n2 (fun k => n3 ⟨by omega, by omega⟩) hc with h | h | h
  · exact lexp_opp a1 a2 hc h
  · exact lexp_opp b1 b2 (by have : (0 - u) * (y - v) - (0 - v) * (x - u) = x * v - y * u := (by grind); omega) h
  · exact lexp_opp c1 c2 (by have : (0 - x) * (v - y) - (0 - y) * (u - x) = -(x * v - y * u) := (by grind); omega) h

theorem nodup_le (n : Nat) : ∀ l : List Nat, l.Nodup → (∀ x ∈ l, x < n) → l.length ≤ n := by
  induction n with
  | zero => intro l _ h; cases l with
    | nil => simp
    | cons a l => have := h a (by simp); omega
  | succ n ih =>
    intro l hl h
    have h1 := ih (l.erase n) (hl.erase n) (fun x hx => by
      have h2 := (List.Nodup.mem_erase_iff hl).1 hx
      have := h x h2.2
      have := h2.1
      omega)
    have h3 : l.length ≤ (l.erase n).length + 1 := by
      rw [List.length_erase]
      split <;> omega
    omega

/-- The way so far, as long as it has not come back. -/
structure Way' (ps : List (Int × Int)) (st k : Nat) : Prop where
  first : ∀ j, j ≤ k → First ps (tra ps st j)
  corner : ∀ j, j ≤ k → Corner ps (tra ps st j)
  best : ∀ j, j < k → Best ps (tra ps st j) (tra ps st (j + 1))
  apart : ∀ i j, i < j → j ≤ k → pt ps (tra ps st i) ≠ pt ps (tra ps st j)
theorem way_zero {ps : List (Int × Int)} (h : 0 < ps.length) : Way' ps (stF ps ps.length) 0 := by
  refine ⟨fun j hj => ?_, fun j hj => ?_, fun j hj => by omega, fun i j h1 h2 => by omega⟩
  · rw [show j = 0 by omega]; exact st_first h
  · rw [show j = 0 by omega]; exact st_corner
theorem way_next {ps : List (Int × Int)} {st k : Nat} (h : Way' ps st k) (hn : pt ps (tra ps st (k + 1)) ≠ pt ps st) : Way' ps st (k + 1) := by
  have h0 : First ps st := h.first 0 (by omega)
  obtain ⟨f, c⟩ := nxt_spec (h.corner k (Nat.le_refl _)) h0
  have b : Best ps (tra ps st k) (tra ps st (k + 1)) := by
    rcases c with ⟨c1, c2⟩ | c
    · exact absurd ((c1.trans (c2 st h0.1).symm)) hn
    · exact c
  have cc := best_corner b
  refine ⟨fun j hj => ?_, fun j hj => ?_, fun j hj => ?_, fun i j h1 h2 => ?_⟩
  · by_cases e : j = k + 1
    · rw [e]; exact f
    · exact h.first j (by omega)
  · by_cases e : j = k + 1
    · rw [e]; exact cc
    · exact h.corner j (by omega)
  · by_cases e : j = k
    · rw [e]; exact b
    · exact h.best j (by omega)
  · by_cases e : j = k + 1
    · subst e
      intro e
      cases i with
      | zero => exact hn e.symm
      | succ i =>
        have e2 : tra ps st (i + 1) = tra ps st (k + 1) := first_eq (h.first (i + 1) (by omega)) f e
        have b2 := h.best i (by omega)
        rw [e2] at b2
        exact best_inj (h.first k (Nat.le_refl _)).1 (h.first i (by omega)).1 (h.corner k (Nat.le_refl _)) (h.corner i (by omega)) cc b b2 (h.apart i k (by omega) (Nat.le_refl _))
    · exact h.apart i j h1 (by omega)
theorem way_short {ps : List (Int × Int)} {st k : Nat} (h : Way' ps st k) : k < ps.length := by
  have hn := nodup_le ps.length ((List.range (k + 1)).map (tra ps st)) (by
    unfold List.Nodup
    rw [List.pairwise_map]
    refine List.Pairwise.imp_of_mem (R := (· < ·)) ?_ List.pairwise_lt_range
    intro a b ha hb hab e
    exact h.apart a b hab (by simp at hb; omega) (by rw [e])) (by
    intro x hx
    simp at hx
    obtain ⟨j, hj, rfl⟩ := hx
    exact (h.first j (by omega)).1)
  simp at hn
  omega
theorem way_ends {ps : List (Int × Int)} (h : 0 < ps.length) : ∃ k, k < ps.length ∧ Way' ps (stF ps ps.length) k ∧ pt ps (tra ps (stF ps ps.length) (k + 1)) = pt ps (stF ps ps.length) := by
  apply Classical.byContradiction
  intro hno
  have all : ∀ k, k ≤ ps.length → Way' ps (stF ps ps.length) k := by
    intro k
    induction k with
    | zero => intro _; exact way_zero h
    | succ k ih =>
      intro hk
      have w := ih (by omega)
      exact way_next w (fun e => hno ⟨k, by omega, w, e⟩)
  have := way_short (all ps.length (Nat.le_refl _))
  omega
end Go.Proofs.Ytgkpganbepbjnaa

/-
  The hull as a list; the reference's way to the next corner.
-/
import Derived.Test.YtgkpganbepbjnaaHullQ
namespace Go.Proofs.Ytgkpganbepbjnaa
set_option linter.unusedVariables false

/-- The least number below n of which p holds; n if there is none. -/
def firstK (p : Nat → Bool) : Nat → Nat
  | 0 => 0
  | n + 1 => if firstK p n < n then firstK p n else if p n = true then n else n + 1
theorem firstK_eq {p : Nat → Bool} {n : Nat} : ∀ {k : Nat}, k < n → p k = true → (∀ j, j < k → p j = false) → firstK p n = k := by
  have none : ∀ m k : Nat, m ≤ k → (∀ j, j < k → p j = false) → firstK p m = m := by
    intro m
    induction m with
    | zero => intro k _ _; rfl
    | succ m ih =>
      intro k hk h
      have h1 := ih k (by omega) h
      have h2 := h m (by omega)
      simp [firstK, h1, h2]
  induction n with
  | zero => intro k h _ _; omega
  | succ n ih =>
    intro k hk hp hb
    rcases Nat.lt_or_ge k n with h | h
    · have := ih h hp hb
      simp only [firstK, this, if_pos h]
    · obtain rfl : k = n := by omega
      have := none k k (Nat.le_refl _) hb
      simp [firstK, this, hp]
def backB (ps : List (Int × Int)) (st k : Nat) : Bool := decide (pt ps (tra ps st (k + 1)) = pt ps st)
def hulK (ps : List (Int × Int)) : Nat := firstK (backB ps (stF ps ps.length)) ps.length
def hulT (ps : List (Int × Int)) (k : Nat) : List Int := (List.range k).map fun j => (tra ps (stF ps ps.length) j : Int)
/-- The corners of the hull, in their order. -/
def hulL (ps : List (Int × Int)) : List Int := if ps.length = 0 then [] else hulT ps (hulK ps + 1)
theorem hulT_succ (ps : List (Int × Int)) (k : Nat) : hulT ps (k + 1) = hulT ps k ++ [(tra ps (stF ps ps.length) k : Int)] := by simp [hulT, List.range_succ]
theorem hulT_length (ps : List (Int × Int)) (k : Nat) : (hulT ps k).length = k := by simp [hulT]
/-- On the way: k corners behind, none of them came back. -/
structure OnWay (ps : List (Int × Int)) (k : Nat) : Prop where
  way : Way' ps (stF ps ps.length) k
  not : ∀ j, j < k → backB ps (stF ps ps.length) j = false
theorem on_zero {ps : List (Int × Int)} (h : 0 < ps.length) : OnWay ps 0 := ⟨way_zero h, fun j hj => by omega⟩
theorem on_next {ps : List (Int × Int)} {k : Nat} (h : OnWay ps k) (hb : backB ps (stF ps ps.length) k = false) : OnWay ps (k + 1) :=
  ⟨way_next h.way (of_decide_eq_false hb), fun j hj => by
    by_cases e : j = k
    · rw [e]; exact hb
    · exact h.not j (by omega)⟩
theorem on_lt {ps : List (Int × Int)} {k : Nat} (h : OnWay ps k) : k < ps.length := way_short h.way
theorem on_end {ps : List (Int × Int)} {k : Nat} (h : OnWay ps k) (hb : backB ps (stF ps ps.length) k = true) : hulT ps (k + 1) = hulL ps := by
  have h1 := on_lt h
  have h2 : hulK ps = k := firstK_eq h1 hb h.not
  rw [hulL, if_neg (by omega), h2]
theorem hul_le (ps : List (Int × Int)) : (hulL ps).length ≤ ps.length := by
  unfold hulL
  split
  · simp
  · rename_i h
    obtain ⟨k, hk, w, e⟩ := way_ends (ps := ps) (by omega)
    rw [hulT_length]
    have : ∀ m, (firstK (backB ps (stF ps ps.length)) m) ≤ m := by
      intro m
      induction m with
      | zero => simp [firstK]
      | succ m ih => simp only [firstK]; split <;> (try split) <;> omega
    have none : ∀ m, firstK (backB ps (stF ps ps.length)) m = m → ∀ j, j < m → backB ps (stF ps ps.length) j = false := by
      intro m
      induction m with
      | zero => intro _ j hj; omega
      | succ m ih =>
        intro h j hj
        simp only [firstK] at h
        split at h
        · omega
        · rename_i hlt
          split at h
          · omega
          · rename_i hp
            by_cases ej : j = m
            · rw [ej]; simpa using hp
            · have := this m
              exact ih (by omega) j (by omega)
    have h1 := this ps.length
    rcases Nat.lt_or_ge (hulK ps) ps.length with h2 | h2
    · exact h2
    · have := none ps.length (by unfold hulK at h2; omega) k hk
      rw [backB, decide_eq_false_iff_not] at this
      exact absurd e this

def firstB (ps : List (Int × Int)) (i : Nat) : Bool := (List.range i).all fun k => decide (pt ps k ≠ pt ps i)
theorem firstB_yes {ps : List (Int × Int)} {i : Nat} (hi : i < ps.length) : firstB ps i = true ↔ First ps i := by
  unfold firstB First
  rw [List.all_eq_true]
  exact ⟨fun h => ⟨hi, fun j hj => of_decide_eq_true (h j (List.mem_range.2 hj))⟩, fun h j hj => decide_eq_true (h.2 j (List.mem_range.1 hj))⟩
/-- The indices below k at which a point comes first. -/
def ownT (ps : List (Int × Int)) (k : Nat) : List Nat := (List.range k).filter (firstB ps)
theorem ownT_yes {ps : List (Int × Int)} {k : Nat} (h : firstB ps k = true) : ownT ps (k + 1) = ownT ps k ++ [k] := by simp [ownT, List.range_succ, List.filter_append, h]
theorem ownT_no {ps : List (Int × Int)} {k : Nat} (h : firstB ps k = false) : ownT ps (k + 1) = ownT ps k := by simp [ownT, List.range_succ, List.filter_append, h]
theorem ownT_le (ps : List (Int × Int)) (k : Nat) : (ownT ps k).length ≤ k := by
  have := List.length_filter_le (firstB ps) (List.range k)
  simpa [ownT] using this
theorem ownT_first {ps : List (Int × Int)} {x : Nat} (hx : x ∈ ownT ps ps.length) : First ps x := by
  have := List.mem_filter.1 hx
  have hl := List.mem_range.1 this.1
  exact (firstB_yes hl).1 this.2
theorem first_of {ps : List (Int × Int)} (j : Nat) : j < ps.length → ∃ i, i ≤ j ∧ First ps i ∧ pt ps i = pt ps j := by
  induction j using Nat.strongRecOn with
  | ind j ih =>
    intro hj
    by_cases h : First ps j
    · exact ⟨j, Nat.le_refl _, h, rfl⟩
    · have : ∃ k, k < j ∧ pt ps k = pt ps j := by
        apply Classical.byContradiction
        intro hn
        exact h ⟨hj, fun k hk e => hn ⟨k, hk, e⟩⟩
      obtain ⟨k, hk, e⟩ := this
      obtain ⟨i, hi, fi, ei⟩ := ih k hk (by omega)
      exact ⟨i, by omega, fi, ei.trans e⟩
theorem own_mem {ps : List (Int × Int)} {i : Nat} (h : First ps i) : i ∈ ownT ps ps.length := List.mem_filter.2 ⟨List.mem_range.2 h.1, (firstB_yes h.1).2 h⟩
/-- A point that came before does not move the start. -/
theorem st_same {ps : List (Int × Int)} {i : Nat} (h : firstB ps i = false) : stF ps (i + 1) = stF ps i := by
  unfold firstB at h
  rw [List.all_eq_false] at h
  obtain ⟨k, hk, e⟩ := h
  have hk := List.mem_range.1 hk
  have e : pt ps k = pt ps i := by simpa using e
  have := (low_st ps i).2.1 k hk
  rw [e] at this
  simp [stF, this]
theorem st_one (ps : List (Int × Int)) : stF ps 1 = 0 := by
  show (if lowB (pt ps 0) (pt ps 0) = true then 0 else 0) = 0
  split <;> rfl
/-- What the reference's search has found among the indices L. -/
def Scan (ps : List (Int × Int)) (i : Nat) (L : List Nat) (b : Int) : Prop :=
  (b = -1 ∧ ∀ x ∈ L, x = i) ∨ (∃ n : Nat, b = n ∧ First ps n ∧ pt ps n ≠ pt ps i ∧ ∀ x ∈ L, pt ps x ≠ pt ps i → geA (pt ps i) (pt ps n) (pt ps x))
theorem scan_start (ps : List (Int × Int)) (i : Nat) : Scan ps i [] (-1) := .inl ⟨rfl, fun x h => by simp at h⟩
theorem mem_snoc {L : List Nat} {x y : Nat} (h : y ∈ L ++ [x]) : y ∈ L ∨ y = x := by simpa using h
theorem scan_self {ps : List (Int × Int)} {i : Nat} {L : List Nat} {b : Int} (h : Scan ps i L b) : Scan ps i (L ++ [i]) b := by
  rcases h with ⟨h1, h2⟩ | ⟨n, h1, h2, h3, h4⟩
  · exact .inl ⟨h1, fun x hx => by rcases mem_snoc hx with h | h; exact h2 x h; exact h⟩
  · refine .inr ⟨n, h1, h2, h3, fun x hx hne => ?_⟩
    rcases mem_snoc hx with h | h
    · exact h4 x h hne
    · exact absurd (by rw [h]) hne
theorem scan_new {ps : List (Int × Int)} {i x : Nat} {L : List Nat} {b : Int} (h : Scan ps i L b) (hb : b < 0) (hi : First ps i) (hx : First ps x) (hne : x ≠ i) : Scan ps i (L ++ [x]) x := by
  rcases h with ⟨h1, h2⟩ | ⟨n, h1, h2, h3, h4⟩
  · refine .inr ⟨x, rfl, hx, fun e => hne (first_eq hx hi e), fun y hy hyne => ?_⟩
    rcases mem_snoc hy with h | h
    · exact absurd (by rw [h2 y h]) hyne
    · rw [h]; exact geV_refl _ _
  · omega
def betB (a b s : Int × Int) : Bool := decide (crs a b s < 0 ∨ (crs a b s = 0 ∧ sqd a b < sqd a s))
theorem betB_iff {a b s : Int × Int} : betB a b s = false ↔ geA a b s := by
  unfold betB
  rw [decide_eq_false_iff_not, sqd_of, sqd_of]
  unfold crs geA geV
  generalize (b.1 - a.1) * (s.2 - a.2) - (b.2 - a.2) * (s.1 - a.1) = C
  generalize (s.1 - a.1) * (s.1 - a.1) + (s.2 - a.2) * (s.2 - a.2) = S
  generalize (b.1 - a.1) * (b.1 - a.1) + (b.2 - a.2) * (b.2 - a.2) = T
  omega
theorem scan_keep {ps : List (Int × Int)} {i x n : Nat} {L : List Nat} (h : Scan ps i L n) (hb : betB (pt ps i) (pt ps n) (pt ps x) = false) : Scan ps i (L ++ [x]) n := by
  rcases h with ⟨h1, h2⟩ | ⟨m, h1, h2, h3, h4⟩
  · omega
  · obtain rfl : n = m := by omega
    refine .inr ⟨n, rfl, h2, h3, fun y hy hyne => ?_⟩
    rcases mem_snoc hy with h | h
    · exact h4 y h hyne
    · rw [h]; exact betB_iff.1 hb
theorem scan_better {ps : List (Int × Int)} {i x n : Nat} {L : List Nat} (h : Scan ps i L n) (hc : Corner ps i) (hL : ∀ y ∈ L, y < ps.length) (hi : First ps i) (hx : First ps x) (hne : x ≠ i) (hb : betB (pt ps i) (pt ps n) (pt ps x) = true) : Scan ps i (L ++ [x]) x := by
  rcases h with ⟨h1, h2⟩ | ⟨m, h1, h2, h3, h4⟩
  · omega
  · obtain rfl : n = m := by omega
    have hxne : pt ps x ≠ pt ps i := fun e => hne (first_eq hx hi e)
    have hg : ¬ geA (pt ps i) (pt ps n) (pt ps x) := fun g => by rw [betB_iff.2 g] at hb; cases hb
    refine .inr ⟨x, rfl, hx, hxne, fun y hy hyne => ?_⟩
    rcases mem_snoc hy with h | h
    · exact geA_trans hc hx.1 h2.1 (hL y h) hxne h3 hyne (geV_total hg) (h4 y h hyne)
    · rw [h]; exact geV_refl _ _
/-- The reference's search ends at the next corner, or finds that there is one point only. -/
theorem scan_end {ps : List (Int × Int)} {i st : Nat} {b : Int} (h : Scan ps i (ownT ps ps.length) b) (hc : Corner ps i) (hi : First ps i) (hst : First ps st) :
    (b = -1 ∧ pt ps (nxt ps st i) = pt ps st ∧ st = i) ∨ (b = nxt ps st i) := by
  obtain ⟨f, c⟩ := nxt_spec hc hst
  rcases h with ⟨h1, h2⟩ | ⟨n, h1, h2, h3, h4⟩
  · refine .inl ⟨h1, ?_, h2 st (own_mem hst)⟩
    rw [h2 _ (own_mem f), h2 st (own_mem hst)]
  · refine .inr ?_
    have bn : Best ps i n := ⟨h2.1, h3, fun j hj hne => by
      obtain ⟨k, hk, fk, ek⟩ := first_of j hj
      rw [← ek] at hne ⊢
      exact h4 k (own_mem fk) hne⟩
    rcases c with ⟨c1, c2⟩ | c
    · exact absurd (c2 n h2.1) h3
    · rw [h1, best_unique hc bn c h2 f]
theorem back_iff {ps : List (Int × Int)} {k : Nat} (h : OnWay ps k) : backB ps (stF ps ps.length) k = true ↔ tra ps (stF ps ps.length) (k + 1) = stF ps ps.length := by
  have h0 := h.way.first 0 (by omega)
  obtain ⟨f, _⟩ := nxt_spec (h.way.corner k (Nat.le_refl _)) h0
  unfold backB
  rw [decide_eq_true_iff]
  exact ⟨fun e => first_eq f h0 e, fun e => by rw [e]⟩
end Go.Proofs.Ytgkpganbepbjnaa

/-
  The reference's hull, in plain words: the points that come first, the start, the way.
-/
import Derived.Test.YtgkpganbepbjnaaHuP
namespace Go.Proofs.Ytgkpganbepbjnaa
set_option linter.unusedVariables false
set_option linter.unusedSimpArgs false

def frB (ps : List (Int × Int)) (i k : Nat) : Bool := (List.range k).all fun t => decide (pt ps t ≠ pt ps i)
theorem frB_zero (ps : List (Int × Int)) (i : Nat) : true = frB ps i 0 := rfl
theorem frB_end (ps : List (Int × Int)) (i : Nat) : frB ps i i = firstB ps i := rfl
theorem frB_succ (ps : List (Int × Int)) (i k : Nat) : (frB ps i k && !(eqP (pt ps k) (pt ps i))) = frB ps i (k + 1) := by
  unfold frB eqP
  rw [List.range_succ, List.all_append]
  simp
theorem firstB_zero (ps : List (Int × Int)) : firstB ps 0 = true := rfl
def stI (ps : List (Int × Int)) (k : Nat) : Int := if k = 0 then -1 else (stF ps k : Int)
theorem stI_zero (ps : List (Int × Int)) : stI ps 0 = -1 := rfl
theorem stI_pos {ps : List (Int × Int)} {k : Nat} (h : 0 < k) : stI ps k = (stF ps k : Int) := by rw [stI, if_neg (by omega)]
def b13 (ps : List (Int × Int)) (i : Nat) : Bool := decide (i = 0) || lowB (pt ps i) (pt ps (stF ps i))
theorem stI_take {ps : List (Int × Int)} {i : Nat} (h : b13 ps i = true) : (i : Int) = stI ps (i + 1) := by
  rw [stI_pos (by omega)]
  by_cases hi : i = 0
  · subst hi; rw [st_one]
  · have : lowB (pt ps i) (pt ps (stF ps i)) = true := by simpa [b13, hi] using h
    rw [← st_take this]
theorem stI_keep {ps : List (Int × Int)} {i : Nat} (h : b13 ps i = false) : stI ps i = stI ps (i + 1) := by
  have hi : i ≠ 0 := fun e => by subst e; simp [b13] at h
  have : lowB (pt ps i) (pt ps (stF ps i)) = false := by simpa [b13, hi] using h
  rw [stI_pos (by omega), stI_pos (by omega), ← st_keep this]
theorem stI_same {ps : List (Int × Int)} {i : Nat} (h : firstB ps i = false) : stI ps i = stI ps (i + 1) := by
  have hi : i ≠ 0 := fun e => by subst e; rw [firstB_zero] at h; cases h
  rw [stI_pos (by omega), stI_pos (by omega), st_same h]
def ownI (ps : List (Int × Int)) (k : Nat) : List Int := (ownT ps k).map fun (x : Nat) => (x : Int)
theorem ownI_yes {ps : List (Int × Int)} {k : Nat} (h : firstB ps k = true) : ownI ps (k + 1) = ownI ps k ++ [(k : Int)] := by simp [ownI, ownT_yes h]
theorem ownI_no {ps : List (Int × Int)} {k : Nat} (h : firstB ps k = false) : ownI ps k = ownI ps (k + 1) := by simp [ownI, ownT_no h]
theorem ownI_len (ps : List (Int × Int)) (k : Nat) : (ownI ps k).length = (ownT ps k).length := by simp [ownI]
theorem own_at {ps : List (Int × Int)} {m : Nat} (h : m < (ownT ps ps.length).length) :
    ∃ X : Nat, (ownI ps ps.length).getD m 0 = (X : Int) ∧ First ps X ∧ (ownT ps ps.length).take (m + 1) = (ownT ps ps.length).take m ++ [X] := by
  refine ⟨(ownT ps ps.length)[m], ?_, ownT_first (List.getElem_mem h), ?_⟩
  · rw [ownI, List.getD_eq_getElem?_getD, List.getElem?_map, List.getElem?_eq_getElem h]
    rfl
  · rw [List.take_add_one, List.getElem?_eq_getElem h]
    rfl
theorem scan_nat {ps : List (Int × Int)} {i : Nat} {L : List Nat} {b : Int} (h : Scan ps i L b) : b = -1 ∨ ∃ n : Nat, b = n ∧ First ps n := by
  rcases h with h | ⟨n, h1, h2, _⟩
  · exact .inl h.1
  · exact .inr ⟨n, h1, h2⟩
/-- How far the hull has come: done, or on its way. -/
def HSt (ps : List (Int × Int)) (t : Int) (O : List Int) : Prop := (t = -1 ∧ O = hulL ps) ∨ (∃ k : Nat, t = (tra ps (stF ps ps.length) k : Int) ∧ O = hulT ps k ∧ OnWay ps k)
theorem HSt_start (ps : List (Int × Int)) : HSt ps (stI ps ps.length) [] := by
  by_cases h : ps.length = 0
  · refine .inl ⟨by rw [h]; rfl, hul_zero h⟩
  · exact .inr ⟨0, stI_pos (by omega), rfl, on_zero (by omega)⟩
theorem HSt_none {ps : List (Int × Int)} {k : Nat} (h : OnWay ps k) (hs : Scan ps (tra ps (stF ps ps.length) k) (ownT ps ps.length) (-1)) : HSt ps (-1) (hulT ps (k + 1)) := by
  have h0 := h.way.first 0 (by omega)
  rcases scan_end hs (h.way.corner k (Nat.le_refl _)) (h.way.first k (Nat.le_refl _)) h0 with ⟨_, h2, h3⟩ | h2
  · exact .inl ⟨rfl, on_end h (decide_eq_true h2)⟩
  · omega
theorem HSt_back {ps : List (Int × Int)} {k : Nat} {t : Int} (h : OnWay ps k) (hs : Scan ps (tra ps (stF ps ps.length) k) (ownT ps ps.length) t) (he : t = (stF ps ps.length : Int)) : HSt ps (-1) (hulT ps (k + 1)) := by
  have h0 := h.way.first 0 (by omega)
  rcases scan_end hs (h.way.corner k (Nat.le_refl _)) (h.way.first k (Nat.le_refl _)) h0 with ⟨h1, _, _⟩ | h2
  · omega
  · refine .inl ⟨rfl, on_end h ((back_iff h).2 ?_)⟩
    show nxt ps (stF ps ps.length) (tra ps (stF ps ps.length) k) = _
    have : ((nxt ps (tra ps (stF ps ps.length) 0) (tra ps (stF ps ps.length) k) : Nat) : Int) = (stF ps ps.length : Int) := by rw [← h2, he]
    exact Int.ofNat.inj this
theorem HSt_on {ps : List (Int × Int)} {k : Nat} {t : Int} (h : OnWay ps k) (hs : Scan ps (tra ps (stF ps ps.length) k) (ownT ps ps.length) t) (h0 : 0 ≤ t) (he : t ≠ (stF ps ps.length : Int)) : HSt ps t (hulT ps (k + 1)) := by
  have hf := h.way.first 0 (by omega)
  rcases scan_end hs (h.way.corner k (Nat.le_refl _)) (h.way.first k (Nat.le_refl _)) hf with ⟨h1, _, _⟩ | h2
  · omega
  · have ht : t = (tra ps (stF ps ps.length) (k + 1) : Int) := h2
    refine .inr ⟨k + 1, ht, rfl, on_next h ?_⟩
    cases hb : backB ps (stF ps ps.length) k
    · rfl
    · have := (back_iff h).1 hb
      rw [this] at ht
      exact absurd ht he
theorem betB_turn {a b s : Int × Int} (h : crs a b s < 0) : betB a b s = true := by simp [betB, h]
theorem betB_past {a b s : Int × Int} (h : ¬ crs a b s < 0) (h4 : ¬ crs a b s = 0) : betB a b s = false := by simp [betB, h4]; omega
theorem betB_line {a b s : Int × Int} (h4 : crs a b s = 0) : betB a b s = decide (sqd a b < sqd a s) := by simp [betB, h4]
end Go.Proofs.Ytgkpganbepbjnaa

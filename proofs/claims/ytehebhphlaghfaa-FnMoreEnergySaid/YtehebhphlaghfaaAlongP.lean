/-
  Swings along a row of torques: the plain words.
-/
import Derived.Test.YtehebhphlaghfaaSwPlain
import Derived.Test.YtehebhphlaghfaaAfter
namespace Go.Proofs.Ytehebhphlaghfaa
set_option linter.unusedVariables false

def alT (u i l m q : Int) (j : Nat) (s : Int × Int × List Int) : Option (Int × Int × List Int) :=
  if afOk u l q s.1 s.2.1 = true then some (aE u i l m q s.1 s.2.1, aK u l q s.1 s.2.1, if swT u l q s.1 = true then s.2.2 else s.2.2 ++ [(j : Int)]) else none
/-- The state behind j swings, and the swings without a tick. -/
def alS (u i l m : Int) (qs : List Int) (n k : Int) : Nat → Option (Int × Int × List Int)
  | 0 => some (n, k, [])
  | j + 1 => (alS u i l m qs n k j).bind (alT u i l m (qs.getD j 0) j)
theorem alS_stop {u i l m n k : Int} {qs : List Int} {j : Nat} (h : alS u i l m qs n k j = none) : ∀ {M : Nat}, j ≤ M → alS u i l m qs n k M = none := by
  intro M hM
  induction M with
  | zero => rw [show 0 = j by omega]; exact h
  | succ M ih =>
    rcases Nat.lt_or_ge j (M + 1) with h1 | h1
    · simp only [alS, ih (by omega), Option.bind]
    · rw [show M + 1 = j by omega]; exact h
theorem alS_no {u i l m n k x y : Int} {qs ms : List Int} {j M : Nat} (h : alS u i l m qs n k j = some (x, y, ms)) (hf : afOk u l (qs.getD j 0) x y = false) (hM : j < M) : alS u i l m qs n k M = none := by
  apply alS_stop (j := j + 1) _ hM
  simp only [alS, h, Option.bind, alT, hf, Bool.false_eq_true, if_false]
theorem alS_tick {u i l m n k x y : Int} {qs ms : List Int} {j : Nat} (h : alS u i l m qs n k j = some (x, y, ms)) (hf : afOk u l (qs.getD j 0) x y = true) (ht : swT u l (qs.getD j 0) x = true) :
    alS u i l m qs n k (j + 1) = some (aE u i l m (qs.getD j 0) x y, aK u l (qs.getD j 0) x y, ms) := by
  simp only [alS, h, Option.bind, alT, if_pos hf, if_pos ht]
theorem alS_miss {u i l m n k x y : Int} {qs ms : List Int} {j : Nat} (h : alS u i l m qs n k j = some (x, y, ms)) (hf : afOk u l (qs.getD j 0) x y = true) (ht : swT u l (qs.getD j 0) x = false) :
    alS u i l m qs n k (j + 1) = some (aE u i l m (qs.getD j 0) x y, aK u l (qs.getD j 0) x y, ms ++ [(j : Int)]) := by
  simp only [alS, h, Option.bind, alT, if_pos hf, ht, Bool.false_eq_true, if_false]

def okQs (qs : List Int) : Bool := decide (qs.length ≤ 2000) && qs.all (fun q => inB q 0 1000)
theorem okQs_bad {qs : List Int} {j N : Nat} (hn : qs.length = N) (hj : j < N) (h : inB (qs.getD j 0) 0 1000 = false) : okQs qs = false := by
  have : qs.all (fun q => inB q 0 1000) = false := by
    rw [List.all_eq_false]
    refine ⟨qs.getD j 0, ?_, by rw [h]; simp⟩
    rw [List.getD_eq_getElem?_getD, List.getElem?_eq_getElem (by omega)]
    exact List.getElem_mem _
  rw [okQs, this, Bool.and_false]
theorem okQs_long {qs : List Int} {N : Nat} (hn : qs.length = N) (hj : 2000 < N) : okQs qs = false := by
  have : decide (qs.length ≤ 2000) = false := by simp; omega
  rw [okQs, this, Bool.false_and]
theorem okQs_yes {qs : List Int} {N : Nat} (hn : qs.length = N) (hj : N ≤ 2000) (h : ∀ j, j < N → inB (qs.getD j 0) 0 1000 = true) : okQs qs = true := by
  have : qs.all (fun q => inB q 0 1000) = true := by
    rw [List.all_eq_true]
    intro x hx
    obtain ⟨j, hj, rfl⟩ := List.getElem_of_mem hx
    have := h j (by omega)
    rwa [List.getD_eq_getElem?_getD, List.getElem?_eq_getElem hj] at this
  rw [okQs, this, Bool.and_true]
  simp; omega
theorem all_succ (p : Nat → Bool) (j : Nat) : (List.range (j + 1)).all p = ((List.range j).all p && p j) := by rw [List.range_succ, List.all_append]; simp
theorem okQs_def {qs : List Int} {N : Nat} (hn : qs.length = N) : okQs qs = !(decide (2000 < N) || !(List.range N).all (fun t => inB (qs.getD t 0) 0 1000)) := by
  by_cases h : 2000 < N
  · rw [okQs_long hn h]; simp [h]
  · have hd : decide (2000 < N) = false := by simp; omega
    cases ha : (List.range N).all (fun t => inB (qs.getD t 0) 0 1000)
    · rw [List.all_eq_false] at ha
      obtain ⟨j, hj, hb⟩ := ha
      rw [okQs_bad hn (List.mem_range.1 hj) (by simpa using hb), hd]; rfl
    · rw [List.all_eq_true] at ha
      rw [okQs_yes hn (by omega) (fun j hj => ha j (List.mem_range.2 hj)), hd]; rfl
theorem okQs_le {qs : List Int} {N : Nat} (hn : qs.length = N) (h : okQs qs = true) : N ≤ 2000 := by
  rw [okQs, Bool.and_eq_true] at h
  have := of_decide_eq_true h.1
  omega
theorem okQs_at {qs : List Int} (h : okQs qs = true) {j : Nat} (hj : j < qs.length) : 0 ≤ qs.getD j 0 ∧ qs.getD j 0 ≤ 1000 := by
  rw [okQs, Bool.and_eq_true, List.all_eq_true] at h
  exact inB_iff.1 (h.2 _ (by rw [List.getD_eq_getElem?_getD, List.getElem?_eq_getElem hj]; exact List.getElem_mem _))
def cdA (z u i l m : Int) (qs : List Int) (n k : Int) : Int := if vBeat z u i l m n k = false then 1 else if okQs qs = false then 2 else 0
def alE (z u i l m : Int) (qs : List Int) (n k : Int) : Int := if cdA z u i l m qs n k = 0 then ((alS u i l m qs n k qs.length).map (fun s => s.1)).getD 0 else 0
def alK (z u i l m : Int) (qs : List Int) (n k : Int) : Int := if cdA z u i l m qs n k = 0 then ((alS u i l m qs n k qs.length).map (fun s => s.2.1)).getD 0 else 0
def alM (z u i l m : Int) (qs : List Int) (n k : Int) : List Int := if cdA z u i l m qs n k = 0 then ((alS u i l m qs n k qs.length).map (fun s => s.2.2)).getD [] else []
def alC (z u i l m : Int) (qs : List Int) (n k : Int) : Int := if cdA z u i l m qs n k = 0 then (if (alS u i l m qs n k qs.length).isSome = true then 0 else 5) else cdA z u i l m qs n k
theorem cdA_ok {z u i l m n k : Int} {qs : List Int} (h : cdA z u i l m qs n k = 0) : EV z u i l m ∧ ((0 ≤ n ∧ n ≤ m) ∧ (0 ≤ k ∧ k ≤ 1000000000)) ∧ okQs qs = true := by
  unfold cdA at h
  split at h
  · omega
  · split at h
    · omega
    · rename_i h1 h2
      simp [vBeat] at h1 h2
      exact ⟨vEsc_iff.1 h1.1, vBt_iff.1 h1.2, h2⟩
theorem aE_bd {u i l m q x y : Int} (hu : 1 ≤ u) (hi : 0 ≤ i) (hl : 0 ≤ l ∧ l ≤ 1000) (hm : 0 ≤ m) (hq : 0 ≤ q) (hx : 0 ≤ x ∧ x ≤ m) : 0 ≤ aE u i l m q x y ∧ aE u i l m q x y ≤ m := by
  have := swE_bd (u := u) (i := i) (l := l) (m := m) (q := q) (n := x) hu hi hl hm hq hx
  unfold aE
  split
  · exact this
  · omega
theorem aK_bd {u l q x y : Int} (hy : 0 ≤ y ∧ y ≤ 1000000000) (h : afOk u l q x y = true) : 0 ≤ aK u l q x y ∧ aK u l q x y ≤ 1000000000 := by
  simp only [aK, if_pos h, afK]
  unfold afOk at h
  cases ht : swT u l q x
  · simp; omega
  · simp [ht] at h
    simp; omega
/-- Where the state stands, the number of swings without a tick is at most that of all swings. -/
theorem alS_len {u i l m n k : Int} {qs : List Int} (j : Nat) : ∀ {s : Int × Int × List Int}, alS u i l m qs n k j = some s → s.2.2.length ≤ j := by
  induction j with
  | zero => intro s h; simp [alS] at h; subst h; simp
  | succ j ih =>
    intro s h
    cases h1 : alS u i l m qs n k j with
    | none => rw [alS_stop h1 (Nat.le_succ j)] at h; cases h
    | some t =>
      obtain ⟨x, y, ms⟩ := t
      have := ih h1
      cases hf : afOk u l (qs.getD j 0) x y
      · rw [alS_no h1 hf (Nat.lt_succ_self j)] at h; cases h
      · cases ht : swT u l (qs.getD j 0) x
        · rw [alS_miss h1 hf ht] at h; cases h; simpa using this
        · rw [alS_tick h1 hf ht] at h; cases h; exact Nat.le_succ_of_le this
theorem alM_len {z u i l m n k : Int} {qs : List Int} : (alM z u i l m qs n k).length ≤ qs.length := by
  unfold alM
  split
  · cases h : alS u i l m qs n k qs.length with
    | none => simp
    | some s => simpa using alS_len _ h
  · simp
end Go.Proofs.Ytehebhphlaghfaa

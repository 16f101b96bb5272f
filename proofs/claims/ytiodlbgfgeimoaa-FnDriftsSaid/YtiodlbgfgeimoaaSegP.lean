/-
  Plain laws on lists of segments: sums over parts and over reversed lists, merged segments, the worst segment, the best base.
-/
import Derived.Test.YtiodlbgfgeimoaaMergeP
import Derived.Test.YtiodlbgfgeimoaaBest
import Derived.Test.YtiodlbgfgeimoaaAfter2
namespace Go.Proofs.Ytiodlbgfgeimoaa
set_option linter.unusedVariables false

def lsum (f : Int × Int → Int) : List (Int × Int) → Int
  | [] => 0
  | p :: ps => f p + lsum f ps
theorem lsum_append (f : Int × Int → Int) (xs ys : List (Int × Int)) : lsum f (xs ++ ys) = lsum f xs + lsum f ys := by
  induction xs with
  | nil => simp [lsum]
  | cons p xs ih => simp only [List.cons_append, lsum, ih]; omega
theorem lsum_reverse (f : Int × Int → Int) (xs : List (Int × Int)) : lsum f xs.reverse = lsum f xs := by
  induction xs with
  | nil => rfl
  | cons p xs ih => rw [List.reverse_cons, lsum_append, ih]; simp only [lsum]; omega
theorem acc_lsum {F : Nat → Int} {f : Int × Int → Int} {zs : List (Int × Int)} (h0 : F 0 = 0) (hs : ∀ k, F (k + 1) = F k + f (zs.getD k (0, 0))) : ∀ k, k ≤ zs.length → F k = lsum f (zs.take k) := by
  intro k
  induction k with
  | zero => intro _; simp [lsum, h0]
  | succ k ih =>
    intro hk
    rw [hs, ih (by omega), List.take_succ_eq_append_getElem (by omega), lsum_append]
    simp only [lsum]
    rw [List.getD_eq_getElem?_getD, List.getElem?_eq_getElem (by omega)]
    simp
def drf (b l c m : Int) (p : Int × Int) : Int := p.1 * rtAt b l c m p.2
theorem sumTo_lsum {b l c m : Int} {zs : List (Int × Int)} {k : Nat} (hk : k ≤ zs.length) : sumTo b l c m zs k = lsum (drf b l c m) (zs.take k) :=
  acc_lsum (F := sumTo b l c m zs) rfl (fun _ => rfl) k hk
theorem sumTo_all (b l c m : Int) (zs : List (Int × Int)) : sumTo b l c m zs zs.length = lsum (drf b l c m) zs := by rw [sumTo_lsum (Nat.le_refl _), List.take_length]
theorem hrs_all (zs : List (Int × Int)) : hrs zs zs.length = lsum (fun p => p.1) zs := by rw [acc_lsum (F := hrs zs) (f := fun p => p.1) rfl (fun _ => rfl) _ (Nat.le_refl _), List.take_length]
theorem wtd_all (zs : List (Int × Int)) : wtd zs zs.length = lsum (fun p => p.1 * p.2) zs := by rw [acc_lsum (F := wtd zs) (f := fun p => p.1 * p.2) rfl (fun _ => rfl) _ (Nat.le_refl _), List.take_length]

theorem vSegs_sub {zs ys : List (Int × Int)} (h : vSegs zs = true) (hl : ys.length ≤ 60) (hs : ∀ p ∈ ys, p ∈ zs) : vSegs ys = true := by
  unfold vSegs at *
  rw [Bool.and_eq_true, List.all_eq_true] at *
  exact ⟨fun p hp => h.1 p (hs p hp), decide_eq_true hl⟩
theorem vSegs_take {zs : List (Int × Int)} (h : vSegs zs = true) (k : Nat) : vSegs (zs.take k) = true :=
  vSegs_sub h (by have := vSegs_len h; have := List.length_take_le k zs; rw [List.length_take]; omega) (fun p hp => List.mem_of_mem_take hp)
theorem vSegs_drop {zs : List (Int × Int)} (h : vSegs zs = true) (k : Nat) : vSegs (zs.drop k) = true :=
  vSegs_sub h (by have := vSegs_len h; rw [List.length_drop]; omega) (fun p hp => List.mem_of_mem_drop hp)
theorem vSegs_reverse {zs : List (Int × Int)} (h : vSegs zs = true) : vSegs zs.reverse = true :=
  vSegs_sub h (by have := vSegs_len h; rw [List.length_reverse]; omega) (fun p hp => List.mem_reverse.1 hp)
theorem ds_of {b l c m : Int} {zs : List (Int × Int)} (hr : vRate b l c m = true) (hv : vSegs zs = true) : dsC b l c m zs = 0 ∧ dsR b l c m zs = lsum (drf b l c m) zs := by
  refine ⟨by simp [dsC, hr, hv], ?_⟩
  simp only [dsR, hr, hv, if_true]
  exact sumTo_all b l c m zs
theorem ds_parts {b l c m : Int} {zs : List (Int × Int)} (hr : vRate b l c m = true) (hv : vSegs zs = true) (k : Nat) : dsR b l c m (zs.take k) + dsR b l c m (zs.drop k) = dsR b l c m zs := by
  rw [(ds_of hr (vSegs_take hv k)).2, (ds_of hr (vSegs_drop hv k)).2, (ds_of hr hv).2, ← lsum_append, List.take_append_drop]
theorem ds_reverse {b l c m : Int} {zs : List (Int × Int)} (hr : vRate b l c m = true) (hv : vSegs zs = true) : dsR b l c m zs.reverse = dsR b l c m zs := by
  rw [(ds_of hr (vSegs_reverse hv)).2, (ds_of hr hv).2, lsum_reverse]
theorem ds_take {b l c m : Int} {zs : List (Int × Int)} (hr : vRate b l c m = true) (hv : vSegs zs = true) {k : Nat} (hk : k ≤ zs.length) : dsR b l c m (zs.take k) = sumTo b l c m zs k := by
  rw [(ds_of hr (vSegs_take hv k)).2, sumTo_lsum hk]
theorem wst_top (L : List Int) (n : Nat) : ∀ j, j < n → (L.getD j 0).natAbs ≤ (L.getD (wst L n) 0).natAbs := by
  induction n with
  | zero => intro j h; omega
  | succ n ih =>
    intro j hj
    unfold wst
    split
    · rename_i h
      by_cases e : j = n
      · rw [e]; exact Nat.le_refl _
      · have := ih j (by omega); omega
    · rename_i h
      by_cases e : j = n
      · rw [e]; omega
      · exact ih j (by omega)
theorem wst_lt (L : List Int) {n : Nat} (h : 0 < n) : wst L n < n := by
  induction n with
  | zero => omega
  | succ n ih =>
    unfold wst
    split
    · omega
    · rcases Nat.eq_zero_or_pos n with h0 | h0
      · subst h0; simp [wst]
      · have := ih h0; omega
theorem sums_get {b l c m : Int} {zs : List (Int × Int)} {n j : Nat} (hj : j < n) : (sums b l c m zs n).getD j 0 = sumTo b l c m zs (j + 1) := by
  rw [List.getD_eq_getElem?_getD, List.getElem?_eq_getElem (by rw [sums_length]; exact hj)]
  simp [sums]
/-- The worst segment: no drift is farther off. -/
theorem wo_top {b l c m : Int} {zs : List (Int × Int)} (hr : vRate b l c m = true) (hv : vSegs zs = true) {i : Nat} (hi : i < zs.length) :
    ∃ k : Nat, woR b l c m zs = k ∧ k < zs.length ∧ (sumTo b l c m zs (i + 1)).natAbs ≤ (sumTo b l c m zs (k + 1)).natAbs := by
  refine ⟨wst (sums b l c m zs zs.length) zs.length, by simp [woR, hr, hv]; intro h; rw [h] at hi; simp at hi, wst_lt _ (by omega), ?_⟩
  have h := wst_top (sums b l c m zs zs.length) zs.length i hi
  rw [sums_get hi, sums_get (wst_lt _ (by omega))] at h
  exact h

theorem lsum_set (f : Int × Int → Int) (p : Int × Int) : ∀ (zs : List (Int × Int)) (j : Nat), j < zs.length → lsum f (zs.set j p) = lsum f zs - f (zs.getD j (0, 0)) + f p := by
  intro zs
  induction zs with
  | nil => intro j h; simp at h
  | cons q zs ih =>
    intro j h
    cases j with
    | zero => simp [lsum]; omega
    | succ j =>
      have := ih j (by simpa using h)
      simp only [List.set_cons_succ, lsum, this, List.getD_cons_succ]
      omega
theorem mgS_lsum {f : Int × Int → Int} (hf : ∀ x y t, f (x + y, t) = f (x, t) + f (y, t)) (O : List (Int × Int)) (s : Int × Int) : lsum f (mgS O s) = lsum f O + f s := by
  unfold mgS
  split
  · rename_i h
    rw [lsum_set f _ _ _ (by omega), hf]
    have e1 : f (O.getD (O.length - 1) (0, 0)) = f ((lastP O).1, (lastP O).2) := rfl
    have e2 : f s = f (s.1, (lastP O).2) := by rw [h.2.1]
    omega
  · rw [lsum_append]
    simp [lsum]
theorem mg_lsum {f : Int × Int → Int} (hf : ∀ x y t, f (x + y, t) = f (x, t) + f (y, t)) (zs : List (Int × Int)) : ∀ k, k ≤ zs.length → lsum f (mg zs k) = lsum f (zs.take k) := by
  intro k
  induction k with
  | zero => intro _; simp [mg, lsum]
  | succ k ih =>
    intro hk
    simp only [mg]
    rw [mgS_lsum hf, ih (by omega), List.take_succ_eq_append_getElem (by omega), lsum_append]
    simp only [lsum]
    rw [List.getD_eq_getElem?_getD, List.getElem?_eq_getElem (by omega)]
    simp
def Apart (O : List (Int × Int)) : Prop := ∀ j, j + 1 < O.length → ¬ ((O.getD j (0, 0)).2 = (O.getD (j + 1) (0, 0)).2 ∧ (O.getD j (0, 0)).1 + (O.getD (j + 1) (0, 0)).1 ≤ 240)
theorem getD_set_ne {O : List (Int × Int)} {p : Int × Int} {i j : Nat} (h : i ≠ j) : (O.set i p).getD j (0, 0) = O.getD j (0, 0) := by
  rw [List.getD_eq_getElem?_getD, List.getD_eq_getElem?_getD, List.getElem?_set_ne h]
theorem getD_set_eq {O : List (Int × Int)} {p : Int × Int} {i : Nat} (h : i < O.length) : (O.set i p).getD i (0, 0) = p := by
  rw [List.getD_eq_getElem?_getD, List.getElem?_set_self h]; rfl
theorem getD_app_l {O P : List (Int × Int)} {j : Nat} (h : j < O.length) : (O ++ P).getD j (0, 0) = O.getD j (0, 0) := by
  rw [List.getD_eq_getElem?_getD, List.getD_eq_getElem?_getD, List.getElem?_append_left h]
theorem getD_app_e {O : List (Int × Int)} {s : Int × Int} : (O ++ [s]).getD O.length (0, 0) = s := by
  rw [List.getD_eq_getElem?_getD, List.getElem?_append_right (Nat.le_refl _)]; simp
theorem mgS_apart' {O : List (Int × Int)} {s : Int × Int} (hs : 1 ≤ s.1) (h : Apart O) : Apart (mgS O s) := by
  unfold mgS
  split
  · rename_i hc
    intro j hj
    rw [List.length_set] at hj
    rw [getD_set_ne (i := O.length - 1) (j := j) (by omega)]
    by_cases e : j + 1 = O.length - 1
    · rw [e, getD_set_eq (by omega)]
      have := h j hj
      rw [e] at this
      unfold lastP
      simp only
      omega
    · rw [getD_set_ne (by omega)]
      exact h j hj
  · rename_i hc
    intro j hj
    rw [List.length_append] at hj
    simp at hj
    rw [getD_app_l (by omega)]
    by_cases e : j + 1 = O.length
    · rw [e, getD_app_e]
      intro k
      apply hc
      refine ⟨by omega, ?_⟩
      unfold lastP
      rw [show O.length - 1 = j by omega]
      exact k
    · rw [getD_app_l (by omega)]
      exact h j (by omega)
theorem mg_apart {zs : List (Int × Int)} (hv : vSegs zs = true) : ∀ k, k ≤ zs.length → Apart (mg zs k) := by
  intro k
  induction k with
  | zero => intro _ j hj; simp [mg] at hj
  | succ k ih => intro hk; exact mgS_apart' (vSegs_at hv (j := k) (by omega)).1.1 (ih (by omega))
theorem mg_valid {zs : List (Int × Int)} (hv : vSegs zs = true) : vSegs (mg zs zs.length) = true := by
  have hl := mg_len zs zs.length
  have h60 := vSegs_len hv
  unfold vSegs
  rw [Bool.and_eq_true, List.all_eq_true]
  refine ⟨fun p hp => ?_, decide_eq_true (by omega)⟩
  have := mg_bd hv zs.length (Nat.le_refl _) p hp
  simp [okSeg, inB_iff.2 this.1, inB_iff.2 this.2]
theorem mg_none {zs : List (Int × Int)} : (mg zs zs.length).length = 0 ↔ zs.length = 0 := by
  constructor
  · intro h
    rcases Nat.eq_zero_or_pos zs.length with h0 | h0
    · exact h0
    · obtain ⟨k, hk⟩ : ∃ k, zs.length = k + 1 := ⟨zs.length - 1, by omega⟩
      rw [hk] at h
      simp only [mg] at h
      unfold mgS at h
      split at h
      · rename_i hc; rw [List.length_set] at h; omega
      · simp at h
  · intro h; rw [h]; rfl
/-- Merged segments: the same drift, the same mean temperature. -/
theorem mg_same {zs : List (Int × Int)} (hv : vSegs zs = true) (b l c m : Int) : dsC b l c m (mgR zs) = dsC b l c m zs ∧ dsR b l c m (mgR zs) = dsR b l c m zs ∧ mtC (mgR zs) = mtC zs ∧ mtN (mgR zs) = mtN zs ∧ mtD (mgR zs) = mtD zs ∧ vSegs (mgR zs) = true ∧ Apart (mgR zs) := by
  have e : mgR zs = mg zs zs.length := by simp [mgR, hv]
  rw [e]
  have hm := mg_valid hv
  have ha := mg_apart hv zs.length (Nat.le_refl _)
  have h1 : sumTo b l c m (mg zs zs.length) (mg zs zs.length).length = sumTo b l c m zs zs.length := by
    rw [sumTo_all, sumTo_all, mg_lsum (fun x y t => by simp only [drf]; exact Int.add_mul _ _ _) zs zs.length (Nat.le_refl _), List.take_length]
  have h2 : hrs (mg zs zs.length) (mg zs zs.length).length = hrs zs zs.length := by
    rw [hrs_all, hrs_all, mg_lsum (fun x y t => rfl) zs zs.length (Nat.le_refl _), List.take_length]
  have h3 : wtd (mg zs zs.length) (mg zs zs.length).length = wtd zs zs.length := by
    rw [wtd_all, wtd_all, mg_lsum (fun x y t => by simp only; exact Int.add_mul _ _ _) zs zs.length (Nat.le_refl _), List.take_length]
  have h4 := mg_none (zs := zs)
  refine ⟨by simp [dsC, hm, hv], by simp only [dsR, hm, hv, h1], ?_, ?_, ?_, hm, ha⟩
  · simp only [mtC, hm, hv, h2, h3, if_true, h4]
  · simp only [mtN, hm, hv, h2, h3, if_true, h4]
  · simp only [mtD, hm, hv, h2, h3, if_true, h4]

theorem natAbs_lin {T H q : Int} (hH : 1 ≤ H) (hq : -T / H = q) : q * H + T ≤ 0 ∧ 0 < (q + 1) * H + T := by
  have a1 : -T / H * H ≤ -T := Int.ediv_mul_le _ (by omega)
  have a2 : -T < (-T / H + 1) * H := Int.lt_ediv_add_one_mul_self _ (by omega)
  rw [hq] at a1 a2
  omega
theorem step_lin {t s H : Int} (hH : 1 ≤ H) (h : t < s) : t * H + H ≤ s * H := by
  have := Int.mul_le_mul_of_nonneg_right (show t + 1 ≤ s by omega) (show 0 ≤ H by omega)
  have e : (t + 1) * H = t * H + H := by rw [Int.add_mul, Int.one_mul]
  omega
/-- No base in range is better than the best one, and none that is as good is less. -/
theorem bq_best {T H t : Int} (hH : 1 ≤ H) (ht : -100000000 ≤ t ∧ t ≤ 100000000) :
    ¬ ((t * H + T).natAbs < (clampB (bqq T H) * H + T).natAbs ∨ ((t * H + T).natAbs = (clampB (bqq T H) * H + T).natAbs ∧ t < clampB (bqq T H))) := by
  obtain ⟨h1, h2⟩ := natAbs_lin (T := T) hH rfl
  have hb : bq T H = -T / H := rfl
  generalize -T / H = q at *
  have h3 : (q + 1) * H = q * H + H := by rw [Int.add_mul, Int.one_mul]
  have hx : bqq T H = q ∨ bqq T H = q + 1 := by
    unfold bqq
    rw [hb]
    split
    · exact .inr rfl
    · exact .inl rfl
  have hy : bqq T H = q + 1 → ((q + 1) * H + T).natAbs < (q * H + T).natAbs := by
    intro e
    unfold bqq at e
    rw [hb] at e
    split at e
    · omega
    · omega
  have hz : bqq T H = q → (q * H + T).natAbs ≤ ((q + 1) * H + T).natAbs := by
    intro e
    unfold bqq at e
    rw [hb] at e
    split at e
    · omega
    · omega
  generalize bqq T H = X at *
  have lo : t < q → t * H + H ≤ q * H := fun h => step_lin hH h
  have hi : q + 1 < t → (q + 1) * H + H ≤ t * H := fun h => step_lin hH h
  unfold clampB
  split
  · rename_i c
    have k := fun h : (-100000000 : Int) < t => step_lin (t := -100000000) (s := t) (H := H) hH h
    have k2 := fun h : q + 1 < (-100000000 : Int) => step_lin (t := q + 1) (s := -100000000) (H := H) hH h
    have k3 : q + 1 = -100000000 → (q + 1) * H = -100000000 * H := fun h => by rw [h]
    have k4 : t = -100000000 → t * H = -100000000 * H := fun h => by rw [h]
    omega
  · split
    · rename_i c1 c
      have k := fun h : t < (100000000 : Int) => step_lin (t := t) (s := 100000000) (H := H) hH h
      have k2 := fun h : (100000000 : Int) < q => step_lin (t := 100000000) (s := q) (H := H) hH h
      have k3 : q = 100000000 → q * H = 100000000 * H := fun h => by rw [h]
      have k4 : t = 100000000 → t * H = 100000000 * H := fun h => by rw [h]
      omega
    · have k3 : t = q → t * H = q * H := fun h => by rw [h]
      have k4 : t = q + 1 → t * H = (q + 1) * H := fun h => by rw [h]
      rcases hx with e | e
      · have := hz e
        rw [e]
        omega
      · have := hy e
        rw [e]
        omega
/-- What the law on the best base asks, case by case. -/
theorem bb_cases (b l c m : Int) (zs : List (Int × Int)) : bbC b l c m zs ≠ 0 ∨ (bbC b l c m zs = 0 ∧ (-100000000 ≤ bbR b l c m zs ∧ bbR b l c m zs ≤ 100000000) ∧ dsC (bbR b l c m zs) l c m zs = 0 ∧
    ∀ t, dsC t l c m zs ≠ 0 ∨ (dsC t l c m zs = 0 ∧ ¬ ((dsR t l c m zs).natAbs < (dsR (bbR b l c m zs) l c m zs).natAbs ∨ ((dsR t l c m zs).natAbs = (dsR (bbR b l c m zs) l c m zs).natAbs ∧ t < bbR b l c m zs)))) := by
  cases h1 : vRate b l c m
  · exact .inl (by simp [bbC, h1])
  cases h2 : vSegs zs
  · exact .inl (by simp [bbC, h1, h2])
  by_cases h3 : zs.length = 0
  · exact .inl (by simp [bbC, h1, h2, h3])
  have hr := vRate_iff.1 h1
  have hb : bbR b l c m zs = clampB (bqq (sumTo 0 l c m zs zs.length) (hrs zs zs.length)) := by simp [bbR, h1, h2, h3]
  have hc : -100000000 ≤ bbR b l c m zs ∧ bbR b l c m zs ≤ 100000000 := by
    rw [hb]; unfold clampB
    split
    · omega
    · split <;> omega
  have hv : vRate (bbR b l c m zs) l c m = true := vRate_iff.2 ⟨hc, hr.2⟩
  refine .inr ⟨by simp [bbC, h1, h2, h3], hc, by simp [dsC, hv, h2], fun t => ?_⟩
  cases h4 : vRate t l c m
  · exact .inl (by simp [dsC, h4])
  · refine .inr ⟨by simp [dsC, h4, h2], ?_⟩
    have ht := (vRate_iff.1 h4).1
    have hH := hrs_bd h2 zs.length (Nat.le_refl _)
    have e1 : dsR t l c m zs = t * hrs zs zs.length + sumTo 0 l c m zs zs.length := by
      simp only [dsR, h4, h2, if_true]; rw [sumTo_base]; omega
    have e2 : dsR (bbR b l c m zs) l c m zs = bbR b l c m zs * hrs zs zs.length + sumTo 0 l c m zs zs.length := by
      simp only [dsR, hv, h2, if_true]; rw [sumTo_base (bbR b l c m zs)]; omega
    rw [e1, e2, hb]
    exact bq_best (by omega) ht
theorem near_24 (x : Int) : -12 ≤ 24 * near x 24 - x ∧ 24 * near x 24 - x ≤ 12 := by
  unfold near
  omega
end Go.Proofs.Ytiodlbgfgeimoaa

/-
  Plain laws behind FnSwings: swings in two parts, swings along equal torques, the wheel's turns.
-/
import Derived.Test.YtehebhphlaghfaaMany
import Derived.Test.YtehebhphlaghfaaAlongP
import Derived.Test.YtehebhphlaghfaaRedP
import Derived.Test.YtehebhphlaghfaaWheel
namespace Go.Proofs.Ytehebhphlaghfaa
set_option linter.unusedVariables false

theorem many_split {u i l m q : Int} (A : Nat) : ∀ (B : Nat) (n k : Int), many u i l m q (A + B) n k = (many u i l m q A n k).bind (fun s => many u i l m q B s.1 s.2) := by
  induction A with
  | zero => intro B n k; simp [many]
  | succ A ih =>
    intro B n k
    rw [show A + 1 + B = A + B + 1 by omega]
    simp only [many]
    split
    · exact ih B _ _
    · rfl
theorem many_in {u i l m q : Int} (hu : 1 ≤ u) (hi : 0 ≤ i) (hl : 0 ≤ l ∧ l ≤ 1000) (hm : 0 ≤ m) (hq : 0 ≤ q) (N : Nat) :
    ∀ {n k x y : Int}, (0 ≤ n ∧ n ≤ m) → (0 ≤ k ∧ k ≤ 1000000000) → many u i l m q N n k = some (x, y) → (0 ≤ x ∧ x ≤ m) ∧ k ≤ y ∧ y ≤ 1000000000 := by
  induction N with
  | zero =>
    intro n k x y hn hk h
    simp [many] at h
    obtain ⟨rfl, rfl⟩ := h
    exact ⟨hn, Int.le_refl _, hk.2⟩
  | succ N ih =>
    intro n k x y hn hk h
    cases hf : afOk u l q n k
    · rw [many_no hf] at h; cases h
    · simp only [many, if_pos hf] at h
      have h1 := swE_bd (u := u) (i := i) (l := l) (m := m) (q := q) (n := n) hu hi hl hm hq hn
      have h2 := afK_bd hk hf
      have h3 := ih h1 h2 h
      have : k ≤ afK u l q n k := by unfold afK; split <;> omega
      exact ⟨h3.1, by omega, h3.2.2⟩
theorem sm_ok {z u i l m q N n k : Int} (h : smC z u i l m q N n k = 0) : EV z u i l m ∧ ((0 ≤ n ∧ n ≤ m) ∧ (0 ≤ k ∧ k ≤ 1000000000)) ∧ (0 ≤ q ∧ q ≤ 1000) ∧ (0 ≤ N ∧ N ≤ 2000) ∧ ∃ x y, many u i l m q N.toNat n k = some (x, y) ∧ smE z u i l m q N n k = x ∧ smK z u i l m q N n k = y := by
  have hcm : cdM z u i l m q N n k = 0 := by
    unfold smC at h
    split at h
    · assumption
    · exact h
  have hce : cdE z u i l m q n k = 0 := by unfold cdM at hcm; split at hcm <;> omega
  have hN : inB N 0 2000 = true := by
    cases hb : inB N 0 2000
    · simp [cdM, hce, hb] at hcm
    · rfl
  obtain ⟨ev, hnk, hq⟩ := cdE_ok hce
  refine ⟨ev, hnk, hq, inB_iff.1 hN, ?_⟩
  cases hs : many u i l m q N.toNat n k with
  | none => simp [smC, hcm, hs] at h
  | some s =>
    obtain ⟨x, y⟩ := s
    exact ⟨x, y, rfl, by simp [smE, hcm, hs], by simp [smK, hcm, hs]⟩
theorem sm_of {z u i l m q N n k x y : Int} (ev : EV z u i l m) (hn : 0 ≤ n ∧ n ≤ m) (hk : 0 ≤ k ∧ k ≤ 1000000000) (hq : 0 ≤ q ∧ q ≤ 1000) (hN : 0 ≤ N ∧ N ≤ 2000) (h : many u i l m q N.toNat n k = some (x, y)) :
    smC z u i l m q N n k = 0 ∧ smE z u i l m q N n k = x ∧ smK z u i l m q N n k = y := by
  have hce := cdE_zero ev hn hk hq
  have hcm : cdM z u i l m q N n k = 0 := by simp [cdM, hce, inB_iff.2 hN]
  exact ⟨by simp [smC, hcm, h], by simp [smE, hcm, h], by simp [smK, hcm, h]⟩
/-- Swings in two parts are swings in one. -/
theorem sm_parts {z u i l m q N n k P : Int} (h : smC z u i l m q N n k = 0) (hP : 0 ≤ P ∧ P ≤ N) : smC z u i l m q P n k = 0 ∧
    smC z u i l m q (N - P) (smE z u i l m q P n k) (smK z u i l m q P n k) = 0 ∧ smE z u i l m q (N - P) (smE z u i l m q P n k) (smK z u i l m q P n k) = smE z u i l m q N n k ∧ smK z u i l m q (N - P) (smE z u i l m q P n k) (smK z u i l m q P n k) = smK z u i l m q N n k := by
  obtain ⟨ev, ⟨hn, hk⟩, hq, hN, x, y, hs, e1, e2⟩ := sm_ok h
  have b1 := ev.bu; have b2 := ev.bi; have b3 := ev.bl; have b4 := ev.bm
  rw [show N.toNat = P.toNat + (N - P).toNat by omega, many_split] at hs
  cases h1 : many u i l m q P.toNat n k with
  | none => rw [h1] at hs; cases hs
  | some s =>
    obtain ⟨x1, y1⟩ := s
    rw [h1] at hs
    simp only [Option.bind] at hs
    have hb := many_in (by omega) (by omega) b3 (by omega) hq.1 _ hn hk h1
    obtain ⟨r1, r2, r3⟩ := sm_of ev hn hk hq (N := P) (by omega) h1
    rw [r2, r3]
    obtain ⟨s1, s2, s3⟩ := sm_of ev hb.1 (by omega) hq (N := N - P) (by omega) hs
    exact ⟨r1, s1, by rw [s2, e1], by rw [s3, e2]⟩
theorem many_along {u i l m q n k : Int} {qs : List Int} (N : Nat) (hqs : ∀ j, j < N → qs.getD j 0 = q) : ∀ j, j ≤ N → ∀ {x y : Int}, many u i l m q j n k = some (x, y) → ∃ ms, alS u i l m qs n k j = some (x, y, ms) ∧ y = k + j - ms.length := by
  intro j
  induction j with
  | zero =>
    intro _ x y h
    simp [many] at h
    obtain ⟨rfl, rfl⟩ := h
    exact ⟨[], rfl, by simp⟩
  | succ j ih =>
    intro hj x y h
    rw [many_split j 1] at h
    cases h1 : many u i l m q j n k with
    | none => rw [h1] at h; cases h
    | some s =>
      obtain ⟨x1, y1⟩ := s
      rw [h1] at h
      simp only [Option.bind] at h
      obtain ⟨ms, h2, h3⟩ := ih (by omega) h1
      have e := hqs j (by omega)
      cases hf : afOk u l q x1 y1
      · rw [many_no hf] at h; cases h
      · simp only [many, if_pos hf] at h
        cases h
        cases ht : swT u l q x1
        · refine ⟨ms ++ [(j : Int)], ?_, ?_⟩
          · rw [alS_miss h2 (by rw [e]; exact hf) (by rw [e]; exact ht), e]
            simp [aE, aK, hf]
          · simp [afK, ht]; omega
        · refine ⟨ms, ?_, ?_⟩
          · rw [alS_tick h2 (by rw [e]; exact hf) (by rw [e]; exact ht), e]
            simp [aE, aK, hf]
          · simp [afK, ht]; omega
/-- Swings along a row of equal torques. -/
theorem sm_along {z u i l m q N n k : Int} {qs : List Int} (h : smC z u i l m q N n k = 0) (hl : qs.length = N.toNat) (hqs : ∀ j, j < N.toNat → qs.getD j 0 = q) :
    alC z u i l m qs n k = 0 ∧ alE z u i l m qs n k = smE z u i l m q N n k ∧ alK z u i l m qs n k = smK z u i l m q N n k ∧ smK z u i l m q N n k = k + N - (alM z u i l m qs n k).length := by
  obtain ⟨ev, ⟨hn, hk⟩, hq, hN, x, y, hs, e1, e2⟩ := sm_ok h
  obtain ⟨ms, h2, h3⟩ := many_along N.toNat hqs N.toNat (Nat.le_refl _) hs
  have hr : okQs qs = true := okQs_yes (N := N.toNat) hl (by omega) (fun j hj => by rw [hqs j hj]; exact inB_iff.2 hq)
  have hcd : cdA z u i l m qs n k = 0 := by simp [cdA, vBeat, vEsc_iff.2 ev, vBt_iff.2 ⟨hn, hk⟩, hr]
  refine ⟨by simp [alC, hcd, hl, h2], by simp [alE, hcd, hl, h2, e1], by simp [alK, hcd, hl, h2, e2], ?_⟩
  simp only [alM, hcd, hl, h2, if_true, e2, Option.map_some, Option.getD_some]
  omega
/-- The wheel turns with the ticks. -/
theorem sm_wheel {z u i l m q N n k : Int} (h : smC z u i l m q N n k = 0) : wtC z u i l m n k ≠ 0 ∨ wtC z u i l m (smE z u i l m q N n k) (smK z u i l m q N n k) ≠ 0 ∨
    (vRat (wtN z u i l m n k) (wtD z u i l m n k) = true ∧ vRat (wtN z u i l m (smE z u i l m q N n k) (smK z u i l m q N n k)) (wtD z u i l m (smE z u i l m q N n k) (smK z u i l m q N n k)) = true ∧
      wtN z u i l m n k * wtD z u i l m (smE z u i l m q N n k) (smK z u i l m q N n k) ≤ wtN z u i l m (smE z u i l m q N n k) (smK z u i l m q N n k) * wtD z u i l m n k) := by
  obtain ⟨ev, ⟨hn, hk⟩, hq, hN, x, y, hs, e1, e2⟩ := sm_ok h
  have b0 := ev.bz; have b1 := ev.bu; have b2 := ev.bi; have b3 := ev.bl; have b4 := ev.bm
  have hb := many_in (by omega) (by omega) b3 (by omega) hq.1 _ hn hk hs
  rw [e1, e2]
  have v1 : vBeat z u i l m n k = true := by simp [vBeat, vEsc_iff.2 ev, vBt_iff.2 ⟨hn, hk⟩]
  have v2 : vBeat z u i l m x y = true := by
    have := vBt_iff.2 (⟨hb.1, by omega⟩ : (0 ≤ x ∧ x ≤ m) ∧ (0 ≤ y ∧ y ≤ 1000000000))
    simp [vBeat, vEsc_iff.2 ev, this]
  have hz : 2 * z ≠ 0 := by omega
  simp only [wtC, wtN, wtD, v1, v2, if_true, mkC, mkN, mkD, if_neg hz]
  cases r1 : redOk k (2 * z)
  · exact .inl (by simp)
  · cases r2 : redOk y (2 * z)
    · exact .inr (.inl (by simp))
    · refine .inr (.inr ⟨red_valid hz r1, red_valid hz r2, ?_⟩)
      obtain ⟨a1, a2, a3, a4⟩ := red_mul hz r1
      obtain ⟨c1, c2, c3, c4⟩ := red_mul hz r2
      rw [if_pos (by omega)] at a1 c1
      have en : ((2 * z).natAbs : Int) = 2 * z := by omega
      rw [en] at a2 c2
      generalize gcdI k (2 * z) = g at *
      generalize gcdI y (2 * z) = g' at *
      generalize redN k (2 * z) = A at *
      generalize redD k (2 * z) = B at *
      generalize redN y (2 * z) = C at *
      generalize redD y (2 * z) = D at *
      have k1 : A * D * (g * g') = k * (2 * z) := by rw [← a1, ← c2]; grind
      have k2 : C * B * (g * g') = y * (2 * z) := by rw [← c1, ← a2]; grind
      have k3 : k * (2 * z) ≤ y * (2 * z) := Int.mul_le_mul_of_nonneg_right hb.2.1 (by omega)
      have k4 : 0 < g * g' := Int.mul_pos (by omega) (by omega)
      exact Int.le_of_mul_le_mul_right (by omega) k4
end Go.Proofs.Ytehebhphlaghfaa

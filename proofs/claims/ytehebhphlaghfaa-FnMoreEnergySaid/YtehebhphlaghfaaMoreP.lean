/-
  Plain laws behind FnMoreEnergy: more energy, and more torque wherever there is some, do not lead to fewer ticks.
-/
import Derived.Test.YtehebhphlaghfaaLeastP
import Derived.Test.YtehebhphlaghfaaAlongP
namespace Go.Proofs.Ytehebhphlaghfaa
set_option linter.unusedVariables false

theorem more_step {u i l m q r x y kx ky : Int} (hu : 1 ≤ u) (hi : 0 ≤ i) (hl : 0 ≤ l ∧ l ≤ 1000) (hq : 0 ≤ q) (hqr : q ≤ r) (h0 : q = 0 → r = 0) (hx : 0 ≤ x) (hk : kx ≤ ky) (ho : x ≤ y ∨ x < u)
    (f1 : afOk u l q x kx = true) (f2 : afOk u l r y ky = true) : aK u l q x kx ≤ aK u l r y ky ∧ (aE u i l m q x kx ≤ aE u i l m r y ky ∨ aE u i l m q x kx < u) := by
  have hs := swL_bd hl hx
  simp only [aE, aK, if_pos f1, if_pos f2]
  cases ht : swT u l q x
  · have e1 : afK u l q x kx = kx := by simp [afK, ht]
    have e2 : ky ≤ afK u l r y ky := by unfold afK; split <;> omega
    have e3 : swE u i l m q x = swL l x := by simp [swE, ht]
    refine ⟨by omega, ?_⟩
    rw [e3]
    by_cases hz : q = 0
    · have hr := h0 hz
      subst hr
      have e4 : swE u i l m 0 y = swL l y := by simp [swE, swT]
      rw [e4]
      rcases ho with ho | ho
      · exact .inl (swL_mono hl ho)
      · exact .inr (by omega)
    · refine .inr ?_
      simp [swT, hz] at ht
      exact ht
  · have hxy : x ≤ y := by
      simp [swT] at ht
      omega
    have t1 := swT_mono hl hxy ht
    have t2 := swT_up hq hqr t1
    have e1 : afK u l q x kx = kx + 1 := by simp [afK, ht]
    have e2 : afK u l r y ky = ky + 1 := by simp [afK, t2]
    have e3 := swE_mono (u := u) (i := i) (m := m) (q := q) hl hxy ht
    have e4 := swE_up (u := u) (i := i) (l := l) (m := m) (x := y) hi hq hqr t1
    exact ⟨by omega, .inl (by omega)⟩
theorem more_along {u i l m n n' k : Int} {qs rs : List Int} (hu : 1 ≤ u) (hi : 0 ≤ i) (hl : 0 ≤ l ∧ l ≤ 1000) (hm : 0 ≤ m) (hn : 0 ≤ n ∧ n ≤ m) (hn' : n ≤ n') (N : Nat)
    (h : ∀ j, j < N → (0 ≤ qs.getD j 0 ∧ qs.getD j 0 ≤ rs.getD j 0) ∧ (qs.getD j 0 = 0 → rs.getD j 0 = 0)) :
    ∀ j, j ≤ N → ∀ {x kx : Int} {ms : List Int}, alS u i l m qs n k j = some (x, kx, ms) → (0 ≤ x ∧ x ≤ m) ∧ (alS u i l m rs n' k j = none ∨ ∃ y ky ns, alS u i l m rs n' k j = some (y, ky, ns) ∧ kx ≤ ky ∧ (x ≤ y ∨ x < u)) := by
  intro j
  induction j with
  | zero =>
    intro _ x kx ms h1
    simp [alS] at h1
    obtain ⟨rfl, rfl, rfl⟩ := h1
    exact ⟨hn, .inr ⟨n', k, [], rfl, Int.le_refl _, .inl hn'⟩⟩
  | succ j ih =>
    intro hj x kx ms h1
    obtain ⟨⟨q0, q1⟩, q2⟩ := h j (by omega)
    cases h2 : alS u i l m qs n k j with
    | none => rw [alS_stop h2 (Nat.le_succ j)] at h1; cases h1
    | some s =>
      obtain ⟨x0, k0, m0⟩ := s
      obtain ⟨b0, c0⟩ := ih (by omega) h2
      cases hf : afOk u l (qs.getD j 0) x0 k0
      · rw [alS_no h2 hf (Nat.lt_succ_self j)] at h1; cases h1
      · have e : x = aE u i l m (qs.getD j 0) x0 k0 ∧ kx = aK u l (qs.getD j 0) x0 k0 := by
          cases ht : swT u l (qs.getD j 0) x0
          · rw [alS_miss h2 hf ht] at h1; cases h1; exact ⟨rfl, rfl⟩
          · rw [alS_tick h2 hf ht] at h1; cases h1; exact ⟨rfl, rfl⟩
        obtain ⟨rfl, rfl⟩ := e
        refine ⟨aE_bd hu hi hl hm q0 b0, ?_⟩
        rcases c0 with c0 | ⟨y0, ky, ns, c0, ck, co⟩
        · exact .inl (alS_stop c0 (Nat.le_succ j))
        · cases hg : afOk u l (rs.getD j 0) y0 ky
          · exact .inl (alS_no c0 hg (Nat.lt_succ_self j))
          · have st := more_step (m := m) hu hi hl q0 q1 q2 b0.1 ck co hf hg
            cases ht : swT u l (rs.getD j 0) y0
            · exact .inr ⟨_, _, _, alS_miss c0 hg ht, st.1, st.2⟩
            · exact .inr ⟨_, _, _, alS_tick c0 hg ht, st.1, st.2⟩
/-- The second run: full, or at least as many ticks. -/
theorem al_more {z u i l m n n' k : Int} {qs rs : List Int} (hc : alC z u i l m qs n k = 0) (hn' : n ≤ n' ∧ n' ≤ m) (hlen : rs.length = qs.length)
    (h : ∀ j, j < qs.length → (qs.getD j 0 ≤ rs.getD j 0 ∧ rs.getD j 0 ≤ 1000) ∧ (qs.getD j 0 = 0 → rs.getD j 0 = 0)) :
    alC z u i l m rs n' k = 5 ∨ (alC z u i l m rs n' k = 0 ∧ alK z u i l m qs n k ≤ alK z u i l m rs n' k) := by
  have hcd : cdA z u i l m qs n k = 0 := by
    unfold alC at hc
    split at hc
    · assumption
    · exact hc
  obtain ⟨ev, ⟨hn, hk⟩, hq⟩ := cdA_ok hcd
  have b1 := ev.bu; have b2 := ev.bi; have b3 := ev.bl; have b4 := ev.bm
  have v1 := vEsc_iff.2 ev
  have v2 : vBt m n' k = true := vBt_iff.2 ⟨⟨by omega, hn'.2⟩, hk⟩
  have hr : okQs rs = true := by
    refine okQs_yes (N := qs.length) hlen (okQs_le rfl hq) (fun j hj => ?_)
    have := h j hj
    have := okQs_at hq hj
    exact inB_iff.2 (by omega)
  have hcr : cdA z u i l m rs n' k = 0 := by simp [cdA, vBeat, v1, v2, hr]
  cases hs : alS u i l m qs n k qs.length with
  | none => simp [alC, hcd, hs] at hc
  | some s =>
    obtain ⟨x, kx, ms⟩ := s
    have hm := more_along (u := u) (i := i) (l := l) (m := m) (n := n) (n' := n') (k := k) (qs := qs) (rs := rs) (by omega) (by omega) b3 (by omega) hn hn'.1 qs.length
      (fun j hj => ⟨⟨(okQs_at hq hj).1, (h j hj).1.1⟩, (h j hj).2⟩) qs.length (Nat.le_refl _) hs
    rcases hm.2 with e | ⟨y, ky, ns, e, hle, _⟩
    · exact .inl (by simp [alC, hcr, hlen, e])
    · exact .inr ⟨by simp [alC, hcr, hlen, e], by simp [alK, hcr, hcd, hlen, e, hs, hle]⟩
end Go.Proofs.Ytehebhphlaghfaa

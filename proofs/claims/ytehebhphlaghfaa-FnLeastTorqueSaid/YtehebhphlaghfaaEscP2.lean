/-
  Plain laws behind FnLeastTorque: with the least torque and the least energy all swings tick, with one unit less not all.
-/
import Derived.Test.YtehebhphlaghfaaEscP
import Derived.Test.YtehebhphlaghfaaLeastP
namespace Go.Proofs.Ytehebhphlaghfaa
set_option linter.unusedVariables false

theorem run_many {z u i l m q N n : Int} (ev : EV z u i l m) (hq : 0 ≤ q ∧ q ≤ 1000) (hn : 0 ≤ n ∧ n ≤ m) (hN : 0 ≤ N ∧ N ≤ 2000) : smC z u i l m q N n 0 = 0 ∧ smK z u i l m q N n 0 = sil u i l m q N.toNat n := by
  have b1 := ev.bu; have b2 := ev.bi; have b3 := ev.bl; have b4 := ev.bm
  have hc0 := cdE_zero (n := n) (k := 0) (q := q) ev hn (by omega) hq
  have h3 : cdM z u i l m q N n 0 = 0 := by
    have := inB_iff.2 hN
    simp [cdM, hc0, this]
  obtain ⟨y, hy⟩ := many_sil (u := u) (i := i) (l := l) (m := m) (q := q) (by omega) (by omega) b3 (by omega) (by omega) N.toNat (x := n) (k := 0) hn (by omega) (by omega)
  simp [smC, smK, h3, hy]
theorem lt_ok {z u i l m N n k : Int} (h : ltC z u i l m N n k = 0) : (1 ≤ ltR z u i l m N n k ∧ ltR z u i l m N n k ≤ 1000) ∧ smC z u i l m (ltR z u i l m N n k) N n 0 = 0 ∧ smK z u i l m (ltR z u i l m N n k) N n 0 = N ∧
    smC z u i l m (ltR z u i l m N n k - 1) N n 0 = 0 ∧ smK z u i l m (ltR z u i l m N n k - 1) N n 0 < N := by
  have hcd : ltCd z u i l m N n k = 0 := by
    unfold ltC at h
    split at h
    · assumption
    · exact h
  have hb : vBeat z u i l m n k = true ∧ inB N 1 2000 = true := by
    unfold ltCd at hcd
    split at hcd
    · split at hcd
      · exact ⟨by assumption, by assumption⟩
      · omega
    · omega
  have hQ : ltQ u i l m N n ≤ 1000 := by
    unfold ltC at h
    rw [if_pos hcd] at h
    split at h
    · assumption
    · omega
  have hN := inB_iff.1 hb.2
  have hv := hb.1
  simp [vBeat] at hv
  have ev := vEsc_iff.1 hv.1
  have hn := (vBt_iff.1 hv.2).1
  have b1 := ev.bu; have b2 := ev.bi; have b3 := ev.bl; have b4 := ev.bm
  have hR : ltR z u i l m N n k = ltQ u i l m N n := by simp [ltR, hcd, hQ]
  have sp := leastN_spec (p := ltP u i l m n N.toNat) 1001 (fun a b h1 _ h2 => ltP_mono (by omega) b3 h1 h2)
  have p1 : ltP u i l m n N.toNat (ltQ u i l m N n) = true := sp.2 _ (Nat.le_refl _) (by omega)
  have hpos : 0 < ltQ u i l m N n := by
    rcases Nat.eq_zero_or_pos (ltQ u i l m N n) with h0 | h0
    · rw [h0, ltP_zero (by omega)] at p1; cases p1
    · exact h0
  have p2 : ltP u i l m n N.toNat (ltQ u i l m N n - 1) = false := sp.1 _ (by show _ < ltQ u i l m N n; omega)
  simp [ltP] at p1 p2
  rw [hR]
  have r1 := run_many (N := N) (q := (ltQ u i l m N n : Int)) ev (by omega) hn (by omega)
  have r2 := run_many (N := N) (q := (ltQ u i l m N n : Int) - 1) ev (by omega) hn (by omega)
  have e : ((ltQ u i l m N n - 1 : Nat) : Int) = (ltQ u i l m N n : Int) - 1 := by omega
  rw [e] at p2
  have := sil_bd u i l m ((ltQ u i l m N n : Int) - 1) N.toNat n
  exact ⟨by omega, r1.1, by rw [r1.2, p1]; omega, r2.1, by rw [r2.2]; omega⟩
theorem ls_ok {z u i l m q N : Int} (h : lsC z u i l m q N = 0) : (0 ≤ lsR z u i l m q N ∧ lsR z u i l m q N ≤ 100000) ∧ smC z u i l m q N (lsR z u i l m q N) 0 = 0 ∧ smK z u i l m q N (lsR z u i l m q N) 0 = N ∧
    ((lsR z u i l m q N = 0 ∧ smC z u i l m q N (-1) 0 = 1) ∨ (1 ≤ lsR z u i l m q N ∧ smC z u i l m q N (lsR z u i l m q N - 1) 0 = 0 ∧ smK z u i l m q N (lsR z u i l m q N - 1) 0 < N)) := by
  have hcd : lsCd z u i l m q N = 0 := by
    unfold lsC at h
    split at h
    · assumption
    · exact h
  have hb : vEsc z u i l m = true ∧ inB q 0 1000 = true ∧ inB N 1 2000 = true := by
    unfold lsCd at hcd
    split at hcd
    · split at hcd
      · rename_i h1 h2; simp at h2; exact ⟨h1, h2⟩
      · omega
    · omega
  have hQ : lsQ u i l m q N ≤ m.toNat := by
    unfold lsC at h
    rw [if_pos hcd] at h
    split at h
    · assumption
    · omega
  have hN := inB_iff.1 hb.2.2
  have hq := inB_iff.1 hb.2.1
  have ev := vEsc_iff.1 hb.1
  have b1 := ev.bu; have b2 := ev.bi; have b3 := ev.bl; have b4 := ev.bm
  have hR : lsR z u i l m q N = lsQ u i l m q N := by simp [lsR, hcd, hQ]
  have sp := leastN_spec (p := lsP u i l m q N.toNat) (m + 1).toNat (fun a b h1 _ h2 => lsP_mono b3 h1 h2)
  have p1 : lsP u i l m q N.toNat (lsQ u i l m q N) = true := sp.2 _ (Nat.le_refl _) (by omega)
  have r1 := run_many (N := N) (n := (lsQ u i l m q N : Int)) ev hq (by omega) (by omega)
  rw [hR]
  simp [lsP] at p1
  refine ⟨by omega, r1.1, by rw [r1.2, p1]; omega, ?_⟩
  rcases Nat.eq_zero_or_pos (lsQ u i l m q N) with h0 | h0
  · refine .inl ⟨by omega, ?_⟩
    have hv : vBeat z u i l m (-1) 0 = false := by simp [vBeat, vBt, inB]
    have hce : cdE z u i l m q (-1) 0 = 1 := by simp [cdE, hv]
    have hcm : cdM z u i l m q N (-1) 0 = 1 := by simp [cdM, hce]
    simp [smC, hcm]
  · have p2 : lsP u i l m q N.toNat (lsQ u i l m q N - 1) = false := sp.1 _ (by show _ < lsQ u i l m q N; omega)
    simp [lsP] at p2
    have r2 := run_many (N := N) (n := (lsQ u i l m q N : Int) - 1) ev hq (by omega) (by omega)
    have e : ((lsQ u i l m q N - 1 : Nat) : Int) = (lsQ u i l m q N : Int) - 1 := by omega
    rw [e] at p2
    have := sil_bd u i l m q N.toNat ((lsQ u i l m q N : Int) - 1)
    exact .inr ⟨by omega, r2.1, by rw [r2.2]; omega⟩
end Go.Proofs.Ytehebhphlaghfaa

/-
  Plain laws behind the laws on escapements: what is steady, what stops, how many swings tick.
-/
import Derived.Test.YtehebhphlaghfaaStop
import Derived.Test.YtehebhphlaghfaaSteady
import Derived.Test.YtehebhphlaghfaaMany
namespace Go.Proofs.Ytehebhphlaghfaa
set_option linter.unusedVariables false

theorem wayMu_le {d : Bool} {m x : Int} (hx : 0 ≤ x ∧ x ≤ m) : (wayMu d m x : Int) ≤ m := by
  cases d <;> simp [wayMu] <;> omega
/-- Without a fixed point the swings that tick run out. -/
theorem sil_short {d : Bool} {u i l m q n : Int} (hu : 1 ≤ u) (hi : 0 ≤ i) (hl : 0 ≤ l ∧ l ≤ 1000) (hm : 0 ≤ m) (hq : 0 ≤ q) (hno : ∀ x, 0 ≤ x → x ≤ m → stP u i l m q x = false) (N : Nat) :
    ∀ {j : Nat} {x : Int}, Way d u i l m q n j x → 0 ≤ x ∧ x ≤ m → sil u i l m q N x ≤ wayMu d m x + 1 := by
  induction N with
  | zero => intro j x _ _; simp [sil]; omega
  | succ N ih =>
    intro j x h hx
    cases ht : swT u l q x
    · rw [sil_stop ht]; omega
    · have hf : swE u i l m q x ≠ x := fun e => by have := hno x hx.1 hx.2; simp [stP, ht, e] at this
      have hb := swE_bd (u := u) (i := i) (l := l) (m := m) (q := q) (n := x) hu hi hl hm hq hx
      obtain ⟨h1, h2⟩ := way_step hl hx hb h ht hf
      rw [sil_tick ht]
      have := ih h1 hb
      omega
/-- What ticks long enough ticks for ever. -/
theorem sil_inf {d : Bool} {u i l m q n : Int} (hu : 1 ≤ u) (hi : 0 ≤ i) (hl : 0 ≤ l ∧ l ≤ 1000) (hm : 0 ≤ m) (hq : 0 ≤ q) (N : Nat) :
    ∀ {j M : Nat} {x : Int}, Way d u i l m q n j x → 0 ≤ x ∧ x ≤ m → sil u i l m q M x = M → wayMu d m x + 1 < M → sil u i l m q N x = N := by
  induction N with
  | zero => intro j M x _ _ _ _; simp [sil]
  | succ N ih =>
    intro j M x h hx hs hM
    obtain ⟨M, rfl⟩ : ∃ k, M = k + 1 := ⟨M - 1, by omega⟩
    cases ht : swT u l q x
    · rw [sil_stop ht] at hs; omega
    · by_cases hf : swE u i l m q x = x
      · exact sil_fix ht hf _
      · have hb := swE_bd (u := u) (i := i) (l := l) (m := m) (q := q) (n := x) hu hi hl hm hq hx
        obtain ⟨h1, h2⟩ := way_step hl hx hb h ht hf
        rw [sil_tick ht] at hs ⊢
        have := ih (M := M) h1 hb (by omega) (by omega)
        omega
theorem sil_sat {u i l m q : Int} (M : Nat) : ∀ {x s : Int}, sil u i l m q M x = s → s < M → ∀ N : Nat, s ≤ N → sil u i l m q N x = s := by
  induction M with
  | zero => intro x s h1 h2 N hN; have := sil_bd u i l m q 0 x; omega
  | succ M ih =>
    intro x s h1 h2 N hN
    cases ht : swT u l q x
    · rw [sil_stop ht] at h1 ⊢; exact h1
    · rw [sil_tick ht] at h1
      have hb := sil_bd u i l m q M (swE u i l m q x)
      obtain ⟨N, rfl⟩ : ∃ k, N = k + 1 := ⟨N - 1, by omega⟩
      rw [sil_tick ht, ih (s := s - 1) (by omega) (by omega) N (by omega)]
      omega
theorem upF_max {p : Int → Bool} (n : Nat) : ∀ y : Nat, y < n → upF p n < y → p y = false := by
  induction n with
  | zero => intro y h; omega
  | succ n ih =>
    intro y hy h
    cases hp : p n
    · rw [upF_no hp] at h
      rcases Nat.lt_or_ge y n with h3 | h3
      · exact ih y h3 h
      · rw [show y = n by omega]; exact hp
    · rw [upF_yes hp] at h; omega
theorem steady_no {u i l m q : Int} (h : steady u i l m q = -1) (x : Int) (h0 : 0 ≤ x) (h1 : x ≤ m) : stP u i l m q x = false := by
  have := upF_max (p := stP u i l m q) (m.toNat + 1) x.toNat (by omega) (by rw [show upF (stP u i l m q) (m.toNat + 1) = -1 from h]; omega)
  rwa [show (x.toNat : Int) = x by omega] at this
theorem steady_yes {u i l m q : Int} (h : steady u i l m q ≠ -1) : (0 ≤ steady u i l m q ∧ steady u i l m q ≤ m ∨ m < 0) ∧ stP u i l m q (steady u i l m q) = true := by
  rcases upF_spec (stP u i l m q) (m.toNat + 1) with h1 | h1
  · exact absurd h1.1 h
  · have h2 : upF (stP u i l m q) (m.toNat + 1) = steady u i l m q := rfl
    rw [h2] at h1
    exact ⟨by omega, h1.2.2⟩
theorem fix_up {u i l m q : Int} (hl : 0 ≤ l ∧ l ≤ 1000) (c : Nat) : ∀ {y : Int}, (m - y).toNat ≤ c → 0 ≤ y → y ≤ swE u i l m q y → swT u l q y = true → ∃ x, y ≤ x ∧ x ≤ m ∧ stP u i l m q x = true := by
  induction c with
  | zero =>
    intro y hc h0 h ht
    have := swE_le (u := u) (i := i) (m := m) ht
    exact ⟨y, by omega, by omega, by simp [stP, ht]; omega⟩
  | succ c ih =>
    intro y hc h0 h ht
    have h1 := swE_le (u := u) (i := i) (m := m) ht
    by_cases hf : swE u i l m q y = y
    · exact ⟨y, by omega, by omega, by simp [stP, ht, hf]⟩
    · obtain ⟨x, hx⟩ := ih (y := swE u i l m q y) (by omega) (by omega) (swE_mono hl h ht) (swT_mono hl h ht)
      exact ⟨x, by omega, hx.2⟩
/-- Above the steady energy a swing that ticks loses energy. -/
theorem steady_above {u i l m q y : Int} (hl : 0 ≤ l ∧ l ≤ 1000) (hy : steady u i l m q < y) (h0 : 0 ≤ y) (hm : y ≤ m) (ht : swT u l q y = true) : swE u i l m q y < y := by
  apply Classical.byContradiction
  intro h
  obtain ⟨x, h1, h2, h3⟩ := fix_up (u := u) (i := i) (m := m) (q := q) (y := y) hl _ (Nat.le_refl _) h0 (by omega) ht
  have := upF_max (p := stP u i l m q) (m.toNat + 1) x.toNat (by omega) (by rw [show upF (stP u i l m q) (m.toNat + 1) = steady u i l m q from rfl]; omega)
  rw [show (x.toNat : Int) = x by omega, h3] at this
  cases this
/-- Behind a swing that does not tick none does. -/
theorem swT_still {u l q x : Int} (hl : 0 ≤ l ∧ l ≤ 1000) (hx : 0 ≤ x) (ht : swT u l q x = false) : swT u l q (swL l x) = false := by
  cases h : swT u l q (swL l x)
  · rfl
  · have := swT_mono (u := u) (q := q) hl (swL_bd hl hx).2 h
    rw [ht] at this; cases this
theorem many_sil {u i l m q : Int} (hu : 1 ≤ u) (hi : 0 ≤ i) (hl : 0 ≤ l ∧ l ≤ 1000) (hm : 0 ≤ m) (hq : 0 ≤ q) (N : Nat) :
    ∀ {x k : Int}, (0 ≤ x ∧ x ≤ m) → 0 ≤ k → k + N ≤ 1000000000 → ∃ y, many u i l m q N x k = some (y, k + sil u i l m q N x) := by
  induction N with
  | zero => intro x k _ _ _; exact ⟨x, by simp [many, sil]⟩
  | succ N ih =>
    intro x k hx hk hN
    have hb := swE_bd (u := u) (i := i) (l := l) (m := m) (q := q) (n := x) hu hi hl hm hq hx
    cases ht : swT u l q x
    · have h1 : afOk u l q x k = true := by simp [afOk, ht]
      have h2 : afK u l q x k = k := by simp [afK, ht]
      have h3 : swE u i l m q x = swL l x := by simp [swE, ht]
      obtain ⟨y, hy⟩ := ih (x := swE u i l m q x) (k := k) hb hk (by omega)
      refine ⟨y, ?_⟩
      rw [many, if_pos h1, h2, hy, sil_stop ht, h3, sil_stop (swT_still hl hx.1 ht)]
    · have h1 : afOk u l q x k = true := by simp [afOk, ht]; omega
      have h2 : afK u l q x k = k + 1 := by simp [afK, ht]
      obtain ⟨y, hy⟩ := ih (x := swE u i l m q x) (k := k + 1) hb (by omega) (by omega)
      refine ⟨y, ?_⟩
      rw [many, if_pos h1, h2, hy, sil_tick ht]
      simp
      omega

theorem seC_cases (z u i l m q : Int) : (seC z u i l m q = 1 ∨ seC z u i l m q = 2) ∨ (seC z u i l m q = 3 ∧ EV z u i l m ∧ (0 ≤ q ∧ q ≤ 1000) ∧ steady u i l m q = -1) ∨
    (seC z u i l m q = 0 ∧ EV z u i l m ∧ (0 ≤ q ∧ q ≤ 1000) ∧ seR z u i l m q = steady u i l m q ∧ (0 ≤ steady u i l m q ∧ steady u i l m q ≤ m) ∧ stP u i l m q (steady u i l m q) = true) := by
  cases h1 : vEsc z u i l m
  · exact .inl (.inl (by simp [seC, h1]))
  · have ev := vEsc_iff.1 h1
    cases h2 : inB q 0 1000
    · exact .inl (.inr (by simp [seC, h1, h2]))
    · have hq := inB_iff.1 h2
      by_cases h3 : steady u i l m q = -1
      · exact .inr (.inl ⟨by simp [seC, h1, h2, h3], ev, hq, h3⟩)
      · have := steady_yes h3
        have := ev.bm
        have := ev.bu
        exact .inr (.inr ⟨by simp [seC, h1, h2, h3], ev, hq, by simp [seR, h1, h2, h3], by omega, by simp [*]⟩)
/-- No steady energy: from the greatest energy it stops. -/
theorem so_none {z u i l m q : Int} (ev : EV z u i l m) (hq : 0 ≤ q ∧ q ≤ 1000) (h : steady u i l m q = -1) : soC z u i l m q m 0 = 0 := by
  have b1 := ev.bu; have b2 := ev.bi; have b3 := ev.bl; have b4 := ev.bm
  have hc := cdE_zero (n := m) (k := 0) (q := q) ev (by omega) (by omega) hq
  obtain ⟨d, hw⟩ := way_start u i l m q m
  have h1 := sil_short (N := (m + 2).toNat) (by omega) (by omega) b3 (by omega) (by omega) (fun x h0 h1 => steady_no h x h0 h1) hw (by omega)
  have h2 := wayMu_le (d := d) (m := m) (x := m) (by omega)
  simp [soC, hc]
  omega
theorem so_steady {z u i l m q : Int} (ev : EV z u i l m) (hq : 0 ≤ q ∧ q ≤ 1000) {x : Int} (hx : 0 ≤ x ∧ x ≤ m) (h : stP u i l m q x = true) : soC z u i l m q x 0 = 3 := by
  have b1 := ev.bu; have b2 := ev.bi; have b3 := ev.bl; have b4 := ev.bm
  have hc := cdE_zero (n := x) (k := 0) (q := q) ev hx (by omega) hq
  simp [stP] at h
  have h1 := sil_fix h.1 h.2 (m + 2).toNat
  simp [soC, hc]
  omega
theorem sg_steady {z u i l m q : Int} (ev : EV z u i l m) (hq : 0 ≤ q ∧ q ≤ 1000) {x : Int} (hx : 0 ≤ x ∧ x ≤ m) (h : stP u i l m q x = true) : sgE z u i l m q x 0 = x ∧ sgT z u i l m q x 0 = true ∧ sgC z u i l m q x 0 = 0 := by
  have hc := cdE_zero (n := x) (k := 0) (q := q) ev hx (by omega) hq
  simp [stP] at h
  have h1 : afOk u l q x 0 = true := by simp [afOk]
  simp [sgE, sgT, sgC, hc, aE, aT, aC, h1, h.1, h.2]
theorem sg_above {z u i l m q : Int} (ev : EV z u i l m) (hq : 0 ≤ q ∧ q ≤ 1000) {y : Int} (h0 : 0 ≤ y) (hy : steady u i l m q < y) : sgC z u i l m q y 0 ≠ 0 ∨ sgT z u i l m q y 0 = false ∨ sgE z u i l m q y 0 < y := by
  have h1 : afOk u l q y 0 = true := by simp [afOk]
  by_cases hm : y ≤ m
  · have hc := cdE_zero (n := y) (k := 0) (q := q) ev ⟨h0, hm⟩ (by omega) hq
    cases ht : swT u l q y
    · exact .inr (.inl (by simp [sgT, hc, aT, h1, ht]))
    · have := steady_above (i := i) ev.bl hy h0 hm ht
      exact .inr (.inr (by simp [sgE, hc, aE, h1, this]))
  · refine .inl ?_
    have : vBeat z u i l m y 0 = false := by
      cases h : vBeat z u i l m y 0
      · rfl
      · simp [vBeat] at h; have := vBt_iff.1 h.2; omega
    simp [sgC, cdE, this]

theorem soC_cases (z u i l m q n k : Int) : (soC z u i l m q n k = 1 ∨ soC z u i l m q n k = 2) ∨ (soC z u i l m q n k = 3 ∧ smC z u i l m q 50 n 0 = 0 ∧ smK z u i l m q 50 n 0 = 50) ∨
    (soC z u i l m q n k = 0 ∧ (0 ≤ soR z u i l m q n k ∧ soR z u i l m q n k ≤ 200000) ∧ (soR z u i l m q n k ≤ 1980 →
      (smC z u i l m q (soR z u i l m q n k) n 0 = 0 ∧ smK z u i l m q (soR z u i l m q n k) n 0 = soR z u i l m q n k) ∧
      (smC z u i l m q (soR z u i l m q n k + 20) n 0 = 0 ∧ smK z u i l m q (soR z u i l m q n k + 20) n 0 = soR z u i l m q n k))) := by
  by_cases hc : cdE z u i l m q n k = 0
  · obtain ⟨ev, ⟨hn0, hk⟩, hq⟩ := cdE_ok hc
    have b1 := ev.bu; have b2 := ev.bi; have b3 := ev.bl; have b4 := ev.bm
    have hc0 := cdE_zero (n := n) (k := 0) (q := q) ev hn0 (by omega) hq
    have run : ∀ N : Int, 0 ≤ N → N ≤ 2000 → smC z u i l m q N n 0 = 0 ∧ smK z u i l m q N n 0 = sil u i l m q N.toNat n := by
      intro N h1 h2
      have h3 : cdM z u i l m q N n 0 = 0 := by
        have := inB_iff.2 (⟨h1, h2⟩ : 0 ≤ N ∧ N ≤ 2000)
        simp [cdM, hc0, this]
      obtain ⟨y, hy⟩ := many_sil (u := u) (i := i) (l := l) (m := m) (q := q) (by omega) (by omega) b3 (by omega) (by omega) N.toNat (x := n) (k := 0) hn0 (by omega) (by omega)
      simp [smC, smK, h3, hy]
    by_cases hs : sil u i l m q (m + 2).toNat n = m + 2
    · refine .inr (.inl ⟨by simp [soC, hc, hs], ?_⟩)
      obtain ⟨d, hw⟩ := way_start u i l m q n
      have h2 := wayMu_le (d := d) hn0
      have h1 := sil_inf (N := 50) (M := (m + 2).toNat) (by omega) (by omega) b3 (by omega) (by omega) hw hn0 (by omega) (by omega)
      have := run 50 (by omega) (by omega)
      simp at this
      exact ⟨this.1, by rw [this.2, h1]; rfl⟩
    · have hb := sil_bd u i l m q (m + 2).toNat n
      have e : soR z u i l m q n k = sil u i l m q (m + 2).toNat n := by simp [soR, hc, hs]
      refine .inr (.inr ⟨by simp [soC, hc, hs], by omega, fun h => ?_⟩)
      have st := sil_sat (s := sil u i l m q (m + 2).toNat n) (m + 2).toNat (x := n) rfl (by omega)
      rw [e] at h ⊢
      have r1 := run (sil u i l m q (m + 2).toNat n) (by omega) (by omega)
      have r2 := run (sil u i l m q (m + 2).toNat n + 20) (by omega) (by omega)
      rw [st _ (show _ ≤ ((sil u i l m q (m + 2).toNat n).toNat : Int) by omega)] at r1
      rw [st _ (show _ ≤ ((sil u i l m q (m + 2).toNat n + 20).toNat : Int) by omega)] at r2
      exact ⟨r1, r2⟩
  · refine .inl ?_
    have : cdE z u i l m q n k = 1 ∨ cdE z u i l m q n k = 2 := by
      unfold cdE at hc ⊢
      split
      · exact .inl rfl
      · split
        · exact .inr rfl
        · rename_i h1 h2; simp [h1, h2] at hc
    simpa [soC, hc] using this
end Go.Proofs.Ytehebhphlaghfaa

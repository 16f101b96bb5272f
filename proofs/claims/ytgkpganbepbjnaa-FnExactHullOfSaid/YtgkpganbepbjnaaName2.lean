/-
  Names: the reference's test.
-/
import Derived.Test.YtgkpganbepbjnaaName
import Derived.Laws.Strings
namespace Go.Proofs.Ytgkpganbepbjnaa
open Go.RowKit
set_option linter.unusedSimpArgs false
set_option linter.unusedVariables false

set_option maxHeartbeats 400000 in
theorem l01Small_any (b : Int) (w : World) :
    Calls Try.prog 119 #[.int .u8 b] w fun e w' => e = .returned (.bool (smB b)) ∧ w = w' := by
  by_cases h1 : 97 ≤ b
  · by_cases h2 : b ≤ 122
    · have e : smB b = true := by simp [smB, h1, h2]
      go_enter Try.func119, Try.ntmps119
      go_wp2
      go_ret
      exact ⟨by simp [e], rfl⟩
    · have e : smB b = false := by simp [smB, h2]
      go_enter Try.func119, Try.ntmps119
      go_wp2
      go_ret
      exact ⟨by simp [e], rfl⟩
  · have e : smB b = false := by simp [smB, h1]
    go_enter Try.func119, Try.ntmps119
    go_wp2
    go_ret
    exact ⟨by simp [e], rfl⟩
set_option maxHeartbeats 400000 in
theorem l01Digit_any (b : Int) (w : World) :
    Calls Try.prog 120 #[.int .u8 b] w fun e w' => e = .returned (.bool (dgB b)) ∧ w = w' := by
  by_cases h1 : 48 ≤ b
  · by_cases h2 : b ≤ 57
    · have e : dgB b = true := by simp [dgB, h1, h2]
      go_enter Try.func120, Try.ntmps120
      go_wp2
      go_ret
      exact ⟨by simp [e], rfl⟩
    · have e : dgB b = false := by simp [dgB, h2]
      go_enter Try.func120, Try.ntmps120
      go_wp2
      go_ret
      exact ⟨by simp [e], rfl⟩
  · have e : dgB b = false := by simp [dgB, h1]
    go_enter Try.func120, Try.ntmps120
    go_wp2
    go_ret
    exact ⟨by simp [e], rfl⟩
theorem chr_get {s : ByteArray} {i : Nat} (h : i < s.size) : ((s[i]'h).toNat : Int) = chr s i := by
  unfold chr
  have hl : i < s.data.toList.length := by simpa using h
  rw [List.getD_eq_getElem?_getD, List.getElem?_eq_getElem hl]
  rfl
theorem run_chr (w : World) (t : TypeId) (s : ByteArray) (i : Nat) (ht : Try.prog.underlying t = some .string) (h : i < s.size) :
    (Instr.index t (.string s) (.int .i64 (i : Int))).run Try.prog w = .ok (.int .u8 (chr s i)) w := by
  rw [run_index_string w t s .i64 i ht, dif_pos ⟨by omega, by omega⟩, ← chr_get h]
  rfl
theorem run_chr0 (w : World) (t : TypeId) (s : ByteArray) (ht : Try.prog.underlying t = some .string) (h : 0 < s.size) :
    (Instr.index t (.string s) (.int .i64 0)).run Try.prog w = .ok (.int .u8 (chr s 0)) w := run_chr w t s 0 ht h
theorem str_nil {s : ByteArray} : (s.toList == []) = decide (s.size < 1) := by
  have : s.toList.length = s.size := by rw [ByteArray.toList_eq]; simp
  cases h : s.toList with
  | nil => rw [h] at this; simp at this; simp [← this]
  | cons a l => rw [h] at this; simp at this; rw [decide_eq_false (by omega)]; rfl
def tst (s : ByteArray) (i : Nat) : Bool := smB (chr s i) || (dgB (chr s i) || decide (chr s i = 45))
theorem isNm_bad2 {s : ByteArray} {i : Nat} (hi : i < s.size) (h : tst s i = false) : false = isNm s :=
  isNm_bad hi (by unfold tst at h; unfold okB; revert h; cases smB (chr s i) <;> cases dgB (chr s i) <;> cases decide (chr s i = 45) <;> cases decide (i ≠ 0) <;> simp)
theorem isNm_zero {s : ByteArray} (hi : 0 < s.size) (h : smB (chr s 0) = false) : false = isNm s := isNm_bad hi (by simp [okB, h])
theorem isNm_ok2 {s : ByteArray} (hl : 1 ≤ s.size ∧ s.size ≤ 12) (h0 : smB (chr s 0) = true) (h : ∀ j, j < s.size → tst s j = true) : true = isNm s :=
  isNm_ok hl (fun j hj => by
    by_cases hz : j = 0
    · subst hz; simp [okB, h0]
    · have := h j hj
      unfold tst at this
      unfold okB
      simp [hz] at *
      exact this)
set_option maxRecDepth 100000 in
set_option maxHeartbeats 4000000 in
theorem specIsName_any (s : ByteArray) (w : World) (hs : s.size ≤ 9223372036854775807) :
    Calls Try.prog 103 #[.string s] w fun e w' => e = .returned (.bool (isNm s)) ∧ w = w' := by
  have hn := @str_nil s
  by_cases ha : s.size < 1
  · have e := Lib.hid (isNm_len (.inl ha))
    rw [decide_eq_true ha] at hn
    go_enter Try.func103, Try.ntmps103
    go_wp2
    go_ret
    exact ⟨ret_bool e.out, rfl⟩
  rw [decide_eq_false ha] at hn
  by_cases hb : 12 < s.size
  · have e := Lib.hid (isNm_len (.inr hb))
    have t3 : (12 : Int) < (s.size : Int) := by omega
    go_enter Try.func103, Try.ntmps103
    go_wp2
    go_ret
    exact ⟨ret_bool e.out, rfl⟩
  have t3 : ¬ (12 : Int) < (s.size : Int) := by omega
  have r0 := fun w => run_chr0 w 9 s Try.underlying9 (by omega)
  cases hz : smB (chr s 0)
  · have e := Lib.hid (isNm_zero (by omega) hz)
    go_enter Try.func103, Try.ntmps103
    go_wp2_with (go_at_call 119; refine (l01Small_any _ _).mono ?_; rintro e w1 ⟨rfl, rfl⟩)
    go_ret
    exact ⟨ret_bool e.out, rfl⟩
  have hz' := Lib.hid hz
  go_enter Try.func103, Try.ntmps103
  go_wp2_with (go_at_call 119; refine (l01Small_any _ _).mono ?_; rintro e w1 ⟨rfl, rfl⟩)
  clear hz r0
  go_loop [3] (fun kk => ∃ i : Nat, kk = .int .i64 i ∧ i ≤ s.size ∧ Hid (∀ j, j < i → tst s j = true)) (fun kk => s.size - (intOf kk).toNat)
  case atStart => exact ⟨0, rfl, Nat.zero_le _, Lib.hid (fun j hj => by omega)⟩
  case round =>
    obtain ⟨i, rfl, hi, hh⟩ := hrel
    by_cases h0 : i < s.size
    · have r1 := fun w => run_chr w 9 s i Try.underlying9 h0
      have t1 : decide ((i : Int) < (s.size : Int)) = true := by simp; omega
      have hstep : tst s i = true → Hid (∀ j, j < i + 1 → tst s j = true) := fun h => Lib.hid (fun j hj => by
        by_cases hji : j = i
        · subst hji; exact h
        · exact hh.out j (by omega))
      cases h1 : smB (chr s i)
      · cases h2 : dgB (chr s i)
        · by_cases h3 : chr s i = 45
          · have h3' : (chr s i == 45) = true := by simpa using h3
            replace hstep := hstep (by simp [tst, h3])
            clear hh h3
            go_wp2_with (first | (go_at_call 119; refine (l01Small_any _ _).mono ?_; rintro e w1 ⟨rfl, rfl⟩) | (go_at_call 120; refine (l01Digit_any _ _).mono ?_; rintro e w1 ⟨rfl, rfl⟩))
            go_round
            case rel => exact ⟨i + 1, by go_num, by omega, hstep⟩
            case measure => simp [intOf]; omega
          · have e := Lib.hid (isNm_bad2 h0 (by simp [tst, h1, h2, h3]))
            have h3' : (chr s i == 45) = false := by simpa using h3
            clear hh hstep h3
            go_wp2_with (first | (go_at_call 119; refine (l01Small_any _ _).mono ?_; rintro e w1 ⟨rfl, rfl⟩) | (go_at_call 120; refine (l01Digit_any _ _).mono ?_; rintro e w1 ⟨rfl, rfl⟩))
            go_ret
            exact ⟨ret_bool e.out, rfl⟩
        · replace hstep := hstep (by simp [tst, h2])
          clear hh
          go_wp2_with (first | (go_at_call 119; refine (l01Small_any _ _).mono ?_; rintro e w1 ⟨rfl, rfl⟩) | (go_at_call 120; refine (l01Digit_any _ _).mono ?_; rintro e w1 ⟨rfl, rfl⟩))
          go_round
          case rel => exact ⟨i + 1, by go_num, by omega, hstep⟩
          case measure => simp [intOf]; omega
      · replace hstep := hstep (by simp [tst, h1])
        clear hh
        go_wp2_with (first | (go_at_call 119; refine (l01Small_any _ _).mono ?_; rintro e w1 ⟨rfl, rfl⟩) | (go_at_call 120; refine (l01Digit_any _ _).mono ?_; rintro e w1 ⟨rfl, rfl⟩))
        go_round
        case rel => exact ⟨i + 1, by go_num, by omega, hstep⟩
        case measure => simp [intOf]; omega
    · have t1 : decide ((i : Int) < (s.size : Int)) = false := by simp; omega
      have e := Lib.hid (isNm_ok2 ⟨by omega, by omega⟩ hz'.out (fun j hj => hh.out j (by omega)))
      clear hh
      go_wp2
      go_ret
      exact ⟨ret_bool e.out, rfl⟩
end Go.Proofs.Ytgkpganbepbjnaa

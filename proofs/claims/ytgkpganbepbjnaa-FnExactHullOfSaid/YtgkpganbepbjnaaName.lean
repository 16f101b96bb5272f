/-
  Names: the program's test and the reference's.
-/
import Derived.Test.YtgkpganbepbjnaaNum
import Derived.Lib.ConvBytes
import Derived.Lib.Hide
import Derived.BigQuiet
import Derived.Deep.DeepCutAuto
namespace Go.Proofs.Ytgkpganbepbjnaa
open Go.RowKit
set_option linter.unusedSimpArgs false
set_option linter.unusedVariables false

theorem ext_bytes (w : World) (e : TypeId) (s : ByteArray) : Ext w (Lib.bytesWorld w e s) := by
  refine ⟨⟨?_, ?_, ?_, by rw [Lib.bytesWorld_size]; omega, fun k hk => Lib.bytesWorld_at_old w e s k hk⟩, ?_⟩
  · simp [Lib.bytesWorld, World.freeze, World.alloc, World.drew, -World.alloc_eq, -World.drew_eq]
  · simp [Lib.bytesWorld, World.freeze, World.alloc, World.drew, -World.alloc_eq, -World.drew_eq]
  · simp [Lib.bytesWorld, World.freeze, World.alloc, World.drew, -World.alloc_eq, -World.drew_eq]
  · simp [Lib.bytesWorld, World.freeze, World.alloc, World.drew, World.drawn, -World.alloc_eq, -World.drew_eq]
def chr (s : ByteArray) (i : Nat) : Int := ((s.data.toList.getD i 0).toNat : Int)
theorem chr_bd (s : ByteArray) (i : Nat) : 0 ≤ chr s i ∧ chr s i ≤ 255 := by
  unfold chr
  have := (s.data.toList.getD i 0).toNat_lt
  omega
def smB (b : Int) : Bool := decide (97 ≤ b) && decide (b ≤ 122)
def dgB (b : Int) : Bool := decide (48 ≤ b) && decide (b ≤ 57)
def okB (s : ByteArray) (i : Nat) : Bool := smB (chr s i) || (decide (i ≠ 0) && (dgB (chr s i) || decide (chr s i = 45)))
def isNm (s : ByteArray) : Bool := decide (1 ≤ s.size ∧ s.size ≤ 12) && (List.range s.size).all (okB s)
theorem isNm_len {s : ByteArray} (h : s.size < 1 ∨ 12 < s.size) : false = isNm s := by
  have : decide (1 ≤ s.size ∧ s.size ≤ 12) = false := by simp; omega
  rw [isNm, this, Bool.false_and]
theorem isNm_bad {s : ByteArray} {i : Nat} (hi : i < s.size) (h : okB s i = false) : false = isNm s := by
  have : (List.range s.size).all (okB s) = false := by
    rw [List.all_eq_false]
    exact ⟨i, List.mem_range.2 hi, by rw [h]; simp⟩
  rw [isNm, this, Bool.and_false]
theorem isNm_ok {s : ByteArray} (hl : 1 ≤ s.size ∧ s.size ≤ 12) (h : ∀ j, j < s.size → okB s j = true) : true = isNm s := by
  have : (List.range s.size).all (okB s) = true := by
    rw [List.all_eq_true]
    exact fun j hj => h j (List.mem_range.1 hj)
  rw [isNm, this, Bool.and_true]
  simp
  omega
set_option maxRecDepth 100000 in
set_option maxHeartbeats 4000000 in
theorem implIsName_any (s : ByteArray) (w : World) (hs : s.size ≤ 9223372036854775807) :
    Calls Try.prog 122 #[.string s] w fun e w' => e = .returned (.bool (isNm s)) ∧ Ext w w' := by
  by_cases ha : s.size < 1
  · have e := Lib.hid (isNm_len (.inl ha))
    have t2 : (s.size : Int) < 1 := by omega
    go_enter Try.func122, Try.ntmps122
    go_wp2
    go_ret
    exact ⟨ret_bool e.out, Ext.refl _⟩
  by_cases hb : 12 < s.size
  · have e := Lib.hid (isNm_len (.inr hb))
    have t2 : ¬ (s.size : Int) < 1 := by omega
    have t3 : (12 : Int) < (s.size : Int) := by omega
    go_enter Try.func122, Try.ntmps122
    go_wp2
    go_ret
    exact ⟨ret_bool e.out, Ext.refl _⟩
  have t2 : ¬ (s.size : Int) < 1 := by omega
  have t3 : ¬ (12 : Int) < (s.size : Int) := by omega
  have hcv := Lib.run_convert_string_bytes (P := Try.prog) w 9 140 5 s Try.underlying9 Try.underlying140 Try.underlying5
  have hE := ext_bytes w 5 s
  have hcell := fun j hj => Lib.bytesWorld_cell w 5 s j hj
  generalize Lib.bytesWorld w 5 s = W at *
  generalize grownCap w s.size 0 5 = cp at *
  have hlW : w.heap.size ≤ W.heap.size := hE.size
  replace hcell := Lib.hid hcell
  go_enter Try.func122, Try.ntmps122
  go_wp2_with fail
  go_loopw [3, 4, 5, 6, 18] (fun _ _ _ _ kk wr => ∃ i : Nat, kk = .int .i64 i ∧ i ≤ s.size ∧ wr = W ∧ Hid (∀ j, j < i → okB s j = true)) (fun _ _ _ _ kk _ => s.size - (intOf kk).toNat)
  case atStart => exact ⟨0, rfl, Nat.zero_le _, rfl, Lib.hid (fun j hj => by omega)⟩
  case round =>
    obtain ⟨i, rfl, hi, rfl, hh⟩ := hrel
    have hl : 1 ≤ s.size ∧ s.size ≤ 12 := by omega
    by_cases h0 : i < s.size
    · have c0 : wr.cell? ⟨w.heap.size, i, none⟩ = some (.int .u8 (chr s i)) := hcell.out i h0
      have cb := chr_bd s i
      have t1 : decide ((i : Int) < (s.size : Int)) = true := by simp; omega
      have hiI : (i : Int) < (s.size : Int) := by omega
      clear hcell
      by_cases hz : i = 0
      · have dz : decide (i ≠ 0) = false := by simp [hz]
        have dz2 : ((i : Int) == 0) = true := by simp [hz]
        rcases (show (0 ≤ chr s i ∧ chr s i ≤ 44) ∨ (45 ≤ chr s i ∧ chr s i ≤ 45) ∨ (46 ≤ chr s i ∧ chr s i ≤ 47) ∨ (48 ≤ chr s i ∧ chr s i ≤ 57) ∨ (58 ≤ chr s i ∧ chr s i ≤ 96) ∨ (97 ≤ chr s i ∧ chr s i ≤ 122) ∨ (123 ≤ chr s i ∧ chr s i ≤ 255) from by omega) with hq | hq | hq | hq | hq | hq | hq
        · have hr : 0 ≤ chr s i ∧ chr s i ≤ 44 := by omega
          have a1 : ¬ (97 ≤ chr s i) := by omega
          have a2 : chr s i ≤ 122 := by omega
          have a3 : ¬ (48 ≤ chr s i) := by omega
          have a4 : chr s i ≤ 57 := by omega
          have a5 : ¬ (chr s i = 45) := by omega
          have a6 : (chr s i == 45) = false := by simpa using a5
          have e := Lib.hid (isNm_bad h0 (show okB s i = false by unfold okB smB dgB; simp only [dz]; simp [a1, a2, a3, a4, a5] <;> omega))
          clear hh
          generalize chr s i = ch at *
          clear dz
          replace hz := Lib.hid hz
          go_wp2_with fail
          go_ret
          exact ⟨ret_bool e.out, hE⟩
        · have hr : 45 ≤ chr s i ∧ chr s i ≤ 45 := by omega
          have a1 : ¬ (97 ≤ chr s i) := by omega
          have a2 : chr s i ≤ 122 := by omega
          have a3 : ¬ (48 ≤ chr s i) := by omega
          have a4 : chr s i ≤ 57 := by omega
          have a5 : chr s i = 45 := by omega
          have a6 : (chr s i == 45) = true := by simpa using a5
          have e := Lib.hid (isNm_bad h0 (show okB s i = false by unfold okB smB dgB; simp only [dz]; simp [a1, a2, a3, a4, a5] <;> omega))
          clear hh
          generalize chr s i = ch at *
          clear dz
          replace hz := Lib.hid hz
          go_wp2_with fail
          go_ret
          exact ⟨ret_bool e.out, hE⟩
        · have hr : 46 ≤ chr s i ∧ chr s i ≤ 47 := by omega
          have a1 : ¬ (97 ≤ chr s i) := by omega
          have a2 : chr s i ≤ 122 := by omega
          have a3 : ¬ (48 ≤ chr s i) := by omega
          have a4 : chr s i ≤ 57 := by omega
          have a5 : ¬ (chr s i = 45) := by omega
          have a6 : (chr s i == 45) = false := by simpa using a5
          have e := Lib.hid (isNm_bad h0 (show okB s i = false by unfold okB smB dgB; simp only [dz]; simp [a1, a2, a3, a4, a5] <;> omega))
          clear hh
          generalize chr s i = ch at *
          clear dz
          replace hz := Lib.hid hz
          go_wp2_with fail
          go_ret
          exact ⟨ret_bool e.out, hE⟩
        · have hr : 48 ≤ chr s i ∧ chr s i ≤ 57 := by omega
          have a1 : ¬ (97 ≤ chr s i) := by omega
          have a2 : chr s i ≤ 122 := by omega
          have a3 : 48 ≤ chr s i := by omega
          have a4 : chr s i ≤ 57 := by omega
          have a5 : ¬ (chr s i = 45) := by omega
          have a6 : (chr s i == 45) = false := by simpa using a5
          have e := Lib.hid (isNm_bad h0 (show okB s i = false by unfold okB smB dgB; simp only [dz]; simp [a1, a2, a3, a4, a5] <;> omega))
          clear hh
          generalize chr s i = ch at *
          clear dz
          replace hz := Lib.hid hz
          go_wp2_with fail
          go_ret
          exact ⟨ret_bool e.out, hE⟩
        · have hr : 58 ≤ chr s i ∧ chr s i ≤ 96 := by omega
          have a1 : ¬ (97 ≤ chr s i) := by omega
          have a2 : chr s i ≤ 122 := by omega
          have a3 : 48 ≤ chr s i := by omega
          have a4 : ¬ (chr s i ≤ 57) := by omega
          have a5 : ¬ (chr s i = 45) := by omega
          have a6 : (chr s i == 45) = false := by simpa using a5
          have e := Lib.hid (isNm_bad h0 (show okB s i = false by unfold okB smB dgB; simp only [dz]; simp [a1, a2, a3, a4, a5] <;> omega))
          clear hh
          generalize chr s i = ch at *
          clear dz
          replace hz := Lib.hid hz
          go_wp2_with fail
          go_ret
          exact ⟨ret_bool e.out, hE⟩
        · have hr : 97 ≤ chr s i ∧ chr s i ≤ 122 := by omega
          have a1 : 97 ≤ chr s i := by omega
          have a2 : chr s i ≤ 122 := by omega
          have a3 : 48 ≤ chr s i := by omega
          have a4 : ¬ (chr s i ≤ 57) := by omega
          have a5 : ¬ (chr s i = 45) := by omega
          have a6 : (chr s i == 45) = false := by simpa using a5
          have hk := Lib.hid (show ∀ j, j < i + 1 → okB s j = true from fun j hj => by
            by_cases hji : j = i
            · subst hji; unfold okB smB dgB; simp only [dz]; simp [a1, a2, a3, a4, a5]
            · exact hh.out j (by omega))
          clear hh
          generalize chr s i = ch at *
          clear dz
          replace hz := Lib.hid hz
          go_wp2_with fail
          go_roundw
          case rel => exact ⟨i + 1, by go_num, by omega, by first | rfl | trivial, hk⟩
          case measure => simp [intOf]; omega
        · have hr : 123 ≤ chr s i ∧ chr s i ≤ 255 := by omega
          have a1 : 97 ≤ chr s i := by omega
          have a2 : ¬ (chr s i ≤ 122) := by omega
          have a3 : 48 ≤ chr s i := by omega
          have a4 : ¬ (chr s i ≤ 57) := by omega
          have a5 : ¬ (chr s i = 45) := by omega
          have a6 : (chr s i == 45) = false := by simpa using a5
          have e := Lib.hid (isNm_bad h0 (show okB s i = false by unfold okB smB dgB; simp only [dz]; simp [a1, a2, a3, a4, a5] <;> omega))
          clear hh
          generalize chr s i = ch at *
          clear dz
          replace hz := Lib.hid hz
          go_wp2_with fail
          go_ret
          exact ⟨ret_bool e.out, hE⟩
      · have dz : decide (i ≠ 0) = true := by simp [hz]
        have dz2 : ((i : Int) == 0) = false := by simp [hz]
        rcases (show (0 ≤ chr s i ∧ chr s i ≤ 44) ∨ (45 ≤ chr s i ∧ chr s i ≤ 45) ∨ (46 ≤ chr s i ∧ chr s i ≤ 47) ∨ (48 ≤ chr s i ∧ chr s i ≤ 57) ∨ (58 ≤ chr s i ∧ chr s i ≤ 96) ∨ (97 ≤ chr s i ∧ chr s i ≤ 122) ∨ (123 ≤ chr s i ∧ chr s i ≤ 255) from by omega) with hq | hq | hq | hq | hq | hq | hq
        · have hr : 0 ≤ chr s i ∧ chr s i ≤ 44 := by omega
          have a1 : ¬ (97 ≤ chr s i) := by omega
          have a2 : chr s i ≤ 122 := by omega
          have a3 : ¬ (48 ≤ chr s i) := by omega
          have a4 : chr s i ≤ 57 := by omega
          have a5 : ¬ (chr s i = 45) := by omega
          have a6 : (chr s i == 45) = false := by simpa using a5
          have e := Lib.hid (isNm_bad h0 (show okB s i = false by unfold okB smB dgB; simp only [dz]; simp [a1, a2, a3, a4, a5] <;> omega))
          clear hh
          generalize chr s i = ch at *
          clear dz
          replace hz := Lib.hid hz
          go_wp2_with fail
          go_ret
          exact ⟨ret_bool e.out, hE⟩
        · have hr : 45 ≤ chr s i ∧ chr s i ≤ 45 := by omega
          have a1 : ¬ (97 ≤ chr s i) := by omega
          have a2 : chr s i ≤ 122 := by omega
          have a3 : ¬ (48 ≤ chr s i) := by omega
          have a4 : chr s i ≤ 57 := by omega
          have a5 : chr s i = 45 := by omega
          have a6 : (chr s i == 45) = true := by simpa using a5
          have hk := Lib.hid (show ∀ j, j < i + 1 → okB s j = true from fun j hj => by
            by_cases hji : j = i
            · subst hji; unfold okB smB dgB; simp only [dz]; simp [a1, a2, a3, a4, a5]
            · exact hh.out j (by omega))
          clear hh
          generalize chr s i = ch at *
          clear dz
          replace hz := Lib.hid hz
          go_wp2_with fail
          go_roundw
          case rel => exact ⟨i + 1, by go_num, by omega, by first | rfl | trivial, hk⟩
          case measure => simp [intOf]; omega
        · have hr : 46 ≤ chr s i ∧ chr s i ≤ 47 := by omega
          have a1 : ¬ (97 ≤ chr s i) := by omega
          have a2 : chr s i ≤ 122 := by omega
          have a3 : ¬ (48 ≤ chr s i) := by omega
          have a4 : chr s i ≤ 57 := by omega
          have a5 : ¬ (chr s i = 45) := by omega
          have a6 : (chr s i == 45) = false := by simpa using a5
          have e := Lib.hid (isNm_bad h0 (show okB s i = false by unfold okB smB dgB; simp only [dz]; simp [a1, a2, a3, a4, a5] <;> omega))
          clear hh
          generalize chr s i = ch at *
          clear dz
          replace hz := Lib.hid hz
          go_wp2_with fail
          go_ret
          exact ⟨ret_bool e.out, hE⟩
        · have hr : 48 ≤ chr s i ∧ chr s i ≤ 57 := by omega
          have a1 : ¬ (97 ≤ chr s i) := by omega
          have a2 : chr s i ≤ 122 := by omega
          have a3 : 48 ≤ chr s i := by omega
          have a4 : chr s i ≤ 57 := by omega
          have a5 : ¬ (chr s i = 45) := by omega
          have a6 : (chr s i == 45) = false := by simpa using a5
          have hk := Lib.hid (show ∀ j, j < i + 1 → okB s j = true from fun j hj => by
            by_cases hji : j = i
            · subst hji; unfold okB smB dgB; simp only [dz]; simp [a1, a2, a3, a4, a5]
            · exact hh.out j (by omega))
          clear hh
          generalize chr s i = ch at *
          clear dz
          replace hz := Lib.hid hz
          go_wp2_with fail
          go_roundw
          case rel => exact ⟨i + 1, by go_num, by omega, by first | rfl | trivial, hk⟩
          case measure => simp [intOf]; omega
        · have hr : 58 ≤ chr s i ∧ chr s i ≤ 96 := by omega
          have a1 : ¬ (97 ≤ chr s i) := by omega
          have a2 : chr s i ≤ 122 := by omega
          have a3 : 48 ≤ chr s i := by omega
          have a4 : ¬ (chr s i ≤ 57) := by omega
          have a5 : ¬ (chr s i = 45) := by omega
          have a6 : (chr s i == 45) = false := by simpa using a5
          have e := Lib.hid (isNm_bad h0 (show okB s i = false by unfold okB smB dgB; simp only [dz]; simp [a1, a2, a3, a4, a5] <;> omega))
          clear hh
          generalize chr s i = ch at *
          clear dz
          replace hz := Lib.hid hz
          go_wp2_with fail
          go_ret
          exact ⟨ret_bool e.out, hE⟩
        · have hr : 97 ≤ chr s i ∧ chr s i ≤ 122 := by omega
          have a1 : 97 ≤ chr s i := by omega
          have a2 : chr s i ≤ 122 := by omega
          have a3 : 48 ≤ chr s i := by omega
          have a4 : ¬ (chr s i ≤ 57) := by omega
          have a5 : ¬ (chr s i = 45) := by omega
          have a6 : (chr s i == 45) = false := by simpa using a5
          have hk := Lib.hid (show ∀ j, j < i + 1 → okB s j = true from fun j hj => by
            by_cases hji : j = i
            · subst hji; unfold okB smB dgB; simp only [dz]; simp [a1, a2, a3, a4, a5]
            · exact hh.out j (by omega))
          clear hh
          generalize chr s i = ch at *
          clear dz
          replace hz := Lib.hid hz
          go_wp2_with fail
          go_roundw
          case rel => exact ⟨i + 1, by go_num, by omega, by first | rfl | trivial, hk⟩
          case measure => simp [intOf]; omega
        · have hr : 123 ≤ chr s i ∧ chr s i ≤ 255 := by omega
          have a1 : 97 ≤ chr s i := by omega
          have a2 : ¬ (chr s i ≤ 122) := by omega
          have a3 : 48 ≤ chr s i := by omega
          have a4 : ¬ (chr s i ≤ 57) := by omega
          have a5 : ¬ (chr s i = 45) := by omega
          have a6 : (chr s i == 45) = false := by simpa using a5
          have e := Lib.hid (isNm_bad h0 (show okB s i = false by unfold okB smB dgB; simp only [dz]; simp [a1, a2, a3, a4, a5] <;> omega))
          clear hh
          generalize chr s i = ch at *
          clear dz
          replace hz := Lib.hid hz
          go_wp2_with fail
          go_ret
          exact ⟨ret_bool e.out, hE⟩
    · have hin : i = s.size := by omega
      have t1 : decide ((i : Int) < (s.size : Int)) = false := by simp; omega
      have e := Lib.hid (isNm_ok hl (fun j hj => hh.out j (by omega)))
      have t4 : ¬ (i : Int) < (s.size : Int) := by omega
      go_wp2
      go_ret
      exact ⟨ret_bool e.out, hE⟩
end Go.Proofs.Ytgkpganbepbjnaa

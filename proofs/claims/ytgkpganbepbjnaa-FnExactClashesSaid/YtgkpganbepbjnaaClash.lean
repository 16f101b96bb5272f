/-
  Slices of Clash: converted, sized, compared.
-/
import Derived.Test.YtgkpganbepbjnaaRow2
namespace Go.Proofs.Ytgkpganbepbjnaa
open Go.RowKit
set_option linter.unusedSimpArgs false
set_option linter.unusedVariables false




set_option maxHeartbeats 400000 in
theorem eqClash_any (n d n1 d1 : Int) (w : World) (h1 : n1 = n) (h2 : d1 = d) :
    Calls Try.prog 86 #[.agg #[.int .i64 n, .int .i64 d], .agg #[.int .i64 n1, .int .i64 d1]] w fun e w' => e = .returned (.bool true) ∧ Ext w w' := by
  subst h1; subst h2
  go_enter Try.func86, Try.ntmps86
  go_wp2
  go_ret
  exact ⟨rfl, (((Ext.refl _).alloc _).alloc _)⟩

set_option maxHeartbeats 4000000 in
theorem eqClashS_any (a a1 : Option Addr) (n c c1 : Nat) (zs : List (Int × Int)) (w : World) (hr : RowAt w a zs) (hr1 : RowAt w a1 zs) (hn : zs.length = n) (hm : n ≤ 1048576) :
    Calls Try.prog 47 #[.slice a n c, .slice a1 n c1] w fun e w' => e = .returned (.bool true) ∧ Ext w w' := by
  go_enter Try.func47, Try.ntmps47
  go_wp2_with fail
  go_loopw [5] (fun kk wr => ∃ i : Nat, kk = .int .i64 i ∧ i ≤ n ∧ Ext w wr) (fun kk _ => n - (intOf kk).toNat)
  case atStart => exact ⟨0, rfl, Nat.zero_le _, Ext.refl _⟩
  case round =>
    obtain ⟨i, rfl, hi, xw⟩ := hrel
    by_cases h0 : i < n
    · obtain ⟨b, off, rfl, hb, x, y, ex, ey, c0, c1⟩ := (hr.ext xw).look (j := i) (by omega)
      obtain ⟨b1, off1, rfl, hb1, x1, y1, ex1, ey1, d0, d1⟩ := (hr1.ext xw).look (j := i) (by omega)
      have f1 := Lib.hid (ex1.out.symm.trans ex.out)
      have f2 := Lib.hid (ey1.out.symm.trans ey.out)
      have t1 : decide ((i : Int) < (n : Int)) = true := by simp; omega
      have x0 := Ext.refl wr
      go_wp2_with fail
      clear ex ey ex1 ey1 hr hr1
      go_region_held3 (fun w' => w'.cell? ⟨b, off + i * 2, none⟩ = some (.int .i64 x) ∧ w'.cell? ⟨b, off + i * 2 + 1, none⟩ = some (.int .i64 y) ∧ w'.cell? ⟨b1, off1 + i * 2, none⟩ = some (.int .i64 x1) ∧ w'.cell? ⟨b1, off1 + i * 2 + 1, none⟩ = some (.int .i64 y1))
        (first | (refine ⟨?_, ?_, ?_, ?_⟩ <;> (refine (xc _ _ ?_).trans ?_ <;> assumption)) | (refine ⟨?_, ?_, ?_, ?_⟩ <;> assumption) | go_keep)
        (first | (go_at_call 86; refine (eqClash_any _ _ _ _ _ f1.out f2.out).mono ?_; rintro e w1 ⟨rfl, x1⟩; (try clear xc xf xs); (first | replace x0 := x0.trans x1 | replace x0 := (x0.alloc _).trans x1 | replace x0 := (x0.drew).trans x1 | replace x0 := (x0.drew.alloc _).trans x1 | replace x0 := (x0.alloc _).drew.trans x1 | replace x0 := ((x0.alloc _).alloc _).trans x1 | have x0 := x1); clear x1; obtain ⟨xc, xf, xs⟩ := x0.cells))
      all_goals (go_wp2_with fail; go_roundw)
      all_goals first | exact ⟨i + 1, by go_num, by omega, xw.trans x0⟩ | (simp [intOf]; omega)
    · have : i = n := by omega
      subst this
      have t1 : decide ((i : Int) < (i : Int)) = false := by simp
      go_wp2
      go_ret
      exact ⟨rfl, xw⟩
end Go.Proofs.Ytgkpganbepbjnaa

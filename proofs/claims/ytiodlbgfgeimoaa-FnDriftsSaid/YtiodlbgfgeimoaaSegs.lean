/-
  Slices of Segment: converted, sized, compared.
-/
import Derived.Test.YtiodlbgfgeimoaaRow2
namespace Go.Proofs.Ytiodlbgfgeimoaa
open Go.RowKit
set_option linter.unusedSimpArgs false
set_option linter.unusedVariables false

set_option maxHeartbeats 400000 in
theorem toSegment_any (n d : Int) (w : World) :
    Calls Try.prog 67 #[.agg #[.int .i64 n, .int .i64 d]] w fun e w' => e = .returned (.agg #[.int .i64 n, .int .i64 d]) ∧ Ext w w' := by
  go_enter Try.func67, Try.ntmps67
  go_wp2
  exact bodyPost_ret (v := .agg #[.int .i64 n, .int .i64 d]) (by simp [results, Try.results67, go_sem]) rfl ⟨rfl, (((Ext.refl _).alloc _).alloc _).alloc _⟩

set_option maxHeartbeats 1000000 in
theorem toSegmentS_any (a : Option Addr) (n c : Nat) (zs : List (Int × Int)) (w : World) (hr : RowAt w a zs) (hn : zs.length = n) (hm : n ≤ 1048576) :
    Calls Try.prog 27 #[.slice a n c] w fun e w' => e = .returned (.slice (some ⟨w.heap.size, 0, none⟩) n n) ∧ Fill w' w.heap.size n n zs ∧ Ext w w' := by
  have hmk := fun W => run_make_pairs (P := Try.prog) 34 61 Try.underlying34 (by kernel_rfl) n n (Nat.le_refl _) (by omega) W
  go_enter Try.func27, Try.ntmps27
  go_wp2_with fail
  go_loopw [4] (fun kk wr => ∃ i : Nat, kk = .int .i64 i ∧ i ≤ n ∧ Ext w wr ∧ Fill wr w.heap.size n i zs) (fun kk _ => n - (intOf kk).toNat)
  case atStart => exact ⟨0, rfl, Nat.zero_le _, (Ext.refl _).alloc _, Fill.start _ _ _ _ _ (by simp [size_madeCells])⟩
  case round =>
    obtain ⟨i, rfl, hi, xw, hf⟩ := hrel
    by_cases h0 : i < n
    · obtain ⟨b, off, rfl, hb, x, y, ex, ey, c0, c1⟩ := (hr.ext xw).look (j := i) (by omega)
      have t1 : decide ((i : Int) < (n : Int)) = true := by simp; omega
      have hx := hf.lt
      obtain ⟨u0, hu0⟩ := hf.there (i * 2) (by omega)
      obtain ⟨u1, hu1⟩ := hf.there (i * 2 + 1) (by omega)
      have z0 := hf.free (i * 2)
      have z1 := hf.free (i * 2 + 1)
      go_wp2_with (go_at_call 67; refine (toSegment_any _ _ _).mono ?_; rintro e w1 ⟨rfl, x1⟩; obtain ⟨xc, xf, xs⟩ := x1.keeps)
      go_roundw
      case rel => exact ⟨i + 1, by go_num, by omega, ((xw.trans x1).setCell (Nat.le_refl _) _).setCell (Nat.le_refl _) _, (hf.ext x1).step h0 ex.out ey.out⟩
      case measure => simp [intOf]; omega
    · have : i = n := by omega
      subst this
      have t1 : decide ((i : Int) < (i : Int)) = false := by simp
      go_wp2
      go_ret
      exact ⟨rfl, hf, xw⟩

set_option maxHeartbeats 400000 in
theorem szSegmentS_any (a : Option Addr) (n c : Nat) (w : World) (hn : n ≤ 9223372036854775807) :
    Calls Try.prog 25 #[.slice a n c, .int .i64 1048576] w fun e w' => e = .returned (.int .i64 (szOf n)) ∧ w = w' := by
  have q1 : IntKind.i64.wrap (1048576 - (n : Int)) = 1048576 - (n : Int) := IntWalk.i64_in _ (by omega)
  by_cases h : (1048576 - (n : Int)) < 0
  · have e := Lib.hid (show -1 = szOf n by simp [szOf]; omega)
    go_enter Try.func25, Try.ntmps25
    go_wp2
    go_ret
    exact ⟨ret_int e.out, rfl⟩
  · have e := Lib.hid (show 1048576 - (n : Int) = szOf n by simp [szOf]; omega)
    go_enter Try.func25, Try.ntmps25
    go_wp2
    go_ret
    exact ⟨ret_int e.out, rfl⟩

set_option maxHeartbeats 400000 in
theorem eqSegment_any (n d n1 d1 : Int) (w : World) (h1 : n1 = n) (h2 : d1 = d) :
    Calls Try.prog 68 #[.agg #[.int .i64 n, .int .i64 d], .agg #[.int .i64 n1, .int .i64 d1]] w fun e w' => e = .returned (.bool true) ∧ Ext w w' := by
  subst h1; subst h2
  go_enter Try.func68, Try.ntmps68
  go_wp2
  go_ret
  exact ⟨rfl, (((Ext.refl _).alloc _).alloc _)⟩

set_option maxHeartbeats 4000000 in
theorem eqSegmentS_any (a a1 : Option Addr) (n c c1 : Nat) (zs : List (Int × Int)) (w : World) (hr : RowAt w a zs) (hr1 : RowAt w a1 zs) (hn : zs.length = n) (hm : n ≤ 1048576) :
    Calls Try.prog 29 #[.slice a n c, .slice a1 n c1] w fun e w' => e = .returned (.bool true) ∧ Ext w w' := by
  go_enter Try.func29, Try.ntmps29
  go_wp2_with fail
  go_loopw [5] (fun kk wr => ∃ i : Nat, kk = .int .i64 i ∧ i ≤ n ∧ Ext w wr) (fun kk _ => n - (intOf kk).toNat)
  case atStart => exact ⟨0, rfl, Nat.zero_le _, Ext.refl _⟩
  case round =>
    obtain ⟨i, rfl, hi, xw⟩ := hrel
    by_cases h0 : i < n
    · obtain ⟨b, off, rfl, hb, x, y, ex, ey, c0, c1⟩ := (hr.ext xw).look (j := i) (by omega)
      obtain ⟨b1, off1, rfl, hb1, x1, y1, ex1, ey1, d0, d1⟩ := (hr1.ext xw).look (j := i) (by omega)
      have f1 := Lib.hid (ex1.out.symm.trans ex.out)
      have f2 := Lib.hid (ey1.out.symm.trans ey.out)
      have t1 : decide ((i : Int) < (n : Int)) = true := by simp; omega
      have x0 := Ext.refl wr
      go_wp2_with fail
      clear ex ey ex1 ey1 hr hr1
      go_region_held3 (fun w' => w'.cell? ⟨b, off + i * 2, none⟩ = some (.int .i64 x) ∧ w'.cell? ⟨b, off + i * 2 + 1, none⟩ = some (.int .i64 y) ∧ w'.cell? ⟨b1, off1 + i * 2, none⟩ = some (.int .i64 x1) ∧ w'.cell? ⟨b1, off1 + i * 2 + 1, none⟩ = some (.int .i64 y1))
        (first | (refine ⟨?_, ?_, ?_, ?_⟩ <;> (refine (xc _ _ ?_).trans ?_ <;> assumption)) | (refine ⟨?_, ?_, ?_, ?_⟩ <;> assumption) | go_keep)
        (first | (go_at_call 68; refine (eqSegment_any _ _ _ _ _ f1.out f2.out).mono ?_; rintro e w1 ⟨rfl, x1⟩; (try clear xc xf xs); (first | replace x0 := x0.trans x1 | replace x0 := (x0.alloc _).trans x1 | replace x0 := (x0.drew).trans x1 | replace x0 := (x0.drew.alloc _).trans x1 | replace x0 := (x0.alloc _).drew.trans x1 | replace x0 := ((x0.alloc _).alloc _).trans x1 | have x0 := x1); clear x1; obtain ⟨xc, xf, xs⟩ := x0.cells))
      all_goals (go_wp2_with fail; go_roundw)
      all_goals first | exact ⟨i + 1, by go_num, by omega, xw.trans x0⟩ | (simp [intOf]; omega)
    · have : i = n := by omega
      subst this
      have t1 : decide ((i : Int) < (i : Int)) = false := by simp
      go_wp2
      go_ret
      exact ⟨rfl, xw⟩
end Go.Proofs.Ytiodlbgfgeimoaa

/-
  Slices of sites: converted, sized, compared.
-/
import Derived.Test.YtgkpganbepbjnaaSiteF
import Derived.Test.YtgkpganbepbjnaaHeld
import Derived.Deep.DeepCutAuto
namespace Go.Proofs.Ytgkpganbepbjnaa
open Go.RowKit
set_option linter.unusedSimpArgs false
set_option linter.unusedVariables false

def siteZero : Value := .agg #[.string ⟨#[]⟩, .int .i64 0, .int .i64 0, .int .i64 0, .int .i64 0]
theorem run_make_sites {P : Program} (t e : TypeId) (ht : P.underlying t = some (.slice e)) (he : (P.info? e).map (fun i => (i.zero, i.size, i.bytes)) = some (some siteZero, 5, 48))
    (n c : Nat) (hnc : n ≤ c) (hc : c ≤ 5000000) (w : World) :
    (Instr.makeSlice t (.int .i64 (n : Int)) (.int .i64 (c : Int))).run P w = .ok (.slice (some ⟨w.heap.size, 0, none⟩) n c) (w.alloc (.cells (madeCells siteZero.cells (c * 5)) e)) := by
  cases hi : P.info? e with
  | none => rw [hi] at he; simp at he
  | some i =>
    rw [hi] at he
    simp only [Option.map_some, Option.some.injEq, Prod.mk.injEq] at he
    have := run_make_rowN (P := P) t e i siteZero ht hi he.1 .i64 .i64 n c hnc (by rw [he.2.2]; omega) (by omega) w
    rw [he.2.1] at this
    exact this
set_option maxHeartbeats 2000000 in
theorem toSiteS_any (a : Option Addr) (n c : Nat) (zs : List Sit) (w : World) (hr : SRow w a zs) (hn : zs.length = n) (hm : n ≤ 1048576) :
    Calls Try.prog 83 #[.slice a n c] w fun e w' => e = .returned (.slice (some ⟨w.heap.size, 0, none⟩) n n) ∧ SFill w' w.heap.size n n zs ∧ Ext w w' := by
  have hmk := fun W => run_make_sites (P := Try.prog) 66 106 Try.underlying66 (by kernel_rfl) n n (Nat.le_refl _) (by omega) W
  go_enter Try.func83, Try.ntmps83
  go_wp2_with fail
  go_loopw [4] (fun kk wr => ∃ i : Nat, kk = .int .i64 i ∧ i ≤ n ∧ Ext w wr ∧ SFill wr w.heap.size n i zs) (fun kk _ => n - (intOf kk).toNat)
  case atStart => exact ⟨0, rfl, Nat.zero_le _, (Ext.refl _).alloc _, SFill.start _ _ _ _ _ (by simp [size_madeCells])⟩
  case round =>
    obtain ⟨i, rfl, hi, xw, hf⟩ := hrel
    by_cases h0 : i < n
    · obtain ⟨b, off, rfl, hb, s, x, y, wh, st, hz, c0, c1, c2, c3, c4⟩ := (hr.ext xw).look (j := i) (by omega)
      have t1 : decide ((i : Int) < (n : Int)) = true := by simp; omega
      have hx := hf.lt
      obtain ⟨u0, hu0⟩ := hf.there (i * 5) (by omega)
      obtain ⟨u1, hu1⟩ := hf.there (i * 5 + 1) (by omega)
      obtain ⟨u2, hu2⟩ := hf.there (i * 5 + 2) (by omega)
      obtain ⟨u3, hu3⟩ := hf.there (i * 5 + 3) (by omega)
      obtain ⟨u4, hu4⟩ := hf.there (i * 5 + 4) (by omega)
      have z0 := hf.free (i * 5)
      have z1 := hf.free (i * 5 + 1)
      have z2 := hf.free (i * 5 + 2)
      have z3 := hf.free (i * 5 + 3)
      have z4 := hf.free (i * 5 + 4)
      go_wp2_with (go_at_call 106; refine (toSite_any _ _ _ _ _ _).mono ?_; rintro e w1 ⟨rfl, x1⟩; obtain ⟨xc, xf, xs⟩ := x1.keeps)
      go_roundw
      case rel => exact ⟨i + 1, by go_num, by omega, ((((((xw.trans x1).setCell (Nat.le_refl _) _).setCell (Nat.le_refl _) _).setCell (Nat.le_refl _) _).setCell (Nat.le_refl _) _).setCell (Nat.le_refl _) _), (hf.ext x1).step h0 hz.out⟩
      case measure => simp [intOf]; omega
    · have : i = n := by omega
      subst this
      have t1 : decide ((i : Int) < (i : Int)) = false := by simp
      go_wp2
      go_ret
      exact ⟨rfl, hf, xw⟩
set_option maxHeartbeats 2000000 in
theorem szSiteS_any (a : Option Addr) (n c : Nat) (zs : List Sit) (w : World) (hr : SRow w a zs) (hn : zs.length = n) (hm : n ≤ 9223372036854775807) (hs : ∀ j, j < n → (zs.getD j Sit.d).s.size ≤ 9223372036854775807) :
    Calls Try.prog 80 #[.slice a n c, .int .i64 1048576] w fun e w' => (∃ r, e = .returned (.int .i64 r) ∧ (r = -1 ∨ (0 ≤ r ∧ n ≤ 1048576))) ∧ Ext w w' := by
  have q1 : IntKind.i64.wrap (1048576 - (n : Int)) = 1048576 - (n : Int) := IntWalk.i64_in _ (by omega)
  by_cases h : (1048576 - (n : Int)) < 0
  · go_enter Try.func80, Try.ntmps80
    go_wp2
    go_ret
    exact ⟨⟨-1, rfl, .inl rfl⟩, Ext.refl _⟩
  · have hn2 : n ≤ 1048576 := by omega
    go_enter Try.func80, Try.ntmps80
    go_wp2_with fail
    go_loopw [1, 5] (fun kl kk wr => ∃ (i : Nat) (r : Int), kk = .int .i64 i ∧ kl = .int .i64 r ∧ (0 ≤ r ∧ r ≤ 1048576) ∧ i ≤ n ∧ Ext w wr) (fun _ kk _ => n - (intOf kk).toNat)
    case atStart => exact ⟨0, _, rfl, rfl, by omega, Nat.zero_le _, Ext.refl _⟩
    case round =>
      obtain ⟨i, r, rfl, rfl, hr1, hi, xw⟩ := hrel
      by_cases h0 : i < n
      · obtain ⟨b, off, rfl, hb, s, x, y, wh, st, hz, c0, c1, c2, c3, c4⟩ := (hr.ext xw).look (j := i) (by omega)
        have t1 : decide ((i : Int) < (n : Int)) = true := by simp; omega
        have hsz := hs i h0
        rw [hz.out] at hsz
        go_upto_region 8 with (first | (go_at_call 102; refine (szSite_any _ _ _ _ _ _ _ hr1 hsz).mono ?_; rintro e w1 ⟨⟨r1, rfl, hr2⟩, x1⟩))
        rcases hr2 with rfl | ⟨k1, k2, k3⟩
        · go_wp2
          go_ret
          exact ⟨⟨-1, rfl, .inl rfl⟩, xw.trans x1⟩
        · have t2 : ¬ r1 < 0 := by omega
          go_wp2
          go_roundw
          case rel => exact ⟨i + 1, r1, by go_num, rfl, by omega, by omega, xw.trans x1⟩
          case measure => simp [intOf]; omega
      · have : i = n := by omega
        subst this
        have t1 : decide ((i : Int) < (i : Int)) = false := by simp
        go_wp2
        go_ret
        exact ⟨⟨r, rfl, .inr ⟨hr1.1, hn2⟩⟩, xw⟩
set_option maxHeartbeats 4000000 in
theorem eqSiteS_any (a a1 : Option Addr) (n c c1 : Nat) (zs : List Sit) (w : World) (hr : SRow w a zs) (hr1 : SRow w a1 zs) (hn : zs.length = n) (hm : n ≤ 1048576) :
    Calls Try.prog 87 #[.slice a n c, .slice a1 n c1] w fun e w' => e = .returned (.bool true) ∧ Ext w w' := by
  go_enter Try.func87, Try.ntmps87
  go_wp2_with fail
  go_loopw [5] (fun kk wr => ∃ i : Nat, kk = .int .i64 i ∧ i ≤ n ∧ Ext w wr) (fun kk _ => n - (intOf kk).toNat)
  case atStart => exact ⟨0, rfl, Nat.zero_le _, Ext.refl _⟩
  case round =>
    obtain ⟨i, rfl, hi, xw⟩ := hrel
    by_cases h0 : i < n
    · obtain ⟨b, off, rfl, hb, s, x, y, wh, st, hz, c0, k1, k2, k3, k4⟩ := (hr.ext xw).look (j := i) (by omega)
      obtain ⟨b1, off1, rfl, hb1, s', x', y', wh', st', hz', d0, d1, d2, d3, d4⟩ := (hr1.ext xw).look (j := i) (by omega)
      have he := hz'.out.symm.trans hz.out
      injection he with e1 e2 e3 e4 e5
      subst e1; subst e2; subst e3; subst e4; subst e5
      have t1 : decide ((i : Int) < (n : Int)) = true := by simp; omega
      have x0 := Ext.refl wr
      go_wp2_with fail
      clear hz hz' hr hr1
      go_region_held3 (fun w' => w'.cell? ⟨b, off + i * 5, none⟩ = some (.string s') ∧ w'.cell? ⟨b, off + i * 5 + 1, none⟩ = some (.int .i64 x') ∧ w'.cell? ⟨b, off + i * 5 + 2, none⟩ = some (.int .i64 y') ∧ w'.cell? ⟨b, off + i * 5 + 3, none⟩ = some (.int .i64 wh') ∧ w'.cell? ⟨b, off + i * 5 + 4, none⟩ = some (.int .i64 st') ∧ w'.cell? ⟨b1, off1 + i * 5, none⟩ = some (.string s') ∧ w'.cell? ⟨b1, off1 + i * 5 + 1, none⟩ = some (.int .i64 x') ∧ w'.cell? ⟨b1, off1 + i * 5 + 2, none⟩ = some (.int .i64 y') ∧ w'.cell? ⟨b1, off1 + i * 5 + 3, none⟩ = some (.int .i64 wh') ∧ w'.cell? ⟨b1, off1 + i * 5 + 4, none⟩ = some (.int .i64 st'))
        (first | (refine ⟨?_, ?_, ?_, ?_, ?_, ?_, ?_, ?_, ?_, ?_⟩ <;> with_reducible assumption) | (refine ⟨?_, ?_, ?_, ?_, ?_, ?_, ?_, ?_, ?_, ?_⟩ <;> (refine keep_ext (W := wr) ?_ (by assumption) (by assumption); exact x0)) | go_keep)
        (first | (go_at_call 112; refine (eqSite_any _ _ _ _ _ _).mono ?_; rintro e w1 ⟨rfl, x1⟩; (first | replace x0 := x0.trans x1 | replace x0 := (x0.drew).trans x1 | replace x0 := (x0.drewN _).trans x1); clear x1))
      all_goals (go_wp2_with fail; go_roundw)
      all_goals first | exact ⟨i + 1, by go_num, by omega, xw.trans x0⟩ | (simp [intOf]; omega)
    · have : i = n := by omega
      subst this
      have t1 : decide ((i : Int) < (i : Int)) = false := by simp
      go_wp2
      go_ret
      exact ⟨rfl, xw⟩
end Go.Proofs.Ytgkpganbepbjnaa

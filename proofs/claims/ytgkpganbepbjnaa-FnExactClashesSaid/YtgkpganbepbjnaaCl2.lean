/-
  The clashes of a plate: the reference's walk.
-/
import Derived.Test.YtgkpganbepbjnaaClP
import Derived.Test.YtgkpganbepbjnaaVPlate2
import Derived.Test.YtgkpganbepbjnaaOwnC
import Derived.Test.YtgkpganbepbjnaaHeld
import Derived.Deep.DeepCutAuto
namespace Go.Proofs.Ytgkpganbepbjnaa
open Go.RowKit
set_option linter.unusedSimpArgs false
set_option linter.unusedVariables false

set_option maxRecDepth 100000 in
set_option maxHeartbeats 16000000 in
theorem specClashes_any (pw ph pm pg : Int) (a : Option Addr) (n c : Nat) (zs : List Sit) (w : World) (hr : SRow w a zs) (hn : zs.length = n) (hm : n ≤ 1048576) (hsz : ∀ j, j < n → (zs.getD j Sit.d).s.size ≤ 9223372036854775807) :
    Calls Try.prog 44 #[.agg #[.int .i64 pw, .int .i64 ph, .int .i64 pm, .int .i64 pg, .slice a n c]] w fun e w' => ∃ v, e = .returned (.tuple #[v, .int .i64 (clC pw ph pm pg zs)]) ∧ PairsOf w' w.heap.size v (clR pw ph pm pg zs) ∧ Ext w w' := by
  cases hv : plOk pw ph pm pg zs
  · have e1 := Lib.hid (show [] = clR pw ph pm pg zs by simp [clR, hv])
    have e2 := Lib.hid (show 1 = clC pw ph pm pg zs by simp [clC, hv])
    go_enter Try.func44, Try.ntmps44
    go_upto_region 1 with fail
    generalize hW : World.alloc _ _ = W
    have hE : Ext w W := by rw [← hW]; exact (Ext.refl _).alloc _
    have l0 : w.heap.size < W.heap.size := by rw [← hW]; simp
    have p0 : W.cell? ⟨w.heap.size, 0, none⟩ = some (.int .i64 pw) := by rw [← hW]; simp [go_sem]
    have p1 : W.cell? ⟨w.heap.size, 1, none⟩ = some (.int .i64 ph) := by rw [← hW]; simp [go_sem]
    have p2 : W.cell? ⟨w.heap.size, 2, none⟩ = some (.int .i64 pm) := by rw [← hW]; simp [go_sem]
    have p3 : W.cell? ⟨w.heap.size, 3, none⟩ = some (.int .i64 pg) := by rw [← hW]; simp [go_sem]
    have p4 : W.cell? ⟨w.heap.size, 4, none⟩ = some (.slice a n c) := by rw [← hW]; simp [go_sem]
    clear hW
    go_wp2_with (first | (go_at_call 81; refine (l09Plate_any pw ph pm pg a n c zs _ (hr.ext hE) hn hm hsz).mono ?_; rintro e w1 ⟨rfl, x1⟩))
    go_ret2
    exact ⟨_, rtC e2.out, (by rw [← e1.out]; exact World.ownsRow_nil _ _ _ _), hE.trans x1⟩
  have e1 := Lib.hid (show clT zs pg n n = clR pw ph pm pg zs by simp [clR, hv, hn])
  have e2 := Lib.hid (show 0 = clC pw ph pm pg zs by simp [clC, hv])
  have hn20 := plOk_len hv
  rw [hn] at hn20
  have hok := Lib.hid (plOk_sok hn hv)
  go_enter Try.func44, Try.ntmps44
  go_upto_region 1 with fail
  generalize hW : World.alloc _ _ = W
  have hE : Ext w W := by rw [← hW]; exact (Ext.refl _).alloc _
  have l0 : w.heap.size < W.heap.size := by rw [← hW]; simp
  have p0 : W.cell? ⟨w.heap.size, 0, none⟩ = some (.int .i64 pw) := by rw [← hW]; simp [go_sem]
  have p1 : W.cell? ⟨w.heap.size, 1, none⟩ = some (.int .i64 ph) := by rw [← hW]; simp [go_sem]
  have p2 : W.cell? ⟨w.heap.size, 2, none⟩ = some (.int .i64 pm) := by rw [← hW]; simp [go_sem]
  have p3 : W.cell? ⟨w.heap.size, 3, none⟩ = some (.int .i64 pg) := by rw [← hW]; simp [go_sem]
  have p4 : W.cell? ⟨w.heap.size, 4, none⟩ = some (.slice a n c) := by rw [← hW]; simp [go_sem]
  clear hW
  go_upto_region 3 with (first | (go_at_call 81; refine (l09Plate_any pw ph pm pg a n c zs _ (hr.ext hE) hn hm hsz).mono ?_; rintro e w1 ⟨rfl, x1⟩))
  replace p0 := (x1.cells.1 _ _ l0).trans p0
  replace p1 := (x1.cells.1 _ _ l0).trans p1
  replace p2 := (x1.cells.1 _ _ l0).trans p2
  replace p3 := (x1.cells.1 _ _ l0).trans p3
  replace p4 := (x1.cells.1 _ _ l0).trans p4
  replace l0 := Nat.lt_of_lt_of_le l0 x1.size
  replace hE := hE.trans x1
  clear x1
  rename World => W
  clear hv hsz
  obtain ⟨B, hB⟩ : ∃ B, B = W.heap.size := ⟨_, rfl⟩
  have hwB := hE.size
  have hst0 : (W.alloc (Obj.cells #[] 101)).ownsRow B 101 2 (.slice (some ⟨W.heap.size, 0, none⟩) 0 0) 0 [] := by
    have := World.ownsRow_made (w := W) (base := B) (e := 101) (size := 2) #[] 0 (by omega) (by decide) rfl
    simpa using this
  have y0 : Ext W (W.alloc (Obj.cells #[] 101)) := (Ext.refl _).alloc _
  replace hB := Lib.hid hB
  go_wp2_with fail
  go_loopw [4, 5] (fun vv kk wr => ∃ (i : Nat) (O : List (Int × Int)), kk = .int .i64 i ∧ i ≤ n ∧ PairsOf wr B vv O ∧ Ext W wr ∧ Hid (O = clAt zs pg n i 0)) (fun _ kk _ => n - (intOf kk).toNat)
  case atStart => exact ⟨0, [], rfl, Nat.zero_le _, hst0, y0, Lib.hid (clAt_zero _ _ _)⟩
  case round =>
    clear hst0 y0
    obtain ⟨i, O, rfl, hi, ho, xw, hO⟩ := hrel
    have f4 := (xw.cells.1 _ _ l0).trans p4
    by_cases h0 : i < n
    · obtain ⟨b, off, rfl, hb, -⟩ := (hr.ext (hE.trans xw)).look (j := i) (by omega)
      have t1 : decide ((i : Int) < (n : Int)) = true := by simp; omega
      have t2 : (i : Int) < (n : Int) := by omega
      go_wp2_with fail
      clear f4 hb
      go_loopw [4, 6] (fun vv kk wr => ∃ (j : Nat) (O : List (Int × Int)), kk = .int .i64 j ∧ j ≤ n ∧ PairsOf wr B vv O ∧ Ext W wr ∧ Hid (O = clAt zs pg n i j)) (fun _ kk _ => n - (intOf kk).toNat)
      case atStart => exact ⟨0, O, rfl, Nat.zero_le _, ho, xw, hO⟩
      case round =>
        clear hO ho xw
        clear O
        obtain ⟨j, O, rfl, hj, ho, xw, hO⟩ := hrel
        have lw := Nat.lt_of_lt_of_le l0 xw.size
        have f4 := (xw.cells.1 _ _ l0).trans p4
        by_cases h1 : j < n
        · have u1 : decide ((j : Int) < (n : Int)) = true := by simp; omega
          have u2 : (j : Int) < (n : Int) := by omega
          have f0 := (xw.cells.1 _ _ l0).trans p0
          have f1 := (xw.cells.1 _ _ l0).trans p1
          have f2 := (xw.cells.1 _ _ l0).trans p2
          have f3 := (xw.cells.1 _ _ l0).trans p3
          have hcl := Lib.hid (show clB zs pg i j = (decide (i ≠ j) && decide (clrZ (zs.getD i Sit.d) (zs.getD j Sit.d) < pg)) from rfl)
          have hol := clAt_len zs pg hn20 hi hj
          rw [← hO.out] at hol
          obtain ⟨sa, sc, rfl⟩ := ho.shape
          have hBw := Nat.le_trans (Nat.le_of_eq hB.out) xw.size
          have hrV := hr.ext (hE.trans xw)
          go_upto_region 10 with fail
          rename World => V
          have x0 := Ext.refl V
          go_cut [36] (fun sd wx => sd = .bool (clB zs pg i j) ∧ Ext V wx)
          case first =>
            clear hO ho hol
            by_cases hij : i = j
            · subst hij
              have v1 : ((i : Int) == (i : Int)) = true := by simp
              go_quiet (fail)
              go_wp2_with fail
              go_meet
              exact ⟨by rw [hcl.out]; simp, by first | exact x0 | exact x0.drew | exact x0.drewN _⟩
            · have v1 : ((i : Int) == (j : Int)) = false := by simp; omega
              have v2 : ((i : Int) != (j : Int)) = true := by simp; omega
              have v3 : ¬ (i : Int) = (j : Int) := by omega
              have v4 : decide (i ≠ j) = true := by simpa using hij
              generalize hQ : clrZ (zs.getD i Sit.d) (zs.getD j Sit.d) = Q
              replace hQ := Lib.hid hQ
              go_region_held3 (fun w' => w'.cell? ⟨w.heap.size, 0, none⟩ = some (.int .i64 pw) ∧ w'.cell? ⟨w.heap.size, 1, none⟩ = some (.int .i64 ph) ∧ w'.cell? ⟨w.heap.size, 2, none⟩ = some (.int .i64 pm) ∧ w'.cell? ⟨w.heap.size, 3, none⟩ = some (.int .i64 pg) ∧ w'.cell? ⟨w.heap.size, 4, none⟩ = some (.slice (some ⟨b, off, none⟩) n c))
                (first | (refine ⟨?_, ?_, ?_, ?_, ?_⟩ <;> with_reducible assumption) | (refine ⟨?_, ?_, ?_, ?_, ?_⟩ <;> (refine keep_ext (W := V) ?_ (by assumption) (by assumption); exact x0)) | go_keep)
                (first | (go_at_call 82; refine (l09Clear_any pw ph pm pg (some ⟨b, off, none⟩) n c i j zs _ (by first | exact hrV.ext x0 | exact hrV.ext x0.drew | exact hrV.ext (x0.drewN _)) hn hm h0 h1 hok.out).mono ?_; rintro e w1 ⟨rfl, x1⟩; rw [hQ.out]; (first | replace x0 := x0.trans x1 | replace x0 := (x0.drew).trans x1 | replace x0 := (x0.drewN _).trans x1); clear x1))
              all_goals (go_wp2_with fail; go_meet; exact ⟨(by rw [hcl.out, v4, Bool.true_and] ; rw [hQ.out]), (by first | exact x0 | exact x0.drew)⟩)
          case rest =>
          obtain ⟨rfl, x1⟩ := hcut
          clear x0
          replace ho := ho.ext x1
          replace hBw := Nat.le_trans hBw x1.size
          replace xw := xw.trans x1
          clear x1 lw f0 f1 f2 f3 f4 hrV
          rename World => Z
          cases hq : clB zs pg i j
          · have hO2 := Lib.hid (hO.out.trans (clAt_no hq))
            clear hq
            go_wp2_with fail
            go_roundw
            case rel => exact ⟨j + 1, _, by go_num, by omega, ho, xw, hO2⟩
            case measure => simp [intOf]; omega
          · have hO2 := Lib.hid (show O ++ [((i : Int), (j : Int))] = clAt zs pg n i (j + 1) by rw [hO.out]; exact clAt_yes hq)
            clear hq
            obtain ⟨i0, hii, hz0, hz1, hz2⟩ := seg_info
            go_wp2_with (at_builtin; refine wpList_append_placed _ rfl _ _ 63 rfl B 101 i0 pairZero 2 16 Try.underlying63 hii hz0 hz1 hz2 rfl (by decide) _ _ _ rfl (ho.ext ((Ext.refl _).alloc _)) ⟨Z.heap.size, 0, none⟩ 1 1 [.int .i64 i, .int .i64 j] rfl rfl (pair_new _ _ _ rfl) (pair_cells _ _) ?c3 ?c4 ?c5 ?_)
            case c3 => unfold maxLen; omega
            case c4 => omega
            case c5 => first | omega | (simp; omega)
            intro v' w2 h2 hwr hp
            clear hii hz0 hz1 hz2
            go_wp2_with fail
            go_roundw
            case rel =>
              have y1 : Ext Z (Z.alloc (Obj.cells #[.int .i64 i, .int .i64 j] 101)) := (Ext.refl _).alloc _
              exact ⟨j + 1, _, by go_num, by omega, PairsOf.push h2 rfl, hwr.ext (xw.trans y1) (fun k hk => by rw [← hB.out]; exact (ho.lt k hk).1), hO2⟩
            case measure => simp [intOf]; omega
        · obtain rfl : n = j := by omega
          have u1 : decide ((n : Int) < (n : Int)) = false := by simp
          have hO2 := Lib.hid (hO.out.trans (clAt_row zs pg n i))
          clear hO
          go_wp2_with fail
          go_roundw
          case rel => exact ⟨i + 1, O, by go_num, by omega, ho, xw, hO2⟩
          case measure => simp [intOf]; omega
    · obtain rfl : n = i := by omega
      have t1 : decide ((n : Int) < (n : Int)) = false := by simp
      obtain ⟨sa, sc, rfl⟩ := ho.shape
      have hO2 := Lib.hid ((hO.out.trans (clAt_end zs pg n)).trans e1.out)
      replace ho := Lib.hid ho
      clear hr hO
      go_wp2_with fail
      go_ret2
      exact ⟨_, rtC e2.out, (by rw [← hO2.out]; exact (ho.out).low (by have := hB.out; omega)), hE.trans xw⟩
end Go.Proofs.Ytgkpganbepbjnaa

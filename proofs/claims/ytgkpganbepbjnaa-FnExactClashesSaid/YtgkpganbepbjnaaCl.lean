/-
  The clashes of a plate: the program's walk.
-/
import Derived.Test.YtgkpganbepbjnaaClP
import Derived.Test.YtgkpganbepbjnaaVPlate
import Derived.Test.YtgkpganbepbjnaaOwnC
import Derived.Test.YtgkpganbepbjnaaHeld
import Derived.Deep.DeepCutAuto
namespace Go.Proofs.Ytgkpganbepbjnaa
open Go.RowKit
set_option linter.unusedSimpArgs false
set_option linter.unusedVariables false

theorem off_pair' {w : World} {B b : Nat} {v : Value} {zs : List (Int × Int)} (h : PairsOf w B v zs) (hb : w.heap.size ≤ b) : some b ≠ v.ownBlock := by
  intro e
  have := (h.lt b e.symm).2
  omega
theorem SAt.wrote {w w' : World} {b c : Nat} {s : ByteArray} {x y wh st : Int} {row : Option Nat} (h : SAt w b c s x y wh st) (hb : b < w.heap.size) (hw : Wrote row w w') (hne : some b ≠ row) : SAt w' b c s x y wh st :=
  h.same fun o _ _ => hw.cell hb hne
set_option maxRecDepth 100000 in
set_option maxHeartbeats 16000000 in
theorem implClashes_any (pw ph pm pg : Int) (a : Option Addr) (n c : Nat) (zs : List Sit) (w : World) (hr : SRow w a zs) (hn : zs.length = n) (hm : n ≤ 1048576) (hcp : n ≤ c) (hsz : ∀ j, j < n → (zs.getD j Sit.d).s.size ≤ 9223372036854775807) :
    Calls Try.prog 46 #[.agg #[.int .i64 pw, .int .i64 ph, .int .i64 pm, .int .i64 pg, .slice a n c]] w fun e w' => ∃ v, e = .returned (.tuple #[v, .int .i64 (clC pw ph pm pg zs)]) ∧ PairsOf w' w.heap.size v (clR pw ph pm pg zs) ∧ Ext w w' := by
  cases hv : plOk pw ph pm pg zs
  · have e1 := Lib.hid (show [] = clR pw ph pm pg zs by simp [clR, hv])
    have e2 := Lib.hid (show 1 = clC pw ph pm pg zs by simp [clC, hv])
    go_enter Try.func46, Try.ntmps46
    go_upto_region 1 with fail
    generalize hW : World.alloc _ _ = W
    have hE : Ext w W := by rw [← hW]; exact (Ext.refl _).alloc _
    have l0 : w.heap.size < W.heap.size := by rw [← hW]; simp
    have p0 : W.cell? ⟨w.heap.size, 0, none⟩ = some (.int .i64 pw) := by rw [← hW]; simp [go_sem]
    have p1 : W.cell? ⟨w.heap.size, 1, none⟩ = some (.int .i64 ph) := by rw [← hW]; simp [go_sem]
    have p2 : W.cell? ⟨w.heap.size, 2, none⟩ = some (.int .i64 pm) := by rw [← hW]; simp [go_sem]
    have p3 : W.cell? ⟨w.heap.size, 3, none⟩ = some (.int .i64 pg) := by rw [← hW]; simp [go_sem]
    have p4 : W.cell? ⟨w.heap.size, 4, none⟩ = some (.slice a n c) := by rw [← hW]; simp [go_sem]
    clear hW
    go_wp2_with (first | (go_at_call 84; refine (implValidPlate_any pw ph pm pg a n c zs _ (hr.ext hE) hn hm hcp hsz).mono ?_; rintro e w1 ⟨rfl, x1⟩))
    go_ret2
    exact ⟨_, rtC e2.out, (by rw [← e1.out]; exact World.ownsRow_nil _ _ _ _), hE.trans x1⟩
  have e1 := Lib.hid (show clT zs pg n n = clR pw ph pm pg zs by simp [clR, hv, hn])
  have e2 := Lib.hid (show 0 = clC pw ph pm pg zs by simp [clC, hv])
  have hn20 := plOk_len hv
  rw [hn] at hn20
  have hok := Lib.hid (plOk_sok hn hv)
  go_enter Try.func46, Try.ntmps46
  go_upto_region 1 with fail
  generalize hW : World.alloc _ _ = W
  have hE : Ext w W := by rw [← hW]; exact (Ext.refl _).alloc _
  have l0 : w.heap.size < W.heap.size := by rw [← hW]; simp
  have p0 : W.cell? ⟨w.heap.size, 0, none⟩ = some (.int .i64 pw) := by rw [← hW]; simp [go_sem]
  have p1 : W.cell? ⟨w.heap.size, 1, none⟩ = some (.int .i64 ph) := by rw [← hW]; simp [go_sem]
  have p2 : W.cell? ⟨w.heap.size, 2, none⟩ = some (.int .i64 pm) := by rw [← hW]; simp [go_sem]
  have p3 : W.cell? ⟨w.heap.size, 3, none⟩ = some (.int .i64 pg) := by rw [← hW]; simp [go_sem]
  have p4 : W.cell? ⟨w.heap.size, 4, none⟩ = some (.slice a n c) := by rw [← hW]; simp [go_sem]
  clear hW
  go_upto_region 4 with (first | (go_at_call 84; refine (implValidPlate_any pw ph pm pg a n c zs _ (hr.ext hE) hn hm hcp hsz).mono ?_; rintro e w1 ⟨rfl, x1⟩))
  replace p0 := (x1.cells.1 _ _ l0).trans p0
  replace p1 := (x1.cells.1 _ _ l0).trans p1
  replace p2 := (x1.cells.1 _ _ l0).trans p2
  replace p3 := (x1.cells.1 _ _ l0).trans p3
  replace p4 := (x1.cells.1 _ _ l0).trans p4
  replace l0 := Nat.lt_of_lt_of_le l0 x1.size
  replace hE := hE.trans x1
  clear x1
  rename World => W
  clear hv hsz
  obtain ⟨B, hB⟩ : ∃ B, B = W.heap.size := ⟨_, rfl⟩
  have hwB := hE.size
  replace hB := Lib.hid hB
  go_wp2_with fail
  go_loopw [4, 15] (fun vv kk wr => ∃ (i : Nat) (O : List (Int × Int)), kk = .int .i64 i ∧ i ≤ n ∧ PairsOf wr B vv O ∧ Ext W wr ∧ Hid (O = clAt zs pg n i 0)) (fun _ kk _ => n - (intOf kk).toNat)
  case atStart => exact ⟨0, [], rfl, Nat.zero_le _, World.ownsRow_nil _ _ _ _, Ext.refl _, Lib.hid (clAt_zero _ _ _)⟩
  case round =>
    obtain ⟨i, O, rfl, hi, ho, xw, hO⟩ := hrel
    by_cases h0 : i < n
    · obtain ⟨b, off, rfl, hb, s, x, y, wh, st, hz, c0, c1, c2, c3, c4⟩ := (hr.ext (hE.trans xw)).look (j := i) (by omega)
      have t1 : decide ((i : Int) < (n : Int)) = true := by simp; omega
      have t2 : (i : Int) < (n : Int) := by omega
      have lw := Nat.lt_of_lt_of_le l0 xw.size
      have f3 := (xw.cells.1 _ _ l0).trans p3
      have f4 := (xw.cells.1 _ _ l0).trans p4
      have k1 := hok.out i h0
      rw [hz.out] at k1
      obtain ⟨kx, ky, kw, -⟩ := k1
      dsimp only at kx ky kw
      go_upto_region 7 with fail
      generalize hU : World.alloc _ _ = U
      have xU : Ext wr U := by rw [← hU]; exact (Ext.refl _).alloc _
      have lU : wr.heap.size < U.heap.size := by rw [← hU]; simp
      have hA : SAt U wr.heap.size 0 s x y wh st := by rw [← hU]; exact ⟨by simp [go_sem], by simp [go_sem], by simp [go_sem], by simp [go_sem], by simp [go_sem]⟩
      clear hU c0 c1 c2 c3 c4
      have hne : ∀ k, k < wr.heap.size → k ≠ wr.heap.size := fun k hk => Nat.ne_of_lt hk
      have hoA := off_pair' ho (Nat.le_refl _)
      have hoU := ho.ext xU
      have xWU := xw.trans xU
      have hBU := xw.size
      rw [← hB.out] at hBU
      replace lw := Nat.lt_of_lt_of_le lw xU.size
      replace f4 := (xU.cells.1 _ _ (Nat.lt_of_lt_of_le l0 xw.size)).trans f4
      clear f3 ho xU xw hb hne
      generalize wr.heap.size = wo at lU hA hoA hBU ⊢
      clear wr
      go_wp2_with fail
      go_loopw [4, 23] (fun vv kk wr => ∃ (j : Nat) (O : List (Int × Int)), kk = .int .i64 j ∧ j ≤ n ∧ PairsOf wr B vv O ∧ Ext W wr ∧ SAt wr wo 0 s x y wh st ∧ wo < wr.heap.size ∧ some wo ≠ vv.ownBlock ∧ Hid (O = clAt zs pg n i j)) (fun _ kk _ => n - (intOf kk).toNat)
      case atStart => exact ⟨0, O, rfl, Nat.zero_le _, hoU, xWU, hA, lU, hoA, hO⟩
      case round =>
        clear hO hoU hA lU hoA xWU lw f4
        clear O
        obtain ⟨j, O, rfl, hj, ho, xw, hA, lA, hoA, hO⟩ := hrel
        by_cases h1 : j < n
        · obtain ⟨b', off', hab, hb', s', x', y', wh', st', hz', d0, d1, d2, d3, d4⟩ := (hr.ext (hE.trans xw)).look (j := j) (by omega)
          injection hab with hab
          injection hab with e3 e4
          subst e3; subst e4
          have u1 : decide ((j : Int) < (n : Int)) = true := by simp; omega
          have u2 : (j : Int) < (n : Int) := by omega
          have lw := Nat.lt_of_lt_of_le l0 xw.size
          have f3 := (xw.cells.1 _ _ l0).trans p3
          have k2 := hok.out j h1
          rw [hz'.out] at k2
          obtain ⟨kx', ky', -, kt'⟩ := k2
          dsimp only at kx' ky' kt'
          have hcl := Lib.hid (show clB zs pg i j = (decide (i ≠ j) && decide (clr x y wh x' y' st' < pg)) by rw [clB, clrZ, hz.out, hz'.out])
          have hol := clAt_len zs pg hn20 hi hj
          rw [← hO.out] at hol
          obtain ⟨sa, sc, rfl⟩ := ho.shape
          have hBw := Nat.le_trans (Nat.le_of_eq hB.out) xw.size
          go_upto_region 10 with fail
          generalize hV : World.alloc _ _ = V
          have xV : Ext wr V := by rw [← hV]; exact (Ext.refl _).alloc _
          have lD : wr.heap.size < V.heap.size := by rw [← hV]; simp
          have hD : SAt V wr.heap.size 0 s' x' y' wh' st' := by rw [← hV]; exact ⟨by simp [go_sem], by simp [go_sem], by simp [go_sem], by simp [go_sem], by simp [go_sem]⟩
          clear hV d0 d1 d2 d3 d4 hb'
          replace hA := hA.ext lA xV
          replace lA := Nat.lt_of_lt_of_le lA xV.size
          replace f3 := (xV.cells.1 _ _ lw).trans f3
          replace lw := Nat.lt_of_lt_of_le lw xV.size
          replace ho := ho.ext xV
          replace hBw := Nat.le_trans hBw xV.size
          replace xw := xw.trans xV
          clear xV
          generalize wr.heap.size = D at lD hD ⊢
          clear wr
          have x0 := Ext.refl V
          go_cut [38] (fun sd wx => sd = .bool (clB zs pg i j) ∧ Ext V wx)
          case first =>
            clear hz hz' hok hO ho hol
            by_cases hij : i = j
            · subst hij
              have v1 : ((i : Int) == (i : Int)) = true := by simp
              go_quiet (fail)
              go_wp2_with fail
              go_meet
              exact ⟨by rw [hcl.out]; simp, by first | exact x0 | exact x0.drew | exact x0.drewN _⟩
            · have v1 : ((i : Int) == (j : Int)) = false := by simp; omega
              have v2 : ((i : Int) != (j : Int)) = true := by simp; omega
              have v3 : ¬ (i : Int) = (j : Int) := by omega
              have v4 : decide (i ≠ j) = true := by simpa using hij
              obtain ⟨a0, a1, a2, a3, a4⟩ := hA
              obtain ⟨g0, g1, g2, g3, g4⟩ := hD
              simp only [Nat.zero_add] at a1 a2 a3 a4 g1 g2 g3 g4
              go_region_held3 (fun w' => w'.cell? ⟨wo, 0, none⟩ = some (.string s) ∧ w'.cell? ⟨wo, 1, none⟩ = some (.int .i64 x) ∧ w'.cell? ⟨wo, 2, none⟩ = some (.int .i64 y) ∧ w'.cell? ⟨wo, 3, none⟩ = some (.int .i64 wh) ∧ w'.cell? ⟨wo, 4, none⟩ = some (.int .i64 st) ∧ w'.cell? ⟨D, 0, none⟩ = some (.string s') ∧ w'.cell? ⟨D, 1, none⟩ = some (.int .i64 x') ∧ w'.cell? ⟨D, 2, none⟩ = some (.int .i64 y') ∧ w'.cell? ⟨D, 3, none⟩ = some (.int .i64 wh') ∧ w'.cell? ⟨D, 4, none⟩ = some (.int .i64 st') ∧ w'.cell? ⟨w.heap.size, 3, none⟩ = some (.int .i64 pg))
                (first | (refine ⟨?_, ?_, ?_, ?_, ?_, ?_, ?_, ?_, ?_, ?_, ?_⟩ <;> with_reducible assumption) | (refine ⟨?_, ?_, ?_, ?_, ?_, ?_, ?_, ?_, ?_, ?_, ?_⟩ <;> (refine keep_ext (W := V) ?_ (by assumption) (by assumption); exact x0)) | go_keep)
                (first | (go_at_call 85; refine (clearance_any s s' x y wh st x' y' wh' st' _ kx ky kx' ky' kw kt').mono ?_; rintro e w1 ⟨rfl, x1⟩; (first | replace x0 := x0.trans x1 | replace x0 := (x0.drew).trans x1 | replace x0 := (x0.drewN _).trans x1); clear x1))
              all_goals (go_wp2_with fail; go_meet; exact ⟨(by rw [hcl.out, v4, Bool.true_and] ), (by first | exact x0 | exact x0.drew)⟩)
          case rest =>
          obtain ⟨rfl, x1⟩ := hcut
          clear x0
          replace hA := hA.ext lA x1
          replace lA := Nat.lt_of_lt_of_le lA x1.size
          replace ho := ho.ext x1
          replace hBw := Nat.le_trans hBw x1.size
          replace xw := xw.trans x1
          clear x1 lD hD lw f3 hcl
          rename World => Z
          cases hq : clB zs pg i j
          · have hO2 := Lib.hid (hO.out.trans (clAt_no hq))
            clear hq
            go_wp2_with fail
            go_roundw
            case rel => exact ⟨j + 1, _, by go_num, by omega, ho, xw, hA, lA, hoA, hO2⟩
            case measure => simp [intOf]; omega
          · have hO2 := Lib.hid (show O ++ [((i : Int), (j : Int))] = clAt zs pg n i (j + 1) by rw [hO.out]; exact clAt_yes hq)
            clear hq
            obtain ⟨i0, hii, hz0, hz1, hz2⟩ := seg_info
            go_wp2_with (at_builtin; refine wpList_append_placed _ rfl _ _ 63 rfl B 101 i0 pairZero 2 16 Try.underlying63 hii hz0 hz1 hz2 rfl (by decide) _ _ _ rfl (ho.ext ((Ext.refl _).alloc _)) ⟨Z.heap.size, 0, none⟩ 1 1 [.int .i64 i, .int .i64 j] rfl rfl (pair_new _ _ _ rfl) (pair_cells _ _) ?c3 ?c4 ?c5 ?_)
            case c3 => unfold maxLen; omega
            case c4 => omega
            case c5 => first | omega | (simp; omega)
            intro v' w2 h2 hwr hp
            clear hii hz0 hz1 hz2
            go_wp2_with fail
            go_roundw
            case rel =>
              have y1 : Ext Z (Z.alloc (Obj.cells #[.int .i64 i, .int .i64 j] 101)) := (Ext.refl _).alloc _
              refine ⟨j + 1, _, by go_num, by omega, PairsOf.push h2 rfl, hwr.ext (xw.trans y1) (fun k hk => by rw [← hB.out]; exact (ho.lt k hk).1), (hA.ext lA y1).wrote (Nat.lt_of_lt_of_le lA y1.size) hwr hoA, Nat.lt_of_lt_of_le lA (Nat.le_trans y1.size hwr.size), ?_, hO2⟩
              rcases hp with hp | ⟨k, hp, hk⟩
              · rw [hp]; exact hoA
              · rw [hp]; intro e; injection e with e; have := y1.size; omega
            case measure => simp [intOf]; omega
        · obtain rfl : n = j := by omega
          have u1 : decide ((n : Int) < (n : Int)) = false := by simp
          have hO2 := Lib.hid (hO.out.trans (clAt_row zs pg n i))
          clear hO hA hoA
          go_wp2_with fail
          go_roundw
          case rel => exact ⟨i + 1, O, by go_num, by omega, ho, xw, hO2⟩
          case measure => simp [intOf]; omega
    · obtain rfl : n = i := by omega
      have t1 : decide ((n : Int) < (n : Int)) = false := by simp
      obtain ⟨sa, sc, rfl⟩ := ho.shape
      have hO2 := Lib.hid ((hO.out.trans (clAt_end zs pg n)).trans e1.out)
      replace ho := Lib.hid ho
      clear hr hO
      go_wp2_with fail
      go_ret2
      exact ⟨_, rtC e2.out, (by rw [← hO2.out]; exact (ho.out).low (by have := hB.out; omega)), hE.trans xw⟩
end Go.Proofs.Ytgkpganbepbjnaa

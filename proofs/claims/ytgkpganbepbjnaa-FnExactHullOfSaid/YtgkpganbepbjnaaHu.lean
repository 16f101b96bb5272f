/-
  The hull of a plate: the program's walk.
-/
import Derived.Test.YtgkpganbepbjnaaHuP
import Derived.Test.YtgkpganbepbjnaaGeo
import Derived.Test.YtgkpganbepbjnaaClear2
import Derived.Test.YtgkpganbepbjnaaVPlate
import Derived.Test.YtgkpganbepbjnaaRow1
import Derived.Deep.DeepCutAuto
namespace Go.Proofs.Ytgkpganbepbjnaa
open Go.RowKit
set_option linter.unusedSimpArgs false
set_option linter.unusedVariables false

def slLen : Value → Nat
  | .slice _ n _ => n
  | _ => 0
set_option maxRecDepth 100000 in
set_option maxHeartbeats 16000000 in
theorem hullOf_any (a : Option Addr) (n c : Nat) (zs : List Sit) (w : World) (hr : SRow w a zs) (hn : zs.length = n) (hm : n ≤ 1048576) (hok : ∀ k, k < n → SOk (zs.getD k Sit.d)) :
    Calls Try.prog 91 #[.slice a n c] w fun e w' => ∃ v, e = .returned v ∧ IntsOf w' w.heap.size v (hulL (psOf zs)) ∧ Ext w w' := by
  have hpl : (psOf zs).length = n := by rw [psOf_len, hn]
  by_cases hz0 : n = 0
  · have e := Lib.hid (hul_zero (ps := psOf zs) (by omega))
    subst hz0
    go_enter Try.func91, Try.ntmps91
    go_wp2
    go_ret
    exact ⟨_, rfl, by rw [← e.out]; exact World.ownsRow_nil _ _ _ _, Ext.refl _⟩
  have hpos : 0 < n := by omega
  have t0 : ((n : Int) == 0) = false := by simpa using hz0
  have t9 : ¬ (n : Int) = 0 := by omega
  go_enter Try.func91, Try.ntmps91
  go_wp2_with fail
  go_loopw [3, 20] (fun ss kk wr => ∃ i : Nat, kk = .int .i64 i ∧ i ≤ n ∧ ss = .int .i64 (stF (psOf zs) i) ∧ Ext w wr) (fun _ kk _ => n - (intOf kk).toNat)
  case atStart => exact ⟨0, rfl, Nat.zero_le _, rfl, Ext.refl _⟩
  case round =>
    obtain ⟨i, rfl, hi, rfl, xw⟩ := hrel
    by_cases h0 : i < n
    · have hS := st_lt (psOf zs) hi hpos
      have hst := fun h => Lib.hid (st_take (ps := psOf zs) (k := i) h)
      have hsk := fun h => Lib.hid (st_keep (ps := psOf zs) (k := i) h)
      generalize hSe : stF (psOf zs) i = S at *
      obtain ⟨b, off, rfl, hb, s, x, y, wh, st, hz, c0, c1, c2, c3, c4⟩ := (hr.ext xw).look (j := i) (by omega)
      obtain ⟨b', off', hab, hb', s', x', y', wh', st', hz', d0, d1, d2, d3, d4⟩ := (hr.ext xw).look (j := S) (by omega)
      injection hab with hab
      injection hab with e1 e2
      subst e1; subst e2
      have hlow : lowB (pt (psOf zs) i) (pt (psOf zs) S) = decide (y < y' ∨ (y = y' ∧ x < x')) := by rw [pt_at hz.out, pt_at hz'.out]; rfl
      have t1 : decide ((i : Int) < (n : Int)) = true := by simp; omega
      have t2 : (i : Int) < (n : Int) := by omega
      have t3 : (S : Int) < (n : Int) := by omega
      by_cases g1 : y < y'
      · have g1b : decide (y < y') = true := by simpa using g1
        have ev := hst (by rw [hlow]; simp [g1])
        clear hst hsk hlow hz hz' hr hSe
        go_wp2_with fail
        go_roundw
        case rel => exact ⟨i + 1, by go_num, by omega, by rw [← ev.out], (xw.alloc _).alloc _⟩
        case measure => simp [intOf]; omega
      · have g1b : decide (y < y') = false := by simpa using g1
        by_cases g2 : y = y'
        · have g2b : (y == y') = true := by simpa using g2
          by_cases g3 : x < x'
          · have g3b : decide (x < x') = true := by simpa using g3
            have ev := hst (by rw [hlow]; simp [g2, g3])
            clear g2
            skip
            clear hst hsk hlow hz hz' hr hSe
            go_wp2_with fail
            go_roundw
            case rel => exact ⟨i + 1, by go_num, by omega, by rw [← ev.out], (xw.alloc _).alloc _⟩
            case measure => simp [intOf]; omega
          · have g3b : decide (x < x') = false := by simpa using g3
            have ev := hsk (by rw [hlow]; simp [g2, g3])
            clear g2
            skip
            clear hst hsk hlow hz hz' hr hSe
            go_wp2_with fail
            go_roundw
            case rel => exact ⟨i + 1, by go_num, by omega, by rw [← ev.out], (xw.alloc _).alloc _⟩
            case measure => simp [intOf]; omega
        · have g2b : (y == y') = false := by simpa using g2
          have ev := hsk (by rw [hlow]; simp [g1, g2])
          skip
          clear hst hsk hlow hz hz' hr hSe
          go_wp2_with fail
          go_roundw
          case rel => exact ⟨i + 1, by go_num, by omega, by rw [← ev.out], (xw.alloc _).alloc _⟩
          case measure => simp [intOf]; omega
    · obtain rfl : n = i := by omega
      have t1 : decide ((n : Int) < (n : Int)) = false := by simp
      have hS := st_lt (psOf zs) (Nat.le_refl n) hpos
      have hon0 := Lib.hid (on_zero (ps := psOf zs) (by omega))
      have hW0 := fun k => @OnWay.way (psOf zs) k
      have hN0 := fun k => @on_next (psOf zs) k
      have hD0 := fun k => @on_end (psOf zs) k
      have hT0 := hulT_succ (psOf zs)
      rw [hpl] at hW0 hN0 hD0 hT0
      generalize hSt : stF (psOf zs) n = St at *
      replace hW0 := Lib.hid hW0
      replace hN0 := Lib.hid hN0
      replace hD0 := Lib.hid hD0
      replace hT0 := Lib.hid hT0
      go_wp2_with fail
      replace hok := Lib.hid hok
      replace hpl := Lib.hid hpl
      replace hSt := Lib.hid hSt
      go_loopw [7, 8] (fun vv aa wr => ∃ k : Nat, aa = .int .i64 (tra (psOf zs) St k) ∧ IntsOf wr w.heap.size vv (hulT (psOf zs) k) ∧ Ext w wr ∧ Hid (OnWay (psOf zs) k)) (fun vv _ _ => n - slLen vv)
      case atStart => exact ⟨0, rfl, World.ownsRow_nil _ _ _ _, xw, hon0⟩
      case round =>
        clear hon0 xw
        obtain ⟨k, rfl, ho, xw, hon⟩ := hrel
        have hwy := Lib.hid (hW0.out k hon.out)
        have hkn := on_lt hon.out
        have hAl := (hwy.out.first k (Nat.le_refl _)).1
        rw [hpl.out] at hkn hAl
        have hTs := hT0.out k
        generalize hA : tra (psOf zs) St k = A at *
        replace hA := Lib.hid hA
        have hOl := hulT_length (psOf zs) k
        generalize hO : hulT (psOf zs) k = O at *
        replace hO := Lib.hid hO
        obtain ⟨sa, sc, rfl⟩ := ho.shape
        replace hTs := Lib.hid hTs
        obtain ⟨i0, hii, hz0, hz1, hz2⟩ := int_info
        go_wp2_with (at_builtin; refine wpList_append_ext _ rfl _ _ 49 rfl w.heap.size 2 i0 (.int .i64 0) 1 8 Try.underlying49 hii hz0 hz1 hz2 rfl (by decide) _ _ _ rfl (ho.ext ((Ext.refl _).alloc _)) ⟨wr.heap.size, 0, none⟩ 1 1 [.int .i64 A] rfl rfl (one_new _ _ rfl) (one_cell _) ?c3 ?c4 ?c5 ?_)
        case c3 => unfold maxLen; omega
        case c4 => omega
        case c5 => have := xw.size; simp; omega
        intro v' w2 h2 hx2
        clear hii hz0 hz1 hz2
        have hE2 : Ext w w2 := hx2 w (xw.alloc _) (Nat.le_refl _)
        have ho2 : IntsOf w2 w.heap.size v' (hulT (psOf zs) (k + 1)) := IntsOf.push (zs := O) (by rw [hOl]; exact h2) hTs.out
        clear h2 hx2 hTs xw ho
        obtain ⟨b, off, rfl, hb, s, x, y, wh, st, hzA, c0, c1, c2, c3, c4⟩ := (hr.ext hE2).look (j := A) (by omega)
        have okA := hok.out A hAl
        rw [hzA.out] at okA
        obtain ⟨hx, hy, -, -⟩ := okA
        dsimp only at hx hy
        have tA : (A : Int) < (n : Int) := by omega
        go_upto_region 15 with fail
        generalize hU : World.alloc _ _ = U
        have xU : Ext w2 U := by rw [← hU]; exact (Ext.refl _).alloc _
        have l9 : w2.heap.size < U.heap.size := by rw [← hU]; simp
        have a0 : U.cell? ⟨w2.heap.size, 0, none⟩ = some (.int .i64 x) := by rw [← hU]; simp [go_sem]
        have a1 : U.cell? ⟨w2.heap.size, 1, none⟩ = some (.int .i64 y) := by rw [← hU]; simp [go_sem]
        clear hU c0 c1 c2 c3 c4 hb
        replace ho2 := ho2.ext xU
        replace xU := hE2.trans xU
        clear hE2
        generalize w2.heap.size = P9 at l9 a0 a1 ⊢
        go_wp2_with fail
        go_loopw [10, 69] (fun nn kk wr => ∃ m : Nat, kk = .int .i64 m ∧ m ≤ n ∧ nn = .int .i64 (nxF (psOf zs) A St m) ∧ Ext U wr) (fun _ kk _ => n - (intOf kk).toNat)
        case atStart => exact ⟨0, rfl, Nat.zero_le _, rfl, Ext.refl _⟩
        case round =>
          obtain ⟨m, rfl, hmn, rfl, xm⟩ := hrel
          have hNl : nxF (psOf zs) A St m < n := by
            have h1 := hwy.out.corner k (Nat.le_refl _)
            rw [hA.out] at h1
            have h3 := hpl.out
            have h2 := (nx_inv h1 (show First (psOf zs) St from hwy.out.first 0 (by omega)) m (by omega)).1.1
            omega
          by_cases h1 : m < n
          · have hnt := fun h => Lib.hid (nx_take (ps := psOf zs) (a := A) (st := St) (k := m) h)
            have hnk := fun h => Lib.hid (nx_keep (ps := psOf zs) (a := A) (st := St) (k := m) h)
            generalize hNe : nxF (psOf zs) A St m = N at *
            replace hNe := Lib.hid hNe
            obtain ⟨b1, off1, hab, hb1, s1, x1, y1, wh1, st1, hz1, d0, d1, d2, d3, d4⟩ := (hr.ext (xU.trans xm)).look (j := m) (by omega)
            injection hab with hab
            injection hab with e1 e2
            subst e1; subst e2
            obtain ⟨b2, off2, hab, hb2, s2, x2, y2, wh2, st2, hz2, f0, f1, f2, f3, f4⟩ := (hr.ext (xU.trans xm)).look (j := N) (by omega)
            injection hab with hab
            injection hab with e1 e2
            subst e1; subst e2
            have ok1 := hok.out m h1
            have ok2 := hok.out N hNl
            rw [hz1.out] at ok1
            rw [hz2.out] at ok2
            obtain ⟨hx1, hy1, -, -⟩ := ok1
            obtain ⟨hx2, hy2, -, -⟩ := ok2
            dsimp only at hx1 hy1 hx2 hy2
            have hpA : pt (psOf zs) A = (x, y) := pt_at hzA.out
            rw [hpA, pt_at hz1.out, pt_at hz2.out] at hnt hnk
            have t1 : decide ((m : Int) < (n : Int)) = true := by simp; omega
            have t2 : (m : Int) < (n : Int) := by omega
            have t3 : (N : Int) < (n : Int) := by omega
            have la := Nat.lt_of_lt_of_le l9 xm.size
            have k0 := (xm.cells.1 _ _ l9).trans a0
            have k1 := (xm.cells.1 _ _ l9).trans a1
            clear hz1 hz2 hpA
            go_upto_region 20 with fail
            generalize hV : World.alloc _ _ = V
            have xV : Ext wr V := by rw [← hV]; exact ((Ext.refl _).alloc _).alloc _
            have lD : wr.heap.size < V.heap.size := by rw [← hV]; simp; omega
            have lD1 : wr.heap.size + 1 < V.heap.size := by rw [← hV]; simp
            have q1 : V.cell? ⟨wr.heap.size, 1, none⟩ = some (.int .i64 x1) := by rw [← hV]; simp [go_sem]
            have q2 : V.cell? ⟨wr.heap.size, 2, none⟩ = some (.int .i64 y1) := by rw [← hV]; simp [go_sem]
            have r0 : V.cell? ⟨wr.heap.size + 1, 0, none⟩ = some (.int .i64 x2) := by rw [← hV]; simp [go_sem]
            have r1 : V.cell? ⟨wr.heap.size + 1, 1, none⟩ = some (.int .i64 y2) := by rw [← hV]; simp [go_sem]
            clear hV d0 d1 d2 d3 d4 f0 f1 f2 f3 f4 hb1 hb2
            replace k0 := (xV.cells.1 _ _ la).trans k0
            replace k1 := (xV.cells.1 _ _ la).trans k1
            replace la := Nat.lt_of_lt_of_le la xV.size
            replace xm := xm.trans xV
            clear xV
            generalize wr.heap.size = D at lD lD1 q1 q2 r0 r1 ⊢
            clear wr
            go_upto_region 21 with (go_at_call 115; refine (turnOf_any x y x2 y2 x1 y1 _ hx hy hx2 hy2 hx1 hy1).mono ?_; rintro e w1 ⟨rfl, z0⟩)
            replace k0 := (z0.cells.1 _ _ la).trans k0
            replace k1 := (z0.cells.1 _ _ la).trans k1
            replace q1 := (z0.cells.1 _ _ lD).trans q1
            replace q2 := (z0.cells.1 _ _ lD).trans q2
            replace r0 := (z0.cells.1 _ _ lD1).trans r0
            replace r1 := (z0.cells.1 _ _ lD1).trans r1
            replace la := Nat.lt_of_lt_of_le la z0.size
            replace lD := Nat.lt_of_lt_of_le lD z0.size
            replace lD1 := Nat.lt_of_lt_of_le lD1 z0.size
            replace xm := xm.trans z0
            clear z0
            rename World => V
            generalize hT : crs (x, y) (x2, y2) (x1, y1) = T
            replace hT := Lib.hid hT
            have x0 := Ext.refl V
            go_cut [110] (fun sd wx => sd = .bool (updB (x, y) (x2, y2) (x1, y1)) ∧ Ext V wx)
            case first =>
              clear hnt hnk
              by_cases g1 : (x1, y1) = (x, y)
              · have v1 : (x1 == x) = true := by injection g1 with g _; simpa using g
                have v2 : (y1 == y) = true := by injection g1 with _ g; simpa using g
                have ev := Lib.hid (updB_self (b := (x2, y2)) g1)
                injection g1 with g1 g2
                replace g1 := Lib.hid g1
                replace g2 := Lib.hid g2
                have q1 : eqP (x1, y1) (x, y) = true := by rw [eqP_mk, v1, v2]; rfl
                go_quiet (fail)
                go_wp2_with fail
                go_meet
                exact ⟨by rw [ev.out], by first | exact x0 | exact x0.drew | exact x0.drewN _⟩
              · have q1 : eqP (x1, y1) (x, y) = false := decide_eq_false g1
                have nb1 : ∀ w, (binOp .neq 104 (.agg #[.int .i64 x1, .int .i64 y1]) (.agg #[.int .i64 x, .int .i64 y])).run Try.prog w = .ok (.bool true) w := fun w => by rw [run_pt_neq, q1]; rfl
                by_cases g2 : (x2, y2) = (x, y)
                · have ev := Lib.hid (updB_new g1 g2)
                  have q2 : eqP (x2, y2) (x, y) = true := decide_eq_true g2
                  have nb2 : ∀ w, (binOp .eql 104 (.agg #[.int .i64 x2, .int .i64 y2]) (.agg #[.int .i64 x, .int .i64 y])).run Try.prog w = .ok (.bool true) w := fun w => by rw [run_pt_eql, q2]
                  clear g1 g2
                  go_quiet (fail)
                  go_wp2_with fail
                  go_meet
                  exact ⟨by rw [ev.out], by first | exact x0 | exact x0.drew | exact x0.drewN _⟩
                · have q2 : eqP (x2, y2) (x, y) = false := decide_eq_false g2
                  have nb2 : ∀ w, (binOp .eql 104 (.agg #[.int .i64 x2, .int .i64 y2]) (.agg #[.int .i64 x, .int .i64 y])).run Try.prog w = .ok (.bool false) w := fun w => by rw [run_pt_eql, q2]
                  by_cases g3 : T < 0
                  · have ev := Lib.hid (updB_turn g1 g2 (by rw [hT.out]; exact g3))
                    have v3 : decide (T < 0) = true := by simpa using g3
                    clear g1 g2
                    go_quiet (fail)
                    go_wp2_with fail
                    go_meet
                    exact ⟨by rw [ev.out], by first | exact x0 | exact x0.drew | exact x0.drewN _⟩
                  · have v3 : decide (T < 0) = false := by simpa using g3
                    by_cases g4 : T = 0
                    · have ev := Lib.hid (updB_line g1 g2 (by rw [hT.out]; exact g4))
                      have v4 : (T == 0) = true := by simpa using g4
                      clear g1 g2
                      subst g4
                      go_region_held3 (fun w' => w'.cell? ⟨P9, 0, none⟩ = some (.int .i64 x) ∧ w'.cell? ⟨P9, 1, none⟩ = some (.int .i64 y) ∧ w'.cell? ⟨D, 1, none⟩ = some (.int .i64 x1) ∧ w'.cell? ⟨D, 2, none⟩ = some (.int .i64 y1) ∧ w'.cell? ⟨D + 1, 0, none⟩ = some (.int .i64 x2) ∧ w'.cell? ⟨D + 1, 1, none⟩ = some (.int .i64 y2))
                        (first | (refine ⟨?_, ?_, ?_, ?_, ?_, ?_⟩ <;> with_reducible assumption) | (refine ⟨?_, ?_, ?_, ?_, ?_, ?_⟩ <;> (refine keep_ext (W := V) ?_ (by assumption) (by assumption); exact x0)) | (refine ⟨?_, ?_, ?_, ?_, ?_, ?_⟩ <;> (refine keep_ext (W := V) ?_ (by assumption) (by assumption); exact x0.drew)) | go_keep)
                        (first | (go_at_call 111; with_reducible refine (squared_any x y x1 y1 _ hx hy hx1 hy1).mono ?_; rintro e w1 ⟨rfl, x1⟩; (first | replace x0 := x0.trans x1 | replace x0 := (x0.drew).trans x1 | replace x0 := (x0.drewN _).trans x1); clear x1) | (go_at_call 111; with_reducible refine (squared_any x y x2 y2 _ hx hy hx2 hy2).mono ?_; rintro e w1 ⟨rfl, x1⟩; (first | replace x0 := x0.trans x1 | replace x0 := (x0.drew).trans x1 | replace x0 := (x0.drewN _).trans x1); clear x1))
                      all_goals (go_wp2_with fail; go_meet; exact ⟨by rw [ev.out], (by first | exact x0 | exact x0.drew)⟩)
                    · have ev := Lib.hid (updB_past (s := (x1, y1)) g2 (by rw [hT.out]; exact g3) (by rw [hT.out]; exact g4))
                      have v4 : (T == 0) = false := by simpa using g4
                      clear g1 g2
                      go_quiet (fail)
                      go_wp2_with fail
                      go_meet
                      exact ⟨by rw [ev.out], by first | exact x0 | exact x0.drew | exact x0.drewN _⟩
            case rest =>
            obtain ⟨rfl, z1⟩ := hcut
            clear x0 k0 k1 q1 q2 r0 r1 lD lD1
            replace xm := xm.trans z1
            clear z1
            cases hq : updB (x, y) (x2, y2) (x1, y1)
            · have ev := hnk hq
              clear hnt hnk hq
              go_wp2_with fail
              go_roundw
              case rel => exact ⟨m + 1, by go_num, by omega, by rw [← ev.out], xm⟩
              case measure => simp [intOf]; omega
            · have ev := hnt hq
              clear hnt hnk hq
              go_wp2_with fail
              go_roundw
              case rel => exact ⟨m + 1, by go_num, by omega, by rw [← ev.out], xm⟩
              case measure => simp [intOf]; omega
          · obtain rfl : n = m := by omega
            have t1 : decide ((n : Int) < (n : Int)) = false := by simp
            have hnx : nxF (psOf zs) A St n = tra (psOf zs) St (k + 1) := by rw [tra, nxt, hpl.out, hA.out]
            have hbk : ∀ v, eqP (pt (psOf zs) (nxF (psOf zs) A St n)) (pt (psOf zs) St) = v → backB (psOf zs) St k = v := fun v h => by rw [backB, ← hnx]; exact h
            have hnx' := Lib.hid hnx
            generalize hNe : nxF (psOf zs) A St n = N at *
            replace hNe := Lib.hid hNe
            obtain ⟨b1, off1, hab, hb1, s1, x1, y1, wh1, st1, hz1, d0, d1, d2, d3, d4⟩ := (hr.ext (xU.trans xm)).look (j := N) (by omega)
            injection hab with hab
            injection hab with e1 e2
            subst e1; subst e2
            obtain ⟨b2, off2, hab, hb2, s2, x2, y2, wh2, st2, hz2, f0, f1, f2, f3, f4⟩ := (hr.ext (xU.trans xm)).look (j := St) (by omega)
            injection hab with hab
            injection hab with e1 e2
            subst e1; subst e2
            rw [pt_at hz1.out, pt_at hz2.out] at hbk
            have t3 : (N : Int) < (n : Int) := by omega
            have t4 : (St : Int) < (n : Int) := by omega
            have t5 : N < n := hNl
            clear hz1 hz2 hnx
            obtain ⟨sb, sd, rfl⟩ := ho2.shape
            have ho3 := ho2.ext xm
            rw [hulT_length] at ho3 ⊢
            cases hq : eqP (x1, y1) (x2, y2)
            · have ev := Lib.hid (hN0.out k hon.out (hbk _ hq))
              have nb1 : ∀ w, (binOp .eql 104 (.agg #[.int .i64 x1, .int .i64 y1]) (.agg #[.int .i64 x2, .int .i64 y2])).run Try.prog w = .ok (.bool false) w := fun w => by rw [run_pt_eql, hq]
              clear hbk
              go_wp2_with fail
              go_quiet (fail)
              go_wp2_with fail
              go_roundw
              case rel => exact ⟨k + 1, by rw [hnx'.out], by first | exact ho3.ext ((Ext.refl _).drewN _) | exact ho3.ext ((Ext.refl _).drew) | exact ho3, by first | exact (xU.trans xm).drewN _ | exact (xU.trans xm).drew | exact xU.trans xm, ev⟩
              case measure => simp only [slLen]; omega
            · have ev := Lib.hid (hD0.out k hon.out (hbk _ hq))
              have nb1 : ∀ w, (binOp .eql 104 (.agg #[.int .i64 x1, .int .i64 y1]) (.agg #[.int .i64 x2, .int .i64 y2])).run Try.prog w = .ok (.bool true) w := fun w => by rw [run_pt_eql, hq]
              clear hbk
              go_wp2_with fail
              go_quiet (fail)
              go_wp2_with fail
              go_ret
              exact ⟨_, rfl, by rw [← ev.out]; first | exact ho3.ext ((Ext.refl _).drewN _) | exact ho3.ext ((Ext.refl _).drew) | exact ho3, by first | exact (xU.trans xm).drewN _ | exact (xU.trans xm).drew | exact xU.trans xm⟩
end Go.Proofs.Ytgkpganbepbjnaa

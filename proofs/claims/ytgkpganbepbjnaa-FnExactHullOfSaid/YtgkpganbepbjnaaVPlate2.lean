/-
  Plates: the reference's test of validity.
-/
import Derived.Test.YtgkpganbepbjnaaVSite
import Derived.Deep.DeepCutAuto
namespace Go.Proofs.Ytgkpganbepbjnaa
open Go.RowKit
set_option linter.unusedSimpArgs false
set_option linter.unusedVariables false

set_option maxRecDepth 100000 in
set_option maxHeartbeats 8000000 in
theorem l09Plate_any (pw ph pm pg : Int) (a : Option Addr) (n c : Nat) (zs : List Sit) (w : World) (hr : SRow w a zs) (hn : zs.length = n) (hm : n ≤ 1048576) (hsz : ∀ j, j < n → (zs.getD j Sit.d).s.size ≤ 9223372036854775807) :
    Calls Try.prog 81 #[.agg #[.int .i64 pw, .int .i64 ph, .int .i64 pm, .int .i64 pg, .slice a n c]] w fun e w' => e = .returned (.bool (plOk pw ph pm pg zs)) ∧ Ext w w' := by
  cases h0 : inB pw 1 10000
  · have ev := Lib.hid (plOk_head (pw := pw) (ph := ph) (pm := pm) (pg := pg) hn (by simp [hdOk, h0]))
    clear hr hsz
    go_enter Try.func81, Try.ntmps81
    go_upto_region 1 with fail
    generalize hW : World.alloc _ _ = W
    have hE : Ext w W := by rw [← hW]; exact (Ext.refl _).alloc _
    have l0 : w.heap.size < W.heap.size := by rw [← hW]; simp
    have p0 : W.cell? ⟨w.heap.size, 0, none⟩ = some (.int .i64 pw) := by rw [← hW]; simp [go_sem]
    have p1 : W.cell? ⟨w.heap.size, 1, none⟩ = some (.int .i64 ph) := by rw [← hW]; simp [go_sem]
    have p2 : W.cell? ⟨w.heap.size, 2, none⟩ = some (.int .i64 pm) := by rw [← hW]; simp [go_sem]
    have p3 : W.cell? ⟨w.heap.size, 3, none⟩ = some (.int .i64 pg) := by rw [← hW]; simp [go_sem]
    have p4 : W.cell? ⟨w.heap.size, 4, none⟩ = some (.slice a n c) := by rw [← hW]; simp [go_sem]
    clear hW
    go_wp2_with (go_at_call 54; refine (l00In_any _ _ _ _).mono ?_; rintro e w1 ⟨rfl, rfl⟩)
    go_ret
    exact ⟨ret_bool ev.out, hE⟩
  cases h1 : inB ph 1 10000
  · have ev := Lib.hid (plOk_head (pw := pw) (ph := ph) (pm := pm) (pg := pg) hn (by simp [hdOk, h0, h1]))
    clear hr hsz
    go_enter Try.func81, Try.ntmps81
    go_upto_region 1 with fail
    generalize hW : World.alloc _ _ = W
    have hE : Ext w W := by rw [← hW]; exact (Ext.refl _).alloc _
    have l0 : w.heap.size < W.heap.size := by rw [← hW]; simp
    have p0 : W.cell? ⟨w.heap.size, 0, none⟩ = some (.int .i64 pw) := by rw [← hW]; simp [go_sem]
    have p1 : W.cell? ⟨w.heap.size, 1, none⟩ = some (.int .i64 ph) := by rw [← hW]; simp [go_sem]
    have p2 : W.cell? ⟨w.heap.size, 2, none⟩ = some (.int .i64 pm) := by rw [← hW]; simp [go_sem]
    have p3 : W.cell? ⟨w.heap.size, 3, none⟩ = some (.int .i64 pg) := by rw [← hW]; simp [go_sem]
    have p4 : W.cell? ⟨w.heap.size, 4, none⟩ = some (.slice a n c) := by rw [← hW]; simp [go_sem]
    clear hW
    go_wp2_with (go_at_call 54; refine (l00In_any _ _ _ _).mono ?_; rintro e w1 ⟨rfl, rfl⟩)
    go_ret
    exact ⟨ret_bool ev.out, hE⟩
  cases h2 : inB pm 0 1000
  · have ev := Lib.hid (plOk_head (pw := pw) (ph := ph) (pm := pm) (pg := pg) hn (by simp [hdOk, h0, h1, h2]))
    clear hr hsz
    go_enter Try.func81, Try.ntmps81
    go_upto_region 1 with fail
    generalize hW : World.alloc _ _ = W
    have hE : Ext w W := by rw [← hW]; exact (Ext.refl _).alloc _
    have l0 : w.heap.size < W.heap.size := by rw [← hW]; simp
    have p0 : W.cell? ⟨w.heap.size, 0, none⟩ = some (.int .i64 pw) := by rw [← hW]; simp [go_sem]
    have p1 : W.cell? ⟨w.heap.size, 1, none⟩ = some (.int .i64 ph) := by rw [← hW]; simp [go_sem]
    have p2 : W.cell? ⟨w.heap.size, 2, none⟩ = some (.int .i64 pm) := by rw [← hW]; simp [go_sem]
    have p3 : W.cell? ⟨w.heap.size, 3, none⟩ = some (.int .i64 pg) := by rw [← hW]; simp [go_sem]
    have p4 : W.cell? ⟨w.heap.size, 4, none⟩ = some (.slice a n c) := by rw [← hW]; simp [go_sem]
    clear hW
    go_wp2_with (go_at_call 54; refine (l00In_any _ _ _ _).mono ?_; rintro e w1 ⟨rfl, rfl⟩)
    go_ret
    exact ⟨ret_bool ev.out, hE⟩
  cases h3 : inB pg 0 1000
  · have ev := Lib.hid (plOk_head (pw := pw) (ph := ph) (pm := pm) (pg := pg) hn (by simp [hdOk, h0, h1, h2, h3]))
    clear hr hsz
    go_enter Try.func81, Try.ntmps81
    go_upto_region 1 with fail
    generalize hW : World.alloc _ _ = W
    have hE : Ext w W := by rw [← hW]; exact (Ext.refl _).alloc _
    have l0 : w.heap.size < W.heap.size := by rw [← hW]; simp
    have p0 : W.cell? ⟨w.heap.size, 0, none⟩ = some (.int .i64 pw) := by rw [← hW]; simp [go_sem]
    have p1 : W.cell? ⟨w.heap.size, 1, none⟩ = some (.int .i64 ph) := by rw [← hW]; simp [go_sem]
    have p2 : W.cell? ⟨w.heap.size, 2, none⟩ = some (.int .i64 pm) := by rw [← hW]; simp [go_sem]
    have p3 : W.cell? ⟨w.heap.size, 3, none⟩ = some (.int .i64 pg) := by rw [← hW]; simp [go_sem]
    have p4 : W.cell? ⟨w.heap.size, 4, none⟩ = some (.slice a n c) := by rw [← hW]; simp [go_sem]
    clear hW
    go_wp2_with (go_at_call 54; refine (l00In_any _ _ _ _).mono ?_; rintro e w1 ⟨rfl, rfl⟩)
    go_ret
    exact ⟨ret_bool ev.out, hE⟩
  by_cases h4 : n ≤ 20
  rotate_left
  · have ev := Lib.hid (plOk_head (pw := pw) (ph := ph) (pm := pm) (pg := pg) hn (by simp [hdOk, h4]))
    have t5 : (20 : Int) < (n : Int) := by omega
    clear hr hsz
    go_enter Try.func81, Try.ntmps81
    go_upto_region 1 with fail
    generalize hW : World.alloc _ _ = W
    have hE : Ext w W := by rw [← hW]; exact (Ext.refl _).alloc _
    have l0 : w.heap.size < W.heap.size := by rw [← hW]; simp
    have p0 : W.cell? ⟨w.heap.size, 0, none⟩ = some (.int .i64 pw) := by rw [← hW]; simp [go_sem]
    have p1 : W.cell? ⟨w.heap.size, 1, none⟩ = some (.int .i64 ph) := by rw [← hW]; simp [go_sem]
    have p2 : W.cell? ⟨w.heap.size, 2, none⟩ = some (.int .i64 pm) := by rw [← hW]; simp [go_sem]
    have p3 : W.cell? ⟨w.heap.size, 3, none⟩ = some (.int .i64 pg) := by rw [← hW]; simp [go_sem]
    have p4 : W.cell? ⟨w.heap.size, 4, none⟩ = some (.slice a n c) := by rw [← hW]; simp [go_sem]
    clear hW
    go_wp2_with (go_at_call 54; refine (l00In_any _ _ _ _).mono ?_; rintro e w1 ⟨rfl, rfl⟩)
    go_ret
    exact ⟨ret_bool ev.out, hE⟩
  have hh := Lib.hid (show hdOk pw ph pm pg zs.length = true by simp [hdOk, h0, h1, h2, h3, hn, h4])
  have t5 : ¬ (20 : Int) < (n : Int) := by omega
  go_enter Try.func81, Try.ntmps81
  go_upto_region 1 with fail
  generalize hW : World.alloc _ _ = W
  have hE : Ext w W := by rw [← hW]; exact (Ext.refl _).alloc _
  have l0 : w.heap.size < W.heap.size := by rw [← hW]; simp
  have p0 : W.cell? ⟨w.heap.size, 0, none⟩ = some (.int .i64 pw) := by rw [← hW]; simp [go_sem]
  have p1 : W.cell? ⟨w.heap.size, 1, none⟩ = some (.int .i64 ph) := by rw [← hW]; simp [go_sem]
  have p2 : W.cell? ⟨w.heap.size, 2, none⟩ = some (.int .i64 pm) := by rw [← hW]; simp [go_sem]
  have p3 : W.cell? ⟨w.heap.size, 3, none⟩ = some (.int .i64 pg) := by rw [← hW]; simp [go_sem]
  have p4 : W.cell? ⟨w.heap.size, 4, none⟩ = some (.slice a n c) := by rw [← hW]; simp [go_sem]
  clear hW
  go_wp2_with (go_at_call 54; refine (l00In_any _ _ _ _).mono ?_; rintro e w1 ⟨rfl, rfl⟩)
  clear h0 h1 h2 h3
  go_loopw [3] (fun kk wr => ∃ i : Nat, kk = .int .i64 i ∧ i ≤ n ∧ Ext W wr ∧ Hid (∀ j, j < i → rdOk pw ph zs j = true)) (fun kk _ => n - (intOf kk).toNat)
  case atStart => exact ⟨0, rfl, Nat.zero_le _, Ext.refl _, Lib.hid (fun j hj => by omega)⟩
  case round =>
    obtain ⟨i, rfl, hi, xw, hk⟩ := hrel
    by_cases h0 : i < n
    · obtain ⟨b, off, rfl, hb, s, x, y, wh, st, hz, c0, c1, c2, c3, c4⟩ := (hr.ext (hE.trans xw)).look (j := i) (by omega)
      have hs1 := hsz i h0
      rw [hz.out] at hs1
      dsimp only at hs1
      have t1 : decide ((i : Int) < (n : Int)) = true := by simp; omega
      have t2 : (i : Int) < (n : Int) := by omega
      have hrd : rdOk pw ph zs i = (siOk pw ph ⟨s, x, y, wh, st⟩ && !(anyN zs i s)) := by rw [rdOk, hz.out]
      have lw := Nat.lt_of_lt_of_le l0 xw.size
      have f0 := (xw.cells.1 _ _ l0).trans p0
      have f1 := (xw.cells.1 _ _ l0).trans p1
      have f2 := (xw.cells.1 _ _ l0).trans p2
      have f3 := (xw.cells.1 _ _ l0).trans p3
      have f4 := (xw.cells.1 _ _ l0).trans p4
      clear hz
      have hbU : b < wr.heap.size := hb
      go_upto_region 7 with fail
      generalize hU : World.alloc _ _ = U
      have xU : Ext wr U := by rw [← hU]; exact (Ext.refl _).alloc _
      have lU : wr.heap.size < U.heap.size := by rw [← hU]; simp
      have s0 : U.cell? ⟨wr.heap.size, 0, none⟩ = some (.string s) := by rw [← hU]; simp [go_sem]
      have s1 : U.cell? ⟨wr.heap.size, 1, none⟩ = some (.int .i64 x) := by rw [← hU]; simp [go_sem]
      have s2 : U.cell? ⟨wr.heap.size, 2, none⟩ = some (.int .i64 y) := by rw [← hU]; simp [go_sem]
      have s3 : U.cell? ⟨wr.heap.size, 3, none⟩ = some (.int .i64 wh) := by rw [← hU]; simp [go_sem]
      have s4 : U.cell? ⟨wr.heap.size, 4, none⟩ = some (.int .i64 st) := by rw [← hU]; simp [go_sem]
      clear hU
      replace f0 := (xU.cells.1 _ _ lw).trans f0
      replace f1 := (xU.cells.1 _ _ lw).trans f1
      replace f2 := (xU.cells.1 _ _ lw).trans f2
      replace f3 := (xU.cells.1 _ _ lw).trans f3
      replace f4 := (xU.cells.1 _ _ lw).trans f4
      replace lw := Nat.lt_of_lt_of_le lw xU.size
      have hrU := hr.ext (hE.trans (xw.trans xU))
      clear c0 c1 c2 c3 c4
      cases g0 : isNm s
      · have ev := Lib.hid (plOk_bad (pm := pm) (pg := pg) (by omega) (show rdOk pw ph zs i = false by rw [hrd]; simp [siOk, g0]))
        clear hrd hk
        go_wp2_with (first | (go_at_call 103; refine (specIsName_any s _ hs1).mono ?_; rintro e w1 ⟨rfl, rfl⟩) | (go_at_call 54; refine (l00In_any _ _ _ _).mono ?_; rintro e w1 ⟨rfl, rfl⟩))
        go_ret
        exact ⟨ret_bool ev.out, (hE.trans xw).trans xU⟩
      cases g1 : inB x 0 pw
      · have ev := Lib.hid (plOk_bad (pm := pm) (pg := pg) (by omega) (show rdOk pw ph zs i = false by rw [hrd]; simp [siOk, g0, g1]))
        clear hrd hk
        go_wp2_with (first | (go_at_call 103; refine (specIsName_any s _ hs1).mono ?_; rintro e w1 ⟨rfl, rfl⟩) | (go_at_call 54; refine (l00In_any _ _ _ _).mono ?_; rintro e w1 ⟨rfl, rfl⟩))
        go_ret
        exact ⟨ret_bool ev.out, (hE.trans xw).trans xU⟩
      cases g2 : inB y 0 ph
      · have ev := Lib.hid (plOk_bad (pm := pm) (pg := pg) (by omega) (show rdOk pw ph zs i = false by rw [hrd]; simp [siOk, g0, g1, g2]))
        clear hrd hk
        go_wp2_with (first | (go_at_call 103; refine (specIsName_any s _ hs1).mono ?_; rintro e w1 ⟨rfl, rfl⟩) | (go_at_call 54; refine (l00In_any _ _ _ _).mono ?_; rintro e w1 ⟨rfl, rfl⟩))
        go_ret
        exact ⟨ret_bool ev.out, (hE.trans xw).trans xU⟩
      cases g3 : inB st 1 1000
      · have ev := Lib.hid (plOk_bad (pm := pm) (pg := pg) (by omega) (show rdOk pw ph zs i = false by rw [hrd]; simp [siOk, g0, g1, g2, g3]))
        clear hrd hk
        go_wp2_with (first | (go_at_call 103; refine (specIsName_any s _ hs1).mono ?_; rintro e w1 ⟨rfl, rfl⟩) | (go_at_call 54; refine (l00In_any _ _ _ _).mono ?_; rintro e w1 ⟨rfl, rfl⟩))
        go_ret
        exact ⟨ret_bool ev.out, (hE.trans xw).trans xU⟩
      cases g4 : inB wh st 10000
      · have ev := Lib.hid (plOk_bad (pm := pm) (pg := pg) (by omega) (show rdOk pw ph zs i = false by rw [hrd]; simp [siOk, g0, g1, g2, g3, g4]))
        clear hrd hk
        go_wp2_with (first | (go_at_call 103; refine (specIsName_any s _ hs1).mono ?_; rintro e w1 ⟨rfl, rfl⟩) | (go_at_call 54; refine (l00In_any _ _ _ _).mono ?_; rintro e w1 ⟨rfl, rfl⟩))
        go_ret
        exact ⟨ret_bool ev.out, (hE.trans xw).trans xU⟩
      have hsi := Lib.hid (show siOk pw ph ⟨s, x, y, wh, st⟩ = true by simp [siOk, g0, g1, g2, g3, g4])
      go_wp2_with (first | (go_at_call 103; refine (specIsName_any s _ hs1).mono ?_; rintro e w1 ⟨rfl, rfl⟩) | (go_at_call 54; refine (l00In_any _ _ _ _).mono ?_; rintro e w1 ⟨rfl, rfl⟩))
      clear g0 g1 g2 g3 g4
      have xU' := (hE.trans xw).trans xU
      have xWU := xw.trans xU
      clear xU xw hb hbU
      generalize wr.heap.size = B at lU s0 s1 s2 s3 s4 ⊢
      clear wr
      go_loopw [5] (fun kk wr => ∃ k : Nat, kk = .int .i64 k ∧ k ≤ i ∧ Ext U wr ∧ Hid (∀ j, j < k → eqN (zs.getD j Sit.d).s s = false)) (fun kk _ => i - (intOf kk).toNat)
      case atStart => exact ⟨0, rfl, Nat.zero_le _, Ext.refl _, Lib.hid (fun j hj => by omega)⟩
      case round =>
        obtain ⟨k, rfl, hki, xk, hkk⟩ := hrel
        by_cases hlt : k < i
        · obtain ⟨b1, off1, hab, hb1, s', x', y', wh', st', hz', d0, d1, d2, d3, d4⟩ := (hrU.ext xk).look (j := k) (by omega)
          injection hab with hab
          injection hab with e1 e2
          subst e1; subst e2
          have u1 : decide ((k : Int) < (i : Int)) = true := by simp; omega
          have u2 : (k : Int) < (n : Int) := by omega
          have u3 : k < n := by omega
          replace f4 := (xk.cells.1 _ _ lw).trans f4
          replace s0 := (xk.cells.1 _ _ lU).trans s0
          have hzk : (zs.getD k Sit.d).s = s' := by rw [hz'.out]
          clear d1 d2 d3 d4 f0 f1 f2 f3 s1 s2 s3 s4
          cases hq : (s'.toList == s.toList)
          · have hkk2 := Lib.hid (show ∀ j, j < k + 1 → eqN (zs.getD j Sit.d).s s = false from fun j hj => by
              by_cases hji : j = k
              · subst hji; rw [hzk]; exact hq
              · exact hkk.out j (by omega))
            clear hz' hkk hzk hrd hk
            go_wp2_with fail
            go_quiet (fail)
            go_wp2_with fail
            go_roundw
            case rel => exact ⟨k + 1, by go_num, by omega, by first | exact xk.drewN _ | exact xk.drew | exact xk, hkk2⟩
            case measure => simp [intOf]; omega
          · have ev := Lib.hid (plOk_bad (pm := pm) (pg := pg) (by omega) (show rdOk pw ph zs i = false by rw [hrd, anyN_hit hlt (by rw [hzk]; exact hq)]; simp))
            clear hz' hkk hzk hrd hk
            go_wp2_with fail
            go_quiet (fail)
            go_wp2_with fail
            go_ret
            exact ⟨ret_bool ev.out, by first | exact (xU'.trans xk).drewN _ | exact (xU'.trans xk).drew | exact xU'.trans xk⟩
        · obtain rfl : k = i := by omega
          have u1 : decide ((k : Int) < (k : Int)) = false := by simp
          have hk2 := Lib.hid (show ∀ j, j < k + 1 → rdOk pw ph zs j = true from fun j hj => by
            by_cases hji : j = k
            · subst hji; rw [hrd, hsi.out, anyN_miss hkk.out]; rfl
            · exact hk.out j (by omega))
          clear hkk hrd hk
          go_wp2_with fail
          go_roundw
          case rel => exact ⟨k + 1, by go_num, by omega, xWU.trans xk, hk2⟩
          case measure => simp [intOf]; omega
    · obtain rfl : n = i := by omega
      have t1 : decide ((n : Int) < (n : Int)) = false := by simp
      have ev := Lib.hid (plOk_ok hh.out (fun j hj => hk.out j (by omega)))
      clear hr hk hsz
      have f4 := (xw.cells.1 _ _ l0).trans p4
      go_wp2
      go_ret
      exact ⟨ret_bool ev.out, hE.trans xw⟩
end Go.Proofs.Ytgkpganbepbjnaa

/-
  Segments put together: the program's and the reference's.
-/
import Derived.Test.YtiodlbgfgeimoaaMergeP
import Derived.Test.YtiodlbgfgeimoaaOwn2
import Derived.Test.YtiodlbgfgeimoaaAfter3
import Derived.RegionTactic
import Derived.Deep.DeepCutAuto
namespace Go.Proofs.Ytiodlbgfgeimoaa
open Go.RowKit
set_option linter.unusedSimpArgs false
set_option linter.unusedVariables false

set_option maxRecDepth 100000 in
set_option maxHeartbeats 8000000 in
theorem implMergeSegments_any (a : Option Addr) (n c : Nat) (zs : List (Int × Int)) (w : World) (hr : RowAt w a zs) (hn : zs.length = n) (hk : n ≤ 1048576) :
    Calls Try.prog 34 #[.slice a n c] w fun e w' => ∃ v, e = .returned (.tuple #[v, .int .i64 (mgC zs)]) ∧ PairsOf w' w.heap.size v (mgR zs) ∧ Ext w w' := by
  have x0 := Ext.refl w
  cases h1 : vSegs zs
  · have e1 := Lib.hid (show [] = mgR zs by simp [mgR, h1])
    have e2 := Lib.hid (show 1 = mgC zs by simp [mgC, h1])
    go_enter Try.func34, Try.ntmps34
    go_wp2_with (first | (go_at_call 28; refine (implValidSegments_any _ _ _ zs _ (hr.ext x0) hn hk).mono ?_; rintro e w1 ⟨rfl, x1⟩; (try clear xc xf xs); (first | replace x0 := x0.trans x1 | replace x0 := (x0.alloc _).trans x1 | replace x0 := (x0.drew).trans x1 | replace x0 := (x0.drew.alloc _).trans x1 | replace x0 := (x0.alloc _).drew.trans x1 | replace x0 := ((x0.alloc _).alloc _).trans x1 | have x0 := x1); clear x1; obtain ⟨xc, xf, xs⟩ := x0.cells))
    go_ret2
    exact ⟨_, rtv2 e2.out, (by rw [← e1.out]; exact World.ownsRow_nil _ _ _ _), x0⟩
  have e1 := Lib.hid (show mg zs n = mgR zs by simp [mgR, h1, hn])
  have e2 := Lib.hid (show 0 = mgC zs by simp [mgC, h1])
  have hlen := vSegs_len h1
  rw [hn] at hlen
  have hv := Lib.hid h1
  go_enter Try.func34, Try.ntmps34
  go_wp2_with (first | (go_at_call 28; refine (implValidSegments_any _ _ _ zs _ (hr.ext x0) hn hk).mono ?_; rintro e w1 ⟨rfl, x1⟩; (try clear xc xf xs); (first | replace x0 := x0.trans x1 | replace x0 := (x0.alloc _).trans x1 | replace x0 := (x0.drew).trans x1 | replace x0 := (x0.drew.alloc _).trans x1 | replace x0 := (x0.alloc _).drew.trans x1 | replace x0 := ((x0.alloc _).alloc _).trans x1 | have x0 := x1); clear x1; obtain ⟨xc, xf, xs⟩ := x0.cells))
  (try clear xc xf xs)
  clear h1
  go_loopw [4, 13] (fun vv kk wr => ∃ (i : Nat) (O : List (Int × Int)), kk = .int .i64 i ∧ i ≤ n ∧ PairsOf wr w.heap.size vv O ∧ Ext w wr ∧ Hid (O = mg zs i)) (fun _ kk _ => n - (intOf kk).toNat)
  case atStart => exact ⟨0, [], rfl, Nat.zero_le _, World.ownsRow_nil _ _ _ _, x0, Lib.hid rfl⟩
  case round =>
    clear x0
    obtain ⟨i, O, rfl, hi, ho, xw, hO⟩ := hrel
    by_cases h0 : i < n
    · obtain ⟨bb, off, rfl, hbb, x, y, ex, ey, c0, c1⟩ := (hr.ext xw).look (j := i) (by omega)
      have hxb := vSegs_at hv.out (j := i) (by omega)
      rw [ex.out, ey.out] at hxb
      have hOl := mg_len zs i
      rw [← hO.out] at hOl
      have t1 : decide ((i : Int) < (n : Int)) = true := by simp; omega
      have t2 : (i : Int) < (n : Int) := by omega
      obtain ⟨sa, sc, rfl⟩ := ho.shape
      have hne : wr.heap.size ≠ bb := by omega
      go_upto_region 7 with fail
      generalize hU : World.alloc _ _ = U
      have xU : Ext wr U := by rw [← hU]; exact (Ext.refl _).alloc _
      have s0 : U.cell? ⟨wr.heap.size, 0, none⟩ = some (.int .i64 x) := by rw [← hU]; simp [go_sem]
      have s1 : U.cell? ⟨wr.heap.size, 1, none⟩ = some (.int .i64 y) := by rw [← hU]; simp [go_sem]
      have hlU : wr.heap.size < U.heap.size := by rw [← hU]; simp
      clear hU
      skip
      by_cases hz : O.length = 0
      · have hap := Lib.hid (mgS_apart (O := O) ex.out ey.out (.inl hz))
        have t3 : IntKind.i64.wrap ((0 : Int) - 1) = -1 := by decide
        clear ex ey
        rw [hz]
        rw [hz] at ho
        go_upto_region 8 with fail
        go_quiet (fail)
        go_upto_region 10 with fail
        generalize hU2 : World.drewN _ _ = U2
        have xU2 : Ext U U2 := by rw [← hU2]; exact (Ext.refl _).drewN _
        clear hU2
        replace s0 := (xU2.cells.1 _ _ hlU).trans s0
        replace s1 := (xU2.cells.1 _ _ hlU).trans s1
        replace hlU := Nat.lt_of_lt_of_le hlU xU2.size
        replace xU := xU.trans xU2
        clear xU2
        rename World => U
        obtain ⟨i0, hii, hz0, hz1, hz2⟩ := seg_info
        go_wp2_with (at_builtin; refine wpList_append_ext _ rfl _ _ 34 rfl w.heap.size 61 i0 pairZero 2 16 Try.underlying34 hii hz0 hz1 hz2 rfl (by decide) _ _ _ rfl ((ho.ext xU).ext ((Ext.refl _).alloc _)) ⟨U.heap.size, 0, none⟩ 1 1 [.int .i64 x, .int .i64 y] rfl rfl (pair_new _ _ _ rfl) (pair_cells _ _) ?c3 ?c4 ?c5 ?_)
        case c3 => rw [hz]; decide
        case c4 => rw [hz]; decide
        case c5 => have := (xw.trans xU).size; simp; omega
        intro v' w2 h2 hx2
        clear hii hz0 hz1 hz2
        go_wp2_with fail
        go_roundw
        case rel => exact ⟨i + 1, _, by go_num, by omega, PairsOf.push (zs := O) (by rw [hz]; exact h2) rfl, hx2 w ((xw.trans xU).alloc _) (Nat.le_refl _), Lib.hid (by rw [mg, ← hO.out]; exact (hap.out).symm)⟩
        case measure => simp [intOf]; omega
      · obtain ⟨k, hk1⟩ : ∃ k, O.length = k + 1 := ⟨O.length - 1, by omega⟩
        obtain ⟨g, p, t, rfl, hg, hp, ht, d0, d1, z0, z1⟩ := ho.nth (j := k) (by omega)
        replace d0 := (xU.cells.1 _ _ hg).trans d0
        replace d1 := (xU.cells.1 _ _ hg).trans d1
        replace z0 := (xU.cells.2.1 _ _ hg).trans z0
        have hgU := Nat.lt_of_lt_of_le hg xU.size
        have hgB := (ho.lt g rfl).1
        have hpb := mg_at hv.out (k := i) (j := k) (by omega) (by rw [← hO.out]; omega)
        rw [← hO.out, hp.out] at hpb
        have hjn := fun h1 h2 => mgS_join (O := O) hk1 hp.out ht.out ex.out ey.out h1 h2
        have han := fun h => mgS_apart (O := O) ex.out ey.out (.inr ⟨k, p, t, hk1, hp.out, ht.out, h⟩)
        replace hjn := Lib.hid hjn
        replace han := Lib.hid han
        have t3 : IntKind.i64.wrap (((k + 1 : Nat) : Int) - 1) = (k : Int) := by rw [IntWalk.i64_in _ (by omega)]; omega
        have t4 : (k : Int) < ((k + 1 : Nat) : Int) := by omega
        have t5 : k < k + 1 := by omega
        have t6 : (0 : Int) ≤ (k : Int) := by omega
        have q1 : IntKind.i64.wrap (p + x) = p + x := IntWalk.i64_in _ (by omega)
        have hLk : k < O.length := by omega
        clear ex ey hp ht
        rw [hk1]
        rw [hk1] at ho
        generalize hi1 : k + 1 = L at *
        by_cases h2 : t = y
        · replace h2 := h2.symm
          subst h2
          by_cases h3 : p + x ≤ 240
          · have hj := Lib.hid (hjn.out rfl h3)
            replace hk1 := Lib.hid hk1
            replace hi1 := Lib.hid hi1
            have hset0 := hLk
            go_upto_region 8 with fail
            go_quiet (fail)
            go_upto_region 9 with fail
            generalize hU2 : World.drewN _ _ = U2
            have xU2 : Ext U U2 := by rw [← hU2]; exact (Ext.refl _).drewN _
            clear hU2
            replace s0 := (xU2.cells.1 _ _ hlU).trans s0
            replace s1 := (xU2.cells.1 _ _ hlU).trans s1
            replace hlU := Nat.lt_of_lt_of_le hlU xU2.size
            replace d0 := (xU2.cells.1 _ _ hgU).trans d0
            replace z0 := (xU2.cells.2.1 _ _ hgU).trans z0
            replace hgU := Nat.lt_of_lt_of_le hgU xU2.size
            have hset := Lib.hid (((ho.ext xU).ext xU2).set0 (j := k) (by omega) (p + x))
            replace xU := xU.trans xU2
            clear xU2
            rename World => U
            go_region
            all_goals go_wp2_with fail
            all_goals go_roundw
            all_goals first | (case rel => exact ⟨i + 1, _, by go_num, by omega, by first | exact hset.out | skip, by first | exact ((xw.trans xU).drew).setCell (by simp; omega) _ | exact (xw.trans xU).setCell (by simp; omega) _, Lib.hid (by rw [mg, ← hO.out]; exact hj.out)⟩) | (case measure => simp [intOf]; omega)
          · have hap := Lib.hid (han.out (.inr (by omega)))
            replace hk1 := Lib.hid hk1
            replace hi1 := Lib.hid hi1
            have t9 : decide (p + x ≤ 240) = false := by simp; omega
            go_upto_region 8 with fail
            go_quiet (fail)
            go_upto_region 10 with fail
            generalize hU2 : World.drewN _ _ = U2
            have xU2 : Ext U U2 := by rw [← hU2]; exact (Ext.refl _).drewN _
            clear hU2
            replace s0 := (xU2.cells.1 _ _ hlU).trans s0
            replace s1 := (xU2.cells.1 _ _ hlU).trans s1
            replace hlU := Nat.lt_of_lt_of_le hlU xU2.size
            replace xU := xU.trans xU2
            clear xU2
            rename World => U
            obtain ⟨i0, hii, hz0, hz1, hz2⟩ := seg_info
            go_wp2_with (at_builtin; refine wpList_append_ext _ rfl _ _ 34 rfl w.heap.size 61 i0 pairZero 2 16 Try.underlying34 hii hz0 hz1 hz2 rfl (by decide) _ _ _ rfl ((ho.ext xU).ext ((Ext.refl _).alloc _)) ⟨U.heap.size, 0, none⟩ 1 1 [.int .i64 x, .int .i64 y] rfl rfl (pair_new _ _ _ rfl) (pair_cells _ _) ?c3 ?c4 ?c5 ?_)
            case c3 => unfold maxLen; omega
            case c4 => omega
            case c5 => have := (xw.trans xU).size; simp; omega
            intro v' w2 h2 hx2
            clear hii hz0 hz1 hz2
            go_wp2_with fail
            go_roundw
            case rel => exact ⟨i + 1, _, by go_num, by omega, PairsOf.push h2 rfl, hx2 w ((xw.trans xU).alloc _) (Nat.le_refl _), Lib.hid (by rw [mg, ← hO.out]; exact (hap.out).symm)⟩
            case measure => simp [intOf]; omega
        · have hap := Lib.hid (han.out (.inl h2))
          replace hk1 := Lib.hid hk1
          replace hi1 := Lib.hid hi1
          have t9 : (t == y) = false := by simpa using h2
          go_upto_region 8 with fail
          go_quiet (fail)
          go_upto_region 10 with fail
          generalize hU2 : World.drewN _ _ = U2
          have xU2 : Ext U U2 := by rw [← hU2]; exact (Ext.refl _).drewN _
          clear hU2
          replace s0 := (xU2.cells.1 _ _ hlU).trans s0
          replace s1 := (xU2.cells.1 _ _ hlU).trans s1
          replace hlU := Nat.lt_of_lt_of_le hlU xU2.size
          replace xU := xU.trans xU2
          clear xU2
          rename World => U
          obtain ⟨i0, hii, hz0, hz1, hz2⟩ := seg_info
          go_wp2_with (at_builtin; refine wpList_append_ext _ rfl _ _ 34 rfl w.heap.size 61 i0 pairZero 2 16 Try.underlying34 hii hz0 hz1 hz2 rfl (by decide) _ _ _ rfl ((ho.ext xU).ext ((Ext.refl _).alloc _)) ⟨U.heap.size, 0, none⟩ 1 1 [.int .i64 x, .int .i64 y] rfl rfl (pair_new _ _ _ rfl) (pair_cells _ _) ?c3 ?c4 ?c5 ?_)
          case c3 => unfold maxLen; omega
          case c4 => omega
          case c5 => have := (xw.trans xU).size; simp; omega
          intro v' w2 h2 hx2
          clear hii hz0 hz1 hz2
          go_wp2_with fail
          go_roundw
          case rel => exact ⟨i + 1, _, by go_num, by omega, PairsOf.push h2 rfl, hx2 w ((xw.trans xU).alloc _) (Nat.le_refl _), Lib.hid (by rw [mg, ← hO.out]; exact (hap.out).symm)⟩
          case measure => simp [intOf]; omega
    · obtain rfl : n = i := by omega
      have t1 : decide ((n : Int) < (n : Int)) = false := by simp
      obtain ⟨sa, sc, rfl⟩ := ho.shape
      replace ho := Lib.hid ho
      clear hr
      go_wp2_with fail
      go_ret2
      exact ⟨_, rtv2 e2.out, (by rw [← e1.out, ← hO.out]; exact ho.out), xw⟩

set_option maxRecDepth 100000 in
set_option maxHeartbeats 8000000 in
theorem specMergeSegments_any (a : Option Addr) (n c : Nat) (zs : List (Int × Int)) (w : World) (hr : RowAt w a zs) (hn : zs.length = n) (hk : n ≤ 1048576) :
    Calls Try.prog 33 #[.slice a n c] w fun e w' => ∃ v, e = .returned (.tuple #[v, .int .i64 (mgC zs)]) ∧ PairsOf w' w.heap.size v (mgR zs) ∧ Ext w w' := by
  have x0 := Ext.refl w
  cases h1 : vSegs zs
  · have e1 := Lib.hid (show [] = mgR zs by simp [mgR, h1])
    have e2 := Lib.hid (show 1 = mgC zs by simp [mgC, h1])
    go_enter Try.func33, Try.ntmps33
    go_wp2_with (first | (go_at_call 66; refine (l12List_any _ _ _ zs _ (hr.ext x0) hn hk).mono ?_; rintro e w1 ⟨rfl, x1⟩; (try clear xc xf xs); (first | replace x0 := x0.trans x1 | replace x0 := (x0.alloc _).trans x1 | replace x0 := (x0.drew).trans x1 | replace x0 := (x0.drew.alloc _).trans x1 | replace x0 := (x0.alloc _).drew.trans x1 | replace x0 := ((x0.alloc _).alloc _).trans x1 | have x0 := x1); clear x1; obtain ⟨xc, xf, xs⟩ := x0.cells))
    go_ret2
    exact ⟨_, rtv2 e2.out, (by rw [← e1.out]; exact World.ownsRow_nil _ _ _ _), x0⟩
  have e1 := Lib.hid (show mg zs n = mgR zs by simp [mgR, h1, hn])
  have e2 := Lib.hid (show 0 = mgC zs by simp [mgC, h1])
  have hlen := vSegs_len h1
  rw [hn] at hlen
  have hv := Lib.hid h1
  go_enter Try.func33, Try.ntmps33
  go_wp2_with (first | (go_at_call 66; refine (l12List_any _ _ _ zs _ (hr.ext x0) hn hk).mono ?_; rintro e w1 ⟨rfl, x1⟩; (try clear xc xf xs); (first | replace x0 := x0.trans x1 | replace x0 := (x0.alloc _).trans x1 | replace x0 := (x0.drew).trans x1 | replace x0 := (x0.drew.alloc _).trans x1 | replace x0 := (x0.alloc _).drew.trans x1 | replace x0 := ((x0.alloc _).alloc _).trans x1 | have x0 := x1); clear x1; obtain ⟨xc, xf, xs⟩ := x0.cells))
  (try clear xc xf xs)
  clear h1
  rename World => Y
  have hst : PairsOf (Y.alloc (Obj.cells #[] 61)) w.heap.size (.slice (some ⟨Y.heap.size, 0, none⟩) 0 0) [] := by
    have := World.ownsRow_made (w := Y) (base := w.heap.size) (e := 61) (size := 2) #[] 0 x0.size (by decide) rfl
    unfold PairsOf
    simpa [flat] using this
  go_loopw [4, 5] (fun vv kk wr => ∃ (i : Nat) (O : List (Int × Int)), kk = .int .i64 i ∧ i ≤ n ∧ PairsOf wr w.heap.size vv O ∧ Ext w wr ∧ Hid (O = mg zs i)) (fun _ kk _ => n - (intOf kk).toNat)
  case atStart => exact ⟨0, [], rfl, Nat.zero_le _, hst, x0.alloc _, Lib.hid rfl⟩
  case round =>
    clear x0 hst
    obtain ⟨i, O, rfl, hi, ho, xw, hO⟩ := hrel
    by_cases h0 : i < n
    · obtain ⟨bb, off, rfl, hbb, x, y, ex, ey, c0, c1⟩ := (hr.ext xw).look (j := i) (by omega)
      have hxb := vSegs_at hv.out (j := i) (by omega)
      rw [ex.out, ey.out] at hxb
      have hOl := mg_len zs i
      rw [← hO.out] at hOl
      have t1 : decide ((i : Int) < (n : Int)) = true := by simp; omega
      have t2 : (i : Int) < (n : Int) := by omega
      obtain ⟨sa, sc, rfl⟩ := ho.shape
      rename World => U
      have xU := Ext.refl U
      have s0 := c0
      have s1 := c1
      have hbU := hbb
      by_cases hz : O.length = 0
      · have hap := Lib.hid (mgS_apart (O := O) ex.out ey.out (.inl hz))
        have t3 : IntKind.i64.wrap ((0 : Int) - 1) = -1 := by decide
        clear ex ey
        rw [hz]
        rw [hz] at ho
        go_upto_region 8 with fail
        go_quiet (fail)
        go_upto_region 10 with fail
        generalize hU2 : World.drewN _ _ = U2
        have xU2 : Ext U U2 := by rw [← hU2]; exact (Ext.refl _).drewN _
        clear hU2
        replace s0 := (xU2.cells.1 _ _ hbU).trans s0
        replace s1 := (xU2.cells.1 _ _ hbU).trans s1
        replace hbU := Nat.lt_of_lt_of_le hbU xU2.size
        replace xU := xU.trans xU2
        clear xU2
        rename World => U
        obtain ⟨i0, hii, hz0, hz1, hz2⟩ := seg_info
        go_wp2_with (at_builtin; refine wpList_append_ext _ rfl _ _ 34 rfl w.heap.size 61 i0 pairZero 2 16 Try.underlying34 hii hz0 hz1 hz2 rfl (by decide) _ _ _ rfl ((ho.ext xU).ext ((Ext.refl _).alloc _)) ⟨U.heap.size, 0, none⟩ 1 1 [.int .i64 x, .int .i64 y] rfl rfl (pair_new _ _ _ rfl) (pair_cells _ _) ?c3 ?c4 ?c5 ?_)
        case c3 => rw [hz]; decide
        case c4 => rw [hz]; decide
        case c5 => have := (xw.trans xU).size; simp; omega
        intro v' w2 h2 hx2
        clear hii hz0 hz1 hz2
        go_wp2_with fail
        go_roundw
        case rel => exact ⟨i + 1, _, by go_num, by omega, PairsOf.push (zs := O) (by rw [hz]; exact h2) rfl, hx2 w ((xw.trans xU).alloc _) (Nat.le_refl _), Lib.hid (by rw [mg, ← hO.out]; exact (hap.out).symm)⟩
        case measure => simp [intOf]; omega
      · obtain ⟨k, hk1⟩ : ∃ k, O.length = k + 1 := ⟨O.length - 1, by omega⟩
        obtain ⟨g, p, t, rfl, hg, hp, ht, d0, d1, z0, z1⟩ := ho.nth (j := k) (by omega)
        replace d0 := (xU.cells.1 _ _ hg).trans d0
        replace d1 := (xU.cells.1 _ _ hg).trans d1
        replace z0 := (xU.cells.2.1 _ _ hg).trans z0
        have hgU := Nat.lt_of_lt_of_le hg xU.size
        have hgB := (ho.lt g rfl).1
        have hpb := mg_at hv.out (k := i) (j := k) (by omega) (by rw [← hO.out]; omega)
        rw [← hO.out, hp.out] at hpb
        have hjn := fun h1 h2 => mgS_join (O := O) hk1 hp.out ht.out ex.out ey.out h1 h2
        have han := fun h => mgS_apart (O := O) ex.out ey.out (.inr ⟨k, p, t, hk1, hp.out, ht.out, h⟩)
        replace hjn := Lib.hid hjn
        replace han := Lib.hid han
        have t3 : IntKind.i64.wrap (((k + 1 : Nat) : Int) - 1) = (k : Int) := by rw [IntWalk.i64_in _ (by omega)]; omega
        have t4 : (k : Int) < ((k + 1 : Nat) : Int) := by omega
        have t5 : k < k + 1 := by omega
        have t6 : (0 : Int) ≤ (k : Int) := by omega
        have q1 : IntKind.i64.wrap (p + x) = p + x := IntWalk.i64_in _ (by omega)
        have hLk : k < O.length := by omega
        clear ex ey hp ht
        rw [hk1]
        rw [hk1] at ho
        generalize hi1 : k + 1 = L at *
        by_cases h2 : t = y
        · replace h2 := h2.symm
          subst h2
          by_cases h3 : p + x ≤ 240
          · have hj := Lib.hid (hjn.out rfl h3)
            replace hk1 := Lib.hid hk1
            replace hi1 := Lib.hid hi1
            have hset0 := hLk
            go_upto_region 8 with fail
            go_quiet (fail)
            go_upto_region 9 with fail
            generalize hU2 : World.drewN _ _ = U2
            have xU2 : Ext U U2 := by rw [← hU2]; exact (Ext.refl _).drewN _
            clear hU2
            replace s0 := (xU2.cells.1 _ _ hbU).trans s0
            replace s1 := (xU2.cells.1 _ _ hbU).trans s1
            replace hbU := Nat.lt_of_lt_of_le hbU xU2.size
            replace d0 := (xU2.cells.1 _ _ hgU).trans d0
            replace z0 := (xU2.cells.2.1 _ _ hgU).trans z0
            replace hgU := Nat.lt_of_lt_of_le hgU xU2.size
            have hset := Lib.hid (((ho.ext xU).ext xU2).set0 (j := k) (by omega) (p + x))
            replace xU := xU.trans xU2
            clear xU2
            rename World => U
            go_region
            all_goals go_wp2_with fail
            all_goals go_roundw
            all_goals first | (case rel => exact ⟨i + 1, _, by go_num, by omega, by first | exact hset.out | skip, by first | exact ((xw.trans xU).drew).setCell (by simp; omega) _ | exact (xw.trans xU).setCell (by simp; omega) _, Lib.hid (by rw [mg, ← hO.out]; exact hj.out)⟩) | (case measure => simp [intOf]; omega)
          · have hap := Lib.hid (han.out (.inr (by omega)))
            replace hk1 := Lib.hid hk1
            replace hi1 := Lib.hid hi1
            have t9 : decide (p + x ≤ 240) = false := by simp; omega
            go_upto_region 8 with fail
            go_quiet (fail)
            go_upto_region 10 with fail
            generalize hU2 : World.drewN _ _ = U2
            have xU2 : Ext U U2 := by rw [← hU2]; exact (Ext.refl _).drewN _
            clear hU2
            replace s0 := (xU2.cells.1 _ _ hbU).trans s0
            replace s1 := (xU2.cells.1 _ _ hbU).trans s1
            replace hbU := Nat.lt_of_lt_of_le hbU xU2.size
            replace xU := xU.trans xU2
            clear xU2
            rename World => U
            obtain ⟨i0, hii, hz0, hz1, hz2⟩ := seg_info
            go_wp2_with (at_builtin; refine wpList_append_ext _ rfl _ _ 34 rfl w.heap.size 61 i0 pairZero 2 16 Try.underlying34 hii hz0 hz1 hz2 rfl (by decide) _ _ _ rfl ((ho.ext xU).ext ((Ext.refl _).alloc _)) ⟨U.heap.size, 0, none⟩ 1 1 [.int .i64 x, .int .i64 y] rfl rfl (pair_new _ _ _ rfl) (pair_cells _ _) ?c3 ?c4 ?c5 ?_)
            case c3 => unfold maxLen; omega
            case c4 => omega
            case c5 => have := (xw.trans xU).size; simp; omega
            intro v' w2 h2 hx2
            clear hii hz0 hz1 hz2
            go_wp2_with fail
            go_roundw
            case rel => exact ⟨i + 1, _, by go_num, by omega, PairsOf.push h2 rfl, hx2 w ((xw.trans xU).alloc _) (Nat.le_refl _), Lib.hid (by rw [mg, ← hO.out]; exact (hap.out).symm)⟩
            case measure => simp [intOf]; omega
        · have hap := Lib.hid (han.out (.inl h2))
          replace hk1 := Lib.hid hk1
          replace hi1 := Lib.hid hi1
          have t9 : (t == y) = false := by simpa using h2
          go_upto_region 8 with fail
          go_quiet (fail)
          go_upto_region 10 with fail
          generalize hU2 : World.drewN _ _ = U2
          have xU2 : Ext U U2 := by rw [← hU2]; exact (Ext.refl _).drewN _
          clear hU2
          replace s0 := (xU2.cells.1 _ _ hbU).trans s0
          replace s1 := (xU2.cells.1 _ _ hbU).trans s1
          replace hbU := Nat.lt_of_lt_of_le hbU xU2.size
          replace xU := xU.trans xU2
          clear xU2
          rename World => U
          obtain ⟨i0, hii, hz0, hz1, hz2⟩ := seg_info
          go_wp2_with (at_builtin; refine wpList_append_ext _ rfl _ _ 34 rfl w.heap.size 61 i0 pairZero 2 16 Try.underlying34 hii hz0 hz1 hz2 rfl (by decide) _ _ _ rfl ((ho.ext xU).ext ((Ext.refl _).alloc _)) ⟨U.heap.size, 0, none⟩ 1 1 [.int .i64 x, .int .i64 y] rfl rfl (pair_new _ _ _ rfl) (pair_cells _ _) ?c3 ?c4 ?c5 ?_)
          case c3 => unfold maxLen; omega
          case c4 => omega
          case c5 => have := (xw.trans xU).size; simp; omega
          intro v' w2 h2 hx2
          clear hii hz0 hz1 hz2
          go_wp2_with fail
          go_roundw
          case rel => exact ⟨i + 1, _, by go_num, by omega, PairsOf.push h2 rfl, hx2 w ((xw.trans xU).alloc _) (Nat.le_refl _), Lib.hid (by rw [mg, ← hO.out]; exact (hap.out).symm)⟩
          case measure => simp [intOf]; omega
    · obtain rfl : n = i := by omega
      have t1 : decide ((n : Int) < (n : Int)) = false := by simp
      obtain ⟨sa, sc, rfl⟩ := ho.shape
      replace ho := Lib.hid ho
      clear hr
      go_wp2_with fail
      go_ret2
      exact ⟨_, rtv2 e2.out, (by rw [← e1.out, ← hO.out]; exact ho.out), xw⟩

end Go.Proofs.Ytiodlbgfgeimoaa

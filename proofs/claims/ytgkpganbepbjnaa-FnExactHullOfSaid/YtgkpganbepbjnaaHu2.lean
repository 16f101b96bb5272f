/-
  The hull of a plate: the reference's walk.
-/
import Derived.Test.YtgkpganbepbjnaaHu2P
import Derived.Test.YtgkpganbepbjnaaPoints
import Derived.Test.YtgkpganbepbjnaaGeo
import Derived.Test.YtgkpganbepbjnaaVPlate2
import Derived.Test.YtgkpganbepbjnaaRow1
import Derived.Deep.DeepCutAuto
namespace Go.Proofs.Ytgkpganbepbjnaa
open Go.RowKit
set_option linter.unusedSimpArgs false
set_option linter.unusedVariables false

theorem pt_pair {ps : List (Int × Int)} {j : Nat} {x y : Int} (hx : Hid ((ps.getD j (0, 0)).1 = x)) (hy : Hid ((ps.getD j (0, 0)).2 = y)) : pt ps j = (x, y) := Prod.ext hx.out hy.out
def slLn : Value → Nat
  | .slice _ n _ => n
  | _ => 0
def msr (n : Nat) (vv aa : Value) : Nat := if intOf aa < 0 then 0 else n + 1 - slLn vv
theorem msr_done {n k A : Nat} {v : Value} {a : Option Addr} {c : Nat} (h : k ≤ n) : msr n v (.int .i64 (-1)) < msr n (.slice a k c) (.int .i64 (A : Int)) := by
  have h1 : ¬ (A : Int) < 0 := by omega
  simp only [msr, intOf, slLn, h1, if_false, show ((-1 : Int) < 0) = True by simp, if_true]
  omega
theorem msr_on {n k A N : Nat} {a b : Option Addr} {c d : Nat} (h : k ≤ n) : msr n (.slice b (k + 1) d) (.int .i64 (N : Int)) < msr n (.slice a k c) (.int .i64 (A : Int)) := by
  have h1 : ¬ (A : Int) < 0 := by omega
  have h2 : ¬ (N : Int) < 0 := by omega
  simp only [msr, intOf, slLn, h1, h2, if_false]
  omega
set_option maxRecDepth 100000 in
set_option maxHeartbeats 16000000 in
theorem l09Hull_any (a : Option Addr) (n c : Nat) (ps : List (Int × Int)) (w : World) (hr : RowAt w a ps) (hn : ps.length = n) (hm : n ≤ 1048576) (hok : ∀ j, j < n → (0 ≤ (pt ps j).1 ∧ (pt ps j).1 ≤ 10000) ∧ (0 ≤ (pt ps j).2 ∧ (pt ps j).2 ≤ 10000)) :
    Calls Try.prog 89 #[.slice a n c] w fun e w' => ∃ v, e = .returned v ∧ IntsOf w' w.heap.size v (hulL ps) ∧ Ext w w' := by
  have hpl := Lib.hid hn
  replace hok := Lib.hid hok
  have hst0 : (w.alloc (Obj.cells #[] 2)).ownsRow w.heap.size 2 1 (.slice (some ⟨w.heap.size, 0, none⟩) 0 0) 0 [] := by
    have := World.ownsRow_made (w := w) (base := w.heap.size) (e := 2) (size := 1) #[] 0 (Nat.le_refl _) (by decide) rfl
    simpa using this
  go_enter Try.func89, Try.ntmps89
  go_wp2_with fail
  go_loopw [3, 4, 5] (fun oo ss kk wr => ∃ i : Nat, kk = .int .i64 i ∧ i ≤ n ∧ ss = .int .i64 (stI ps i) ∧ IntsOf wr w.heap.size oo (ownI ps i) ∧ Ext w wr) (fun _ _ kk _ => n - (intOf kk).toNat)
  case atStart => exact ⟨0, rfl, Nat.zero_le _, rfl, hst0, (Ext.refl w).alloc _⟩
  case round =>
    clear hst0
    obtain ⟨i, rfl, hi, rfl, ho, xw⟩ := hrel
    by_cases h0 : i < n
    · obtain ⟨b, off, rfl, hb, x, y, ex, ey, cx, cy⟩ := (hr.ext xw).look (j := i) (by omega)
      have t1 : decide ((i : Int) < (n : Int)) = true := by simp; omega
      have t2 : (i : Int) < (n : Int) := by omega
      go_wp2_with fail
      obtain ⟨wo, rfl⟩ : ∃ wo : World, wo = wr := ⟨_, rfl⟩
      go_loopw [6, 7] (fun ff kk wr => ∃ k : Nat, kk = .int .i64 k ∧ k ≤ i ∧ ff = .bool (frB ps i k) ∧ Ext wo wr) (fun _ kk _ => i - (intOf kk).toNat)
      case atStart => exact ⟨0, rfl, Nat.zero_le _, rfl, Ext.refl _⟩
      case round =>
        obtain ⟨k, rfl, hki, rfl, xk⟩ := hrel
        by_cases hlt : k < i
        · have hfs := frB_succ ps i k
          obtain ⟨b1, b1o, hab, b1l, x1, y1, ex1, ey1, cx1, cy1⟩ := (hr.ext (xw.trans xk)).look (j := k) (by omega)
          injection hab with hab
          injection hab with hb1 hb2
          subst hb1; subst hb2
          have v1 : decide ((k : Int) < (i : Int)) = true := by simp; omega
          have v2 : (k : Int) < (n : Int) := by omega
          have v3 : k < n := by omega
          replace cx := (xk.cells.1 _ _ hb).trans cx
          replace cy := (xk.cells.1 _ _ hb).trans cy
          rw [pt_pair ex1 ey1, pt_pair ex ey] at hfs
          cases hf : frB ps i k
          · rw [hf, Bool.false_and] at hfs
            replace hfs := Lib.hid hfs
            clear hf ex1 ey1 ex ey ho
            go_wp2_with fail
            go_quiet (fail)
            go_wp2_with fail
            go_roundw
            case rel => exact ⟨k + 1, by go_num, by omega, by rw [← hfs.out], (by first | exact (xk).drewN _ | exact (xk).drew | exact xk)⟩
            case measure => simp [intOf]; omega
          · rw [hf, Bool.true_and] at hfs
            have nb1 : ∀ w, (binOp .neq 104 (.agg #[.int .i64 x1, .int .i64 y1]) (.agg #[.int .i64 x, .int .i64 y])).run Try.prog w = .ok (.bool (!(eqP (x1, y1) (x, y)))) w := fun w => run_pt_neq w x1 y1 x y
            generalize (!(eqP (x1, y1) (x, y))) = E at *
            replace hfs := Lib.hid hfs
            clear hf ex1 ey1 ex ey ho
            go_wp2_with fail
            go_quiet (fail)
            go_wp2_with fail
            go_roundw
            case rel => exact ⟨k + 1, by go_num, by omega, by rw [← hfs.out], (by first | exact (xk).drewN _ | exact (xk).drew | exact xk)⟩
            case measure => simp [intOf]; omega
        · obtain rfl : i = k := by omega
          have v1 : decide ((i : Int) < (i : Int)) = false := by simp
          rw [frB_end]
          replace cx := (xk.cells.1 _ _ hb).trans cx
          replace cy := (xk.cells.1 _ _ hb).trans cy
          replace xw := xw.trans xk
          replace ho := ho.ext xk
          replace hb := Nat.lt_of_lt_of_le hb xk.size
          clear xk
          cases hf : firstB ps i
          · have es := Lib.hid (stI_same hf)
            have eo := Lib.hid (ownI_no hf)
            clear hf ex ey
            go_wp2_with fail
            go_roundw
            case rel => exact ⟨i + 1, by go_num, by omega, by rw [← es.out], by rw [← eo.out]; exact ho, xw⟩
            case measure => simp [intOf]; omega
          · have eo := Lib.hid (ownI_yes hf)
            have est := fun h => Lib.hid (stI_take (ps := ps) (i := i) h)
            have esk := fun h => Lib.hid (stI_keep (ps := ps) (i := i) h)
            have hol := ownT_le ps i
            rw [← ownI_len] at hol
            generalize hO : ownI ps i = O at *
            replace hO := Lib.hid hO
            obtain ⟨sa, sc, rfl⟩ := ho.shape
            clear hf
            obtain ⟨i0, hii, hz0, hz1, hz2⟩ := int_info
            go_wp2_with (at_builtin; refine wpList_append_ext _ rfl _ _ 49 rfl w.heap.size 2 i0 (.int .i64 0) 1 8 Try.underlying49 hii hz0 hz1 hz2 rfl (by decide) _ _ _ rfl (ho.ext ((Ext.refl _).alloc _)) ⟨wr.heap.size, 0, none⟩ 1 1 [.int .i64 i] rfl rfl (one_new _ _ rfl) (one_cell _) ?c3 ?c4 ?c5 ?_)
            case c3 => unfold maxLen; omega
            case c4 => omega
            case c5 => have := xw.size; first | omega | (simp; omega)
            intro v' w2 h2 hx2
            clear hii hz0 hz1 hz2
            have ho2 : IntsOf w2 w.heap.size v' (ownI ps (i + 1)) := IntsOf.push h2 eo.out
            have xA : Ext wr (wr.alloc (Obj.cells #[.int .i64 i] 2)) := (Ext.refl _).alloc _
            replace xw := hx2 w (xw.alloc _) (Nat.le_refl _)
            clear h2 hx2 ho eo xA cx cy hb
            have hs0 := Lib.hid (show stI ps i = stI ps i from rfl)
            generalize hs1 : stI ps i = s0 at *
            clear hs0
            replace hs1 := Lib.hid hs1
            go_upto_region 13 with fail
            have x0 := Ext.refl w2
            go_cut [84] (fun sd wx => sd = .bool (b13 ps i) ∧ Ext w2 wx)
            case first =>
              clear est esk ho2
              by_cases hi0 : i = 0
              · have ev := Lib.hid (show true = b13 ps i by simp [b13, hi0])
                obtain rfl : s0 = -1 := by rw [← hs1.out, hi0]; rfl
                go_quiet (fail)
                go_wp2_with fail
                go_meet
                exact ⟨by rw [ev.out], by first | exact x0 | exact x0.drew | exact x0.drewN _⟩
              · have hs2 := (hs1.out).symm.trans (stI_pos (show 0 < i by omega))
                have hS := st_lt ps (show i ≤ n from hi) (by omega)
                have hb13 : b13 ps i = lowB (pt ps i) (pt ps (stF ps i)) := by simp [b13, hi0]
                generalize hSe : stF ps i = S at *
                clear hs1
                subst hs2
                obtain ⟨b2, off2, hab, hb2, x2, y2, ex2, ey2, c2, d2⟩ := (hr.ext xw).look (j := S) (by omega)
                injection hab with hab
                injection hab with hb1 hb2'
                subst hb1; subst hb2'
                obtain ⟨b3, off3, hab, hb3, x3, y3, ex3, ey3, c3, d3⟩ := (hr.ext xw).look (j := i) (by omega)
                injection hab with hab
                injection hab with hb1 hb2'
                subst hb1; subst hb2'
                rw [pt_pair ex3 ey3, pt_pair ex2 ey2] at hb13
                have hlow : lowB (x3, y3) (x2, y2) = decide (y3 < y2 ∨ (y3 = y2 ∧ x3 < x2)) := rfl
                rw [hlow] at hb13
                have r1 : (S : Int) < (n : Int) := by omega
                have r2 : (i : Int) < (n : Int) := by omega
                have r3 : decide ((S : Int) < 0) = false := by simp
                have r4 : ¬ (S : Int) < 0 := by omega
                clear ex2 ey2 ex3 ey3 ex ey hlow hr hSe
                by_cases g1 : y3 < y2
                · have g1b : decide (y3 < y2) = true := by simpa using g1
                  have ev := Lib.hid (show true = b13 ps i by rw [hb13]; simp [g1])
                  clear hb13
                  go_quiet (fail)
                  go_wp2_with fail
                  go_meet
                  exact ⟨by rw [ev.out], by first | exact x0 | exact x0.drew | exact x0.drewN _⟩
                · have g1b : decide (y3 < y2) = false := by simpa using g1
                  by_cases g2 : y3 = y2
                  · have g2b : (y3 == y2) = true := by simpa using g2
                    have ev := Lib.hid (show decide (x3 < x2) = b13 ps i by rw [hb13]; simp [g2])
                    clear hb13 g2
                    go_quiet (fail)
                    go_wp2_with fail
                    go_meet
                    exact ⟨by rw [ev.out], by first | exact x0 | exact x0.drew | exact x0.drewN _⟩
                  · have g2b : (y3 == y2) = false := by simpa using g2
                    have ev := Lib.hid (show false = b13 ps i by rw [hb13]; simp [g1, g2])
                    clear hb13
                    go_quiet (fail)
                    go_wp2_with fail
                    go_meet
                    exact ⟨by rw [ev.out], by first | exact x0 | exact x0.drew | exact x0.drewN _⟩
            case rest =>
            obtain ⟨rfl, x1⟩ := hcut
            clear x0
            replace ho2 := ho2.ext x1
            replace xw := xw.trans x1
            clear x1 ex ey
            cases hq : b13 ps i
            · have es := esk hq
              clear est esk hq
              go_wp2_with fail
              go_roundw
              case rel => exact ⟨i + 1, by go_num, by omega, by rw [← es.out], ho2, xw⟩
              case measure => simp [intOf]; omega
            · have es := est hq
              clear est esk hq
              go_wp2_with fail
              go_roundw
              case rel => exact ⟨i + 1, by go_num, by omega, by rw [← es.out], ho2, xw⟩
              case measure => simp [intOf]; omega
    · obtain rfl : n = i := by omega
      have t1 : decide ((n : Int) < (n : Int)) = false := by simp
      have hH0 := Lib.hid (HSt_start ps)
      have hOlt := Lib.hid (show ∀ y ∈ ownT ps ps.length, y < ps.length from fun y hy => (ownT_first hy).1)
      have hOat := Lib.hid (fun m => @own_at ps m)
      rw [hn] at hH0 hOlt hOat
      rw [← ownI_len] at hOat
      have hOtk : (ownT ps n).take (ownI ps n).length = ownT ps n := List.take_of_length_le (by rw [ownI_len]; exact Nat.le_refl _)
      have hLb : (ownI ps n).length ≤ n := by rw [ownI_len]; exact ownT_le ps n
      generalize hs1 : stI ps n = s0 at *
      replace hs1 := Lib.hid hs1
      obtain ⟨oa, oc, rfl⟩ := ho.shape
      generalize hLl : (ownI ps n).length = L at *
      replace hLl := Lib.hid hLl
      replace hOtk := Lib.hid hOtk
      obtain ⟨W, rfl⟩ : ∃ W : World, W = wr := ⟨_, rfl⟩
      have hown := ho
      have hE := xw
      clear ho xw
      obtain ⟨B, hB⟩ : ∃ B, B = W.heap.size := ⟨_, rfl⟩
      have hst0 : (W.alloc (Obj.cells #[] 2)).ownsRow B 2 1 (.slice (some ⟨W.heap.size, 0, none⟩) 0 0) 0 [] := by
        have := World.ownsRow_made (w := W) (base := B) (e := 2) (size := 1) #[] 0 (by omega) (by decide) rfl
        simpa using this
      replace hB := Lib.hid hB
      go_wp2_with fail
      go_loopw [8, 9] (fun vv aa wr => ∃ (t : Int) (O : List Int), aa = .int .i64 t ∧ IntsOf wr B vv O ∧ Ext W wr ∧ Hid (HSt ps t O)) (fun vv aa _ => msr n vv aa)
      case atStart => exact ⟨_, [], rfl, hst0, (Ext.refl W).alloc _, hH0⟩
      case round =>
        clear hst0 hH0
        obtain ⟨t, O, rfl, ho, xw, hH⟩ := hrel
        rcases hH.out with ⟨rfl, hO⟩ | ⟨k, rfl, hO, hon⟩
        · obtain ⟨sa, sc, rfl⟩ := ho.shape
          have hlow := Lib.hid (own_base (base' := w.heap.size) ho (by rw [hB.out]; exact hE.size))
          replace hO := Lib.hid hO
          clear ho hH
          go_wp2_with fail
          go_ret
          exact ⟨_, rfl, by rw [← hO.out]; exact hlow.out, hE.trans xw⟩
        · clear hH
          have hwy := hon.way
          have hAf := Lib.hid (hwy.first k (Nat.le_refl _))
          have hAc := Lib.hid (hwy.corner k (Nat.le_refl _))
          have hkn := on_lt hon
          have hAl := hAf.out.1
          rw [hpl.out] at hkn hAl
          have hn0 : 0 < n := by omega
          have hTs := Lib.hid (hulT_succ ps k)
          have hOl : O.length = k := by rw [hO]; exact hulT_length ps k
          have hS1 := Lib.hid (HSt_none hon)
          have hS2 := Lib.hid (fun (t : Int) => HSt_back (t := t) hon)
          have hS3 := Lib.hid (fun (t : Int) => HSt_on (t := t) hon)
          rw [← hO] at hTs
          rw [hpl.out] at hAf hAc hS1 hS2 hS3 hTs ⊢
          have hs2 := (hs1.out).symm.trans (stI_pos hn0)
          generalize hSt : stF ps n = St at *
          generalize hA : tra ps St k = A at *
          replace hSt := Lib.hid hSt
          replace hA := Lib.hid hA
          clear hs1
          subst hs2
          obtain ⟨sa, sc, rfl⟩ := ho.shape
          have hBw := Nat.le_trans (Nat.le_of_eq hB.out) xw.size
          clear hwy hO
          obtain ⟨i0, hii, hz0, hz1, hz2⟩ := int_info
          go_wp2_with (at_builtin; refine wpList_append_ext _ rfl _ _ 49 rfl B 2 i0 (.int .i64 0) 1 8 Try.underlying49 hii hz0 hz1 hz2 rfl (by decide) _ _ _ rfl (ho.ext ((Ext.refl _).alloc _)) ⟨wr.heap.size, 0, none⟩ 1 1 [.int .i64 A] rfl rfl (one_new _ _ rfl) (one_cell _) ?c3 ?c4 ?c5 ?_)
          case c3 => unfold maxLen; omega
          case c4 => omega
          case c5 => first | omega | (simp; omega)
          intro v' w2 h2 hx2
          clear hii hz0 hz1 hz2
          have ho2 : IntsOf w2 B v' (hulT ps (k + 1)) := IntsOf.push (zs := O) (by first | exact h2 | (rw [hOl]; exact h2)) hTs.out
          have xqW : Ext W w2 := hx2 W (xw.alloc _) (by rw [hB.out]; exact Nat.le_refl _)
          have xqw : Ext w w2 := hE.trans xqW
          clear h2 hx2 hTs xw ho
          obtain ⟨b, off, rfl, hbq, -⟩ := (hr.ext xqw).look (j := A) (by omega)
          clear hbq
          go_wp2_with fail
          go_loopw [10, 11] (fun bb kk wr => ∃ (m : Nat) (t : Int), kk = .int .i64 m ∧ m ≤ L ∧ bb = .int .i64 t ∧ Ext w2 wr ∧ Hid (Scan ps A ((ownT ps n).take m) t)) (fun _ kk _ => L - (intOf kk).toNat)
          case atStart => exact ⟨0, -1, rfl, Nat.zero_le _, rfl, Ext.refl _, Lib.hid (scan_start _ _)⟩
          case round =>
            obtain ⟨m, t, rfl, hmL, rfl, xm, hsc⟩ := hrel
            by_cases h1 : m < L
            · obtain ⟨X, hXe, hXf, hXt⟩ := hOat.out m h1
              have hXl := hXf.1
              rw [hpl.out] at hXl
              obtain ⟨g, xv, hga, hgl, hxv, cX⟩ := ((hown.ext xqW).ext xm).nth (j := m) (by rw [hLl.out]; exact h1)
              subst hga
              have : xv = (X : Int) := hxv.out.symm.trans hXe
              subst this
              have v1 : decide ((m : Int) < (L : Int)) = true := by simp; omega
              have v2 : (m : Int) < (L : Int) := by omega
              clear hxv hXe
              by_cases hXA : X = A
              · have hs := Lib.hid (show Scan ps A ((ownT ps n).take (m + 1)) t by rw [hXt, hXA]; exact scan_self hsc.out)
                have v3 : ((X : Int) == (A : Int)) = true := by simp; omega
                clear hXt hXf hsc
                go_wp2_with fail
                go_roundw
                case rel => exact ⟨m + 1, t, by go_num, by omega, rfl, xm, hs⟩
                case measure => simp [intOf]; omega
              · have v3 : ((X : Int) == (A : Int)) = false := by simp; omega
                have v4 : ¬ (X : Int) = (A : Int) := by omega
                rcases scan_nat hsc.out with rfl | ⟨N, rfl, hNf⟩
                · have hs := Lib.hid (show Scan ps A ((ownT ps n).take (m + 1)) X by rw [hXt]; exact scan_new hsc.out (by decide) hAf.out hXf hXA)
                  clear hXt hXf hsc
                  go_wp2_with fail
                  go_roundw
                  case rel => exact ⟨m + 1, X, by go_num, by omega, rfl, xm, hs⟩
                  case measure => simp [intOf]; omega
                · have hNl := hNf.1
                  rw [hpl.out] at hNl
                  have v5 : decide ((N : Int) < 0) = false := by simp
                  have v6 : ¬ (N : Int) < 0 := by omega
                  have v7 : (N : Int) < (n : Int) := by omega
                  have v8 : (X : Int) < (n : Int) := by omega
                  have hk := fun h => Lib.hid (show Scan ps A ((ownT ps n).take (m + 1)) N by rw [hXt]; exact scan_keep hsc.out h)
                  have hbt := fun h => Lib.hid (show Scan ps A ((ownT ps n).take (m + 1)) X by rw [hXt]; exact scan_better hsc.out hAc.out (fun y hy => by rw [hpl.out]; exact hOlt.out y (List.mem_of_mem_take hy)) hAf.out hXf hXA h)
                  obtain ⟨b1, off1, hab, hbl1, xa, ya, exa, eya, cxa, cya⟩ := (hr.ext (xqw.trans xm)).look (j := A) (by omega)
                  injection hab with hab
                  injection hab with hb1 hb2
                  subst hb1; subst hb2
                  obtain ⟨b1, off1, hab, hbl2, xn, yn, exn, eyn, cxn, cyn⟩ := (hr.ext (xqw.trans xm)).look (j := N) (by omega)
                  injection hab with hab
                  injection hab with hb1 hb2
                  subst hb1; subst hb2
                  obtain ⟨b1, off1, hab, hbl3, xx, yx, exx, eyx, cxx, cyx⟩ := (hr.ext (xqw.trans xm)).look (j := X) (by omega)
                  injection hab with hab
                  injection hab with hb1 hb2
                  subst hb1; subst hb2
                  have oa := hok.out A hAl
                  have on := hok.out N hNl
                  have ox := hok.out X hXl
                  rw [pt_pair exa eya] at oa hk hbt
                  rw [pt_pair exn eyn] at on hk hbt
                  rw [pt_pair exx eyx] at ox hk hbt
                  dsimp only at oa on ox
                  clear exa eya exn eyn exx eyx hXt hXf hNf hsc hbl2 hbl3 hgl
                  go_upto_region 27 with fail
                  have x0 := Ext.refl wr
                  obtain ⟨V, rfl⟩ : ∃ V : World, V = wr := ⟨_, rfl⟩
                  generalize hT : crs (xa, ya) (xn, yn) (xx, yx) = T at *
                  replace hT := Lib.hid hT
                  go_cut [13] (fun sd wx => sd = .int .i64 T ∧ Ext V wx)
                  case first =>
                    clear hk hbt cX
                    go_region_held3 (fun w' => w'.cell? ⟨b, off + A * 2, none⟩ = some (.int .i64 xa) ∧ w'.cell? ⟨b, off + A * 2 + 1, none⟩ = some (.int .i64 ya) ∧ w'.cell? ⟨b, off + N * 2, none⟩ = some (.int .i64 xn) ∧ w'.cell? ⟨b, off + N * 2 + 1, none⟩ = some (.int .i64 yn) ∧ w'.cell? ⟨b, off + X * 2, none⟩ = some (.int .i64 xx) ∧ w'.cell? ⟨b, off + X * 2 + 1, none⟩ = some (.int .i64 yx))
                      (first | (refine ⟨?_, ?_, ?_, ?_, ?_, ?_⟩ <;> with_reducible assumption) | (refine ⟨?_, ?_, ?_, ?_, ?_, ?_⟩ <;> (refine keep_ext (W := V) ?_ (by assumption) (by assumption); exact x0)) | (refine ⟨?_, ?_, ?_, ?_, ?_, ?_⟩ <;> (refine keep_ext (W := V) ?_ (by assumption) (by assumption); exact x0.drew)) | go_keep)
                      (first | (go_at_call 114; with_reducible refine (l09Cross_any xa ya xn yn xx yx _ oa.1 oa.2 on.1 on.2 ox.1 ox.2).mono ?_; rintro e w1 ⟨rfl, x1⟩; (first | replace x0 := x0.trans x1 | replace x0 := (x0.drew).trans x1 | replace x0 := (x0.drewN _).trans x1); clear x1))
                    all_goals (go_wp2_with fail; go_meet; exact ⟨by rw [hT.out], (by first | exact x0 | exact x0.drew)⟩)
                  case rest =>
                  obtain ⟨rfl, z1⟩ := hcut
                  clear x0 cX
                  replace cxa := (z1.cells.1 _ _ hbl1).trans cxa
                  replace cya := (z1.cells.1 _ _ hbl1).trans cya
                  replace cxn := (z1.cells.1 _ _ hbl1).trans cxn
                  replace cyn := (z1.cells.1 _ _ hbl1).trans cyn
                  replace cxx := (z1.cells.1 _ _ hbl1).trans cxx
                  replace cyx := (z1.cells.1 _ _ hbl1).trans cyx
                  replace hbl1 := Nat.lt_of_lt_of_le hbl1 z1.size
                  replace xm := xm.trans z1
                  clear z1
                  rename World => Z
                  have x0 := Ext.refl Z
                  go_upto_region 28 with fail
                  go_cut [149] (fun sd wx => sd = .bool (betB (xa, ya) (xn, yn) (xx, yx)) ∧ Ext Z wx)
                  case first =>
                    clear hk hbt
                    by_cases g3 : T < 0
                    · have ev := Lib.hid (betB_turn (a := (xa, ya)) (b := (xn, yn)) (s := (xx, yx)) (by rw [hT.out]; exact g3))
                      have g3b : decide (T < 0) = true := by simpa using g3
                      go_quiet (fail)
                      go_wp2_with fail
                      go_meet
                      exact ⟨by rw [ev.out], by first | exact x0 | exact x0.drew | exact x0.drewN _⟩
                    · have g3b : decide (T < 0) = false := by simpa using g3
                      by_cases g4 : T = 0
                      · have ev := Lib.hid (betB_line (a := (xa, ya)) (b := (xn, yn)) (s := (xx, yx)) (by rw [hT.out]; exact g4))
                        have g4b : (T == 0) = true := by simpa using g4
                        subst g4
                        go_region_held3 (fun w' => w'.cell? ⟨b, off + A * 2, none⟩ = some (.int .i64 xa) ∧ w'.cell? ⟨b, off + A * 2 + 1, none⟩ = some (.int .i64 ya) ∧ w'.cell? ⟨b, off + N * 2, none⟩ = some (.int .i64 xn) ∧ w'.cell? ⟨b, off + N * 2 + 1, none⟩ = some (.int .i64 yn) ∧ w'.cell? ⟨b, off + X * 2, none⟩ = some (.int .i64 xx) ∧ w'.cell? ⟨b, off + X * 2 + 1, none⟩ = some (.int .i64 yx))
                          (first | (refine ⟨?_, ?_, ?_, ?_, ?_, ?_⟩ <;> with_reducible assumption) | (refine ⟨?_, ?_, ?_, ?_, ?_, ?_⟩ <;> (refine keep_ext (W := Z) ?_ (by assumption) (by assumption); exact x0)) | (refine ⟨?_, ?_, ?_, ?_, ?_, ?_⟩ <;> (refine keep_ext (W := Z) ?_ (by assumption) (by assumption); exact x0.drew)) | go_keep)
                          (first | (go_at_call 105; with_reducible refine (l09Square_any xa ya xx yx _ oa.1 oa.2 ox.1 ox.2).mono ?_; rintro e w1 ⟨rfl, x1⟩; (first | replace x0 := x0.trans x1 | replace x0 := (x0.drew).trans x1 | replace x0 := (x0.drewN _).trans x1); clear x1) | (go_at_call 105; with_reducible refine (l09Square_any xa ya xn yn _ oa.1 oa.2 on.1 on.2).mono ?_; rintro e w1 ⟨rfl, x1⟩; (first | replace x0 := x0.trans x1 | replace x0 := (x0.drew).trans x1 | replace x0 := (x0.drewN _).trans x1); clear x1))
                        all_goals (go_wp2_with fail; go_meet; exact ⟨by rw [ev.out], (by first | exact x0 | exact x0.drew)⟩)
                      · have ev := Lib.hid (betB_past (a := (xa, ya)) (b := (xn, yn)) (s := (xx, yx)) (by rw [hT.out]; exact g3) (by rw [hT.out]; exact g4))
                        have g4b : (T == 0) = false := by simpa using g4
                        go_quiet (fail)
                        go_wp2_with fail
                        go_meet
                        exact ⟨by rw [ev.out], by first | exact x0 | exact x0.drew | exact x0.drewN _⟩
                  case rest =>
                  obtain ⟨rfl, z1⟩ := hcut
                  clear x0 cxa cya cxn cyn cxx cyx
                  replace xm := xm.trans z1
                  clear z1
                  cases hq : betB (xa, ya) (xn, yn) (xx, yx)
                  · have hs := hk hq
                    clear hk hbt hq
                    go_wp2_with fail
                    go_roundw
                    case rel => exact ⟨m + 1, N, by go_num, by omega, rfl, xm, hs⟩
                    case measure => simp [intOf]; omega
                  · have hs := hbt hq
                    clear hk hbt hq
                    go_wp2_with fail
                    go_roundw
                    case rel => exact ⟨m + 1, X, by go_num, by omega, rfl, xm, hs⟩
                    case measure => simp [intOf]; omega
            · obtain rfl : L = m := by omega
              have v1 : decide ((L : Int) < (L : Int)) = false := by simp
              have hs := hsc.out
              rw [hOtk.out] at hs
              have ho3 := ho2.ext xm
              have xE := xqW.trans xm
              clear hsc
              rcases scan_nat hs with rfl | ⟨N, rfl, -⟩
              · have hn1 := Lib.hid (hS1.out hs)
                have v5 : ((-1 : Int) == (St : Int)) = false := by simp
                have v6 : ¬ (-1 : Int) = (St : Int) := by omega
                clear hs
                go_wp2_with fail
                go_roundw
                case rel => exact ⟨-1, _, rfl, ho3, xE, hn1⟩
                case measure => first | exact msr_done (by omega) | (rw [hOl]; exact msr_done (by omega))
              · by_cases hNS : N = St
                · have hn1 := Lib.hid (hS2.out _ hs (by rw [hNS]))
                  have v5 : ((N : Int) == (St : Int)) = true := by simp; omega
                  clear hs
                  go_wp2_with fail
                  go_roundw
                  case rel => exact ⟨-1, _, rfl, ho3, xE, hn1⟩
                  case measure => first | exact msr_done (by omega) | (rw [hOl]; exact msr_done (by omega))
                · have hn1 := Lib.hid (hS3.out _ hs (by omega) (by omega))
                  have v5 : ((N : Int) == (St : Int)) = false := by simp; omega
                  have v6 : ¬ (N : Int) = (St : Int) := by omega
                  obtain ⟨sb, sd, rfl⟩ := ho3.shape
                  rw [hulT_length] at ho3 ⊢
                  clear hs
                  go_wp2_with fail
                  go_roundw
                  case rel => exact ⟨N, _, rfl, ho3, xE, hn1⟩
                  case measure => first | exact msr_on (by omega) | (rw [hOl]; exact msr_on (by omega))
end Go.Proofs.Ytgkpganbepbjnaa

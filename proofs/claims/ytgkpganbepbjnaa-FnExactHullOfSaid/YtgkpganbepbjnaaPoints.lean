/-
  The points of the sites, as the reference lists them.
-/
import Derived.Test.YtgkpganbepbjnaaHuP
import Derived.Test.YtgkpganbepbjnaaOwnPt
import Derived.Deep.DeepCutAuto
namespace Go.Proofs.Ytgkpganbepbjnaa
open Go.RowKit
set_option linter.unusedSimpArgs false
set_option linter.unusedVariables false

theorem psOf_take {zs : List Sit} {i : Nat} {s : ByteArray} {x y wh st : Int} (hi : i < zs.length) (h : zs.getD i Sit.d = ⟨s, x, y, wh, st⟩) : (psOf zs).take (i + 1) = (psOf zs).take i ++ [(x, y)] := by
  rw [List.take_add_one]
  have : (psOf zs)[i]? = some (x, y) := by
    rw [psOf, List.getElem?_map]
    rw [List.getD_eq_getElem?_getD, List.getElem?_eq_getElem hi] at h
    rw [List.getElem?_eq_getElem hi]
    simp only [Option.getD_some] at h
    simp [h]
  rw [this]
  rfl
set_option maxRecDepth 100000 in
set_option maxHeartbeats 4000000 in
theorem l09Points_any (pw ph pm pg : Int) (a : Option Addr) (n c : Nat) (zs : List Sit) (w : World) (hr : SRow w a zs) (hn : zs.length = n) (hm : n ≤ 1048576) :
    Calls Try.prog 90 #[.agg #[.int .i64 pw, .int .i64 ph, .int .i64 pm, .int .i64 pg, .slice a n c]] w fun e w' => ∃ v, e = .returned v ∧ PairsOf w' w.heap.size v (psOf zs) ∧ Ext w w' := by
  go_enter Try.func90, Try.ntmps90
  go_upto_region 1 with fail
  generalize hW : World.alloc _ _ = W
  have hE : Ext w W := by rw [← hW]; exact (Ext.refl _).alloc _
  have l0 : w.heap.size < W.heap.size := by rw [← hW]; simp
  have p0 : W.cell? ⟨w.heap.size, 0, none⟩ = some (.int .i64 pw) := by rw [← hW]; simp [go_sem]
  have p1 : W.cell? ⟨w.heap.size, 1, none⟩ = some (.int .i64 ph) := by rw [← hW]; simp [go_sem]
  have p2 : W.cell? ⟨w.heap.size, 2, none⟩ = some (.int .i64 pm) := by rw [← hW]; simp [go_sem]
  have p3 : W.cell? ⟨w.heap.size, 3, none⟩ = some (.int .i64 pg) := by rw [← hW]; simp [go_sem]
  have p4 : W.cell? ⟨w.heap.size, 4, none⟩ = some (.slice a n c) := by rw [← hW]; simp [go_sem]
  clear hW
  obtain ⟨B, hB⟩ : ∃ B, B = W.heap.size := ⟨_, rfl⟩
  have hst0 : (W.alloc (Obj.cells #[] 104)).ownsRow B 104 2 (.slice (some ⟨W.heap.size, 0, none⟩) 0 0) 0 [] := by
    have := World.ownsRow_made (w := W) (base := B) (e := 104) (size := 2) #[] 0 (by omega) (by decide) rfl
    simpa using this
  have y0 : Ext W (W.alloc (Obj.cells #[] 104)) := (Ext.refl _).alloc _
  replace hB := Lib.hid hB
  clear p0 p1 p2 p3
  go_wp2_with fail
  go_loopw [3, 4] (fun vv kk wr => ∃ i : Nat, kk = .int .i64 i ∧ i ≤ n ∧ PairsOf wr B vv ((psOf zs).take i) ∧ Ext W wr) (fun _ kk _ => n - (intOf kk).toNat)
  case atStart => exact ⟨0, rfl, Nat.zero_le _, hst0, y0⟩
  case round =>
    clear hst0 y0
    obtain ⟨i, rfl, hi, ho, xw⟩ := hrel
    have f4 := (xw.cells.1 _ _ l0).trans p4
    have lw := Nat.lt_of_lt_of_le l0 xw.size
    by_cases h0 : i < n
    · obtain ⟨b, off, rfl, hb, s, x, y, wh, st, hz, c0, c1, c2, c3, c4⟩ := (hr.ext (hE.trans xw)).look (j := i) (by omega)
      have hst := Lib.hid (psOf_take (by omega) hz.out)
      have t1 : decide ((i : Int) < (n : Int)) = true := by simp; omega
      have t2 : (i : Int) < (n : Int) := by omega
      have hol : ((psOf zs).take i).length ≤ i := by rw [List.length_take]; omega
      have hBw := Nat.le_trans (Nat.le_of_eq hB.out) xw.size
      generalize (psOf zs).take i = O at *
      obtain ⟨sa, sc, rfl⟩ := ho.shape
      clear hz
      obtain ⟨i0, hii, hz0, hz1, hz2⟩ := seg_info
      go_wp2_with (at_builtin; refine wpList_append_ext _ rfl _ _ 112 rfl B 104 i0 pairZero 2 16 Try.underlying112 hii hz0 hz1 hz2 rfl (by decide) _ _ _ rfl (ho.ext ((Ext.refl _).alloc _)) ⟨wr.heap.size, 0, none⟩ 1 1 [.int .i64 x, .int .i64 y] rfl rfl (pair_new _ _ _ rfl) (pair_cells _ _) ?c3 ?c4 ?c5 ?_)
      case c3 => unfold maxLen; omega
      case c4 => omega
      case c5 => first | omega | (simp; omega)
      intro v' w2 h2 hx2
      clear hii hz0 hz1 hz2
      go_wp2_with fail
      go_roundw
      case rel => exact ⟨i + 1, by go_num, by omega, PairsOf.push h2 hst.out, hx2 W (xw.alloc _) (by rw [hB.out]; exact Nat.le_refl _)⟩
      case measure => simp [intOf]; omega
    · obtain rfl : n = i := by omega
      have t1 : decide ((n : Int) < (n : Int)) = false := by simp
      have hfl : (psOf zs).take n = psOf zs := List.take_of_length_le (by rw [psOf_len]; omega)
      rw [hfl] at ho
      obtain ⟨sa, sc, rfl⟩ := ho.shape
      have hEs := hE.size
      replace ho := Lib.hid (ho.low (base' := w.heap.size) (by rw [hB.out]; exact hEs))
      clear hr hfl
      go_wp2_with fail
      go_ret
      exact ⟨_, rfl, ho.out, hE.trans xw⟩
end Go.Proofs.Ytgkpganbepbjnaa

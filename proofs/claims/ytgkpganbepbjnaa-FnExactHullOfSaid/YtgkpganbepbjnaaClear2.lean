/-
  The clearance of a wheel and a staff, by the reference.
-/
import Derived.Test.YtgkpganbepbjnaaClear
import Derived.Deep.DeepCutAuto
namespace Go.Proofs.Ytgkpganbepbjnaa
open Go.RowKit
set_option linter.unusedSimpArgs false
set_option linter.unusedVariables false

/-- A site whose numbers are small. -/
structure SOk (z : Sit) : Prop where
  x : 0 ≤ z.x ∧ z.x ≤ 10000
  y : 0 ≤ z.y ∧ z.y ≤ 10000
  wh : 0 ≤ z.wh ∧ z.wh ≤ 10000
  st : 0 ≤ z.st ∧ z.st ≤ 10000
def clrZ (a b : Sit) : Int := clr a.x a.y a.wh b.x b.y b.st
set_option maxHeartbeats 4000000 in
theorem l09Clear_any (pw ph pm pg : Int) (a : Option Addr) (n c i j : Nat) (zs : List Sit) (w : World) (hr : SRow w a zs) (hn : zs.length = n) (hm : n ≤ 1048576) (hi : i < n) (hj : j < n) (hok : ∀ k, k < n → SOk (zs.getD k Sit.d)) :
    Calls Try.prog 82 #[.agg #[.int .i64 pw, .int .i64 ph, .int .i64 pm, .int .i64 pg, .slice a n c], .int .i64 i, .int .i64 j] w fun e w' => e = .returned (.int .i64 (clrZ (zs.getD i Sit.d) (zs.getD j Sit.d))) ∧ Ext w w' := by
  obtain ⟨b, off, rfl, hb, s, x, y, wh, st, hz, -, u1, u2, u3, -⟩ := hr.look (j := i) (by omega)
  obtain ⟨b', off', hab, hb', s', x', y', wh', st', hz', -, v1, v2, -, v4⟩ := hr.look (j := j) (by omega)
  injection hab with hab
  injection hab with e1 e2
  subst e1; subst e2
  have o1 := hok i hi
  have o2 := hok j hj
  rw [hz.out, hz'.out]
  rw [hz.out] at o1
  rw [hz'.out] at o2
  obtain ⟨hx, hy, hw, -⟩ := o1
  obtain ⟨hx', hy', -, ht⟩ := o2
  dsimp only at hx hy hw hx' hy' ht
  clear hz hz' hok hr hb'
  show Calls Try.prog 82 _ w fun e w' => e = .returned (.int .i64 (clr x y wh x' y' st')) ∧ Ext w w'
  have hbq := sqd_bd hx hy hx' hy'
  have hrq := clr_bd hx hy hx' hy'
  have q1 : IntKind.i64.wrap (rootI (sqd (x, y) (x', y')) - wh) = rootI (sqd (x, y) (x', y')) - wh := IntWalk.i64_in _ (by omega)
  have q2 : IntKind.i64.wrap (rootI (sqd (x, y) (x', y')) - wh - st') = rootI (sqd (x, y) (x', y')) - wh - st' := IntWalk.i64_in _ (by omega)
  have i1 : (i : Int) < (n : Int) := by omega
  have j1 : (j : Int) < (n : Int) := by omega
  clear hrq hw ht
  go_enter Try.func82, Try.ntmps82
  go_upto_region 1 with fail
  generalize hW : World.alloc _ _ = W
  have hE : Ext w W := by rw [← hW]; exact (Ext.refl _).alloc _
  have l0 : w.heap.size < W.heap.size := by rw [← hW]; simp
  have p4 : W.cell? ⟨w.heap.size, 4, none⟩ = some (.slice (some ⟨b, off, none⟩) n c) := by rw [← hW]; simp [go_sem]
  clear hW
  replace u1 := (hE.cells.1 _ _ hb).trans u1
  replace u2 := (hE.cells.1 _ _ hb).trans u2
  replace u3 := (hE.cells.1 _ _ hb).trans u3
  replace v1 := (hE.cells.1 _ _ hb).trans v1
  replace v2 := (hE.cells.1 _ _ hb).trans v2
  replace v4 := (hE.cells.1 _ _ hb).trans v4
  have l1 : b < W.heap.size := Nat.lt_of_lt_of_le hb hE.size
  have x0 := Ext.refl W
  go_region_held3 (fun w' => w'.cell? ⟨w.heap.size, 4, none⟩ = some (.slice (some ⟨b, off, none⟩) n c) ∧ w'.cell? ⟨b, off + i * 5 + 1, none⟩ = some (.int .i64 x) ∧ w'.cell? ⟨b, off + i * 5 + 2, none⟩ = some (.int .i64 y) ∧ w'.cell? ⟨b, off + i * 5 + 3, none⟩ = some (.int .i64 wh) ∧ w'.cell? ⟨b, off + j * 5 + 1, none⟩ = some (.int .i64 x') ∧ w'.cell? ⟨b, off + j * 5 + 2, none⟩ = some (.int .i64 y') ∧ w'.cell? ⟨b, off + j * 5 + 4, none⟩ = some (.int .i64 st'))
    (first | (refine ⟨?_, ?_, ?_, ?_, ?_, ?_, ?_⟩ <;> with_reducible assumption) | (refine ⟨?_, ?_, ?_, ?_, ?_, ?_, ?_⟩ <;> (refine keep_ext (W := W) ?_ (by assumption) (by assumption); exact x0)) | go_keep)
    (first | (go_at_call 105; refine (l09Square_any x y x' y' _ hx hy hx' hy').mono ?_; rintro e w1 ⟨rfl, x1⟩; (first | replace x0 := x0.trans x1 | replace x0 := (x0.drew).trans x1 | replace x0 := (x0.drewN _).trans x1); clear x1) | (go_at_call 104; refine (l09Root_any _ _ (by omega)).mono ?_; rintro e w1 ⟨rfl, rfl⟩))
  all_goals (go_wp2_with fail; go_ret)
  all_goals exact ⟨rfl, hE.trans x0⟩
end Go.Proofs.Ytgkpganbepbjnaa

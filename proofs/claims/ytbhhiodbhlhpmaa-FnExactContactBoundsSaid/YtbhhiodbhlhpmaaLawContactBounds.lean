/-
  The law FnExactContactBounds: for every input the call returns true, and the arguments read as before. No condition.
-/
import Derived.Test.YtbhhiodbhlhpmaaCont
import Derived.Test.YtbhhiodbhlhpmaaFrame
namespace Go.Proofs.Ytbhhiodbhlhpmaa.fnExactContactBoundsDone
open Go.ChangeShapes Go.WideShapes Go.ChangeAt Go.RowKit
set_option linter.unusedVariables false

set_option maxRecDepth 100000 in
theorem lifted (os : Os) (started : os.Started) (H : Type) (enc : TypeId × Value → H) :
    ReturnsInHanded {} Try.checked os 14 .any (Rows.fnExactContactBoundsSpec.pre6 enc Try.prog Try.f14 Rows.fnExactContactBoundsRow.domain false) (Rows.fnExactContactBoundsSpec.post enc Try.prog Try.f14 false true false false) := by
  refine returnsInHanded_of_change (C := Try.checked) own started (by kernel_rfl) Try.func14
    (ChangeSpec.witness6 (enc := enc) (C := Try.checked) false ⟨#[], #[.agg #[.int .i64 0, .int .i64 0, .int .i64 0, .int .i64 0, .int .i64 0, .int .i64 0], .agg #[.int .i64 0, .int .i64 0, .int .i64 0, .int .i64 0, .int .i64 0, .int .i64 0]], []⟩ 8 (by kernel_rfl) (by kernel_rfl) (by kernel_rfl) (by kernel_rfl)) ?_
  intro W base args ds gs before hval0 hW hcnd _
  have hval : ∀ (j : Nat) t v, Try.f14.params[j]? = some t → args[j]? = some v → Value.okWide Try.prog W .any base t v := hval0
  have hW' := hW
  obtain ⟨p, q, hA0, hV, rfl, hfz, hnd⟩ := hW
  have hA : DataW.TrodAll enc Try.prog W 0 (fun _ => true) true Try.f14.params.toList args.toList ds p := hA0
  rw [Try.params14] at hA hval
  obtain ⟨v0, vs0, d0, ds0, p0, q0, hargs, rfl, rfl, h0, r0⟩ := trodAll_cons hA
  obtain ⟨v1, vs1, d1, ds1, p1, q1, rfl, rfl, rfl, h1, r1⟩ := trodAll_cons r0
  obtain ⟨rfl, rfl, rfl⟩ := trodAll_nil r1
  obtain rfl : args = #[v0, v1] := by cases args; simp_all
  obtain ⟨rfl, rfl⟩ := trodVars_none hV
  have k0 := h0
  have lt0 : ∀ x ∈ p0, x.block < W.heap.size := by obtain ⟨m, hm⟩ := k0; exact DataW.trod_lt m _ _ _ hm
  obtain ⟨z0, hv0, l0, w0⟩ := open_flat 4 Try.underlying32 (by kernel_rfl) (hval 0 32 v0 rfl rfl) h0
  rw [show Try.prog.cellsOf 32 = 6 by kernel_rfl] at l0
  obtain ⟨a0_0, a0_1, a0_2, a0_3, a0_4, a0_5, rfl⟩ := len6 l0
  simp only [List.map_cons, List.map_nil] at hv0
  subst hv0
  have k1 := h1
  have lt1 : ∀ x ∈ p1, x.block < W.heap.size := by obtain ⟨m, hm⟩ := k1; exact DataW.trod_lt m _ _ _ hm
  obtain ⟨z1, hv1, l1, w1⟩ := open_flat 4 Try.underlying32 (by kernel_rfl) (hval 1 32 v1 rfl rfl) h1
  rw [show Try.prog.cellsOf 32 = 6 by kernel_rfl] at l1
  obtain ⟨a1_0, a1_1, a1_2, a1_3, a1_4, a1_5, rfl⟩ := len6 l1
  simp only [List.map_cons, List.map_nil] at hv1
  subst hv1
  clear hA0 hval0
  refine (contact_walk a0_0 a0_1 a0_2 a0_3 a0_4 a0_5 a1_0 a1_1 a1_2 a1_3 a1_4 a1_5 W (i64_bd (w0 _ (by simp))) (i64_bd (w0 _ (by simp))) (i64_bd (w0 _ (by simp))) (i64_bd (w0 _ (by simp))) (i64_bd (w0 _ (by simp))) (i64_bd (w0 _ (by simp))) (i64_bd (w1 _ (by simp))) (i64_bd (w1 _ (by simp))) (i64_bd (w1 _ (by simp))) (i64_bd (w1 _ (by simp))) (i64_bd (w1 _ (by simp))) (i64_bd (w1 _ (by simp)))).mono fun e W' ⟨he, hx⟩ => ?_
  have bel := hx.1
  subst he
  exact ⟨_, rfl, _, _, _, [], _, [], hW', trodAll_mk1 (shut_bool Try.underlying4 _), (trodAll_cons_mk (Below.trod laidOut (by kernel_rfl) (of_decide_eq_true (by kernel_rfl)) k0 bel lt0) (trodAll_cons_mk (Below.trod laidOut (by kernel_rfl) (of_decide_eq_true (by kernel_rfl)) k1 bel lt1) trodAll_mk0)), rfl, bel.frame _, fun h => by cases h⟩

theorem over : Rows.fnExactContactBoundsRow.holds Try.pinned (OpenSpec.ofChange Rows.fnExactContactBoundsSpec) :=
  OpenClaim.holds_of_wide 14 Try.f14 rfl rfl rfl rfl rfl rfl rfl ⟨rfl, rfl, rfl, rfl, rfl⟩ rfl rfl rfl rfl rfl (by kernel_rfl) Try.func14 (by kernel_rfl)
    (of_decide_eq_true (by kernel_rfl)) (by unfold Func.isWrapper; first | (rw [if_pos (by decide +kernel)]; kernel_rfl) | (rw [if_neg (by decide +kernel)]; exact ⟨rfl, rfl⟩))
    (fun os started H enc _ => lifted os started H enc)

theorem proved : Rows.FnExactContactBoundsSaid := over
#print axioms proved
end Go.Proofs.Ytbhhiodbhlhpmaa.fnExactContactBoundsDone

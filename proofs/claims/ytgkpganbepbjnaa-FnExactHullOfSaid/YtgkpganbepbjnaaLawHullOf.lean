/-
  The law FnExactHullOf: for every input the call returns true, and the arguments read as before. No condition.
-/
import Derived.Test.YtgkpganbepbjnaaHuLaw
import Derived.Test.YtgkpganbepbjnaaFrame
import Derived.Test.YtgkpganbepbjnaaFrame4
namespace Go.Proofs.Ytgkpganbepbjnaa.fnExactHullOfDone
open Go.ChangeShapes Go.WideShapes Go.ChangeAt Go.RowKit
set_option linter.unusedVariables false

set_option maxRecDepth 100000 in
theorem lifted (os : Os) (started : os.Started) (H : Type) (enc : TypeId × Value → H) :
    ReturnsInHanded {} Try.checked os 13 .any (Rows.fnExactHullOfSpec.pre6 enc Try.prog Try.f13 Rows.fnExactHullOfRow.domain false) (Rows.fnExactHullOfSpec.post enc Try.prog Try.f13 false true false false) := by
  refine returnsInHanded_of_change (C := Try.checked) own started (by kernel_rfl) Try.func13
    (ChangeSpec.witness6 (enc := enc) (C := Try.checked) false ⟨#[], #[.agg #[.int .i64 0, .int .i64 0, .int .i64 0, .int .i64 0, .slice none 0 0]], []⟩ 8 (by kernel_rfl) (by kernel_rfl) (by kernel_rfl) (by kernel_rfl)) ?_
  intro W base args ds gs before hval0 hW hcnd _
  have hval : ∀ (j : Nat) t v, Try.f13.params[j]? = some t → args[j]? = some v → Value.okWide Try.prog W .any base t v := hval0
  have hW' := hW
  obtain ⟨p, q, hA0, hV, rfl, hfz, hnd⟩ := hW
  have hA : DataW.TrodAll enc Try.prog W 0 (fun _ => true) true Try.f13.params.toList args.toList ds p := hA0
  rw [Try.params13] at hA hval
  obtain ⟨v0, vs0, d0, ds0, p0, q0, hargs, rfl, rfl, h0, r0⟩ := trodAll_cons hA
  obtain ⟨rfl, rfl, rfl⟩ := trodAll_nil r0
  obtain rfl : args = #[v0] := by cases args; simp_all
  obtain ⟨rfl, rfl⟩ := trodVars_none hV
  have k0 := h0
  have lt0 : ∀ x ∈ p0, x.block < W.heap.size := by obtain ⟨m, hm⟩ := k0; exact DataW.trod_lt m _ _ _ hm
  obtain ⟨pw0, ph0, pm0, pg0, a0, len0, cap0, z0, hv0, row0, len0', max0, sz0⟩ := open_plate (ts := 59) (e := 124) (tstr := 9) (tpt := 122) (tint := 2) Try.underlying61 (by kernel_rfl) (by kernel_rfl) (by kernel_rfl) Try.underlying59 Try.underlying124 (by kernel_rfl) (by kernel_rfl) Try.underlying9 (by kernel_rfl) (by kernel_rfl) (by kernel_rfl) Try.underlying2 (by kernel_rfl) (hval 0 61 v0 rfl rfl) h0
  subst hv0
  clear hA0 hval0
  refine (hullOf_walk pw0 ph0 pm0 pg0 a0 len0 cap0 z0 W row0 len0' max0 sz0).mono fun e W' ⟨he, hx⟩ => ?_
  have bel := hx.1
  subst he
  exact ⟨_, rfl, _, _, _, [], _, [], hW', trodAll_mk1 (shut_bool Try.underlying4 _), (trodAll_cons_mk (Below.trod laidOut (by kernel_rfl) (of_decide_eq_true (by kernel_rfl)) k0 bel lt0) trodAll_mk0), rfl, bel.frame _, fun h => by cases h⟩

theorem over : Rows.fnExactHullOfRow.holds Try.pinned (OpenSpec.ofChange Rows.fnExactHullOfSpec) :=
  OpenClaim.holds_of_wide 13 Try.f13 rfl rfl rfl rfl rfl rfl rfl ⟨rfl, rfl, rfl, rfl, rfl⟩ rfl rfl rfl rfl rfl (by kernel_rfl) Try.func13 (by kernel_rfl)
    (of_decide_eq_true (by kernel_rfl)) (by unfold Func.isWrapper; first | (rw [if_pos (by decide +kernel)]; kernel_rfl) | (rw [if_neg (by decide +kernel)]; exact ⟨rfl, rfl⟩))
    (fun os started H enc _ => lifted os started H enc)

theorem proved : Rows.FnExactHullOfSaid := over
#print axioms proved
end Go.Proofs.Ytgkpganbepbjnaa.fnExactHullOfDone

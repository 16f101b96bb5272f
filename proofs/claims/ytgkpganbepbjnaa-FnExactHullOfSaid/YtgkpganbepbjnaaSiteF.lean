/-
  One site: converted, sized, compared.
-/
import Derived.Test.YtgkpganbepbjnaaSite
import Derived.Lib.Hide
namespace Go.Proofs.Ytgkpganbepbjnaa
open Go.RowKit
set_option linter.unusedSimpArgs false
set_option linter.unusedVariables false

set_option maxHeartbeats 400000 in
theorem toPoint_any (x y : Int) (w : World) :
    Calls Try.prog 121 #[.agg #[.int .i64 x, .int .i64 y]] w fun e w' => e = .returned (.agg #[.int .i64 x, .int .i64 y]) ∧ Ext w w' := by
  go_enter Try.func121, Try.ntmps121
  go_wp2
  exact bodyPost_ret (v := .agg #[.int .i64 x, .int .i64 y]) (by simp [results, Try.results121, go_sem]) rfl ⟨rfl, (((Ext.refl _).alloc _).alloc _).alloc _⟩
set_option maxHeartbeats 1000000 in
theorem toSite_any (s : ByteArray) (x y wh st : Int) (w : World) :
    Calls Try.prog 106 #[.agg #[.string s, .int .i64 x, .int .i64 y, .int .i64 wh, .int .i64 st]] w fun e w' => e = .returned (.agg #[.string s, .int .i64 x, .int .i64 y, .int .i64 wh, .int .i64 st]) ∧ Ext w w' := by
  go_enter Try.func106, Try.ntmps106
  go_wp2_with (first | (go_at_call 121; refine (toPoint_any _ _ _).mono ?_; rintro e w1 ⟨rfl, x1⟩; obtain ⟨xc, xf, xs⟩ := x1.keeps))
  have hE : Ext w w1 := ((((Ext.refl _).alloc _).alloc _).alloc _).trans x1
  have hl := x1.size
  simp at hl
  refine bodyPost_ret (v := .agg #[.string s, .int .i64 x, .int .i64 y, .int .i64 wh, .int .i64 st]) ?_ rfl ⟨rfl, ?_⟩
  · simp [results, Try.results106, go_sem, *]
  · (repeat (first | (with_reducible refine Ext.drew ?_) | (with_reducible refine Ext.setCell ?_ ?_ _; rotate_left; focus (first | (simp; done) | (simp; omega) | omega))))
    exact hE
set_option maxHeartbeats 400000 in
theorem eqPoint_any (x y : Int) (w : World) :
    Calls Try.prog 125 #[.agg #[.int .i64 x, .int .i64 y], .agg #[.int .i64 x, .int .i64 y]] w fun e w' => e = .returned (.bool true) ∧ Ext w w' := by
  go_enter Try.func125, Try.ntmps125
  go_wp2
  go_ret
  exact ⟨rfl, (((Ext.refl _).alloc _).alloc _)⟩
set_option maxHeartbeats 1000000 in
theorem eqSite_any (s : ByteArray) (x y wh st : Int) (w : World) :
    Calls Try.prog 112 #[.agg #[.string s, .int .i64 x, .int .i64 y, .int .i64 wh, .int .i64 st], .agg #[.string s, .int .i64 x, .int .i64 y, .int .i64 wh, .int .i64 st]] w fun e w' => e = .returned (.bool true) ∧ Ext w w' := by
  go_enter Try.func112, Try.ntmps112
  go_wp2_with (first | (go_at_call 125; refine (eqPoint_any _ _ _).mono ?_; rintro e w1 ⟨rfl, x1⟩; obtain ⟨xc, xf, xs⟩ := x1.keeps))
  go_ret
  exact ⟨rfl, (((Ext.refl _).alloc _).alloc _).trans x1⟩
set_option maxHeartbeats 400000 in
theorem szSite_any (s : ByteArray) (x y wh st k : Int) (w : World) (hk : 0 ≤ k ∧ k ≤ 1048576) (hs : s.size ≤ 9223372036854775807) :
    Calls Try.prog 102 #[.agg #[.string s, .int .i64 x, .int .i64 y, .int .i64 wh, .int .i64 st], .int .i64 k] w fun e w' => (∃ r, e = .returned (.int .i64 r) ∧ (r = -1 ∨ (0 ≤ r ∧ r ≤ k ∧ (s.size : Int) ≤ k))) ∧ Ext w w' := by
  have q1 : IntKind.i64.wrap (k - (s.size : Int)) = k - (s.size : Int) := IntWalk.i64_in _ (by omega)
  go_enter Try.func102, Try.ntmps102
  by_cases h : k - (s.size : Int) < 0
  · go_wp2
    go_ret
    exact ⟨⟨-1, rfl, .inl rfl⟩, (Ext.refl _).alloc _⟩
  · go_wp2
    go_ret
    exact ⟨⟨_, rfl, .inr (by omega)⟩, (Ext.refl _).alloc _⟩
end Go.Proofs.Ytgkpganbepbjnaa

/-
  Plain words for the proofs of this seat: a range test, the relation of worlds that a call leaves behind.
-/
import Derived.Test.YtgkpganbepbjnaaRows
import Derived.WalkKit
import Derived.WalkSpells
import Derived.WalkLawsBesides
import Derived.Deep.QuietTactic
import Derived.BigQuiet
import Derived.Lib.Hide
import Derived.IntWalk
import Derived.Sort.Grow
import Derived.Deep.Draws
import Derived.Deep.RegionHeld3
import Derived.Deep.DeepFit
namespace Go.Proofs.Ytgkpganbepbjnaa
open Go.RowKit
set_option linter.unusedVariables false

def inB (n lo hi : Int) : Bool := decide (lo ≤ n ∧ n ≤ hi)
theorem inB_iff {n lo hi : Int} : inB n lo hi = true ↔ lo ≤ n ∧ n ≤ hi := by simp [inB]
theorem inB_no {n lo hi : Int} : inB n lo hi = false ↔ ¬ (lo ≤ n ∧ n ≤ hi) := by simp [inB]

/-- What a call that makes memory of its own leaves behind: whatever was there reads as it did. -/
def Ext (w w' : World) : Prop := Below w.heap.size w w' ∧ w.drawn ≤ w'.drawn

theorem Ext.refl (w : World) : Ext w w := ⟨Below.refl _ _, Nat.le_refl _⟩
theorem Ext.trans {a b c : World} (h : Ext a b) (k : Ext b c) : Ext a c := ⟨h.1.trans (k.1.mono h.1.size), Nat.le_trans h.2 k.2⟩
theorem Ext.size {a b : World} (h : Ext a b) : a.heap.size ≤ b.heap.size := h.1.size
theorem Ext.alloc {a w : World} (h : Ext a w) (o : Obj) : Ext a (w.alloc o) := ⟨h.1.alloc h.1.size o, h.2⟩
theorem Ext.drew {a w : World} (h : Ext a w) : Ext a w.drew := ⟨h.1.drew, Nat.le_succ_of_le h.2⟩
theorem Ext.drewN {a w : World} (h : Ext a w) (n : Nat) : Ext a (w.drewN n) := ⟨below_drewN h.1 n, by
  have : (w.drewN n).drawn = w.drawn + n := by
    simp [World.drewN]
  have := h.2
  omega⟩
theorem Ext.setCell {a w : World} (h : Ext a w) {p : Addr} (hp : a.heap.size ≤ p.block) (u : Value) : Ext a (w.setCell p u) := ⟨h.1.setCell hp u, h.2⟩

theorem Ext.cells {W w1 : World} (h : Ext W w1) : (∀ b o, b < W.heap.size → w1.cell? ⟨b, o, none⟩ = W.cell? ⟨b, o, none⟩) ∧ (∀ b o, b < W.heap.size → w1.frozen? ⟨b, o, none⟩ = W.frozen? ⟨b, o, none⟩) ∧ W.heap.size ≤ w1.heap.size :=
  ⟨fun b o hb => h.1.cell (p := ⟨b, o, none⟩) hb, fun b o hb => h.1.frozen (p := ⟨b, o, none⟩) hb, h.size⟩

theorem Ext.keeps {W w1 : World} (h : Ext W w1) : (∀ b o, b < W.heap.size → w1.cell? ⟨b, o, none⟩ = W.cell? ⟨b, o, none⟩) ∧ (∀ b o, b < W.heap.size → w1.frozen? ⟨b, o, none⟩ = W.frozen? ⟨b, o, none⟩) ∧ (∀ b, b < W.heap.size → b < w1.heap.size) :=
  ⟨fun b o hb => h.1.cell (p := ⟨b, o, none⟩) hb, fun b o hb => h.1.frozen (p := ⟨b, o, none⟩) hb, fun b hb => Nat.lt_of_lt_of_le hb h.size⟩

theorem lt_a (w : World) (o : Obj) : w.heap.size < (w.alloc o).heap.size := by simp
theorem lt_da (w : World) (o : Obj) : w.heap.size < (w.drew.alloc o).heap.size := lt_a w.drew o
theorem lt_ad (w : World) (o : Obj) : w.heap.size < (w.alloc o).drew.heap.size := lt_a w o

theorem two0 (w : World) (b : Nat) (v u : Value) (h : (w.cell? ⟨b, 0, none⟩).isSome = true) : ((w.setCell ⟨b, 0, none⟩ v).setCell ⟨b, 1, none⟩ u).cell? ⟨b, 0, none⟩ = some v := by
  obtain ⟨x, hx⟩ := Option.isSome_iff_exists.1 h
  simp [go_sem, hx]
theorem two1 (w : World) (b : Nat) (v u : Value) (h : (w.cell? ⟨b, 1, none⟩).isSome = true) : ((w.setCell ⟨b, 0, none⟩ v).setCell ⟨b, 1, none⟩ u).cell? ⟨b, 1, none⟩ = some u := by
  obtain ⟨x, hx⟩ := Option.isSome_iff_exists.1 h
  simp [go_sem, hx]

theorem quiet_left {P : Program} {f : FuncId} {args : Array Value} {w : World} {n : Nat} {v : Value}
    (h : Calls P f args (w.drewN n) fun e w' => e = .returned v ∧ w.drewN n = w') : Calls P f args (w.drewN n) fun e w'' => e = .returned v ∧ ∃ m, w'' = w.drewN m :=
  h.mono fun _ _ ⟨he, hm⟩ => ⟨he, n, hm.symm⟩

theorem fd_neg (n d : Int) (hd : 1 ≤ d) (h : n.tmod d < 0) : n.tdiv d - 1 = n / d := by
  have h1 := Int.tdiv_eq_ediv (a := n) (b := d)
  have h2 := Int.tmod_eq_emod (a := n) (b := d)
  have h3 := Int.emod_nonneg n (show d ≠ 0 by omega)
  have h4 : d.sign = 1 := Int.sign_eq_one_of_pos (by omega)
  by_cases c : 0 ≤ n ∨ d ∣ n
  · rw [if_pos c] at h2
    omega
  · rw [if_neg c] at h1
    omega
theorem fd_pos (n d : Int) (hd : 1 ≤ d) (h : ¬ n.tmod d < 0) : n.tdiv d = n / d := by
  have h1 := Int.tdiv_eq_ediv (a := n) (b := d)
  have h2 := Int.tmod_eq_emod (a := n) (b := d)
  have h3 := Int.emod_lt_of_pos n (show 0 < d by omega)
  by_cases c : 0 ≤ n ∨ d ∣ n
  · rw [if_pos c] at h1
    omega
  · rw [if_neg c] at h2
    omega
theorem tdiv_in (n d : Int) (hd : 1 ≤ d) (h1 : -9223372036854775807 ≤ n) (h2 : n ≤ 9223372036854775807) : -9223372036854775807 ≤ n.tdiv d ∧ n.tdiv d ≤ 9223372036854775807 := by
  have h := Int.natAbs_tdiv_le_natAbs n d
  omega
theorem tmod_in (n d : Int) (hd : 1 ≤ d) (h2 : d ≤ 9223372036854775807) : -9223372036854775807 ≤ n.tmod d ∧ n.tmod d ≤ 9223372036854775807 := by
  have h1 := Int.tmod_lt_of_pos n (show 0 < d by omega)
  have h2 := Int.lt_tmod_of_pos n (show 0 < d by omega)
  omega

theorem ediv_in (n d : Int) (hd : 1 ≤ d) (h1 : -9223372036854775807 ≤ n) (h2 : n ≤ 9223372036854775807) : -9223372036854775807 ≤ n / d ∧ n / d ≤ 9223372036854775807 := by
  have a1 : n / d * d ≤ n := Int.ediv_mul_le n (by omega)
  have a2 : n < (n / d + 1) * d := Int.lt_ediv_add_one_mul_self n (by omega)
  constructor
  · by_cases h : 0 ≤ n
    · have := Int.ediv_nonneg h (show 0 ≤ d by omega)
      omega
    · have := Int.le_ediv_of_mul_le (a := n) (b := n) (c := d) (by omega) (by
        have := Int.mul_le_mul_of_nonpos_left (a := n) (b := d) (c := 1) (by omega) (by omega)
        omega)
      omega
  · by_cases h : 0 ≤ n
    · have := Int.ediv_le_self d h
      omega
    · have := Int.ediv_neg_of_neg_of_pos (show n < 0 by omega) (show 0 < d by omega)
      omega

theorem ret_bool {a b : Bool} (h : a = b) : Ending.returned (.bool a) = .returned (.bool b) := by rw [h]
theorem mul_bd {x y X Y : Int} (hx : 0 ≤ x ∧ x ≤ X) (hy : 0 ≤ y ∧ y ≤ Y) : 0 ≤ x * y ∧ x * y ≤ X * Y :=
  ⟨Int.mul_nonneg hx.1 hy.1, Int.mul_le_mul hx.2 hy.2 hy.1 (by omega)⟩
theorem mul_abs {x y X Y : Int} (hx : -X ≤ x ∧ x ≤ X) (hy : -Y ≤ y ∧ y ≤ Y) : -(X * Y) ≤ x * y ∧ x * y ≤ X * Y := by
  have h := Int.natAbs_mul x y
  have h2 := Nat.mul_le_mul (show x.natAbs ≤ X.toNat by omega) (show y.natAbs ≤ Y.toNat by omega)
  have h3 : ((X.toNat * Y.toNat : Nat) : Int) = X * Y := by rw [Int.natCast_mul, Int.toNat_of_nonneg (by omega), Int.toNat_of_nonneg (by omega)]
  omega
theorem ret2 {a b c d : Int} (h : a = b) (k : c = d) : Ending.returned (.tuple #[.int .i64 a, .int .i64 c]) = .returned (.tuple #[.int .i64 b, .int .i64 d]) := by rw [h, k]
theorem retb2 {a b : Bool} {c d : Int} (h : a = b) (k : c = d) : Ending.returned (.tuple #[.bool a, .int .i64 c]) = .returned (.tuple #[.bool b, .int .i64 d]) := by rw [h, k]
theorem ret3 {a b c d x y : Int} (h : a = b) (k : c = d) (l : x = y) : Ending.returned (.tuple #[.int .i64 a, .int .i64 c, .int .i64 x]) = .returned (.tuple #[.int .i64 b, .int .i64 d, .int .i64 y]) := by rw [h, k, l]
theorem ret4 {a b c d x y s t : Int} (h : a = b) (k : c = d) (l : x = y) (m : s = t) : Ending.returned (.tuple #[.int .i64 a, .int .i64 c, .int .i64 x, .int .i64 s]) = .returned (.tuple #[.int .i64 b, .int .i64 d, .int .i64 y, .int .i64 t]) := by rw [h, k, l, m]
theorem results_tmp4 {fn : Func} {t u v x : Tmp} (h : fn.results = #[.tmp t, .tmp u, .tmp v, .tmp x]) (tmps : Array Value) (P : Program) (w : World) :
    (results fn tmps).run P w = .ok (.tuple #[tmps.getD t undef, tmps.getD u undef, tmps.getD v undef, tmps.getD x undef]) w := by simp [results, h]
theorem ret_int {a b : Int} (h : a = b) : Ending.returned (.int .i64 a) = .returned (.int .i64 b) := by rw [h]

end Go.Proofs.Ytgkpganbepbjnaa

/-
  What the rows of this seat need of an argument that is a struct of integers, at whatever depth: its cells are integers.
-/
import Derived.Test.YtgkpganbepbjnaaBase
import Derived.ProofKit
import Derived.OpenShut
import Derived.ShutString
import Derived.ChangeOld
import Derived.Below
import Derived.Carry
namespace Go.Proofs.Ytgkpganbepbjnaa
open Go.ChangeShapes Go.WideShapes Go.ChangeAt Go.RowKit
set_option linter.unusedVariables false

/-- Is the type a struct of int64 cells, at whatever depth? -/
def flatI (P : Program) : Nat → TypeId → Bool
  | 0, _ => false
  | k + 1, t => match P.underlying t with
    | some (.int .i64) => true
    | some (.struct fs) => (List.range (P.cellsOf t)).all fun j => fs.toList.any fun f => decide (f.offset ≤ j) && decide (j < f.offset + P.cellsOf f.type) && flatI P k f.type
    | _ => false

theorem flat_cells {H : Type} {enc : TypeId × Value → H} {P : Program} {w : World} {base : Nat} {spare : Nat → Bool} {held : Bool} (k : Nat) :
    ∀ (t : TypeId) (fuel : Nat) (cs : List Value) (x : DataW H × List MemPlace), flatI P k t = true → DataW.trod enc P w base spare held fuel t cs = some x →
      ∀ j, j < cs.length → ∃ n, cs[j]? = some (.int .i64 n) ∧ (Lit.int .i64 n).wf = true := by
  induction k with
  | zero => intro t fuel cs x h; simp [flatI] at h
  | succ k ih =>
    intro t fuel cs x h ht j hj
    unfold flatI at h
    split at h
    · rename_i hu
      obtain ⟨n, rfl, _, hw⟩ := DataW.trod_int hu ht
      have : j = 0 := by simpa using hj
      subst this
      exact ⟨n, rfl, hw⟩
    · rename_i fs hu
      obtain ⟨xs, m, _, _, hlen, hxl, hf⟩ := DataW.trod_struct hu ht
      rw [List.all_eq_true] at h
      have h1 := h j (by rw [List.mem_range]; omega)
      rw [List.any_eq_true] at h1
      obtain ⟨f, hfm, h2⟩ := h1
      simp only [Bool.and_eq_true, decide_eq_true_eq] at h2
      obtain ⟨⟨h3, h4⟩, h5⟩ := h2
      obtain ⟨i, hi, he⟩ := List.getElem_of_mem hfm
      have hfi : fs[i]? = some f := by
        rw [← he, Array.getElem?_eq_getElem (by simpa using hi)]
        simp
      have ho := hf i f hfi
      have hi2 : i < xs.length := by rw [hxl]; simpa using hi
      rw [List.getElem?_eq_getElem hi2] at ho
      obtain ⟨n, hn, hw⟩ := ih f.type m _ _ h5 ho (j - f.offset) (by simp; omega)
      refine ⟨n, ?_, hw⟩
      rw [List.getElem?_take, if_pos (by omega), List.getElem?_drop, show f.offset + (j - f.offset) = j by omega] at hn
      exact hn
    · simp at h

theorem open_flat {H : Type} {enc : TypeId × Value → H} {P : Program} {w : World} {base : Nat} {spare : Nat → Bool} {held : Bool} {r : Reach} {b0 : Nat} {t : TypeId} {fs : Array Field} {v : Value} {d : DataW H} {p : List MemPlace}
    (k : Nat) (hs : P.underlying t = some (.struct fs)) (hfl : flatI P k t = true) (hv : Value.okWide P w r b0 t v) (h : DataW.Trod enc P w base spare held t v d p) :
    ∃ zs : List Int, v = .agg (zs.map (Value.int .i64)).toArray ∧ zs.length = P.cellsOf t ∧ ∀ z ∈ zs, (Lit.int .i64 z).wf = true := by
  obtain ⟨cs, rfl, hsz⟩ := okWide_struct hs hv
  obtain ⟨fuel, hf⟩ := h
  have hc := flat_cells k t fuel _ _ hfl hf
  have hcs : (Value.agg cs).cells.toList = cs.toList := by simp [Value.cells]
  rw [hcs] at hc
  have key : ∀ l : List Value, (∀ j, j < l.length → ∃ n, l[j]? = some (.int .i64 n) ∧ (Lit.int .i64 n).wf = true) → ∃ zs : List Int, l = zs.map (Value.int .i64) ∧ ∀ z ∈ zs, (Lit.int .i64 z).wf = true := by
    intro l
    induction l with
    | nil => intro _; exact ⟨[], rfl, by simp⟩
    | cons a l ih =>
      intro hl
      obtain ⟨zs, h1, h2⟩ := ih (fun j hj => by simpa using hl (j + 1) (by simpa using hj))
      obtain ⟨n, h3, h4⟩ := hl 0 (by simp)
      simp at h3
      exact ⟨n :: zs, by rw [h1, h3]; rfl, by intro z hz; rcases List.mem_cons.1 hz with rfl | hz; exact h4; exact h2 z hz⟩
  obtain ⟨zs, h1, h2⟩ := key cs.toList hc
  refine ⟨zs, ?_, ?_, h2⟩
  · rw [← h1]
  · have := congrArg List.length h1
    simp at this
    omega

theorem i64_bd {n : Int} (h : (Lit.int .i64 n).wf = true) : -9223372036854775808 ≤ n ∧ n ≤ 9223372036854775807 := by
  have := bounds_i64 h
  omega
theorem len2 {α : Type} {l : List α} (h : l.length = 2) : ∃ a b, l = [a, b] := by
  match l, h with
  | [a, b], _ => exact ⟨a, b, rfl⟩
theorem len3 {α : Type} {l : List α} (h : l.length = 3) : ∃ a b c, l = [a, b, c] := by
  match l, h with
  | [a, b, c], _ => exact ⟨a, b, c, rfl⟩
theorem len4 {α : Type} {l : List α} (h : l.length = 4) : ∃ a b c d, l = [a, b, c, d] := by
  match l, h with
  | [a, b, c, d], _ => exact ⟨a, b, c, d, rfl⟩
theorem len5 {α : Type} {l : List α} (h : l.length = 5) : ∃ a b c d e, l = [a, b, c, d, e] := by
  match l, h with
  | [a, b, c, d, e], _ => exact ⟨a, b, c, d, e, rfl⟩
theorem len6 {α : Type} {l : List α} (h : l.length = 6) : ∃ a b c d e f, l = [a, b, c, d, e, f] := by
  match l, h with
  | [a, b, c, d, e, f], _ => exact ⟨a, b, c, d, e, f, rfl⟩

/-- What the walk is told of a slice of integers that came in. -/
def IsRow (k : IntKind) (w : World) (a : Option Addr) (len cap : Nat) (zs : List Int) : Prop :=
  (a = none ∧ len = 0 ∧ cap = 0 ∧ zs = []) ∨
  ∃ x, a = some x ∧ x.block < w.heap.size ∧ len ≤ cap ∧ cap ≤ maxLen ∧ zs.length = cap ∧ (∀ i, i < zs.length → w.cell? (x.add i) = some (.int k (zs.getD i 0))) ∧ ∀ n ∈ zs, (Lit.int k n).wf = true

theorem own : ownKnob Try.prog.godebug = none := by kernel_rfl
theorem laidOut : laidOutB Try.prog = true := by kernel_rfl
end Go.Proofs.Ytgkpganbepbjnaa

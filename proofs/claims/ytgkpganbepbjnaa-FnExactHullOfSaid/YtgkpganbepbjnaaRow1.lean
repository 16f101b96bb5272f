/-
  Words for slices of integers: those that come in, those that are written to, those that are copied.
-/
import Derived.Test.YtgkpganbepbjnaaMark
import Derived.Laws.MakeOwn
import Derived.Laws.Entries
namespace Go.Proofs.Ytgkpganbepbjnaa
open Go.RowKit
set_option linter.unusedSimpArgs false
set_option linter.unusedVariables false

theorem Wrote.ext {row : Option Nat} {a w w' : World} (x : Ext a w) (h : Wrote row w w') (hb : ∀ k, row = some k → a.heap.size ≤ k) : Ext a w' :=
  ⟨x.1.grown h.1 x.1.size hb, Nat.le_trans x.2 h.2⟩
theorem Wrote.alloc (row : Option Nat) (w : World) (o : Obj) : Wrote row w (w.alloc o) := ⟨World.grownBy_alloc w o row, Nat.le_refl _⟩
theorem Wrote.size {row : Option Nat} {w w' : World} (h : Wrote row w w') : w.heap.size ≤ w'.heap.size := h.1.size
theorem Wrote.cell {row : Option Nat} {w w' : World} (h : Wrote row w w') {b o : Nat} (hb : b < w.heap.size) (hne : some b ≠ row) : w'.cell? ⟨b, o, none⟩ = w.cell? ⟨b, o, none⟩ :=
  World.cell?_of_block (h.1.block b hb hne)
theorem Wrote.free {row : Option Nat} {w w' : World} (h : Wrote row w w') {b o : Nat} (hb : b < w.heap.size) (hne : some b ≠ row) : w'.frozen? ⟨b, o, none⟩ = w.frozen? ⟨b, o, none⟩ :=
  World.frozen?_of_block (h.1.block b hb hne)
theorem IntsOf.lt {w : World} {B : Nat} {v : Value} {zs : List Int} (h : IntsOf w B v zs) : ∀ k, v.ownBlock = some k → B ≤ k ∧ k < w.heap.size := World.ownsRow.lt h
theorem IntsOf.wrote {w w' : World} {B : Nat} {v : Value} {zs : List Int} {row : Option Nat} (h : IntsOf w B v zs) (x : Wrote row w w') (hne : v.ownBlock = none ∨ v.ownBlock ≠ row) : IntsOf w' B v zs :=
  World.ownsRow.kept h x.1 hne
theorem IntsOf.other {w : World} {B g j : Nat} {v : Value} {zs : List Int} (h : IntsOf w B v zs) (hg : g < B) (u : Value) : IntsOf (w.setCell ⟨g, j, none⟩ u) B v zs := by
  refine h.wrote (Wrote.set w g j u) ?_
  cases hv : v.ownBlock with
  | none => exact .inl rfl
  | some k =>
    have := (h.lt k hv).1
    right
    intro e
    injection e with e
    omega
/-- Two rows of the call's own, the one made behind the other, lie apart. -/
theorem apart {w w' : World} {B B' : Nat} {v v' : Value} {zs zs' : List Int} (h : IntsOf w B v zs) (h' : IntsOf w' B' v' zs') (hb : w.heap.size ≤ B') : v.ownBlock = none ∨ v.ownBlock ≠ v'.ownBlock := by
  cases hv : v.ownBlock with
  | none => exact .inl rfl
  | some k =>
    right
    intro e
    have h1 := (h.lt k hv).2
    have h2 := (h'.lt k e.symm).1
    omega
theorem apart' {w w' : World} {B B' : Nat} {v v' : Value} {zs zs' : List Int} (h : IntsOf w B v zs) (h' : IntsOf w' B' v' zs') (hb : w.heap.size ≤ B') : v'.ownBlock = none ∨ v'.ownBlock ≠ v.ownBlock := by
  cases hv : v'.ownBlock with
  | none => exact .inl rfl
  | some k =>
    right
    intro e
    have h1 := (h.lt k e.symm).2
    have h2 := (h'.lt k hv).1
    omega
theorem off_row {w : World} {B b : Nat} {v : Value} {zs : List Int} (h : IntsOf w B v zs) (hb : b < B) : some b ≠ v.ownBlock := by
  intro e
  have := (h.lt b e.symm).1
  omega
theorem off_row' {w : World} {B b : Nat} {v : Value} {zs : List Int} (h : IntsOf w B v zs) (hb : w.heap.size ≤ b) : some b ≠ v.ownBlock := by
  intro e
  have := (h.lt b e.symm).2
  omega

section
variable {P : Program} (w : World)
theorem wpList_append_wrote {ops : Array Oper} {rest : List Oper} {o : Oper} {a : Act} {Q : Exit → Act → World → Prop} (hgd : o.guard = none) (s x : Operand) (t : TypeId)
    (ho : o.op = .call { callee := .builtin .append, args := #[s, x], argTypes := #[t, t] })
    (base : Nat) (e : TypeId) (i : TypeInfo) (z : Value) (size bytes : Nat) (ht : P.underlying t = some (.slice e)) (hi : P.info? e = some i) (hz : i.zero = some z)
    (hsize : i.size = size) (hby : i.bytes = bytes) (hzs : z.cells.size = size) (hsz : 0 < size)
    (v : Value) (n : Nat) (xs : List Value) (hs : a.eval s = v) (hown : w.ownsRow base e size v n xs)
    (ad : Addr) (m c : Nat) (news : List Value) (hx : a.eval x = .slice (some ad) m c) (hl : news.length = m * size) (hnews : ∀ j u, news[j]? = some u → w.cell? (ad.add j) = some u) (h1 : ∀ u ∈ news, u.oneCell' = true)
    (h63 : n + m ≤ maxLen) (hbytes : (n + m) * bytes ≤ 140737488355328) (hbase : base ≤ w.heap.size)
    (h : ∀ v' w', w'.ownsRow base e size v' (n + m) (xs ++ news) → Wrote v.ownBlock w w' → wpList P ops Q rest (a.put o.dst v') w') : wpList P ops Q (o :: rest) a w :=
  wpList_plain hgd fun _ hK => by
    obtain ⟨v', w', hr, h2, h3, h4⟩ := run_append_own (P := P) w base t o.type e i z size bytes ht hi hz hsize hby hzs hsz v n xs hown ad m c news hl hnews h1 h63 hbytes hbase
    obtain ⟨v1, w1, hr1, hd⟩ := append_drawn (P := P) w base t o.type e i z size bytes ht hi hz hsize hby v n xs hown ad m c news hl hnews h1 h63 hbytes
    rw [hr] at hr1
    injection hr1 with _ hw
    rw [← hw] at hd
    unfold Oper.wp execOp
    simp only [ho, resolve, invoke, builtin, Sem.run_bind, Sem.run_pure, Result.andThen_ok, List.map_toArray, List.map_cons, List.map_nil, hs, hx, hr]
    exact hK _ _ (h v' w' h2 ⟨h3, hd⟩)
end

/-- The slice at a holds these integers. -/
def Row1 (w : World) (a : Option Addr) (zs : List Int) : Prop :=
  zs.length = 0 ∨ ∃ b off, a = some ⟨b, off, none⟩ ∧ b < w.heap.size ∧ ∀ j, j < zs.length → w.cell? ⟨b, off + j, none⟩ = some (.int .i64 (zs.getD j 0))
theorem Row1.ext {w w' : World} {a : Option Addr} {zs : List Int} (h : Row1 w a zs) (x : Ext w w') : Row1 w' a zs := by
  rcases h with h | ⟨b, off, ha, hb, hc⟩
  · exact .inl h
  · exact .inr ⟨b, off, ha, Nat.lt_of_lt_of_le hb x.size, fun j hj => (x.cells.1 b _ hb).trans (hc j hj)⟩
theorem Row1.look {w : World} {a : Option Addr} {zs : List Int} (h : Row1 w a zs) {j : Nat} (hj : j < zs.length) :
    ∃ b off, a = some ⟨b, off, none⟩ ∧ b < w.heap.size ∧ ∃ x, Hid (zs.getD j 0 = x) ∧ w.cell? ⟨b, off + j, none⟩ = some (.int .i64 x) := by
  rcases h with h | ⟨b, off, ha, hb, hc⟩
  · omega
  · exact ⟨b, off, ha, hb, _, Lib.hid rfl, hc j hj⟩
theorem IntsOf.row {w : World} {B n c : Nat} {a : Option Addr} {zs : List Int} (h : IntsOf w B (.slice a n c) zs) : Row1 w a zs := by
  by_cases h0 : zs.length = 0
  · exact .inl h0
  · obtain ⟨g, x, rfl, hg, _, _⟩ := h.nth (j := 0) (by omega)
    refine .inr ⟨g, 0, rfl, hg, fun j hj => ?_⟩
    obtain ⟨g', x', e, _, hx, hc⟩ := h.nth hj
    injection e with e
    injection e with e
    subst e
    rw [hx.out, Nat.zero_add]
    exact hc

theorem ints_full (w : World) (B : Nat) (n : Nat) (hb : B ≤ w.heap.size) (hn : n ≤ maxLen) : IntsOf (w.alloc (.cells (madeCells #[.int .i64 0] (n * 1)) 2)) B (.slice (some ⟨w.heap.size, 0, none⟩) n n) (List.replicate n 0) := by
  refine ⟨by simp, .inr ⟨w.heap.size, n, _, by simp, hb, heap_alloc_new w _, by simp, hn, by simp [size_madeCells], ?_⟩⟩
  rw [toList_madeCells_one]
  simp
theorem run_make_ints {P : Program} (t e : TypeId) (ht : P.underlying t = some (.slice e)) (he : (P.info? e).map (fun i => (i.zero, i.size, i.bytes)) = some (some (.int .i64 0), 1, 8))
    (n c : Nat) (hnc : n ≤ c) (hc : c ≤ 17000000) (w : World) :
    (Instr.makeSlice t (.int .i64 (n : Int)) (.int .i64 (c : Int))).run P w = .ok (.slice (some ⟨w.heap.size, 0, none⟩) n c) (w.alloc (.cells (madeCells #[.int .i64 0] (c * 1)) e)) := by
  cases hi : P.info? e with
  | none => rw [hi] at he; simp at he
  | some i =>
    rw [hi] at he
    simp only [Option.map_some, Option.some.injEq, Prod.mk.injEq] at he
    have hb : (i.bytes : Int) * (c : Int) ≤ 281474976710656 := by
      have h : ((i.bytes * c : Nat) : Int) ≤ 281474976710656 := by rw [he.2.2]; omega
      rwa [Int.natCast_mul] at h
    have hr := run_make (P := P) w t e i (.int .i64 0) ht hi he.1 .i64 .i64 n c (by omega) (by omega) hb (by omega)
    simp only [Int.toNat_natCast, he.2.1] at hr
    exact hr
theorem ints_same {zs ys : List Int} {n : Nat} (hz : zs.length = n) (hy : ys.length = n) (h : ∀ j, j < n → ys.getD j 0 = zs.getD j 0) : ys = zs := by
  apply List.ext_getElem (by omega)
  intro i h1 h2
  have := h i (by omega)
  rwa [List.getD_eq_getElem?_getD, List.getD_eq_getElem?_getD, List.getElem?_eq_getElem h1, List.getElem?_eq_getElem h2] at this

end Go.Proofs.Ytgkpganbepbjnaa

/-
  What the rows of this seat need of an argument that is a plate: four integers and a slice of sites.
-/
import Derived.Test.YtgkpganbepbjnaaFrame2
import Derived.Test.YtgkpganbepbjnaaSite
import Derived.Deep.Slices
namespace Go.Proofs.Ytgkpganbepbjnaa
open Go.ChangeShapes Go.WideShapes Go.ChangeAt Go.RowKit
set_option linter.unusedVariables false

section
variable {H : Type} {enc : TypeId × Value → H} {P : Program} {w : World} {base : Nat} {spare : Nat → Bool} {held : Bool}
theorem trod_fld {t : TypeId} {fs : Array Field} {fuel : Nat} {cs : List Value} {x : DataW H × List MemPlace} (hs : P.underlying t = some (.struct fs)) (hf : DataW.trod enc P w base spare held fuel t cs = some x)
    (L : List (Nat × TypeId)) (hL : fs.toList.map (fun f => (f.offset, f.type)) = L) (i o : Nat) (ty : TypeId) (hi : L[i]? = some (o, ty)) :
    ∃ m y, DataW.trod enc P w base spare held m ty ((cs.drop o).take (P.cellsOf ty)) = some y := by
  obtain ⟨xs, m, _, _, hlen, hxl, hg⟩ := DataW.trod_struct hs hf
  subst hL
  rw [List.getElem?_map] at hi
  cases hq : fs[i]? with
  | none =>
    rw [Array.getElem?_toList, hq] at hi
    simp at hi
  | some f =>
    rw [Array.getElem?_toList, hq] at hi
    simp only [Option.map_some, Option.some.injEq, Prod.mk.injEq] at hi
    have h1 := hg i f hq
    rw [hi.1, hi.2] at h1
    have hlt : i < xs.length := by
      rw [hxl]
      rcases Nat.lt_or_ge i fs.size with h | h
      · exact h
      · rw [Array.getElem?_eq_none h] at hq; cases hq
    rw [List.getElem?_eq_getElem hlt] at h1
    exact ⟨m, _, h1⟩
theorem list5 {α : Type} : ∀ {l : List α}, l.length = 5 → ∃ a b c d e, l = [a, b, c, d, e]
  | [a, b, c, d, e], _ => ⟨a, b, c, d, e, rfl⟩
theorem trod_site {e tstr tpt tint : TypeId} {fs : Array Field} {fuel : Nat} {cs : List Value} {x : DataW H × List MemPlace} (hs : P.underlying e = some (.struct fs))
    (hL : fs.toList.map (fun f => (f.offset, f.type)) = [(0, tstr), (1, tpt), (3, tint), (4, tint)]) (hC : P.cellsOf e = 5) (hS : P.underlying tstr = some .string) (cS : P.cellsOf tstr = 1)
    (hP : flatI P 4 tpt = true) (cP : P.cellsOf tpt = 2) (hI : P.underlying tint = some (.int .i64)) (cI : P.cellsOf tint = 1)
    (hf : DataW.trod enc P w base spare held fuel e cs = some x) : ∃ z : Sit, cs = z.row ∧ z.s.size ≤ 9223372036854775807 := by
  obtain ⟨xs, m, _, _, hlen, hxl, hg⟩ := DataW.trod_struct hs hf
  rw [hC] at hlen
  obtain ⟨c0, c1, c2, c3, c4, rfl⟩ := list5 hlen
  obtain ⟨m0, y0, h0⟩ := trod_fld hs hf _ hL 0 0 tstr rfl
  obtain ⟨m1, y1, h1⟩ := trod_fld hs hf _ hL 1 1 tpt rfl
  obtain ⟨m2, y2, h2⟩ := trod_fld hs hf _ hL 2 3 tint rfl
  obtain ⟨m3, y3, h3⟩ := trod_fld hs hf _ hL 3 4 tint rfl
  rw [cS] at h0
  rw [cP] at h1
  rw [cI] at h2 h3
  simp only [List.drop_zero, List.drop_succ_cons, List.take_succ_cons, List.take_zero] at h0 h1 h2 h3
  obtain ⟨s, e0, _, hsz⟩ := DataW.trod_string hS h0
  have hfc := flat_cells 4 tpt m1 _ _ hP h1
  obtain ⟨n1, e1, w1⟩ := hfc 0 (by simp)
  obtain ⟨n2, e2, w2⟩ := hfc 1 (by simp)
  obtain ⟨n3, e3, _, w3⟩ := DataW.trod_int hI h2
  obtain ⟨n4, e4, _, w4⟩ := DataW.trod_int hI h3
  simp at e0 e1 e2 e3 e4
  subst e0; subst e1; subst e2; subst e3; subst e4
  have hml : maxLen ≤ 9223372036854775807 := by decide
  exact ⟨⟨s, n1, n2, n3, n4⟩, rfl, by show s.size ≤ _; omega⟩
theorem open_sites_cells {t e tstr tpt tint : TypeId} {fs : Array Field} {fuel : Nat} {v : Value} {x : DataW H × List MemPlace}
    (ht : P.underlying t = some (.slice e)) (hs : P.underlying e = some (.struct fs))
    (hL : fs.toList.map (fun f => (f.offset, f.type)) = [(0, tstr), (1, tpt), (3, tint), (4, tint)]) (hC : P.cellsOf e = 5) (hS : P.underlying tstr = some .string) (cS : P.cellsOf tstr = 1)
    (hP : flatI P 4 tpt = true) (cP : P.cellsOf tpt = 2) (hI : P.underlying tint = some (.int .i64)) (cI : P.cellsOf tint = 1)
    (hf : DataW.trod enc P w base (fun _ => true) held fuel t [v] = some x) :
    ∃ (a : Option Addr) (len cap : Nat) (zs : List Sit), v = .slice a len cap ∧ SRow w a zs ∧ zs.length = len ∧ len ≤ 9223372036854775807 ∧ ∀ j, j < len → (zs.getD j Sit.d).s.size ≤ 9223372036854775807 := by
  rcases Deep.open_slice ht hf with ⟨hcs, _⟩ | ⟨x, len, cap, m, n, D, Pl, hcs, _, hl, hm, hmm, _, hi⟩
  · simp at hcs
    subst hcs
    exact ⟨none, 0, 0, [], rfl, .inl rfl, rfl, by omega, fun j hj => by omega⟩
  · simp at hcs
    subst hcs
    simp only [if_true] at hmm
    subst hmm
    have key : ∀ i, i < len → ∃ z : Sit, (∀ k u, z.row[k]? = some u → w.cell? ((x.add (i * 5)).add k) = some u) ∧ z.s.size ≤ 9223372036854775807 := by
      intro i hil
      obtain ⟨cs', hc, ht'⟩ := hi i (by omega)
      rw [hC] at hc
      obtain ⟨_, hcl, hat⟩ := World.cells?_some hc
      obtain ⟨z, rfl, hz⟩ := trod_site hs hL hC hS cS hP cP hI cI ht'
      refine ⟨z, fun k u hk => ?_, hz⟩
      have hk5 : k < 5 := by
        rcases Nat.lt_or_ge k 5 with h | h
        · exact h
        · rw [List.getElem?_eq_none (by simpa [Sit.row] using h)] at hk; cases hk
      have := hat k hk5
      rw [hk] at this
      by_cases hz0 : k = 0
      · subst hz0; simpa [Addr.add] using this
      · exact this
    obtain ⟨f, hf⟩ : ∃ f : Nat → Sit, ∀ i, i < len → (∀ k u, (f i).row[k]? = some u → w.cell? ((x.add (i * 5)).add k) = some u) ∧ (f i).s.size ≤ 9223372036854775807 := by
      refine ⟨fun i => if h : i < len then Classical.choose (key i h) else Sit.d, fun i h => ?_⟩
      simp only [dif_pos h]
      exact Classical.choose_spec (key i h)
    have hml : maxLen ≤ 9223372036854775807 := by decide
    have hgd : ∀ j, j < len → ((List.range len).map f).getD j Sit.d = f j := fun j hj => by simp [List.getD_eq_getElem?_getD, hj]
    refine ⟨some x, len, _, (List.range len).map f, rfl, ?_, by simp, by omega, fun j hj => by rw [hgd j hj]; exact (hf j hj).2⟩
    by_cases h0 : len = 0
    · exact .inl (by simp [h0])
    · have hx := spot_none ((hf 0 (by omega)).1 0 _ rfl)
      simp only [Addr.add, Nat.zero_mul, if_pos] at hx
      obtain ⟨xb, xo, xs⟩ := x
      simp at hx
      subst hx
      refine .inr ⟨xb, xo, rfl, World.block_lt_of_cell? _ _ (by simpa [Addr.add] using (hf 0 (by omega)).1 0 _ rfl), fun j hj => ?_⟩
      have hj' : j < len := by simpa using hj
      have hc := (hf j hj').1
      rw [hgd j hj']
      have q0 := hc 0 _ rfl
      have q1 := hc 1 _ rfl
      have q2 := hc 2 _ rfl
      have q3 := hc 3 _ rfl
      have q4 := hc 4 _ rfl
      by_cases hz : j = 0
      · subst hz
        exact ⟨by simpa [Addr.add] using q0, by simpa [Addr.add] using q1, by simpa [Addr.add] using q2, by simpa [Addr.add] using q3, by simpa [Addr.add] using q4⟩
      · have hz5 : ¬ j * 5 = 0 := by omega
        exact ⟨by simpa [Addr.add, hz5, hz] using q0, by simpa [Addr.add, hz5, hz] using q1, by simpa [Addr.add, hz5, hz] using q2, by simpa [Addr.add, hz5, hz] using q3, by simpa [Addr.add, hz5, hz] using q4⟩
end
theorem open_plate {H : Type} {enc : TypeId × Value → H} {P : Program} {w : World} {base : Nat} {held : Bool} {r : Reach} {b0 : Nat} {t ts e tstr tpt tint : TypeId} {gs fs : Array Field} {v : Value} {d : DataW H} {p : List MemPlace}
    (hg : P.underlying t = some (.struct gs)) (gL : gs.toList.map (fun f => (f.offset, f.type)) = [(0, tint), (1, tint), (2, tint), (3, tint), (4, ts)]) (gC : P.cellsOf t = 5) (tC : P.cellsOf ts = 1)
    (ht : P.underlying ts = some (.slice e)) (hs : P.underlying e = some (.struct fs))
    (hL : fs.toList.map (fun f => (f.offset, f.type)) = [(0, tstr), (1, tpt), (3, tint), (4, tint)]) (hC : P.cellsOf e = 5) (hS : P.underlying tstr = some .string) (cS : P.cellsOf tstr = 1)
    (hP : flatI P 4 tpt = true) (cP : P.cellsOf tpt = 2) (hI : P.underlying tint = some (.int .i64)) (cI : P.cellsOf tint = 1)
    (hv : Value.okWide P w r b0 t v) (h : DataW.Trod enc P w base (fun _ => true) held t v d p) :
    ∃ (pw ph pm pg : Int) (a : Option Addr) (len cap : Nat) (zs : List Sit), v = .agg #[.int .i64 pw, .int .i64 ph, .int .i64 pm, .int .i64 pg, .slice a len cap] ∧ SRow w a zs ∧ zs.length = len ∧ len ≤ 9223372036854775807 ∧ ∀ j, j < len → (zs.getD j Sit.d).s.size ≤ 9223372036854775807 := by
  obtain ⟨cs, rfl, hsz⟩ := okWide_struct hg hv
  obtain ⟨fuel, hf⟩ := h
  have hcs : (Value.agg cs).cells.toList = cs.toList := by simp [Value.cells]
  rw [hcs] at hf
  obtain ⟨c0, c1, c2, c3, c4, hl⟩ := list5 (l := cs.toList) (by simpa [gC] using hsz)
  rw [hl] at hf
  obtain ⟨m0, y0, h0⟩ := trod_fld hg hf _ gL 0 0 tint rfl
  obtain ⟨m1, y1, h1⟩ := trod_fld hg hf _ gL 1 1 tint rfl
  obtain ⟨m2, y2, h2⟩ := trod_fld hg hf _ gL 2 2 tint rfl
  obtain ⟨m3, y3, h3⟩ := trod_fld hg hf _ gL 3 3 tint rfl
  obtain ⟨m4, y4, h4⟩ := trod_fld hg hf _ gL 4 4 ts rfl
  rw [cI] at h0 h1 h2 h3
  rw [tC] at h4
  simp only [List.drop_zero, List.drop_succ_cons, List.take_succ_cons, List.take_zero] at h0 h1 h2 h3 h4
  obtain ⟨n0, e0, _, _⟩ := DataW.trod_int hI h0
  obtain ⟨n1, e1, _, _⟩ := DataW.trod_int hI h1
  obtain ⟨n2, e2, _, _⟩ := DataW.trod_int hI h2
  obtain ⟨n3, e3, _, _⟩ := DataW.trod_int hI h3
  obtain ⟨a, len, cap, zs, e4, k1, k2, k3, k4⟩ := open_sites_cells ht hs hL hC hS cS hP cP hI cI h4
  simp at e0 e1 e2 e3
  subst e0; subst e1; subst e2; subst e3; subst e4
  refine ⟨n0, n1, n2, n3, a, len, cap, zs, ?_, k1, k2, k3, k4⟩
  rw [← hl]
end Go.Proofs.Ytgkpganbepbjnaa

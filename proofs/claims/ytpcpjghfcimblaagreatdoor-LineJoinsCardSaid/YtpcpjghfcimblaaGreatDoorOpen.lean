/- Arguments opened to cells; an argument that stays as it was. -/
import Derived.Test.YtpcpjghfcimblaaGreatDoorKa
import Derived.Deep.Slices
import Derived.Deep.Fields
import Derived.ChangeSame
import Derived.WideKeyArgs
import Derived.KernelRfl
import Derived.OpenShut
namespace Go.Proofs.YtpcpjghfcimblaaGreatDoor
open Go.RowKit Go.ChangeShapes Go.WideShapes Go.Deep

section
variable {H : Type} {enc : TypeId × Value → H} {P : Program} {w : World} {base : Nat} {spare : Nat → Bool} {held : Bool}
theorem open_slice_fields {t e : TypeId} {fs : Array Field} {fuel : Nat} {cs : List Value} {x : DataW H × List MemPlace} (ht : P.underlying t = some (.slice e)) (he : P.underlying e = some (.struct fs))
    (hone : oneCellFields P fs = true) (hC : P.cellsOf e = fs.size) (h : DataW.trod enc P w base spare held fuel t cs = some x) :
    (cs = [.slice none 0 0] ∧ x = (.nil, [])) ∨
    ∃ (a : Addr) (len cap m : Nat) (D : Nat → DataW H) (Pl : Nat → List MemPlace), cs = [.slice (some a) len cap] ∧ base ≤ a.block ∧ len ≤ cap ∧ cap ≤ maxLen ∧ m = (if spare a.block then cap else len) ∧
      x = (.slice ((List.range len).map D) ((List.range (m - len)).map fun j => D (len + j)), MemPlace.row a (m * fs.size) ++ (List.range m).flatMap Pl) ∧
      ∀ i, i < m → ∃ (ys : List (DataW H × List MemPlace)) (n : Nat), D i = .agg (ys.map (·.1)) ∧ Pl i = ys.flatMap (·.2) ∧ ys.length = fs.size ∧
        ∀ (j : Nat) (f : Field), fs[j]? = some f → ∃ (v : Value) (y : DataW H × List MemPlace), w.cell? (a.add (i * fs.size + j)) = some v ∧ ys[j]? = some y ∧ DataW.trod enc P w base spare held n f.type [v] = some y := by
  rcases open_slice ht h with h0 | ⟨a, len, cap, m, n, D, Pl, hcs, hb, hl, hm, hmm, hx, hi⟩
  · exact .inl h0
  · refine .inr ⟨a, len, cap, m, D, Pl, hcs, hb, hl, hm, hmm, by rw [hC] at hx; exact hx, fun i him => ?_⟩
    obtain ⟨cs', hc, ht'⟩ := hi i him
    rw [hC] at hc
    obtain ⟨ys, n', hn', hy, hlen, hyl, hf⟩ := DataW.trod_struct he ht'
    obtain ⟨_, hcl, hat⟩ := World.cells?_some hc
    simp only [Prod.mk.injEq] at hy
    refine ⟨ys, n', hy.1, hy.2, hyl, fun j f hj => ?_⟩
    obtain ⟨ho, hk⟩ := hone_of hone j f hj
    have hjl : j < fs.size := (Array.getElem?_eq_some_iff.1 hj).1
    have hcell := hat j hjl
    have hv : cs'[j]? = some (cs'[j]'(by omega)) := List.getElem?_eq_getElem (by omega)
    have h1 := hf j f hj
    rw [ho, hk] at h1
    have hone' : (cs'.drop j).take 1 = [cs'[j]'(by omega)] := by
      rw [List.drop_eq_getElem_cons (by omega)]
      rfl
    rw [hone'] at h1
    have hys : ys[j]? = some (ys[j]'(by omega)) := List.getElem?_eq_getElem (by omega)
    refine ⟨_, _, ?_, hys, h1.trans hys⟩
    rw [← Go.Deep.add_add, hcell, hv]
end

theorem laid_out : laidOutB Tryz.prog = true := by kernel_rfl
/-- An argument reads behind the call as before. -/
theorem stays {H : Type} {enc : TypeId × Value → H} {W W' : World} {t : TypeId} {v : Value} {d : DataW H} {ps : List MemPlace} (hr : Tryz.prog.readableRec t = true) (hrow : t < Tryz.prog.types.size)
    (h : DataW.Trod enc Tryz.prog W 0 (fun _ => true) true t v d ps) (hlt : ∀ p ∈ ps, p.block < W.heap.size) (bel : Below W.heap.size W W') : DataW.Trod enc Tryz.prog W' 0 (fun b => decide (b < W.heap.size)) true t v d ps :=
  Go.WideElems.Trod_stays laid_out hr hrow h (fun p hp => bel.same (hlt p hp)) (fun p hp => by simpa using hlt p hp)

theorem flat_get {α : Type} (f : α → List Value) (C : Nat) (hC : ∀ a, (f a).length = C) (rows : List α) : ∀ (j : Nat) (u : Value), (rows.flatMap f)[j]? = some u → ∃ (i r : Nat) (hi : i < rows.length), r < C ∧ j = i * C + r ∧ (f rows[i])[r]? = some u := by
  induction rows with
  | nil => intro j u h; simp at h
  | cons a rows ih =>
    intro j u h
    rw [List.flatMap_cons] at h
    by_cases hj : j < (f a).length
    · rw [List.getElem?_append_left hj] at h
      exact ⟨0, j, by simp, by rw [← hC a]; exact hj, by simp, h⟩
    · rw [List.getElem?_append_right (by omega)] at h
      obtain ⟨i, r, hi, hr, hj2, hu⟩ := ih _ u h
      rw [hC a] at hj2 hj
      exact ⟨i + 1, r, by simp; omega, hr, by rw [Nat.succ_mul]; omega, by simpa using hu⟩

/-- A slice whose elements' cells read as rows. -/
theorem Rd.of_cells {α : Type} (f : α → List Value) (C : Nat) (hC : ∀ a, (f a).length = C) (hpos : 0 < C) {w : World} {a : Addr} {len cap : Nat} (hl : len ≤ cap) (rows : List α) (hrl : rows.length = len)
    (hc : ∀ (i : Nat) (hi : i < rows.length) (r : Nat), r < C → w.cell? (a.add (i * C + r)) = (f rows[i])[r]?) : Rd w w.heap.size (.slice (some a) len cap) len (rows.flatMap f) := by
  refine ⟨some a, cap, rfl, hl, fun hn => ?_⟩
  obtain ⟨g, o, s⟩ := a
  have h0 := hc 0 (by omega) 0 hpos
  rw [List.getElem?_eq_getElem (by rw [hC]; exact hpos)] at h0
  have hspot : s = none := by simpa [Addr.add] using World.cell?_spot h0
  subst hspot
  rw [addr_add] at h0
  refine ⟨g, o, rfl, World.block_lt_of_cell? _ _ h0, fun j u hu => ?_⟩
  obtain ⟨i, r, hi, hr, rfl, hu2⟩ := flat_get f C hC rows j u hu
  rw [← addr_add, hc i hi r hr, hu2]

end Go.Proofs.YtpcpjghfcimblaaGreatDoor

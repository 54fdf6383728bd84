/- Rows of words in memory. -/
import Derived.Test.YtmmdniahfldljaaDoorRows
import Derived.Test.YtmmdniahfldljaaDoorKa
namespace Go.Proofs.YtmmdniahfldljaaDoor
open Go.RowKit

/-- Words in memory. -/
def WAt (w : World) (ws : List (List UInt8)) (v : Value) : Prop := ∃ g, v = .slice (some ⟨g, 0, none⟩) ws.length ws.length ∧ g < w.heap.size ∧ ∀ j (hj : j < ws.length), w.cell? ⟨g, j, none⟩ = some (.string ⟨ws[j].toArray⟩)
theorem WAt.form {w : World} {ws : List (List UInt8)} {v : Value} (h : WAt w ws v) : ∃ g n, v = .slice (some ⟨g, 0, none⟩) n n := by obtain ⟨g, rfl, _⟩ := h; exact ⟨g, _, rfl⟩
theorem WAt.below {w w' : World} {ws : List (List UInt8)} {v : Value} (h : WAt w ws v) (hb : Below w.heap.size w w') : WAt w' ws v := by
  obtain ⟨g, rfl, hg, hc⟩ := h
  exact ⟨g, rfl, Nat.lt_of_lt_of_le hg hb.size, fun j hj => (hb.cell (p := ⟨g, j, none⟩) hg).trans (hc j hj)⟩
theorem WAt.set {w : World} {ws : List (List UInt8)} {g b : Nat} (h : WAt w ws (.slice (some ⟨g, 0, none⟩) ws.length ws.length)) (hne : g ≠ b) (i : Nat) (u : Value) : WAt (w.setCell ⟨b, i, none⟩ u) ws (.slice (some ⟨g, 0, none⟩) ws.length ws.length) := by
  obtain ⟨g', h1, hg, hc⟩ := h
  simp at h1
  subst h1
  exact ⟨g, rfl, by simpa [World.setCell] using hg, fun j hj => (World.cell?_of_block (Below.heap_setCell w ⟨b, i, none⟩ u g hne)).trans (hc j hj)⟩
theorem fields_laid (w : World) (ws : List (List UInt8)) : WAt (w.alloc (.cells (ws.map fun l => Value.string ⟨l.toArray⟩).toArray 9)) ws (.slice (some ⟨w.heap.size, 0, none⟩) ws.length ws.length) :=
  ⟨_, rfl, by simp, fun j hj => by rw [cell_of_heap (heap_alloc_new w _)]; simp [hj]⟩
theorem parts_cells (w : World) (A : Obj) (xs : List (List UInt8)) (t : TypeId) : ∀ j (hj : j < xs.length), ((w.alloc A).alloc (.cells (xs.map fun l => Value.string ⟨l.toArray⟩).toArray t)).cell? ⟨w.heap.size + 1, j, none⟩ = some (.string ⟨xs[j].toArray⟩) := by
  intro j hj
  have h := heap_alloc_new (w.alloc A) (.cells (xs.map fun l => Value.string ⟨l.toArray⟩).toArray t)
  rw [show (w.alloc A).heap.size = w.heap.size + 1 by simp] at h
  rw [cell_of_heap h]
  simp [hj]
end Go.Proofs.YtmmdniahfldljaaDoor

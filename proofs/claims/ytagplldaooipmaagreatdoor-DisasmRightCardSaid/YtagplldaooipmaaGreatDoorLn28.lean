/- Ln28. -/
import Derived.Test.YtagplldaooipmaaGreatDoorKn
import Derived.Test.YtagplldaooipmaaGreatDoorOwnV
namespace Go.Proofs.YtagplldaooipmaaGreatDoor
open Go.RowKit
def arSub (w : World) (S : Nat → Prop) (v : Value) (a : Ar) : Prop := SubAt w S v a.e.sub
theorem arSub_keep : ∀ (w w' : World) (S S' : Nat → Prop) (v : Value) (a : Ar), arSub w S v a → (∀ p : Addr, S p.block → w'.cell? p = w.cell? p) → (∀ g, S g → S' g) → arSub w' S' v a := fun _ _ _ _ _ _ h hk hS => SubAt.keep h hk hS
theorem arCells_len (a : Ar) (v : Value) : (arCells a v).length = 8 := rfl
theorem arCells_one (a : Ar) (v : Value) (h : v.oneCell' = true) : ∀ u ∈ arCells a v, u.oneCell' = true := by
  intro u hu
  simp [arCells] at hu
  rcases hu with rfl | rfl | rfl | rfl | rfl | rfl | rfl | rfl <;> first | rfl | exact h
abbrev ArOwn (w : World) (base : Nat) (v : Value) (l : List Ar) (vs : List Value) : Prop := OwnV arCells arSub 41 8 w base v l vs
theorem own_slice {w : World} {base size n : Nat} {e : TypeId} {v : Value} {xs : List Value} (h : w.ownsRow base e size v n xs) (_ : 0 < size) :
    ∃ A c, v = .slice A n c ∧ n ≤ c ∧ n ≤ maxLen ∧ (0 < n → ∃ g, A = some ⟨g, 0, none⟩ ∧ base ≤ g ∧ g < w.heap.size ∧ v.ownBlock = some g ∧ ∀ j u, xs[j]? = some u → w.cell? ⟨g, j, none⟩ = some u) := by
  rcases h.2 with ⟨rfl, rfl⟩ | ⟨g, cap, cur, rfl, hb, hg, h1, h2, h3, h4⟩
  · exact ⟨none, 0, rfl, Nat.le_refl _, Nat.zero_le _, fun h => absurd h (by omega)⟩
  · refine ⟨_, cap, rfl, h1, Nat.le_trans h1 h2, fun _ => ⟨g, rfl, hb, lt_of_heap hg, rfl, fun j u hu => ?_⟩⟩
    rw [cell_of_heap hg]
    rw [← h4] at hu
    rw [List.getElem?_take] at hu
    split at hu
    · simpa using hu
    · simp at hu
theorem OwnV.arAt {w : World} {base : Nat} {v : Value} {l : List Ar} {vs : List Value} (h : ArOwn w base v l vs) : ArAt w (fun g => base ≤ g ∧ g < w.heap.size) v l := by
  obtain ⟨h1, h2, h3⟩ := h
  obtain ⟨A, c, rfl, hc, hm, hrow⟩ := own_slice h2 (by omega)
  refine ⟨A, c, fun i => vs.getD i (.slice none 0 0), rfl, hc, hm, fun h0 => ?_, fun i hi => SubAt.more (h3 i hi) (fun g hg => ⟨hg.1, hg.2.1⟩)⟩
  obtain ⟨g, rfl, g1, g2, _, g3⟩ := hrow h0
  refine ⟨g, 0, rfl, ⟨g1, g2⟩, fun i hi j u hu => ?_⟩
  rw [Nat.zero_add]
  exact g3 _ _ (rowV_get arCells_len l vs h1 i hi j u hu)
end Go.Proofs.YtagplldaooipmaaGreatDoor

/- strings.Join over a slice that reads as a list of texts. -/
import Derived.Test.YtmmdniahfldljaaDoorKa
import Derived.Test.YtmmdniahfldljaaDoorShelf
namespace Go.Proofs.YtmmdniahfldljaaDoor
open Go.RowKit

def strV (s : List UInt8) : Value := .string ⟨s.toArray⟩
theorem join_any (xs : List (List UInt8)) (sep : List UInt8) (v : Value) (w : World) (hr : Rd w w.heap.size v xs.length (xs.map strV)) (hl : xs.length ≤ 1000000) (hlen : (sep.intercalate xs).length ≤ 1000000000) :
    Calls Tryd.prog 13 #[v, .string ⟨sep.toArray⟩] w fun e w' => e = .returned (.string ⟨(sep.intercalate xs).toArray⟩) ∧ Below w.heap.size w w' := by
  obtain ⟨A, c, rfl, hc, h3⟩ := hr
  by_cases h0 : xs = []
  · subst h0
    refine (Tryd.strings_Join_none A c ⟨sep.toArray⟩ w).mono ?_
    rintro e w1 ⟨rfl, rfl⟩
    exact ⟨rfl, Below.refl _ _⟩
  · have h0' : 0 < xs.length := List.length_pos_iff.mpr h0
    obtain ⟨g, o, rfl, hg, hcells⟩ := h3 h0'
    have e1 : (xs.map fun t => (⟨t.toArray⟩ : ByteArray)).map (·.data.toList) = xs := by rw [List.map_map]; exact List.map_id xs
    have hj := Tryd.strings_Join g o c (xs.map fun t => ⟨t.toArray⟩) ⟨sep.toArray⟩ w (fun j x hx => by
      refine hcells j (.string x) ?_
      rw [List.getElem?_map] at hx ⊢
      cases hq : xs[j]? with
      | none => rw [hq] at hx; simp at hx
      | some y => rw [hq] at hx; simp at hx; simp [strV, hx]) hg (by simp; omega) (by simpa using hc) (by
      rw [e1]
      show (sep.intercalate xs).length ≤ _
      omega)
    rw [e1, List.length_map] at hj
    exact hj
end Go.Proofs.YtmmdniahfldljaaDoor

/- Symbols that came in, opened to cells. -/
import Derived.Test.YtpmeabikhonaoaaDoorRef5b
import Derived.Test.YtpmeabikhonaoaaDoorOpen
namespace Go.Proofs.YtpmeabikhonaoaaDoor
open Go.RowKit Go.ChangeShapes Go.WideShapes Go.Deep

theorem fields_sym : ∃ f0 f1 : Field, Tryd.prog.underlying 67 = some (.struct #[f0, f1]) ∧ oneCellFields Tryd.prog #[f0, f1] = true ∧ f0.type = 9 ∧ f1.type = 22 := ⟨_, _, Tryd.underlying67, by kernel_rfl, rfl, rfl⟩
set_option maxRecDepth 100000 in
theorem open_syms {H : Type} {enc : TypeId × Value → H} {W : World} {base : Nat} {v : Value} {d : DataW H} {ps : List MemPlace} (hv : Value.okWide Tryd.prog W .any base 26 v)
    (h : DataW.Trod enc Tryd.prog W 0 (fun _ => true) true 26 v d ps) : ∃ l : List Sy, Rd W W.heap.size v l.length (syRow l) ∧ (l.length ≤ maxLen ∧ ∀ s ∈ l, s.2 ≤ 65535) := by
  obtain ⟨a, len, cap, rfl⟩ := okWide_slice Tryd.underlying26 hv
  obtain ⟨fuel, hf⟩ := h
  obtain ⟨f0, f1, hs, hone, t0, t1⟩ := fields_sym
  rcases open_slice_fields Tryd.underlying26 hs hone (by kernel_rfl) hf with ⟨hcs, _⟩ | ⟨a', len', cap', m, D, Pl, hcs, hb, hl, hm, hmm, hx, hi⟩
  · simp [Value.cells] at hcs
    obtain ⟨rfl, rfl, rfl⟩ := hcs
    exact ⟨[], ⟨none, 0, rfl, by simp, fun h => absurd h (by simp)⟩, by simp, by simp⟩
  · simp [Value.cells] at hcs
    obtain ⟨rfl, rfl, rfl⟩ := hcs
    simp at hmm
    subst hmm
    obtain ⟨F, hF⟩ := choose_lt (α := Sy) (n := len) (p := fun i t => (∀ r, r < 2 → W.cell? (a'.add (i * 2 + r)) = (syCells t)[r]?) ∧ t.2 ≤ 65535) (fun i hil => by
      obtain ⟨ys, n, _, _, _, hf⟩ := hi i (by omega)
      obtain ⟨v0, y0, c0, _, r0⟩ := hf 0 f0 rfl
      obtain ⟨v1, y1, c1, _, r1⟩ := hf 1 f1 rfl
      rw [t0] at r0
      rw [t1] at r1
      obtain ⟨⟨⟨s0⟩⟩, h0, _, _⟩ := DataW.trod_string Tryd.underlying9 r0
      obtain ⟨n1, h1, _, wf1⟩ := DataW.trod_int Tryd.underlying22 r1
      have b1 := bounds_u16 wf1
      simp at h0 h1
      subst h0 h1
      refine ⟨(s0, n1.toNat), fun r hr => ?_, by show n1.toNat ≤ 65535; omega⟩
      match r, hr with
      | 0, _ => simpa [syCells] using c0
      | 1, _ => simpa [syCells, Int.toNat_of_nonneg b1.1] using c1)
    refine ⟨(List.range len).map F, ?_, ?_, ?_⟩
    · rw [List.length_map, List.length_range]
      refine Rd.of_cells syCells 2 (fun _ => rfl) (by omega) hl ((List.range len).map F) (by simp) (fun i hi r hr => ?_)
      simp at hi
      simpa using (hF i hi).1 r hr
    · rw [List.length_map, List.length_range]
      omega
    · intro s hs
      obtain ⟨i, hi, rfl⟩ := List.mem_map.1 hs
      exact (hF i (by simpa using hi)).2
end Go.Proofs.YtpmeabikhonaoaaDoor

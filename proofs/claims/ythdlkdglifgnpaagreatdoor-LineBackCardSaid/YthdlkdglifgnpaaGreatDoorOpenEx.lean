/- Expressions that came in, opened to cells. -/
import Derived.Test.YthdlkdglifgnpaaGreatDoorKe
import Derived.Test.YthdlkdglifgnpaaGreatDoorOpen
namespace Go.Proofs.YthdlkdglifgnpaaGreatDoor
open Go.RowKit Go.ChangeShapes Go.WideShapes Go.Deep

theorem fields_expr : ∃ f0 f1 f2 f3 : Field, Tryz.prog.underlying 57 = some (.struct #[f0, f1, f2, f3]) ∧ oneCellFields Tryz.prog #[f0, f1, f2, f3] = true ∧ f0.type = 9 ∧ f1.type = 49 ∧ f2.type = 9 ∧ f3.type = 55 := ⟨_, _, _, _, Tryz.underlying57, by kernel_rfl, rfl, rfl, rfl, rfl⟩
instance : Inhabited Ex := ⟨ex0⟩
theorem cells_expr : Tryz.prog.cellsOf 57 = 4 := by kernel_rfl
/-- A part that came in. -/
def InAt (W : World) (v0 v1 v2 v3 : Value) (e : Ex) : Prop :=
  v0 = .string ⟨e.op.toArray⟩ ∧ v1 = .int .u16 e.n ∧ v2 = .string ⟨e.name.toArray⟩ ∧ SubAt W (· < W.heap.size) v3 e.sub ∧ e.n ≤ 65535 ∧ e.op.length ≤ maxLen ∧ e.name.length ≤ maxLen
theorem list4 {α : Type} {l : List α} (h : l.length = 4) : ∃ a b c d, l = [a, b, c, d] := by
  match l, h with
  | [a, b, c, d], _ => exact ⟨a, b, c, d, rfl⟩
theorem open_sub {H : Type} {enc : TypeId × Value → H} {W : World} : ∀ (fuel : Nat) (v : Value) (x : DataW H × List MemPlace), DataW.trod enc Tryz.prog W 0 (fun _ => true) true fuel 55 [v] = some x → ∃ sub : List Ex, SubAt W (· < W.heap.size) v sub := by
  intro fuel
  induction fuel using Nat.strongRecOn with
  | ind fuel ih =>
    intro v x h
    obtain ⟨f0, f1, f2, f3, hs, hone, t0, t1, t2, t3⟩ := fields_expr
    rcases DataW.trod_slice Tryz.underlying55 h with ⟨hcs, _⟩ | ⟨a, len, cap, elems, rest, n, hfu, hcs, hx, hb, hl, hm, hlen, hel, hsp, hns⟩
    · simp at hcs
      subst hcs
      exact ⟨[], SubAt.nil _ _⟩
    · simp at hcs
      subst hcs
      rw [cells_expr] at hel
      obtain ⟨F, hF⟩ := choose_lt (α := Ex × Value) (n := len) (p := fun i q => ∃ v0 v1 v2, W.cell? (a.add (i * 4)) = some v0 ∧ W.cell? (a.add (i * 4 + 1)) = some v1 ∧ W.cell? (a.add (i * 4 + 2)) = some v2 ∧ W.cell? (a.add (i * 4 + 3)) = some q.2 ∧ InAt W v0 v1 v2 q.2 q.1) (fun i hi => by
        have h1 := hel i hi
        rw [List.getElem?_eq_getElem (by omega)] at h1
        obtain ⟨cs', hc, ht'⟩ := Option.bind_eq_some_iff.1 h1
        obtain ⟨ys, n', hn', hy, hlen', hyl, hf⟩ := DataW.trod_struct hs ht'
        obtain ⟨_, hcl, hat⟩ := World.cells?_some hc
        obtain ⟨c0, c1, c2, c3, rfl⟩ := list4 hcl
        obtain ⟨y0, y1, y2, y3, rfl⟩ := list4 (hyl.trans rfl)
        obtain ⟨o0, k0⟩ := hone_of hone 0 f0 rfl
        obtain ⟨o1, k1⟩ := hone_of hone 1 f1 rfl
        obtain ⟨o2, k2⟩ := hone_of hone 2 f2 rfl
        obtain ⟨o3, k3⟩ := hone_of hone 3 f3 rfl
        have r0 := hf 0 f0 rfl
        have r1 := hf 1 f1 rfl
        have r2 := hf 2 f2 rfl
        have r3 := hf 3 f3 rfl
        rw [o0, k0, t0] at r0
        rw [o1, k1, t1] at r1
        rw [o2, k2, t2] at r2
        rw [o3, k3, t3] at r3
        have a0 := hat 0 (by omega)
        have a1 := hat 1 (by omega)
        have a2 := hat 2 (by omega)
        have a3 := hat 3 (by omega)
        rw [Go.Deep.add_add] at a0 a1 a2 a3
        obtain ⟨⟨⟨s0⟩⟩, g0, _, w0⟩ := DataW.trod_string Tryz.underlying9 r0
        obtain ⟨n1, g1, _, wf1⟩ := DataW.trod_int Tryz.underlying49 r1
        obtain ⟨⟨⟨s2⟩⟩, g2, _, w2⟩ := DataW.trod_string Tryz.underlying9 r2
        have b1 := bounds_u16 wf1
        obtain ⟨sub, hsub⟩ := ih n' (by omega) c3 _ r3
        simp at g0 g1 g2
        subst g0 g1 g2
        refine ⟨(.mk s0 n1.toNat s2 sub, c3), _, _, _, a0, a1, a2, a3, rfl, ?_, rfl, hsub, ?_, ?_, ?_⟩
        · show Value.int .u16 n1 = Value.int .u16 (n1.toNat : Int)
          rw [Int.toNat_of_nonneg b1.1]
        · show n1.toNat ≤ 65535
          omega
        · show s0.length ≤ maxLen
          simpa [ByteArray.size] using w0
        · show s2.length ≤ maxLen
          simpa [ByteArray.size] using w2)
      have hll : ((List.range len).map fun i => (F i).1).length = len := by simp
      have hg : ∀ i (hi : i < ((List.range len).map fun i => (F i).1).length), ((List.range len).map fun i => (F i).1)[i] = (F i).1 := fun i hi => by simp
      have key : SubAt W (· < W.heap.size) (.slice (some a) ((List.range len).map fun i => (F i).1).length cap) ((List.range len).map fun i => (F i).1) := by
        refine .mk (some a) cap _ (fun i => (F i).2) (by omega) (by omega) (fun h0 => ?_) (fun i hi => ?_) (fun i hi => ?_)
        · obtain ⟨g, o, s⟩ := a
          obtain ⟨_, _, _, q0, _⟩ := hF 0 (by omega)
          have hspot : s = none := by simpa [Addr.add] using World.cell?_spot q0
          subst hspot
          rw [addr_add] at q0
          refine ⟨g, o, rfl, World.block_lt_of_cell? _ _ q0, fun i hi => ?_⟩
          obtain ⟨v0, v1, v2, c0, c1, c2, c3, rfl, rfl, rfl, _⟩ := hF i (by omega)
          rw [addr_add] at c0 c1 c2 c3
          rw [hg i hi]
          exact ⟨c0, c1, c2, c3⟩
        · obtain ⟨_, _, _, _, _, _, _, _, _, _, _, h5⟩ := hF i (by omega)
          rw [hg i hi]
          exact h5
        · obtain ⟨_, _, _, _, _, _, _, _, _, _, h4, _⟩ := hF i (by omega)
          rw [hg i hi]
          exact h4
      rw [hll] at key
      exact ⟨_, key⟩
set_option maxRecDepth 100000 in
theorem open_expr {H : Type} {enc : TypeId × Value → H} {W : World} {base : Nat} {v : Value} {d : DataW H} {ps : List MemPlace} (hv : Value.okWide Tryz.prog W .any base 57 v)
    (h : DataW.Trod enc Tryz.prog W 0 (fun _ => true) true 57 v d ps) : ∃ (e : Ex) (vs : Value), v = exV e vs ∧ SubAt W (· < W.heap.size) vs e.sub ∧ okE e := by
  obtain ⟨f0, f1, f2, f3, hs, hone, t0, t1, t2, t3⟩ := fields_expr
  obtain ⟨v0, v1, v2, v3, y0, y1, y2, y3, n, rfl, _, _, r0, r1, r2, r3⟩ := Joins.open_agg4 hs hone cells_expr hv h
  rw [t0] at r0
  rw [t1] at r1
  rw [t2] at r2
  rw [t3] at r3
  obtain ⟨⟨⟨s0⟩⟩, g0, _, w0⟩ := DataW.trod_string Tryz.underlying9 r0
  obtain ⟨n1, g1, _, wf1⟩ := DataW.trod_int Tryz.underlying49 r1
  obtain ⟨⟨⟨s2⟩⟩, g2, _, w2⟩ := DataW.trod_string Tryz.underlying9 r2
  have b1 := bounds_u16 wf1
  obtain ⟨sub, hsub⟩ := open_sub n v3 _ r3
  simp at g0 g1 g2
  subst g0 g1 g2
  refine ⟨.mk s0 n1.toNat s2 sub, v3, ?_, hsub, ?_, ?_, ?_⟩
  · show Value.agg #[.string ⟨⟨s0⟩⟩, .int .u16 n1, .string ⟨⟨s2⟩⟩, v3] = Value.agg #[.string ⟨⟨s0⟩⟩, .int .u16 (n1.toNat : Int), .string ⟨⟨s2⟩⟩, v3]
    rw [Int.toNat_of_nonneg b1.1]
  · show n1.toNat ≤ 65535
    omega
  · show s0.length ≤ maxLen
    simpa [ByteArray.size] using w0
  · show s2.length ≤ maxLen
    simpa [ByteArray.size] using w2
end Go.Proofs.YthdlkdglifgnpaaGreatDoor

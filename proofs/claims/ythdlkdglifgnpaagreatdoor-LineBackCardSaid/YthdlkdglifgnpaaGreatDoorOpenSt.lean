/- Statements that came in, opened to cells. -/
import Derived.Test.YthdlkdglifgnpaaGreatDoorOpenEx
import Derived.Test.YthdlkdglifgnpaaGreatDoorLaw12e
namespace Go.Proofs.YthdlkdglifgnpaaGreatDoor
open Go.RowKit Go.ChangeShapes Go.WideShapes Go.Deep

theorem fields_arg : ∃ f0 f1 f2 f3 f4 : Field, Tryz.prog.underlying 59 = some (.struct #[f0, f1, f2, f3, f4]) ∧ (f0.offset = 0 ∧ f0.type = 9) ∧ (f1.offset = 1 ∧ f1.type = 9) ∧ (f2.offset = 2 ∧ f2.type = 4) ∧ (f3.offset = 3 ∧ f3.type = 4) ∧ (f4.offset = 4 ∧ f4.type = 57) := ⟨_, _, _, _, _, Tryz.underlying59, ⟨rfl, rfl⟩, ⟨rfl, rfl⟩, ⟨rfl, rfl⟩, ⟨rfl, rfl⟩, ⟨rfl, rfl⟩⟩
theorem cells_arg : Tryz.prog.cellsOf 59 = 8 := by kernel_rfl
theorem cells_str : Tryz.prog.cellsOf 9 = 1 := by kernel_rfl
theorem cells_bool : Tryz.prog.cellsOf 4 = 1 := by kernel_rfl
theorem cells_stmt : Tryz.prog.cellsOf 25 = 4 := by kernel_rfl
instance : Inhabited Ar := ⟨ar0⟩
theorem list8 {α : Type} {l : List α} (h : l.length = 8) : ∃ a b c d e f g i, l = [a, b, c, d, e, f, g, i] := by
  match l, h with
  | [a, b, c, d, e, f, g, i], _ => exact ⟨a, b, c, d, e, f, g, i, rfl⟩
theorem list5 {α : Type} {l : List α} (h : l.length = 5) : ∃ a b c d e, l = [a, b, c, d, e] := by
  match l, h with
  | [a, b, c, d, e], _ => exact ⟨a, b, c, d, e, rfl⟩
theorem open_args {H : Type} {enc : TypeId × Value → H} {W : World} (fuel : Nat) (v : Value) (x : DataW H × List MemPlace) (h : DataW.trod enc Tryz.prog W 0 (fun _ => true) true fuel 23 [v] = some x) : ∃ l : List Ar, ArAt W (· < W.heap.size) v l ∧ ∀ a ∈ l, okA a := by
  obtain ⟨e0, e1, e2, e3, hse, hone, s0, s1, s2, s3⟩ := fields_expr
  obtain ⟨f0, f1, f2, f3, f4, hs, ⟨o0, t0⟩, ⟨o1, t1⟩, ⟨o2, t2⟩, ⟨o3, t3⟩, ⟨o4, t4⟩⟩ := fields_arg
  rcases DataW.trod_slice Tryz.underlying23 h with ⟨hcs, _⟩ | ⟨a, len, cap, elems, rest, n, hfu, hcs, hx, hb, hl, hm, hlen, hel, hsp, hns⟩
  · simp at hcs
    subst hcs
    exact ⟨[], ArAt.nil _ _, fun a ha => by simp at ha⟩
  · simp at hcs
    subst hcs
    rw [cells_arg] at hel
    obtain ⟨F, hF⟩ := choose_lt (α := Ar × Value) (n := len) (p := fun i q => (∀ r, r < 8 → W.cell? (a.add (i * 8 + r)) = (arCells q.1 q.2)[r]?) ∧ SubAt W (· < W.heap.size) q.2 q.1.e.sub ∧ okA q.1) (fun i hi => by
      have h1 := hel i hi
      rw [List.getElem?_eq_getElem (by omega)] at h1
      obtain ⟨cs', hc, ht'⟩ := Option.bind_eq_some_iff.1 h1
      obtain ⟨ys, n', hn', hy, hlen', hyl, hf⟩ := DataW.trod_struct hs ht'
      obtain ⟨_, hcl, hat⟩ := World.cells?_some hc
      obtain ⟨c0, c1, c2, c3, c4, c5, c6, c7, rfl⟩ := list8 hcl
      obtain ⟨y0, y1, y2, y3, y4, rfl⟩ := list5 (hyl.trans rfl)
      have r0 := hf 0 f0 rfl
      have r1 := hf 1 f1 rfl
      have r2 := hf 2 f2 rfl
      have r3 := hf 3 f3 rfl
      have r4 := hf 4 f4 rfl
      rw [o0, t0, cells_str] at r0
      rw [o1, t1, cells_str] at r1
      rw [o2, t2, cells_bool] at r2
      rw [o3, t3, cells_bool] at r3
      rw [o4, t4, cells_expr] at r4
      obtain ⟨⟨⟨x0⟩⟩, g0, _, w0⟩ := DataW.trod_string Tryz.underlying9 r0
      obtain ⟨⟨⟨x1⟩⟩, g1, _, w1⟩ := DataW.trod_string Tryz.underlying9 r1
      obtain ⟨b2, g2, _⟩ := DataW.trod_bool Tryz.underlying4 r2
      obtain ⟨b3, g3, _⟩ := DataW.trod_bool Tryz.underlying4 r3
      obtain ⟨zs, m', hm', hz, hzl', hzl, hg⟩ := DataW.trod_struct hse r4
      obtain ⟨z0, z1, z2, z3, rfl⟩ := list4 (hzl.trans rfl)
      obtain ⟨p0, k0⟩ := hone_of hone 0 e0 rfl
      obtain ⟨p1, k1⟩ := hone_of hone 1 e1 rfl
      obtain ⟨p2, k2⟩ := hone_of hone 2 e2 rfl
      obtain ⟨p3, k3⟩ := hone_of hone 3 e3 rfl
      have q0 := hg 0 e0 rfl
      have q1 := hg 1 e1 rfl
      have q2 := hg 2 e2 rfl
      have q3 := hg 3 e3 rfl
      rw [p0, k0, s0] at q0
      rw [p1, k1, s1] at q1
      rw [p2, k2, s2] at q2
      rw [p3, k3, s3] at q3
      simp only [List.drop_succ_cons, List.drop_zero, List.take_succ_cons, List.take_zero] at g0 g1 g2 g3 q0 q1 q2 q3
      obtain ⟨⟨⟨u0⟩⟩, j0, _, v0⟩ := DataW.trod_string Tryz.underlying9 q0
      obtain ⟨n1, j1, _, wf1⟩ := DataW.trod_int Tryz.underlying49 q1
      obtain ⟨⟨⟨u2⟩⟩, j2, _, v2⟩ := DataW.trod_string Tryz.underlying9 q2
      have b1 := bounds_u16 wf1
      obtain ⟨sub, hsub⟩ := open_sub m' c7 _ q3
      simp at g0 g1 g2 g3 j0 j1 j2
      subst g0 g1 g2 g3 j0 j1 j2
      refine ⟨(⟨x0, x1, b2, b3, .mk u0 n1.toNat u2 sub⟩, c7), fun r hr => ?_, hsub, ?_, ?_, ?_, ?_, ?_⟩
      · have hr' := hat r hr
        rw [Go.Deep.add_add] at hr'
        rw [hr']
        match r, hr with
        | 0, _ => rfl
        | 1, _ => rfl
        | 2, _ => rfl
        | 3, _ => rfl
        | 4, _ => rfl
        | 5, _ => show some (Value.int .u16 n1) = some (Value.int .u16 (n1.toNat : Int)); rw [Int.toNat_of_nonneg b1.1]
        | 6, _ => rfl
        | 7, _ => rfl
      · simpa [ByteArray.size] using w0
      · simpa [ByteArray.size] using w1
      · show n1.toNat ≤ 65535
        omega
      · show u0.length ≤ maxLen
        simpa [ByteArray.size] using v0
      · show u2.length ≤ maxLen
        simpa [ByteArray.size] using v2)
    refine ⟨(List.range len).map fun i => (F i).1, ?_, ?_⟩
    · have hll : ((List.range len).map fun i => (F i).1).length = len := by simp
      have hg : ∀ i (hi : i < ((List.range len).map fun i => (F i).1).length), ((List.range len).map fun i => (F i).1)[i] = (F i).1 := fun i hi => by simp
      refine ⟨some a, cap, fun i => (F i).2, by rw [hll], by omega, by omega, fun h0 => ?_, fun i hi => ?_⟩
      · obtain ⟨g, o, s⟩ := a
        obtain ⟨q0, _⟩ := hF 0 (by omega)
        have q0 := q0 0 (by omega)
        have hspot : s = none := by simpa [Addr.add] using World.cell?_spot (q0.trans rfl)
        subst hspot
        have q0' := q0.trans rfl
        rw [addr_add] at q0'
        refine ⟨g, o, rfl, World.block_lt_of_cell? _ _ q0', fun i hi j u hu => ?_⟩
        obtain ⟨q1, _⟩ := hF i (by omega)
        rw [hg i hi] at hu
        have hj : j < 8 := (List.getElem?_eq_some_iff.1 hu).1
        have := q1 j hj
        rw [addr_add, ← Nat.add_assoc] at this
        rw [this]
        exact hu
      · obtain ⟨_, q2, _⟩ := hF i (by omega)
        rw [hg i hi]
        exact q2
    · intro x hx
      obtain ⟨i, hi, rfl⟩ := List.mem_map.1 hx
      exact (hF i (List.mem_range.1 hi)).2.2
theorem fields_stmt : ∃ f0 f1 f2 f3 : Field, Tryz.prog.underlying 25 = some (.struct #[f0, f1, f2, f3]) ∧ oneCellFields Tryz.prog #[f0, f1, f2, f3] = true ∧ f0.type = 9 ∧ f1.type = 4 ∧ f2.type = 9 ∧ f3.type = 23 := ⟨_, _, _, _, Tryz.underlying25, by kernel_rfl, rfl, rfl, rfl, rfl⟩
set_option maxRecDepth 100000 in
theorem open_stmt {H : Type} {enc : TypeId × Value → H} {W : World} {base : Nat} {v : Value} {d : DataW H} {ps : List MemPlace} (hv : Value.okWide Tryz.prog W .any base 25 v)
    (h : DataW.Trod enc Tryz.prog W 0 (fun _ => true) true 25 v d ps) : ∃ (s : St) (vs : Value), v = stV s vs ∧ ArAt W (· < W.heap.size) vs s.args ∧ okS s := by
  obtain ⟨f0, f1, f2, f3, hs, hone, t0, t1, t2, t3⟩ := fields_stmt
  obtain ⟨v0, v1, v2, v3, y0, y1, y2, y3, n, rfl, _, _, r0, r1, r2, r3⟩ := Joins.open_agg4 hs hone cells_stmt hv h
  rw [t0] at r0
  rw [t1] at r1
  rw [t2] at r2
  rw [t3] at r3
  obtain ⟨⟨⟨s0⟩⟩, g0, _, w0⟩ := DataW.trod_string Tryz.underlying9 r0
  obtain ⟨b1, g1, _⟩ := DataW.trod_bool Tryz.underlying4 r1
  obtain ⟨⟨⟨s2⟩⟩, g2, _, w2⟩ := DataW.trod_string Tryz.underlying9 r2
  obtain ⟨l, hl, hok⟩ := open_args n v3 _ r3
  simp at g0 g1 g2
  subst g0 g1 g2
  exact ⟨⟨s0, b1, s2, l⟩, v3, rfl, hl, by simpa [ByteArray.size] using w0, by simpa [ByteArray.size] using w2, hok⟩
end Go.Proofs.YthdlkdglifgnpaaGreatDoor

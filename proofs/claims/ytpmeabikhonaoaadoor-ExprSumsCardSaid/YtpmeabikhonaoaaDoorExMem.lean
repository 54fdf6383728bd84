/- Expressions in memory. -/
import Derived.Test.YtpmeabikhonaoaaDoorKa
import Derived.Test.YtpmeabikhonaoaaDoorKb
namespace Go.Proofs.YtpmeabikhonaoaaDoor
open Go.RowKit

/-- The slice v holds the expressions sub; all their parts lie in blocks of S. -/
inductive SubAt (w : World) (S : Nat → Prop) : Value → List Ex → Prop
  | mk (A : Option Addr) (c : Nat) (sub : List Ex) (vs : Nat → Value) (hc : sub.length ≤ c) (hm : sub.length ≤ maxLen)
      (hz : 0 < sub.length → ∃ g o, A = some ⟨g, o, none⟩ ∧ S g ∧ ∀ i (hi : i < sub.length), w.cell? ⟨g, o + i * 4, none⟩ = some (.string ⟨sub[i].op.toArray⟩) ∧ w.cell? ⟨g, o + i * 4 + 1, none⟩ = some (.int .u16 sub[i].n) ∧ w.cell? ⟨g, o + i * 4 + 2, none⟩ = some (.string ⟨sub[i].name.toArray⟩) ∧ w.cell? ⟨g, o + i * 4 + 3, none⟩ = some (vs i))
      (hn : ∀ i (hi : i < sub.length), sub[i].n ≤ 65535 ∧ sub[i].op.length ≤ maxLen ∧ sub[i].name.length ≤ maxLen)
      (hs : ∀ i (hi : i < sub.length), SubAt w S (vs i) sub[i].sub) : SubAt w S (.slice A sub.length c) sub

theorem SubAt.keep {w w' : World} {S S' : Nat → Prop} {v : Value} {sub : List Ex} (h : SubAt w S v sub) (hk : ∀ p : Addr, S p.block → w'.cell? p = w.cell? p) (hS : ∀ g, S g → S' g) : SubAt w' S' v sub := by
  induction h with
  | mk A c sub vs hc hm hz hn hs ih =>
    refine .mk A c sub vs hc hm (fun h0 => ?_) hn ih
    obtain ⟨g, o, h1, h2, h3⟩ := hz h0
    refine ⟨g, o, h1, hS g h2, fun i hi => ?_⟩
    obtain ⟨c0, c1, c2, c3⟩ := h3 i hi
    exact ⟨(hk _ h2).trans c0, (hk _ h2).trans c1, (hk _ h2).trans c2, (hk _ h2).trans c3⟩
theorem SubAt.nil (w : World) (S : Nat → Prop) : SubAt w S (.slice none 0 0) [] :=
  .mk none 0 [] (fun _ => .slice none 0 0) (by simp) (by simp) (fun h => absurd h (by simp)) (fun i hi => absurd hi (by simp)) (fun i hi => absurd hi (by simp))
theorem SubAt.form {w : World} {S : Nat → Prop} {v : Value} {sub : List Ex} (h : SubAt w S v sub) : ∃ A c, v = .slice A sub.length c ∧ sub.length ≤ c ∧ sub.length ≤ maxLen := by
  cases h with
  | mk A c sub vs hc hm hz hn hs => exact ⟨A, c, rfl, hc, hm⟩
theorem SubAt.get0 {w : World} {S : Nat → Prop} {v0 : Value} {A : Option Addr} {c : Nat} {sub : List Ex} (h : SubAt w S v0 sub) (hv : v0 = .slice A sub.length c) (i : Nat) (hi : i < sub.length) :
    ∃ g o v, A = some ⟨g, o, none⟩ ∧ S g ∧ w.cell? ⟨g, o + i * 4, none⟩ = some (.string ⟨sub[i].op.toArray⟩) ∧ w.cell? ⟨g, o + i * 4 + 1, none⟩ = some (.int .u16 sub[i].n) ∧ w.cell? ⟨g, o + i * 4 + 2, none⟩ = some (.string ⟨sub[i].name.toArray⟩) ∧ w.cell? ⟨g, o + i * 4 + 3, none⟩ = some v ∧ SubAt w S v sub[i].sub ∧ sub[i].n ≤ 65535 ∧ sub[i].op.length ≤ maxLen ∧ sub[i].name.length ≤ maxLen := by
  cases h with
  | mk A' c' sub vs hc hm hz hn hs =>
    injection hv with hA _ _
    subst hA
    obtain ⟨g, o, h1, h2, h3⟩ := hz (by omega)
    obtain ⟨c0, c1, c2, c3⟩ := h3 i hi
    exact ⟨g, o, vs i, h1, h2, c0, c1, c2, c3, hs i hi, (hn i hi).1, (hn i hi).2⟩
theorem SubAt.get {w : World} {S : Nat → Prop} {A : Option Addr} {c : Nat} {sub : List Ex} (h : SubAt w S (.slice A sub.length c) sub) (i : Nat) (hi : i < sub.length) :
    ∃ g o v, A = some ⟨g, o, none⟩ ∧ S g ∧ w.cell? ⟨g, o + i * 4, none⟩ = some (.string ⟨sub[i].op.toArray⟩) ∧ w.cell? ⟨g, o + i * 4 + 1, none⟩ = some (.int .u16 sub[i].n) ∧ w.cell? ⟨g, o + i * 4 + 2, none⟩ = some (.string ⟨sub[i].name.toArray⟩) ∧ w.cell? ⟨g, o + i * 4 + 3, none⟩ = some v ∧ SubAt w S v sub[i].sub ∧ sub[i].n ≤ 65535 ∧ sub[i].op.length ≤ maxLen ∧ sub[i].name.length ≤ maxLen := h.get0 rfl i hi
/-- An expression as a value. -/
def exV (e : Ex) (v : Value) : Value := .agg #[.string ⟨e.op.toArray⟩, .int .u16 e.n, .string ⟨e.name.toArray⟩, v]
def exCells (e : Ex) (v : Value) : List Value := [.string ⟨e.op.toArray⟩, .int .u16 e.n, .string ⟨e.name.toArray⟩, v]
def okE (e : Ex) : Prop := e.n ≤ 65535 ∧ e.op.length ≤ maxLen ∧ e.name.length ≤ maxLen
theorem SubAt.bel {w w' : World} {B : Nat} {v : Value} {sub : List Ex} (h : SubAt w (· < B) v sub) (hb : Below B w w') : SubAt w' (· < B) v sub := h.keep (fun _ hp => hb.cell hp) (fun _ h => h)
theorem SubAt.more {w : World} {S S' : Nat → Prop} {v : Value} {sub : List Ex} (h : SubAt w S v sub) (hS : ∀ g, S g → S' g) : SubAt w S' v sub := h.keep (fun _ _ => rfl) hS
theorem SubAt.one {w : World} {S S' : Nat → Prop} {v : Value} {e : Ex} (h : SubAt w S v e.sub) (hok : okE e) (hl : ∀ g, S g → g < w.heap.size) (hS : ∀ g, S g → S' g) (N : Nat) (hN : w.heap.size = N) (hn : S' N) (T : TypeId) :
    SubAt (w.alloc (.cells (exCells e v).toArray T)) S' (.slice (some ⟨N, 0, none⟩) 1 1) [e] := by
  subst hN
  refine .mk (some ⟨w.heap.size, 0, none⟩) 1 [e] (fun _ => v) (by simp) (by unfold maxLen; simp) (fun _ => ⟨w.heap.size, 0, rfl, hn, fun i hi => ?_⟩) (fun i hi => ?_) (fun i hi => ?_)
  · simp at hi
    subst hi
    exact ⟨new_at w _ T 0 _ rfl, new_at w _ T 1 _ rfl, new_at w _ T 2 _ rfl, new_at w _ T 3 _ rfl⟩
  · simp at hi
    subst hi
    exact hok
  · simp at hi
    subst hi
    exact h.keep (fun p hp => World.cell?_alloc_lt _ _ _ (hl _ hp)) hS
theorem SubAt.two {w : World} {S S' : Nat → Prop} {v v' : Value} {e e' : Ex} (h : SubAt w S v e.sub) (h' : SubAt w S v' e'.sub) (hok : okE e) (hok' : okE e') (hl : ∀ g, S g → g < w.heap.size) (hS : ∀ g, S g → S' g) (N : Nat) (hN : w.heap.size = N) (hn : S' N) (T : TypeId) :
    SubAt (w.alloc (.cells (exCells e v ++ exCells e' v').toArray T)) S' (.slice (some ⟨N, 0, none⟩) 2 2) [e, e'] := by
  subst hN
  refine .mk (some ⟨w.heap.size, 0, none⟩) 2 [e, e'] (fun i => if i = 0 then v else v') (by simp) (by unfold maxLen; simp) (fun _ => ⟨w.heap.size, 0, rfl, hn, fun i hi => ?_⟩) (fun i hi => ?_) (fun i hi => ?_)
  · match i, hi with
    | 0, _ => exact ⟨new_at w _ T 0 _ rfl, new_at w _ T 1 _ rfl, new_at w _ T 2 _ rfl, new_at w _ T 3 _ rfl⟩
    | 1, _ => exact ⟨new_at w _ T 4 _ rfl, new_at w _ T 5 _ rfl, new_at w _ T 6 _ rfl, new_at w _ T 7 _ rfl⟩
  · match i, hi with
    | 0, _ => exact hok
    | 1, _ => exact hok'
  · match i, hi with
    | 0, _ => exact h.keep (fun p hp => World.cell?_alloc_lt _ _ _ (hl _ hp)) hS
    | 1, _ => exact h'.keep (fun p hp => World.cell?_alloc_lt _ _ _ (hl _ hp)) hS
end Go.Proofs.YtpmeabikhonaoaaDoor

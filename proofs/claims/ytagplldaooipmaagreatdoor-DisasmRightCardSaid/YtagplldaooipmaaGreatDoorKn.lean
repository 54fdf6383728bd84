/- Kn. -/
import Derived.Test.YtagplldaooipmaaGreatDoorKm
import Derived.Test.YtagplldaooipmaaGreatDoorKi
import Derived.Test.YtagplldaooipmaaGreatDoorKg
namespace Go.Proofs.YtagplldaooipmaaGreatDoor
open Go.RowKit
abbrev arV (a : Ar) (v : Value) : Value := .agg #[.string ⟨a.w.toArray⟩, .string ⟨a.t.toArray⟩, .bool a.is, .bool a.mem, .string ⟨a.e.op.toArray⟩, .int .u16 a.e.n, .string ⟨a.e.name.toArray⟩, v]
def arCells (a : Ar) (v : Value) : List Value := [.string ⟨a.w.toArray⟩, .string ⟨a.t.toArray⟩, .bool a.is, .bool a.mem, .string ⟨a.e.op.toArray⟩, .int .u16 a.e.n, .string ⟨a.e.name.toArray⟩, v]
theorem SubAt.at {w w' : World} {B B' : Nat} {v : Value} {s : List Ex} (h : SubAt w (· < B) v s) (hb : Below B w w') (hB : B ≤ B') : SubAt w' (· < B') v s := (h.bel hb).more (fun x (hx : x < B) => Nat.lt_of_lt_of_le hx hB)
end Go.Proofs.YtagplldaooipmaaGreatDoor
/- line: rows of operands in memory; Same. -/
namespace Go.Proofs.YtagplldaooipmaaGreatDoor
open Go.RowKit
def ArAt (w : World) (S : Nat → Prop) (v : Value) (l : List Ar) : Prop := ∃ (A : Option Addr) (c : Nat) (vs : Nat → Value), v = .slice A l.length c ∧ l.length ≤ c ∧ l.length ≤ maxLen ∧
  (0 < l.length → ∃ g o, A = some ⟨g, o, none⟩ ∧ S g ∧ ∀ i (hi : i < l.length), ∀ j u, (arCells l[i] (vs i))[j]? = some u → w.cell? ⟨g, o + i * 8 + j, none⟩ = some u) ∧
  ∀ i (hi : i < l.length), SubAt w S (vs i) l[i].e.sub
theorem ArAt.keep {w w' : World} {S S' : Nat → Prop} {v : Value} {l : List Ar} (h : ArAt w S v l) (hk : ∀ p : Addr, S p.block → w'.cell? p = w.cell? p) (hS : ∀ g, S g → S' g) : ArAt w' S' v l := by
  obtain ⟨A, c, vs, h1, h2, h3, h4, h5⟩ := h
  refine ⟨A, c, vs, h1, h2, h3, fun h0 => ?_, fun i hi => (h5 i hi).keep hk hS⟩
  obtain ⟨g, o, g1, g2, g3⟩ := h4 h0
  exact ⟨g, o, g1, hS g g2, fun i hi j u hu => (hk _ g2).trans (g3 i hi j u hu)⟩
theorem ArAt.nil (w : World) (S : Nat → Prop) : ArAt w S (.slice none 0 0) [] :=
  ⟨none, 0, fun _ => .slice none 0 0, rfl, Nat.le_refl _, by unfold maxLen; simp, fun h => absurd h (by simp), fun i hi => absurd hi (by simp)⟩
theorem ArAt.form {w : World} {S : Nat → Prop} {v : Value} {l : List Ar} (h : ArAt w S v l) : ∃ A c, v = .slice A l.length c ∧ l.length ≤ c ∧ l.length ≤ maxLen := by
  obtain ⟨A, c, vs, h1, h2, h3, h4, h5⟩ := h
  exact ⟨A, c, h1, h2, h3⟩
theorem ArAt.at {w w' : World} {B B' : Nat} {v : Value} {l : List Ar} (h : ArAt w (· < B) v l) (hb : Below B w w') (hB : B ≤ B') : ArAt w' (· < B') v l := h.keep (fun _ hp => hb.cell hp) (fun x (hx : x < B) => Nat.lt_of_lt_of_le hx hB)
theorem ArAt.get {w : World} {S : Nat → Prop} {A : Option Addr} {c : Nat} {l : List Ar} (h : ArAt w S (.slice A l.length c) l) (i : Nat) (hi : i < l.length) :
    ∃ g o v, A = some ⟨g, o, none⟩ ∧ S g ∧ w.cell? ⟨g, o + i * 8, none⟩ = some (.string ⟨l[i].w.toArray⟩) ∧ w.cell? ⟨g, o + i * 8 + 1, none⟩ = some (.string ⟨l[i].t.toArray⟩) ∧ w.cell? ⟨g, o + i * 8 + 2, none⟩ = some (.bool l[i].is) ∧ w.cell? ⟨g, o + i * 8 + 3, none⟩ = some (.bool l[i].mem) ∧ w.cell? ⟨g, o + i * 8 + 4, none⟩ = some (.string ⟨l[i].e.op.toArray⟩) ∧ w.cell? ⟨g, o + i * 8 + 5, none⟩ = some (.int .u16 l[i].e.n) ∧ w.cell? ⟨g, o + i * 8 + 6, none⟩ = some (.string ⟨l[i].e.name.toArray⟩) ∧ w.cell? ⟨g, o + i * 8 + 7, none⟩ = some v ∧ SubAt w S v l[i].e.sub := by
  obtain ⟨A', c', vs, h1, h2, h3, h4, h5⟩ := h
  injection h1 with h1 _ _
  subst h1
  obtain ⟨g, o, g1, g2, g3⟩ := h4 (by omega)
  have g := g3 i hi
  exact ⟨_, o, vs i, g1, g2, g 0 _ rfl, g 1 _ rfl, g 2 _ rfl, g 3 _ rfl, g 4 _ rfl, g 5 _ rfl, g 6 _ rfl, g 7 _ rfl, h5 i hi⟩
theorem sameA_iff (a b : Ar) : sameA a b = true ↔ a = b := by
  obtain ⟨a1, a2, a3, a4, a5⟩ := a
  obtain ⟨b1, b2, b3, b4, b5⟩ := b
  simp only [sameA, Bool.and_eq_true, beq_iff_eq, sameE_iff, Ar.mk.injEq]
  constructor
  · rintro ⟨⟨⟨⟨rfl, rfl⟩, rfl⟩, rfl⟩, rfl⟩; simp
  · rintro ⟨rfl, rfl, rfl, rfl, rfl⟩; simp
theorem sameAs_iff (s : List Ar) : ∀ t, sameAs s t = true ↔ s = t := by
  induction s with
  | nil => intro t; cases t <;> simp [sameAs]
  | cons a s ih =>
    intro t
    cases t with
    | nil => simp [sameAs]
    | cons b t => simp [sameAs, sameA_iff, ih]
theorem sameS_iff (a b : St) : sameS a b = true ↔ a = b := by
  obtain ⟨a1, a2, a3, a4⟩ := a
  obtain ⟨b1, b2, b3, b4⟩ := b
  simp only [sameS, Bool.and_eq_true, beq_iff_eq, sameAs_iff, St.mk.injEq]
  constructor
  · rintro ⟨⟨⟨rfl, rfl⟩, rfl⟩, rfl⟩; simp
  · rintro ⟨rfl, rfl, rfl, rfl⟩; simp
theorem sameAs_len (s t : List Ar) (h : s.length ≠ t.length) : sameAs s t = false := by
  cases hh : sameAs s t with
  | false => rfl
  | true => exact absurd (by rw [(sameAs_iff s t).1 hh]) h
theorem sameAs_at (s t : List Ar) (k : Nat) (hs : k < s.length) (ht : k < t.length) (h : sameA s[k] t[k] = false) : sameAs s t = false := by
  cases hh : sameAs s t with
  | false => rfl
  | true =>
    have := (sameAs_iff s t).1 hh
    subst this
    rw [(sameA_iff _ _).2 rfl] at h
    cases h
theorem sameAs_end (s t : List Ar) (hl : s.length = t.length) (h : s.take s.length = t.take s.length) : sameAs s t = true := by
  rw [List.take_length] at h
  rw [hl, List.take_length] at h
  exact (sameAs_iff s t).2 h
abbrev stV (s : St) (v : Value) : Value := .agg #[.string ⟨s.label.toArray⟩, .bool s.colon, .string ⟨s.op.toArray⟩, v]
end Go.Proofs.YtagplldaooipmaaGreatDoor

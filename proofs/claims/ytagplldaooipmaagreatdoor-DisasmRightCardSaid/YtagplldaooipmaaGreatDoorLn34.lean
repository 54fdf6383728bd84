/- Ln34. -/
import Derived.Test.YtagplldaooipmaaGreatDoorLn31
import Derived.Test.YtagplldaooipmaaGreatDoorLn32
import Derived.Test.YtagplldaooipmaaGreatDoorKl
import Derived.Lib.SplitLaws
import Derived.Lib.Split
import Derived.Deep.Cut
import Derived.Deep.CutRange
import Derived.Deep.DeepCutAuto
import Derived.Deep.CutBlock
namespace Go.Proofs.YtagplldaooipmaaGreatDoor
open Go.RowKit
def stCells (s : St) (v : Value) : List Value := [.string ⟨s.label.toArray⟩, .bool s.colon, .string ⟨s.op.toArray⟩, v]
theorem stCells_len (a : St) (v : Value) : (stCells a v).length = 4 := rfl
def StAt (w : World) (S : Nat → Prop) (v : Value) (l : List St) : Prop := ∃ (A : Option Addr) (c : Nat) (vs : Nat → Value), v = .slice A l.length c ∧ l.length ≤ c ∧ l.length ≤ maxLen ∧
  (0 < l.length → ∃ g o, A = some ⟨g, o, none⟩ ∧ S g ∧ ∀ i (hi : i < l.length), ∀ j u, (stCells l[i] (vs i))[j]? = some u → w.cell? ⟨g, o + i * 4 + j, none⟩ = some u) ∧
  ∀ i (hi : i < l.length), ArAt w S (vs i) l[i].args
theorem StAt.keep {w w' : World} {S S' : Nat → Prop} {v : Value} {l : List St} (h : StAt w S v l) (hk : ∀ p : Addr, S p.block → w'.cell? p = w.cell? p) (hS : ∀ g, S g → S' g) : StAt w' S' v l := by
  obtain ⟨A, c, vs, h1, h2, h3, h4, h5⟩ := h
  refine ⟨A, c, vs, h1, h2, h3, fun h0 => ?_, fun i hi => (h5 i hi).keep hk hS⟩
  obtain ⟨g, o, g1, g2, g3⟩ := h4 h0
  exact ⟨g, o, g1, hS g g2, fun i hi j u hu => (hk _ g2).trans (g3 i hi j u hu)⟩
theorem StAt.nil (w : World) (S : Nat → Prop) : StAt w S (.slice none 0 0) [] :=
  ⟨none, 0, fun _ => .slice none 0 0, rfl, Nat.le_refl _, by unfold maxLen; simp, fun h => absurd h (by simp), fun i hi => absurd hi (by simp)⟩
theorem StAt.form {w : World} {S : Nat → Prop} {v : Value} {l : List St} (h : StAt w S v l) : ∃ A c, v = .slice A l.length c ∧ l.length ≤ c ∧ l.length ≤ maxLen := by
  obtain ⟨A, c, vs, h1, h2, h3, h4, h5⟩ := h
  exact ⟨A, c, h1, h2, h3⟩
theorem StAt.at {w w' : World} {B B' : Nat} {v : Value} {l : List St} (h : StAt w (· < B) v l) (hb : Below B w w') (hB : B ≤ B') : StAt w' (· < B') v l := h.keep (fun _ hp => hb.cell hp) (fun x (hx : x < B) => Nat.lt_of_lt_of_le hx hB)
theorem StAt.get {w : World} {S : Nat → Prop} {A : Option Addr} {c : Nat} {l : List St} (h : StAt w S (.slice A l.length c) l) (i : Nat) (hi : i < l.length) :
    ∃ g o v, A = some ⟨g, o, none⟩ ∧ S g ∧ w.cell? ⟨g, o + i * 4, none⟩ = some (.string ⟨l[i].label.toArray⟩) ∧ w.cell? ⟨g, o + i * 4 + 1, none⟩ = some (.bool l[i].colon) ∧ w.cell? ⟨g, o + i * 4 + 2, none⟩ = some (.string ⟨l[i].op.toArray⟩) ∧ w.cell? ⟨g, o + i * 4 + 3, none⟩ = some v ∧ ArAt w S v l[i].args := by
  obtain ⟨A', c', vs, h1, h2, h3, h4, h5⟩ := h
  injection h1 with h1 _ _
  subst h1
  obtain ⟨g, o, g1, g2, g3⟩ := h4 (by omega)
  have g := g3 i hi
  exact ⟨_, o, vs i, g1, g2, g 0 _ rfl, g 1 _ rfl, g 2 _ rfl, g 3 _ rfl, h5 i hi⟩
theorem info_st : (Tryz.prog.info? 31).map (fun i => (i.zero, i.size, i.bytes)) = some (some (.agg #[.string ⟨#[]⟩, .bool false, .string ⟨#[]⟩, .slice none 0 0]), 4, 64) := by kernel_rfl
end Go.Proofs.YtagplldaooipmaaGreatDoor

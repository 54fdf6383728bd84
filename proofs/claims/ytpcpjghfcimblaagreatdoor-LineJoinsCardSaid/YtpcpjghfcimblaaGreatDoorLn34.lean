/- line: Source. -/
import Derived.Test.YtpcpjghfcimblaaGreatDoorLn31
import Derived.Test.YtpcpjghfcimblaaGreatDoorLn32
import Derived.Test.YtpcpjghfcimblaaGreatDoorPureSrc
import Derived.Deep.Cut
import Derived.Deep.CutRange
import Derived.Deep.DeepCutAuto
import Derived.Deep.CutBlock
namespace Go.Proofs.YtpcpjghfcimblaaGreatDoor
open Go.RowKit

def stCells (s : St) (v : Value) : List Value := [.string ⟨s.label.toArray⟩, .bool s.colon, .string ⟨s.op.toArray⟩, v]
def stSub (w : World) (S : Nat → Prop) (v : Value) (s : St) : Prop := ArAt w S v s.args
theorem stSub_keep : ∀ (w w' : World) (S S' : Nat → Prop) (v : Value) (a : St), stSub w S v a → (∀ p : Addr, S p.block → w'.cell? p = w.cell? p) → (∀ g, S g → S' g) → stSub w' S' v a := fun _ _ _ _ _ _ h hk hS => ArAt.keep h hk hS
theorem stCells_len (a : St) (v : Value) : (stCells a v).length = 4 := rfl
abbrev StOwn (w : World) (base : Nat) (v : Value) (l : List St) (vs : List Value) : Prop := OwnV stCells stSub 32 4 w base v l vs
/-- The slice v holds the statements l; all their parts lie in blocks of S. -/
def StAt (w : World) (S : Nat → Prop) (v : Value) (l : List St) : Prop := ∃ (A : Option Addr) (c : Nat) (vs : Nat → Value), v = .slice A l.length c ∧ l.length ≤ c ∧ l.length ≤ maxLen ∧
  (0 < l.length → ∃ g o, A = some ⟨g, o, none⟩ ∧ S g ∧ ∀ i (hi : i < l.length), ∀ j u, (stCells l[i] (vs i))[j]? = some u → w.cell? ⟨g, o + i * 4 + j, none⟩ = some u) ∧
  ∀ i (hi : i < l.length), ArAt w S (vs i) l[i].args
theorem StAt.keep {w w' : World} {S S' : Nat → Prop} {v : Value} {l : List St} (h : StAt w S v l) (hk : ∀ p : Addr, S p.block → w'.cell? p = w.cell? p) (hS : ∀ g, S g → S' g) : StAt w' S' v l := by
  obtain ⟨A, c, vs, h1, h2, h3, h4, h5⟩ := h
  refine ⟨A, c, vs, h1, h2, h3, fun h0 => ?_, fun i hi => (h5 i hi).keep hk hS⟩
  obtain ⟨g, o, g1, g2, g3⟩ := h4 h0
  exact ⟨g, o, g1, hS g g2, fun i hi j u hu => (hk _ g2).trans (g3 i hi j u hu)⟩
theorem StAt.nil (w : World) (S : Nat → Prop) : StAt w S (.slice none 0 0) [] :=
  ⟨none, 0, fun _ => .slice none 0 0, rfl, Nat.le_refl _, by unfold maxLen; simp, fun h => absurd h (by simp), fun i hi => absurd hi (by simp)⟩
theorem StAt.form {w : World} {S : Nat → Prop} {v : Value} {l : List St} (h : StAt w S v l) : ∃ A c, v = .slice A l.length c ∧ l.length ≤ c ∧ l.length ≤ maxLen := by
  obtain ⟨A, c, vs, h1, h2, h3, h4, h5⟩ := h
  exact ⟨A, c, h1, h2, h3⟩
theorem StAt.at {w w' : World} {B B' : Nat} {v : Value} {l : List St} (h : StAt w (· < B) v l) (hb : Below B w w') (hB : B ≤ B') : StAt w' (· < B') v l := h.keep (fun _ hp => hb.cell hp) (fun x (hx : x < B) => Nat.lt_of_lt_of_le hx hB)
theorem StAt.get {w : World} {S : Nat → Prop} {A : Option Addr} {c : Nat} {l : List St} (h : StAt w S (.slice A l.length c) l) (i : Nat) (hi : i < l.length) :
    ∃ g o v, A = some ⟨g, o, none⟩ ∧ S g ∧ w.cell? ⟨g, o + i * 4, none⟩ = some (.string ⟨l[i].label.toArray⟩) ∧ w.cell? ⟨g, o + i * 4 + 1, none⟩ = some (.bool l[i].colon) ∧ w.cell? ⟨g, o + i * 4 + 2, none⟩ = some (.string ⟨l[i].op.toArray⟩) ∧ w.cell? ⟨g, o + i * 4 + 3, none⟩ = some v ∧ ArAt w S v l[i].args := by
  obtain ⟨A', c', vs, h1, h2, h3, h4, h5⟩ := h
  injection h1 with h1 _ _
  subst h1
  obtain ⟨g, o, g1, g2, g3⟩ := h4 (by omega)
  have g := g3 i hi
  exact ⟨_, o, vs i, g1, g2, g 0 _ rfl, g 1 _ rfl, g 2 _ rfl, g 3 _ rfl, h5 i hi⟩
theorem OwnV.stAt {w : World} {base : Nat} {v : Value} {l : List St} {vs : List Value} (h : StOwn w base v l vs) : StAt w (fun g => base ≤ g ∧ g < w.heap.size) v l := by
  obtain ⟨h1, h2, h3⟩ := h
  obtain ⟨A, c, rfl, hc, hm, hrow⟩ := own_slice h2 (by omega)
  refine ⟨A, c, fun i => vs.getD i (.slice none 0 0), rfl, hc, hm, fun h0 => ?_, fun i hi => ArAt.keep (h3 i hi) (fun _ _ => rfl) (fun g hg => ⟨hg.1, hg.2.1⟩)⟩
  obtain ⟨g, rfl, g1, g2, _, g3⟩ := hrow h0
  refine ⟨g, 0, rfl, ⟨g1, g2⟩, fun i hi j u hu => ?_⟩
  rw [Nat.zero_add]
  exact g3 _ _ (rowV_get stCells_len l vs h1 i hi j u hu)
theorem info_st : (Tryz.prog.info? 32).map (fun i => (i.zero, i.size, i.bytes)) = some (some (.agg #[.string ⟨#[]⟩, .bool false, .string ⟨#[]⟩, .slice none 0 0]), 4, 64) := by kernel_rfl

theorem strs_of_bytes (l : List ByteArray) : l.map Value.string = (l.map (·.data.toList)).map strV := by
  rw [List.map_map]
  exact List.map_congr_left (fun x _ => rfl)
theorem split_any (s : List UInt8) (w : World) (hg : GW w) (hl : s.length ≤ 1000000) :
    Calls Tryz.prog 21 #[.string ⟨s.toArray⟩, .string ⟨#[10]⟩] w fun e w' => e = .returned (.slice (some ⟨w.heap.size, 0, none⟩) (splitNl s []).length (splitNl s []).length) ∧ w' = w.alloc (.cells ((splitNl s []).map strV).toArray 9) := by
  obtain ⟨m, hm⟩ := hg
  have e1 : (Lib.splitB ⟨#[10]⟩ 0 (Lib.countB ⟨s.toArray⟩ ⟨#[10]⟩) ⟨s.toArray⟩).map (·.data.toList) = splitNl s [] := by
    rw [Lib.splitB_data]
    exact split_nl s
  have e2 := Lib.splitB_all ⟨#[10]⟩ (by simp [ByteArray.size]) 0 _ ⟨s.toArray⟩ rfl
  have e3 : Lib.countB ⟨s.toArray⟩ ⟨#[10]⟩ + 1 = (splitNl s []).length := by rw [← e2, ← e1, List.length_map]
  refine (Tryz.strings_Split ⟨s.toArray⟩ ⟨#[10]⟩ m w (by simp [ByteArray.size]; omega) hm (by simp [ByteArray.size])).mono ?_
  rintro e w' ⟨rfl, rfl⟩
  rw [e3, strs_of_bytes, e1]
  exact ⟨rfl, rfl⟩
theorem cr_any (l : List UInt8) (w : World) (hl : l.length ≤ 1000000) :
    Calls Tryz.prog 22 #[.string ⟨l.toArray⟩, .string ⟨#[13]⟩] w fun e w' => e = .returned (.string ⟨(crL l).toArray⟩) ∧ w = w' := by
  refine (Tryz.strings_TrimSuffix ⟨l.toArray⟩ ⟨#[13]⟩ w (by simp [ByteArray.size]; omega)).mono ?_
  rintro e w' ⟨rfl, rfl⟩
  exact ⟨rfl, rfl⟩
theorem crL_len (l : List UInt8) : (crL l).length ≤ l.length := by
  unfold crL Lib.trimSuffix
  split <;> simp
end Go.Proofs.YtpcpjghfcimblaaGreatDoor

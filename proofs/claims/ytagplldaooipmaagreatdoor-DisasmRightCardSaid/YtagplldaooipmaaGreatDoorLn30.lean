/- Ln30. -/
import Derived.Test.YtagplldaooipmaaGreatDoorLn13
import Derived.Test.YtagplldaooipmaaGreatDoorKq
import Derived.Deep.QuietTactic
import Derived.BigQuiet
import Derived.Test.YtagplldaooipmaaGreatDoorLn20
import Derived.StillTailTactics
import Derived.Test.YtagplldaooipmaaGreatDoorLn28
import Derived.Test.YtagplldaooipmaaGreatDoorKp
import Derived.Test.YtagplldaooipmaaGreatDoorKl
import Derived.Test.YtagplldaooipmaaGreatDoorKb
import Derived.Test.YtagplldaooipmaaGreatDoorKc
namespace Go.Proofs.YtagplldaooipmaaGreatDoor
open Go.RowKit
def RdX (w : World) (B R : Nat) (v : Value) (ts : List Tok) : Prop := ∃ (A : Option Addr) (c : Nat), v = .slice A ts.length c ∧ ts.length ≤ c ∧
  (0 < ts.length → ∃ g o, A = some ⟨g, o, none⟩ ∧ B < g ∧ g < R ∧ ∀ j u, (tokRow ts)[j]? = some u → w.cell? ⟨g, o + j, none⟩ = some u)
theorem RdX.keep {w w' : World} {B R : Nat} {v : Value} {ts : List Tok} (h : RdX w B R v ts) (hk : ∀ p : Addr, B < p.block → p.block < R → w'.cell? p = w.cell? p) : RdX w' B R v ts := by
  obtain ⟨A, c, h1, h2, h3⟩ := h
  refine ⟨A, c, h1, h2, fun h0 => ?_⟩
  obtain ⟨g, o, e, b1, b2, h4⟩ := h3 h0
  exact ⟨g, o, e, b1, b2, fun j u hu => (hk _ b1 b2).trans (h4 j u hu)⟩
theorem RdX.of_own {w : World} {base B : Nat} {e : TypeId} {v : Value} {ts : List Tok} (h : w.ownsRow base e 3 v ts.length (tokRow ts)) (hB : B < base) : RdX w B w.heap.size v ts := by
  obtain ⟨A, c, h1, h2, _, h3⟩ := own_slice h (by omega)
  refine ⟨A, c, h1, h2, fun h0 => ?_⟩
  obtain ⟨g, e, b1, b2, _, h4⟩ := h3 h0
  exact ⟨g, 0, e, by omega, b2, fun j u hu => by rw [Nat.zero_add]; exact h4 j u hu⟩
theorem tokRow_drop (ts : List Tok) (n j : Nat) (u : Value) (h : (tokRow (ts.drop n))[j]? = some u) : (tokRow ts)[3 * n + j]? = some u := by
  have e : ts = ts.take n ++ ts.drop n := (List.take_append_drop n ts).symm
  rcases Nat.lt_or_ge ts.length n with hn | hn
  · rw [List.drop_eq_nil_of_le (by omega)] at h
    simp [tokRow] at h
  · rw [e, tokRow_app, List.getElem?_append_right (by rw [tokRow_length]; simp; omega), tokRow_length, List.length_take, Nat.min_eq_left hn]
    rw [show 3 * n + j - n * 3 = j by omega]
    exact h
theorem RdX.drop {w : World} {B R g o c : Nat} {ts : List Tok} (n m : Nat) (h : RdX w B R (.slice (some ⟨g, o, none⟩) ts.length c) ts) (hm : m = 3 * n) (hn : n ≤ ts.length) : RdX w B R (.slice (if c = n then some ⟨g, o, none⟩ else some ⟨g, o + m, none⟩) (ts.length - n) (c - n)) (ts.drop n) := by
  obtain ⟨A', c', hv, hc, h3⟩ := h
  injection hv with hv1 _ hv3
  subst hv1 hv3 hm
  refine ⟨_, c - n, by rw [List.length_drop], by rw [List.length_drop]; omega, fun h0 => ?_⟩
  rw [List.length_drop] at h0
  obtain ⟨g', o', e, b1, b2, h4⟩ := h3 (by omega)
  injection e with e
  injection e with e1 e2 _
  subst e1 e2
  rw [if_neg (by omega)]
  exact ⟨g, _, rfl, b1, b2, fun j u hu => by rw [Nat.add_assoc]; exact h4 _ u (tokRow_drop ts n j u hu)⟩
def But (N B : Nat) (w w' : World) : Prop := w.heap.size ≤ w'.heap.size ∧ ∀ k, k < N → k ≠ B → w'.heap[k]? = w.heap[k]?
theorem But.refl (N B : Nat) (w : World) : But N B w w := ⟨Nat.le_refl _, fun _ _ _ => rfl⟩
theorem But.bel {N B : Nat} {w w1 w2 : World} (h : But N B w w1) (hb : Below N w1 w2) : But N B w w2 := ⟨Nat.le_trans h.1 hb.size, fun k h1 h2 => (hb.block k h1).trans (h.2 k h1 h2)⟩
theorem But.set {N B : Nat} {w w1 : World} (h : But N B w w1) (i : Nat) (u : Value) : But N B w (w1.setCell ⟨B, i, none⟩ u) := ⟨by simpa using h.1, fun k h1 h2 => (Below.heap_setCell _ _ _ k h2).trans (h.2 k h1 h2)⟩
theorem OwnV.set {α : Type} {f : α → Value → List Value} {sub : World → (Nat → Prop) → Value → α → Prop} {E : TypeId} {C : Nat} (hkeep : ∀ w w' S S' v a, sub w S v a → (∀ p : Addr, S p.block → w'.cell? p = w.cell? p) → (∀ g, S g → S' g) → sub w' S' v a)
    {w : World} {base b i : Nat} {v u : Value} {l : List α} {vs : List Value} (h : OwnV f sub E C w base v l vs) (hb : b < base) : OwnV f sub E C (w.setCell ⟨b, i, none⟩ u) base v l vs := by
  obtain ⟨h1, h2, h3⟩ := h
  exact ⟨h1, ownsRow_setCell_below h2 hb u, fun i hi => hkeep _ _ _ _ _ _ (h3 i hi) (fun p hp => World.cell?_of_block (Below.heap_setCell _ _ _ p.block (by simp; omega))) (fun g hg => ⟨hg.1, by simpa using hg.2.1, hg.2.2⟩)⟩
theorem info_ar : (Tryz.prog.info? 41).map (fun i => (i.zero, i.size, i.bytes)) = some (some (.agg #[.string ⟨#[]⟩, .string ⟨#[]⟩, .bool false, .bool false, .string ⟨#[]⟩, .int .u16 0, .string ⟨#[]⟩, .slice none 0 0]), 8, 104) := by kernel_rfl
end Go.Proofs.YtagplldaooipmaaGreatDoor

/- line: what Parse keeps in memory. -/
import Derived.Test.YtpcpjghfcimblaaGreatDoorLn13
import Derived.Test.YtpcpjghfcimblaaGreatDoorLn29
import Derived.Test.YtpcpjghfcimblaaGreatDoorLn28
import Derived.Test.YtpcpjghfcimblaaGreatDoorPureLn5
import Derived.Test.YtpcpjghfcimblaaGreatDoorKc
namespace Go.Proofs.YtpcpjghfcimblaaGreatDoor
open Go.RowKit

abbrev stBox (lab : List UInt8) (colon : Bool) (op : List UInt8) (v : Value) : Obj := .cells #[.string ⟨lab.toArray⟩, .bool colon, .string ⟨op.toArray⟩, v] 32
def Parse12P (w : World) (res : St × Nat) (e : Ending) (w' : World) : Prop :=
  ∃ v, e = .returned (.tuple #[stV res.1 v, .int .i64 res.2]) ∧ ArAt w' (fun g => w.heap.size ≤ g ∧ g < w'.heap.size) v res.1.args ∧ Below w.heap.size w w'
/-- Tokens in a block between two others. -/
def RdX (w : World) (B R : Nat) (v : Value) (ts : List Tok) : Prop := ∃ (A : Option Addr) (c : Nat), v = .slice A ts.length c ∧ ts.length ≤ c ∧
  (0 < ts.length → ∃ g o, A = some ⟨g, o, none⟩ ∧ B < g ∧ g < R ∧ ∀ j u, (tokRow ts)[j]? = some u → w.cell? ⟨g, o + j, none⟩ = some u)
theorem RdX.keep {w w' : World} {B R : Nat} {v : Value} {ts : List Tok} (h : RdX w B R v ts) (hk : ∀ p : Addr, B < p.block → p.block < R → w'.cell? p = w.cell? p) : RdX w' B R v ts := by
  obtain ⟨A, c, h1, h2, h3⟩ := h
  refine ⟨A, c, h1, h2, fun h0 => ?_⟩
  obtain ⟨g, o, e, b1, b2, h4⟩ := h3 h0
  exact ⟨g, o, e, b1, b2, fun j u hu => (hk _ b1 b2).trans (h4 j u hu)⟩
theorem RdX.rd {w : World} {B R : Nat} {v : Value} {ts : List Tok} (h : RdX w B R v ts) : Rd w R v ts.length (tokRow ts) := by
  obtain ⟨A, c, h1, h2, h3⟩ := h
  refine ⟨A, c, h1, h2, fun h0 => ?_⟩
  obtain ⟨g, o, e, b1, b2, h4⟩ := h3 h0
  exact ⟨g, o, e, b2, h4⟩
theorem RdX.of_own {w : World} {base B : Nat} {e : TypeId} {v : Value} {ts : List Tok} (h : w.ownsRow base e 3 v ts.length (tokRow ts)) (hB : B < base) : RdX w B w.heap.size v ts := by
  obtain ⟨A, c, h1, h2, _, h3⟩ := own_slice h (by omega)
  refine ⟨A, c, h1, h2, fun h0 => ?_⟩
  obtain ⟨g, e, b1, b2, _, h4⟩ := h3 h0
  exact ⟨g, 0, e, by omega, b2, fun j u hu => by rw [Nat.zero_add]; exact h4 j u hu⟩
theorem tokRow_drop (ts : List Tok) (n j : Nat) (u : Value) (h : (tokRow (ts.drop n))[j]? = some u) : (tokRow ts)[3 * n + j]? = some u := by
  have e : ts = ts.take n ++ ts.drop n := (List.take_append_drop n ts).symm
  rcases Nat.lt_or_ge ts.length n with hn | hn
  · rw [List.drop_eq_nil_of_le (by omega)] at h
    simp [tokRow] at h
  · rw [e, tokRow_app, List.getElem?_append_right (by rw [tokRow_length]; simp; omega), tokRow_length, List.length_take, Nat.min_eq_left hn]
    rw [show 3 * n + j - n * 3 = j by omega]
    exact h
theorem RdX.drop {w : World} {B R g o c : Nat} {ts : List Tok} (n m : Nat) (h : RdX w B R (.slice (some ⟨g, o, none⟩) ts.length c) ts) (hm : m = 3 * n) (hn : n ≤ ts.length) : RdX w B R (.slice (if c = n then some ⟨g, o, none⟩ else some ⟨g, o + m, none⟩) (ts.length - n) (c - n)) (ts.drop n) := by
  obtain ⟨A', c', hv, hc, h3⟩ := h
  injection hv with hv1 _ hv3
  subst hv1 hv3 hm
  refine ⟨_, c - n, by rw [List.length_drop], by rw [List.length_drop]; omega, fun h0 => ?_⟩
  rw [List.length_drop] at h0
  obtain ⟨g', o', e, b1, b2, h4⟩ := h3 (by omega)
  injection e with e
  injection e with e1 e2 _
  subst e1 e2
  rw [if_neg (by omega)]
  exact ⟨g, _, rfl, b1, b2, fun j u hu => by rw [Nat.add_assoc]; exact h4 _ u (tokRow_drop ts n j u hu)⟩
/-- Behind the label: what the walk knows. -/
def HeadW (w : World) (R : Nat) (d : Int) (lab : List UInt8) (colon : Bool) (r : List Tok) (w' : World) : Prop :=
  Below w.heap.size w w' ∧ w'.heap[w.heap.size]? = some (stBox lab colon [] (.slice none 0 0)) ∧ w.heap.size < R ∧ ∃ tv, w'.heap[R]? = some (rdBox tv d) ∧ RdX w' w.heap.size R tv r
theorem HeadW.bel {w : World} {R : Nat} {d : Int} {lab : List UInt8} {colon : Bool} {r : List Tok} {w1 w2 : World} (h : HeadW w R d lab colon r w1) (hb : Below w1.heap.size w1 w2) : HeadW w R d lab colon r w2 := by
  obtain ⟨h1, h2, h3, tv, h4, h5⟩ := h
  exact ⟨bthen h1 hb, (hb.block _ (lt_of_heap h2)).trans h2, h3, tv, (hb.block _ (lt_of_heap h4)).trans h4, h5.keep fun p _ hp => hb.cell (Nat.lt_trans hp (lt_of_heap h4))⟩
/-- The label with a colon. -/
theorem HeadW.colon {w w2 : World} {d : Int} {m : List UInt8} {tv : Value} {r : List Tok} (hb : Below w.heap.size w w2) (hc : w2.heap[w.heap.size]? = some (stBox [] false [] (.slice none 0 0))) (hr : RdX w2 w.heap.size w2.heap.size tv r) :
    HeadW w w2.heap.size d m true r (((w2.setCell ⟨w.heap.size, 0, none⟩ (.string ⟨m.toArray⟩)).setCell ⟨w.heap.size, 1, none⟩ (.bool true)).alloc (rdBox tv d)).drew := by
  have h1 := heap_set (i := 1) (.bool true) (heap_set (i := 0) (.string ⟨m.toArray⟩) hc)
  refine ⟨(((hb.setCell (Nat.le_refl _) _).setCell (Nat.le_refl _) _).alloc (by simpa using hb.size) _).drew, ?_, lt_of_heap hc, tv, ?_, ?_⟩
  · exact ((((Below.refl _ _).alloc (Nat.le_refl _) (rdBox tv d)).block _ (lt_of_heap h1)).trans h1)
  · exact heap_last (by simp) _
  · refine hr.keep fun p p1 p2 => ?_
    show World.cell? (World.alloc _ _) p = _
    rw [World.cell?_alloc_lt _ _ _ (by simpa using p2), World.cell?_of_block (Below.heap_setCell _ _ _ p.block (by simp; omega)), World.cell?_of_block (Below.heap_setCell _ _ _ p.block (by simp; omega))]
theorem HeadW.sets {w w5 : World} {R : Nat} {d : Int} {m : List UInt8} {tv : Value} {l r : List Tok} (h : HeadW w R d [] false l w5) (hr : RdX w5 w.heap.size R tv r) :
    HeadW w R d m false r ((w5.setCell ⟨w.heap.size, 0, none⟩ (.string ⟨m.toArray⟩)).setCell ⟨R, 0, none⟩ tv).drew := by
  obtain ⟨h1, h2, h3, tv0, h4, h5⟩ := h
  refine ⟨((h1.setCell (Nat.le_refl _) _).setCell (by simp; omega) _).drew, ?_, h3, tv, ?_, ?_⟩
  · show (World.setCell _ _ _).heap[_]? = _
    rw [Below.heap_setCell _ _ _ _ (by simp; omega)]
    exact heap_set (i := 0) (.string ⟨m.toArray⟩) h2
  · refine heap_set (i := 0) tv ?_ (cs := #[tv0, .int .i64 d])
    rw [Below.heap_setCell _ _ _ _ (by simp; omega)]
    exact h4
  · refine hr.keep fun p p1 p2 => ?_
    show World.cell? (World.setCell _ _ _) p = _
    rw [World.cell?_of_block (Below.heap_setCell _ _ _ p.block (by simp; omega)), World.cell?_of_block (Below.heap_setCell _ _ _ p.block (by simp; omega))]
/-- Below N all but block B is as it was. -/
def But (N B : Nat) (w w' : World) : Prop := w.heap.size ≤ w'.heap.size ∧ ∀ k, k < N → k ≠ B → w'.heap[k]? = w.heap[k]?
theorem But.refl (N B : Nat) (w : World) : But N B w w := ⟨Nat.le_refl _, fun _ _ _ => rfl⟩
theorem But.bel {N B : Nat} {w w1 w2 : World} (h : But N B w w1) (hb : Below N w1 w2) : But N B w w2 := ⟨Nat.le_trans h.1 hb.size, fun k h1 h2 => (hb.block k h1).trans (h.2 k h1 h2)⟩
theorem But.set {N B : Nat} {w w1 : World} (h : But N B w w1) (i : Nat) (u : Value) : But N B w (w1.setCell ⟨B, i, none⟩ u) := ⟨by simpa using h.1, fun k h1 h2 => (Below.heap_setCell _ _ _ k h2).trans (h.2 k h1 h2)⟩
theorem own_rd_but {w w' : World} {base B n : Nat} {v : Value} {xs : List Value} {cs : Array Value} (h : w.ownsRow base 94 3 v n xs) (hB : w.heap[B]? = some (.cells cs 32 (0, 0))) (hb : But w.heap.size B w w') : Rd w' w'.heap.size v n xs := by
  rcases h.2 with ⟨rfl, rfl⟩ | ⟨g, cap, cur, rfl, h0, hg, h1, h2, h3, h4⟩
  · exact ⟨none, 0, rfl, Nat.le_refl _, fun h => absurd h (by omega)⟩
  · have hne : g ≠ B := by
      intro e
      subst e
      rw [hB] at hg
      injection hg with hg
      injection hg with _ hg
      exact absurd hg (by decide)
    have hg2 := (hb.2 g (lt_of_heap hg) hne).trans hg
    refine ⟨_, cap, rfl, h1, fun _ => ⟨g, 0, rfl, lt_of_heap hg2, fun j u hu => ?_⟩⟩
    rw [Nat.zero_add, cell_of_heap hg2]
    rw [← h4, List.getElem?_take] at hu
    split at hu
    · simpa using hu
    · simp at hu
theorem ArAt.set4 {w : World} {S : Nat → Prop} {v : Value} {l : List Ar} {b : Nat} (h : ArAt w S v l) (hS : ∀ g, S g → g ≠ b) (u0 u1 u2 u3 : Value) : ArAt ((((w.setCell ⟨b, 0, none⟩ u0).setCell ⟨b, 1, none⟩ u1).setCell ⟨b, 2, none⟩ u2).setCell ⟨b, 3, none⟩ u3) S v l :=
  h.keep (fun p hp => World.cell?_of_block (four_other w b p.block (hS _ hp) u0 u1 u2 u3)) (fun _ h => h)
theorem bset4 {w w' : World} {b N : Nat} (h : Below N w w') (hb : N ≤ b) (u0 u1 u2 u3 : Value) : Below N w ((((w'.setCell ⟨b, 0, none⟩ u0).setCell ⟨b, 1, none⟩ u1).setCell ⟨b, 2, none⟩ u2).setCell ⟨b, 3, none⟩ u3) :=
  (((h.setCell hb _).setCell hb _).setCell hb _).setCell hb _
theorem OwnV.set {α : Type} {f : α → Value → List Value} {sub : World → (Nat → Prop) → Value → α → Prop} {E : TypeId} {C : Nat} (hkeep : ∀ w w' S S' v a, sub w S v a → (∀ p : Addr, S p.block → w'.cell? p = w.cell? p) → (∀ g, S g → S' g) → sub w' S' v a)
    {w : World} {base b i : Nat} {v u : Value} {l : List α} {vs : List Value} (h : OwnV f sub E C w base v l vs) (hb : b < base) : OwnV f sub E C (w.setCell ⟨b, i, none⟩ u) base v l vs := by
  obtain ⟨h1, h2, h3⟩ := h
  exact ⟨h1, ownsRow_setCell_below h2 hb u, fun i hi => hkeep _ _ _ _ _ _ (h3 i hi) (fun p hp => World.cell?_of_block (Below.heap_setCell _ _ _ p.block (by simp; omega))) (fun g hg => ⟨hg.1, by simpa using hg.2.1, hg.2.2⟩)⟩
theorem cutF_short (sep : List UInt8) (ts : List Tok) (N : Nat) : ∀ n cur acc, cur.length + ts.length ≤ N → (∀ p ∈ acc, p.length ≤ N) → ∀ p ∈ cutF sep ts n cur acc, p.length ≤ N := by
  induction ts with
  | nil =>
    intro n cur acc hc ha p hp
    rcases List.mem_append.1 (show p ∈ acc ++ [cur] from hp) with hp | hp
    · exact ha p hp
    · simp at hp; subst hp; simpa using hc
  | cons t r ih =>
    intro n cur acc hc ha p hp
    simp at hc
    rw [cutF_cons sep t r n cur acc _ _ _ rfl rfl rfl _ rfl] at hp
    generalize (if isT t [[41], [93]] = true then n - 1 else n) = d1 at hp
    by_cases hc2 : (isT t [sep] && d1 == 0) = true
    · rw [if_pos hc2] at hp
      refine ih _ _ _ (by simp; omega) (fun q hq => ?_) p hp
      rcases List.mem_append.1 hq with hq | hq
      · exact ha q hq
      · simp at hq; subst hq; omega
    · rw [if_neg hc2] at hp
      exact ih _ _ _ (by simp; omega) ha p hp
theorem cutL_short (sep : List UInt8) (ts : List Tok) : ∀ p ∈ cutL sep ts, p.length ≤ ts.length := by
  unfold cutL
  split
  · simp
  · exact cutF_short sep ts _ 0 [] [] (by simp) (fun p hp => by simp at hp)
theorem argsL_step (d : Int) (op : List UInt8) (ps : List (List Tok)) (k : Nat) (hk : k < ps.length) (acc : List Ar) : argsL d op (ps.drop k) acc = if (operandL d op ps[k]).2 ≠ 0 then ([], (operandL d op ps[k]).2) else argsL d op (ps.drop (k + 1)) (acc ++ [(operandL d op ps[k]).1]) := by
  rw [List.drop_eq_getElem_cons hk, argsL]
theorem info_ar : (Tryz.prog.info? 46).map (fun i => (i.zero, i.size, i.bytes)) = some (some (.agg #[.string ⟨#[]⟩, .string ⟨#[]⟩, .bool false, .bool false, .string ⟨#[]⟩, .int .u16 0, .string ⟨#[]⟩, .slice none 0 0]), 8, 104) := by kernel_rfl
end Go.Proofs.YtpcpjghfcimblaaGreatDoor

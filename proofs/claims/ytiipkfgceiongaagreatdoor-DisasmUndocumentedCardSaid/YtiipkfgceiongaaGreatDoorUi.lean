/- Several texts in one: Ds10, Ds12. -/
import Derived.Test.YtiipkfgceiongaaGreatDoorUh
import Derived.Test.YtiipkfgceiongaaGreatDoorUf
import Derived.Test.YtiipkfgceiongaaGreatDoorUe
import Derived.Test.YtiipkfgceiongaaGreatDoorUa
import Derived.RegionTactic
import Derived.Deep.RegionLaw
import Derived.Deep.RegionHeld3
import Derived.Test.YtiipkfgceiongaaGreatDoorLn35
namespace Go.Proofs.YtiipkfgceiongaaGreatDoor
open Go.RowKit

/-- Cells of a piece in its row. -/
theorem PcOwn.get {w : World} {base g c n : Nat} {l : List Pc} {vs : List Value} (h : PcOwn w base (.slice (some ⟨g, 0, none⟩) n c) l vs) (k : Nat) (hk : k < l.length) :
    ∀ j u, (pcCells l[k] (vs.getD k nilV))[j]? = some u → w.cell? ⟨g, k * 7 + j, none⟩ = some u := by
  intro j u hu
  obtain ⟨A, c', h1, _, _, h2⟩ := own_slice h.2.1 (by omega)
  obtain ⟨g', h3, _, _, _, h4⟩ := h2 (by omega)
  subst h3
  injection h1 with h1 _ _
  simp only [Option.some.injEq, Addr.mk.injEq, and_true] at h1
  subst h1
  exact h4 _ u (rowV_get pcCells_len l vs h.1 k hk j u hu)
def StmtsP (w : World) (l : List St) (k : Nat) (e : Ending) (w' : World) : Prop := ∃ v, e = .returned (.tuple #[v, .int .i64 k]) ∧ StAt w' (fun g => w.heap.size ≤ g ∧ g < w'.heap.size) v l ∧ Below w.heap.size w w'
set_option maxHeartbeats 2000000 in
set_option maxRecDepth 100000 in
theorem Stmts_bad (d n : Int) (b : List UInt8) (v : Value) (w : World) (hr : RdB w w.heap.size v b) (_hl : b.length ≤ 1000000) (h : d < 0 ∨ 2 < d ∨ n < 0) :
    Calls Tryz.prog 13 #[.int .i64 d, .int .i64 n, v] w (StmtsP w [] 1) := by
  obtain ⟨A, c, rfl, hc⟩ := hr.form
  by_cases h1 : d < 0
  · go_enter Tryz.func13, Tryz.ntmps13
    go_wp2_with fail
    go_ret2
    exact ⟨_, rfl, StAt.nil _ _, Below.refl _ _⟩
  by_cases h2 : 2 < d
  · have e1 : decide (d < 0) = false := by simpa using h1
    go_enter Tryz.func13, Tryz.ntmps13
    go_wp2_with fail
    go_ret2
    exact ⟨_, rfl, StAt.nil _ _, Below.refl _ _⟩
  have h3 : n < 0 := by omega
  have e1 : decide (d < 0) = false := by simpa using h1
  have e2 : decide (2 < d) = false := by simpa using h2
  go_enter Tryz.func13, Tryz.ntmps13
  go_wp2_with fail
  go_ret2
  exact ⟨_, rfl, StAt.nil _ _, Below.refl _ _⟩
set_option maxHeartbeats 2000000 in
set_option maxRecDepth 100000 in
theorem Stmts_over (d n : Int) (b : List UInt8) (v : Value) (w : World) (hr : RdB w w.heap.size v b) (hl : b.length ≤ 1000000) (hd1 : 0 ≤ d) (hd2 : d ≤ 2) (hn : 0 ≤ n) (h : 65536 < b.length ∨ 65536 - (b.length : Int) < n) :
    Calls Tryz.prog 13 #[.int .i64 d, .int .i64 n, v] w (StmtsP w [] 7) := by
  obtain ⟨A, c, rfl, hc⟩ := hr.form
  have e1 : decide (d < 0) = false := by simp; omega
  have e2 : decide (2 < d) = false := by simp; omega
  have e3 : decide (n < 0) = false := by simp; omega
  by_cases h1 : 65536 < b.length
  · have e4 : (65536 : Int) < (b.length : Int) := by omega
    clear h
    go_enter Tryz.func13, Tryz.ntmps13
    go_wp2_with fail
    go_ret2
    exact ⟨_, rfl, StAt.nil _ _, Below.refl _ _⟩
  · have e4 : decide ((65536 : Int) < (b.length : Int)) = false := by simp; omega
    have e5 : 65536 - (b.length : Int) < n := by omega
    have hw : IntKind.i64.wrap (65536 - (b.length : Int)) = 65536 - (b.length : Int) := IntWalk.i64_in _ (by omega)
    clear h h1
    go_enter Tryz.func13, Tryz.ntmps13
    go_wp2_with fail
    go_ret2
    exact ⟨_, rfl, StAt.nil _ _, Below.refl _ _⟩
set_option maxHeartbeats 2000000 in
set_option maxRecDepth 100000 in
theorem Stmts_none (d n : Int) (v : Value) (w : World) (hr : RdB w w.heap.size v []) (hd1 : 0 ≤ d) (hd2 : d ≤ 2) (hn : 0 ≤ n) (h : n ≤ 65536) :
    Calls Tryz.prog 13 #[.int .i64 d, .int .i64 n, v] w (StmtsP w [] 0) := by
  obtain ⟨A, c, rfl, hc⟩ := hr.form
  have e1 : decide (d < 0) = false := by simp; omega
  have e2 : decide (2 < d) = false := by simp; omega
  have e3 : decide (n < 0) = false := by simp; omega
  have e4 : decide ((65536 : Int) < n) = false := by simp; omega
  go_enter Tryz.func13, Tryz.ntmps13
  go_wp2_with fail
  go_ret2
  exact ⟨_, rfl, StAt.nil _ _, Below.refl _ _⟩
end Go.Proofs.YtiipkfgceiongaaGreatDoor
/- disasm: the last operand written anew; the third loop's relation. -/
namespace Go.Proofs.YtiipkfgceiongaaGreatDoor
open Go.RowKit

/-- Eight cells of an array written from k on. -/
def set8 (cur : Array Value) (k : Nat) (y : Ar) : Array Value :=
  ((((((((cur.setIfInBounds k (.string ⟨y.w.toArray⟩)).setIfInBounds (k + 1) (.string ⟨y.t.toArray⟩)).setIfInBounds (k + 2) (.bool y.is)).setIfInBounds (k + 3) (.bool y.mem)).setIfInBounds (k + 4) (.string ⟨y.e.op.toArray⟩)).setIfInBounds (k + 5) (.int .u16 y.e.n)).setIfInBounds (k + 6) (.string ⟨y.e.name.toArray⟩)).setIfInBounds (k + 7) nilV)
theorem set8_size (cur : Array Value) (k : Nat) (y : Ar) : (set8 cur k y).size = cur.size := by simp [set8]
theorem set8_take (cur : Array Value) (m : Nat) (init : List Value) (x y : Ar) (hi : init.length = m) (ht : cur.toList.take (m + 8) = init ++ arCells x nilV) : (set8 cur m y).toList.take (m + 8) = init ++ arCells y nilV := by
  subst hi
  unfold set8
  simp only [Array.toList_setIfInBounds, List.take_set, ht]
  simp [arCells]
theorem ArgRow.last {w : World} {S : Nat → Prop} {v : Value} {init : List Ar} {x : Ar} (h : ArgRow w S v (init ++ [x])) :
    ∃ g c cur, v = .slice (some ⟨g, 0, none⟩) (init.length + 1) c ∧ S g ∧ w.heap[g]? = some (.cells cur 46 (0, 0)) ∧ init.length + 1 ≤ c ∧ (∀ j u, (arCells x nilV)[j]? = some u → cur[init.length * 8 + j]? = some u) ∧
      ∀ (w' : World) (y : Ar), w'.heap[g]? = some (.cells (set8 cur (init.length * 8) y) 46 (0, 0)) → ArgRow w' S v (init ++ [y]) := by
  rcases h with ⟨h, _⟩ | ⟨g, c, cur, h1, h2, h3, h4, h5, h6, h7⟩
  · simp at h
  · rw [List.length_append, List.length_singleton] at *
    have e1 : (init.length + 1) * 8 = init.length * 8 + 8 := by omega
    rw [e1, rowA_snoc] at h7
    refine ⟨g, c, cur, h1, h2, h3, h4, fun j u hu => ?_, fun w' y hy => .inr ⟨g, c, _, by rw [h1, List.length_append, List.length_singleton], h2, hy, by rw [List.length_append, List.length_singleton]; exact h4, h5, by rw [set8_size, h6], ?_⟩⟩
    · have hj : j < 8 := (List.getElem?_eq_some_iff.1 hu).1
      have h8 : (cur.toList.take (init.length * 8 + 8))[init.length * 8 + j]? = some u := by
        rw [h7, List.getElem?_append_right (by rw [rowA_len]; omega), rowA_len]
        simpa using hu
      rw [List.getElem?_take, if_pos (by omega)] at h8
      simpa using h8
    · rw [List.length_append, List.length_singleton, e1, rowA_snoc]
      exact set8_take cur _ _ x y (rowA_len init) h7
def Loop3 (w w6 : World) (B n : Nat) (m : List Int) (l : List Pc) (vs : List Value) (ov : Value) (k : Nat) (v : Value) (wr : World) : Prop :=
  wr.ownsRow B 32 4 v (k + 1) (rowV stCells (orgS n :: (l.take k).map (finD m)) (ov :: vs.take k)) ∧
  (∀ i (hi : i < l.length), ArgRow wr (fun g => w.heap.size ≤ g ∧ g < B) (vs.getD i nilV) (if i < k then (finD m l[i]).args else l[i].s.args)) ∧
  (∀ g, g < B → (∀ i, i < l.length → (vs.getD i nilV).ownBlock ≠ some g) → wr.heap[g]? = w6.heap[g]?) ∧ B ≤ wr.heap.size ∧ Below w.heap.size w wr
/-- What holds behind the operands of piece k are looked at. -/
def Mid3 (w w6 : World) (B n : Nat) (m : List Int) (l : List Pc) (vs : List Value) (ov : Value) (k : Nat) (v : Value) (P : Nat) (p : Pc) (av : Value) (wx : World) : Prop :=
  wx.ownsRow B 32 4 v (k + 1) (rowV stCells (orgS n :: (l.take k).map (finD m)) (ov :: vs.take k)) ∧
  (∀ i (hi : i < l.length), ArgRow wx (fun g => w.heap.size ≤ g ∧ g < B) (vs.getD i nilV) (if i < k + 1 then (finD m l[i]).args else l[i].s.args)) ∧
  (∀ g, g < B → (∀ i, i < l.length → (vs.getD i nilV).ownBlock ≠ some g) → wx.heap[g]? = w6.heap[g]?) ∧ B ≤ P ∧ P < wx.heap.size ∧ wx.heap[P]? = some (.cells (pcCells p av).toArray 65 (0, 0)) ∧ Below w.heap.size w wx
theorem ArgRow.set {w : World} {S : Nat → Prop} {v : Value} {l : List Ar} {b i : Nat} {u : Value} (h : ArgRow w S v l) (hb : ¬ S b) : ArgRow (w.setCell ⟨b, i, none⟩ u) S v l :=
  h.keep (fun g hg => Below.heap_setCell _ _ _ g (by rintro rfl; exact hb hg)) (fun _ h => h)
theorem ArgRow.arAt {w : World} {S : Nat → Prop} {v : Value} {l : List Ar} (h : ArgRow w S v l) (hs : ∀ a ∈ l, a.e.sub = []) : ArAt w S v l := by
  rcases h with ⟨rfl, rfl⟩ | ⟨g, c, cur, rfl, h2, h3, h4, h5, h6, h7⟩
  · exact ArAt.nil _ _
  · refine ⟨_, c, fun _ => nilV, rfl, h4, Nat.le_trans h4 h5, fun h0 => ⟨g, 0, rfl, h2, fun i hi j u hu => ?_⟩, fun i hi => ?_⟩
    · rw [Nat.zero_add, cell_of_heap h3]
      have hj : j < 8 := (List.getElem?_eq_some_iff.1 hu).1
      have h8 : (rowA l)[i * 8 + j]? = some u := by
        have : ∀ (l : List Ar) (i : Nat) (hi : i < l.length), (arCells l[i] nilV)[j]? = some u → (rowA l)[i * 8 + j]? = some u := by
          intro l
          induction l with
          | nil => intro i hi; simp at hi
          | cons a l ih =>
            intro i hi hu
            have e : rowA (a :: l) = arCells a nilV ++ rowA l := by simp [rowA]
            rw [e]
            cases i with
            | zero => rw [List.getElem?_append_left (by simpa [arCells] using by omega)]; simpa using hu
            | succ i =>
              rw [List.getElem?_append_right (by simp [arCells]; omega)]
              have := ih i (by simpa using hi) (by simpa using hu)
              rw [show (i + 1) * 8 + j - (arCells a nilV).length = i * 8 + j by simp [arCells]; omega]
              exact this
        exact this l i hi hu
      rw [← h7, List.getElem?_take, if_pos (by omega)] at h8
      simpa using h8
    · rw [hs _ (List.getElem_mem hi)]
      exact SubAt.nil _ _
theorem finD_sub (m : List Int) (p : Pc) (h : ∀ a ∈ p.s.args, a.e.sub = []) : ∀ a ∈ (finD m p).args, a.e.sub = [] := by
  intro a ha
  unfold finD at ha
  simp only at ha
  split at ha
  · rcases List.mem_append.1 ha with h1 | h1
    · exact h a (List.dropLast_subset _ h1)
    · simp at h1; subst h1; rfl
  · exact h a ha
theorem stat_rows {w : World} {base B : Nat} {v : Value} {l : List St} {vs : List Value} (hB : base ≤ B) (hown : w.ownsRow B 32 4 v l.length (rowV stCells l vs)) (hlen : vs.length = l.length) (hargs : ∀ i (hi : i < l.length), ArAt w (fun g => base ≤ g ∧ g < w.heap.size) (vs.getD i nilV) l[i].args) :
    StAt w (fun g => base ≤ g ∧ g < w.heap.size) v l := by
  obtain ⟨A, c, rfl, hc, hm, hrow⟩ := own_slice hown (by omega)
  refine ⟨A, c, fun i => vs.getD i nilV, rfl, hc, hm, fun h0 => ?_, hargs⟩
  obtain ⟨g, rfl, g1, g2, _, g3⟩ := hrow h0
  refine ⟨g, 0, rfl, ⟨by omega, g2⟩, fun i hi j u hu => ?_⟩
  rw [Nat.zero_add]
  exact g3 _ _ (rowV_get stCells_len l vs hlen i hi j u hu)
theorem own_ne {w : World} {base size n b i : Nat} {e : TypeId} {v u : Value} {xs : List Value} (h : w.ownsRow base e size v n xs) (hb : v.ownBlock ≠ some b) : (w.setCell ⟨b, i, none⟩ u).ownsRow base e size v n xs :=
  ⟨h.1, h.2.imp id fun ⟨g, cap, cur, h1, h2, h3, h4⟩ => ⟨g, cap, cur, h1, h2, (Below.heap_setCell w ⟨b, i, none⟩ u g (by rintro rfl; exact hb (by rw [h1]; rfl))).trans h3, h4⟩⟩
theorem ArgRow.ne {w : World} {S : Nat → Prop} {v : Value} {l : List Ar} {b : Nat} (h : ArgRow w S v l) (hb : v.ownBlock ≠ some b) : ArgRow w (fun g => S g ∧ g ≠ b) v l :=
  h.imp id fun ⟨g, c, cur, h1, h2, h3⟩ => ⟨g, c, cur, h1, ⟨h2, fun e => hb (by rw [h1, e]; rfl)⟩, h3⟩
end Go.Proofs.YtiipkfgceiongaaGreatDoor

/- expr: binds, word, the parser's place. -/
import Derived.Test.YtpmeabikhonaoaaDoorExMem
import Derived.Test.YtpmeabikhonaoaaDoorKb
import Derived.Test.YtpmeabikhonaoaaDoorShelf
namespace Go.Proofs.YtpmeabikhonaoaaDoor
open Go.RowKit

theorem binds_no (o : List UInt8) (h : ¬ (o = sNum ∨ o = sN ∨ o = sHere ∨ o = sNEG ∨ o = [42] ∨ o = [47] ∨ o = sMOD ∨ o = sSHL ∨ o = sSHR ∨ o = [43] ∨ o = [45] ∨ o = sNOT ∨ o = sAND ∨ o = sOR ∨ o = sXOR)) : bindsE o = (0, 0) := by
  simp only [not_or] at h
  obtain ⟨h1, h2, h3, h4, h5, h6, h7, h8, h9, h10, h11, h12, h13, h14, h15⟩ := h
  unfold bindsE
  simp only [h1, h2, h3, h4, h5, h6, h7, h8, h9, h10, h11, h12, h13, h14, h15, or_self, if_false]
set_option maxHeartbeats 4000000 in
theorem binds_any (o : List UInt8) (w : World) : Calls Tryd.prog 71 #[.string ⟨o.toArray⟩] w fun e w' => e = .returned (.tuple #[.int .i64 (bindsE o).1, .int .i64 (bindsE o).2]) ∧ w = w' := by
  by_cases h : o = sNum ∨ o = sN ∨ o = sHere ∨ o = sNEG ∨ o = [42] ∨ o = [47] ∨ o = sMOD ∨ o = sSHL ∨ o = sSHR ∨ o = [43] ∨ o = [45] ∨ o = sNOT ∨ o = sAND ∨ o = sOR ∨ o = sXOR
  · rcases h with rfl | rfl | rfl | rfl | rfl | rfl | rfl | rfl | rfl | rfl | rfl | rfl | rfl | rfl | rfl
    all_goals (
      go_enter Tryd.func71, Tryd.ntmps71
      go_wp2_with fail
      go_ret2
      exact ⟨rfl, rfl⟩)
  · have HB := Lib.hid (binds_no o h)
    simp only [not_or] at h
    obtain ⟨h1, h2, h3, h4, h5, h6, h7, h8, h9, h10, h11, h12, h13, h14, h15⟩ := h
    replace h1 : (o == [35]) = false := by simpa using h1
    replace h2 : (o == [110]) = false := by simpa using h2
    replace h3 : (o == [36]) = false := by simpa using h3
    replace h4 : (o == [78, 69, 71]) = false := by simpa using h4
    replace h5 : (o == [42]) = false := by simpa using h5
    replace h6 : (o == [47]) = false := by simpa using h6
    replace h7 : (o == [77, 79, 68]) = false := by simpa using h7
    replace h8 : (o == [83, 72, 76]) = false := by simpa using h8
    replace h9 : (o == [83, 72, 82]) = false := by simpa using h9
    replace h10 : (o == [43]) = false := by simpa using h10
    replace h11 : (o == [45]) = false := by simpa using h11
    replace h12 : (o == [78, 79, 84]) = false := by simpa using h12
    replace h13 : (o == [65, 78, 68]) = false := by simpa using h13
    replace h14 : (o == [79, 82]) = false := by simpa using h14
    replace h15 : (o == [88, 79, 82]) = false := by simpa using h15
    go_enter Tryd.func71, Tryd.ntmps71
    go_wp2_with fail
    go_ret2
    rw [HB.out]
    exact ⟨rfl, rfl⟩
set_option maxHeartbeats 4000000 in
theorem word_any (o : List UInt8) (w : World) : Calls Tryd.prog 100 #[.string ⟨o.toArray⟩] w fun e w' => e = .returned (.bool (wordE o)) ∧ w = w' := by
  by_cases h : o = sOR ∨ o = sXOR ∨ o = sAND ∨ o = sNOT ∨ o = sMOD ∨ o = sSHL ∨ o = sSHR
  · rcases h with rfl | rfl | rfl | rfl | rfl | rfl | rfl
    all_goals (
      go_enter Tryd.func100, Tryd.ntmps100
      go_wp2_with fail
      go_ret
      exact ⟨rfl, rfl⟩)
  · have HB := Lib.hid (show wordE o = false from decide_eq_false h)
    simp only [not_or] at h
    obtain ⟨h1, h2, h3, h4, h5, h6, h7⟩ := h
    replace h1 : (o == [79, 82]) = false := by simpa using h1
    replace h2 : (o == [88, 79, 82]) = false := by simpa using h2
    replace h3 : (o == [65, 78, 68]) = false := by simpa using h3
    replace h4 : (o == [78, 79, 84]) = false := by simpa using h4
    replace h5 : (o == [77, 79, 68]) = false := by simpa using h5
    replace h6 : (o == [83, 72, 76]) = false := by simpa using h6
    replace h7 : (o == [83, 72, 82]) = false := by simpa using h7
    go_enter Tryd.func100, Tryd.ntmps100
    go_wp2_with fail
    go_ret
    rw [HB.out]
    exact ⟨rfl, rfl⟩

theorem contains_any (ls : List (List UInt8)) (x : List UInt8) (g n : Nat) (w : World) (hn : n = ls.length) (hl : ls.length ≤ 1000) (hc : ∀ j (hj : j < ls.length), w.cell? ⟨g, j, none⟩ = some (.string ⟨ls[j].toArray⟩)) :
    Calls Tryd.prog 163 #[.slice (some ⟨g, 0, none⟩) n n, .string ⟨x.toArray⟩] w fun e w' => e = .returned (.bool (decide (x ∈ ls))) ∧ w = w' := by
  subst hn
  refine (Tryd.slices_Contains_string g 0 ls.length ls.length (ls.map fun s => ⟨s.toArray⟩) ⟨x.toArray⟩ w (by simp) (by omega) (fun j hj => ?_)).mono ?_
  · simp at hj
    rw [Nat.zero_add, hc j hj]
    simp [hj]
  · rintro e w' ⟨rfl, rfl⟩
    refine ⟨?_, rfl⟩
    congr 2
    rw [List.take_of_length_le (by simp), Bool.eq_iff_iff, Lib.containsS_iff]
    simp

/-- The parser's state in block b. -/
def PSt (w : World) (b : Nat) (s : PS) : Prop := ∃ v, w.heap[b]? = some (.cells #[v, .int .i64 s.k, .int .i64 s.op] 103 (0, 0)) ∧ Rd w b v s.ts.length (tokRow s.ts) ∧ ∀ t ∈ s.ts, t.2.2 ≤ 65535 ∧ t.2.1.length ≤ 1000
theorem heap_alloc_old (w : World) (o : Obj) (b : Nat) (h : b < w.heap.size) : (w.alloc o).heap[b]? = w.heap[b]? := Below.heap_alloc w o b h
theorem PSt.lt {w : World} {b : Nat} {s : PS} (h : PSt w b s) : b < w.heap.size := by obtain ⟨v, h1, _⟩ := h; exact lt_of_heap h1
theorem PSt.keep {w w' : World} {b : Nat} {s : PS} (h : PSt w b s) (h1 : w'.heap[b]? = w.heap[b]?) (h2 : ∀ p : Addr, p.block < b → w'.cell? p = w.cell? p) : PSt w' b s := by
  obtain ⟨v, h3, h4, h5⟩ := h
  exact ⟨v, h1.trans h3, h4.keep h2, h5⟩
theorem PSt.alloc {w : World} {b : Nat} {s : PS} (h : PSt w b s) (o : Obj) : PSt (w.alloc o) b s :=
  h.keep (heap_alloc_old w o b h.lt) (fun p hp => World.cell?_alloc_lt _ _ _ (by have := h.lt; omega))
theorem PSt.below {w w' : World} {b : Nat} {s : PS} (h : PSt w b s) (hb : Below w.heap.size w w') : PSt w' b s :=
  h.keep (hb.block b h.lt) (fun p hp => hb.cell (by have := h.lt; omega))
theorem setCell_other {w : World} {b i : Nat} {u : Value} (p : Addr) (h : p.block ≠ b) : (w.setCell ⟨b, i, none⟩ u).cell? p = w.cell? p := World.cell?_of_block (Below.heap_setCell w ⟨b, i, none⟩ u p.block h)
theorem PSt.setK {w : World} {b : Nat} {s : PS} (h : PSt w b s) (k : Nat) : PSt (w.setCell ⟨b, 1, none⟩ (.int .i64 k)) b { s with k := k } := by
  obtain ⟨v, h3, h4, h5⟩ := h
  exact ⟨v, heap_set _ h3, h4.keep (fun p hp => setCell_other p (by omega)), h5⟩
theorem PSt.setOp {w : World} {b : Nat} {s : PS} (h : PSt w b s) (k : Nat) : PSt (w.setCell ⟨b, 2, none⟩ (.int .i64 k)) b { s with op := k } := by
  obtain ⟨v, h3, h4, h5⟩ := h
  exact ⟨v, heap_set _ h3, h4.keep (fun p hp => setCell_other p (by omega)), h5⟩
theorem PSt.cells {w : World} {b : Nat} {s : PS} (h : PSt w b s) : ∃ A c, w.cell? ⟨b, 0, none⟩ = some (.slice A s.ts.length c) ∧ w.cell? ⟨b, 1, none⟩ = some (.int .i64 s.k) ∧ w.cell? ⟨b, 2, none⟩ = some (.int .i64 s.op) ∧
    w.frozen? ⟨b, 0, none⟩ = false ∧ w.frozen? ⟨b, 1, none⟩ = false ∧ w.frozen? ⟨b, 2, none⟩ = false ∧ s.ts.length ≤ c ∧ Rd w b (.slice A s.ts.length c) s.ts.length (tokRow s.ts) := by
  obtain ⟨v, h3, h4, h5⟩ := h
  obtain ⟨A, c, rfl, hc⟩ := h4.form
  exact ⟨A, c, cell_of_heap h3, cell_of_heap h3, cell_of_heap h3, frozen_of_heap h3, frozen_of_heap h3, frozen_of_heap h3, hc, h4⟩

def atV : Option (List UInt8) → Value
  | some o => .tuple #[.string ⟨o.toArray⟩, .bool true]
  | none => .tuple #[.string ⟨#[]⟩, .bool false]
set_option maxHeartbeats 1000000 in
set_option maxRecDepth 100000 in
theorem at_any (s : PS) (kind : Int) (ls : List (List UInt8)) (b g n : Nat) (w : World) (hp : PSt w b s) (hl : s.ts.length ≤ 1000000) (hn : n = ls.length) (hls : ls.length ≤ 1000) (hc : ∀ j (hj : j < ls.length), w.cell? ⟨g, j, none⟩ = some (.string ⟨ls[j].toArray⟩)) :
    Calls Tryd.prog 140 #[.pointer (some ⟨b, 0, none⟩), .int .i64 kind, .slice (some ⟨g, 0, none⟩) n n] w fun e w' => e = .returned (atV (atT s.ts kind ls)) ∧ w = w' := by
  obtain ⟨A, c, p0, p1, p2, f0, f1, f2, hc2, hr⟩ := hp.cells
  subst hn
  have HC := fun x => contains_any ls x g ls.length w rfl hls hc
  have HC' := Lib.hid HC
  clear HC hc p1 p2 f0 f1 f2 hp
  rcases s with ⟨ts, k, op⟩
  cases ts with
  | nil =>
    go_enter Tryd.func140, Tryd.ntmps140
    go_wp2_with fail
    go_ret2
    exact ⟨rfl, rfl⟩
  | cons t r =>
    obtain ⟨g1, o1, rfl, hg1, c0, c1, c3⟩ := hr.tok 0 (by simp)
    simp only [Nat.zero_mul, Nat.add_zero, List.getElem_cons_zero] at c0 c1 c3
    have HA : Hid (atT (t :: r) kind ls = if t.1 = kind ∧ t.2.1 ∈ ls then some t.2.1 else none) := Lib.hid rfl
    show Calls _ _ _ _ fun e w' => e = .returned (atV (atT (t :: r) kind ls)) ∧ w = w'
    generalize atT (t :: r) kind ls = res at *
    have hlen : (0 : Int) < ((t :: r).length : Int) := by simp
    have hlen2 : (t :: r).length ≤ 1000000 := hl
    have p0' : w.cell? ⟨b, 0, none⟩ = some (.slice (some ⟨g1, o1, none⟩) (t :: r).length c) := p0
    clear p0 hr hl c3 hc2
    generalize (t :: r).length = len at *
    by_cases hk : t.1 = kind
    · subst hk
      cases hm : decide (t.2.1 ∈ ls) with
      | true =>
        have hres : res = some t.2.1 := HA.out.trans (if_pos ⟨rfl, by simpa using hm⟩)
        have HM := Lib.hid hm
        clear HA hm
        go_enter Tryd.func140, Tryd.ntmps140
        go_wp2_with fail
        refine (HC'.out _).mono ?_
        rintro e w' ⟨rfl, rfl⟩
        rw [HM.out]
        go_wp2_with fail
        go_ret2
        rw [hres]
        exact ⟨rfl, rfl⟩
      | false =>
        have hres : res = none := HA.out.trans (if_neg (fun h => by simp [h.2] at hm))
        have HM := Lib.hid hm
        clear HA hm
        go_enter Tryd.func140, Tryd.ntmps140
        go_wp2_with fail
        refine (HC'.out _).mono ?_
        rintro e w' ⟨rfl, rfl⟩
        rw [HM.out]
        go_wp2_with fail
        go_ret2
        rw [hres]
        exact ⟨rfl, rfl⟩
    · have hres : res = none := HA.out.trans (if_neg (fun h => hk h.1))
      have hk' : (t.1 == kind) = false := by simp [hk]
      clear HA HC'
      go_enter Tryd.func140, Tryd.ntmps140
      go_wp2_with fail
      go_ret2
      rw [hres]
      exact ⟨rfl, rfl⟩
theorem grow_refl (w : World) (row : Option Nat) : w.grownBy w row := World.grownBy.refl w row
theorem grow_trans {a b c : World} {g : Nat} (h1 : a.grownBy b (some g)) (h2 : b.grownBy c (some g)) : a.grownBy c (some g) :=
  ⟨h2.os.trans h1.os, h2.tape.trans h1.tape, h2.output.trans h1.output, Nat.le_trans h1.size h2.size, fun i hi hne => (h2.block i (Nat.lt_of_lt_of_le hi h1.size) hne).trans (h1.block i hi hne)⟩
set_option maxHeartbeats 1000000 in
theorem fail_any (s : PS) (k : Nat) (b : Nat) (w : World) (hp : PSt w b s) :
    Calls Tryd.prog 164 #[.pointer (some ⟨b, 0, none⟩), .int .i64 k] w fun e w' => e = .returned (exV ex0 (.slice none 0 0)) ∧ PSt w' b (s.fail k) ∧ w.grownBy w' (some b) := by
  obtain ⟨A, c, p0, p1, p2, f0, f1, f2, hc2, hr⟩ := hp.cells
  have hlt := hp.lt
  clear p0 p2 f0 f2 hr hc2
  by_cases hk : s.k = 0
  · have HF : Hid (s.fail k = { s with k := k }) := Lib.hid (if_pos hk)
    have p1' : w.cell? ⟨b, 1, none⟩ = some (.int .i64 0) := by rw [p1, hk]; rfl
    clear p1
    go_enter Tryd.func164, Tryd.ntmps164
    go_wp2_with fail
    rw [HF.out]
    refine bodyPost_ret (v := exV ex0 (.slice none 0 0)) (by simp [results, Tryd.results164, go_sem]; rfl) rfl ⟨rfl, ?_, ?_⟩
    · exact (hp.setK k).alloc _
    · exact only_alloc (only_setCell (grow_refl _ _) (.inl rfl) _) _
  · have HF : Hid (s.fail k = s) := Lib.hid (if_neg hk)
    have hk' : ((s.k : Int) == 0) = false := by rw [beq_eq_false_iff_ne]; omega
    go_enter Tryd.func164, Tryd.ntmps164
    go_wp2_with fail
    rw [HF.out]
    refine bodyPost_ret (v := exV ex0 (.slice none 0 0)) (by simp [results, Tryd.results164, go_sem]; rfl) rfl ⟨rfl, ?_, ?_⟩
    · exact hp.alloc _
    · exact only_alloc (grow_refl _ _) _
theorem Rd.tail {w : World} {B c g o : Nat} {t : Tok} {r : List Tok} (h : Rd w B (.slice (some ⟨g, o, none⟩) (t :: r).length c) (t :: r).length (tokRow (t :: r))) (g' o' : Nat) (hgo : 0 < r.length → g' = g ∧ o' = o + 3) (c' : Nat) (hc : r.length ≤ c') : Rd w B (.slice (some ⟨g', o', none⟩) r.length c') r.length (tokRow r) := by
  obtain ⟨A', c2, h1, h2, h3⟩ := h
  injection h1 with h1 _ _
  subst h1
  refine ⟨_, c', rfl, hc, fun h0 => ?_⟩
  obtain ⟨rfl, rfl⟩ := hgo h0
  obtain ⟨g2, o2, h4, h5, h6⟩ := h3 (by simp)
  injection h4 with h4
  injection h4 with h4 h7 _
  subst h4 h7
  refine ⟨_, _, rfl, h5, fun j u hu => ?_⟩
  have := h6 (j + 3) u (by
    have e : tokRow (t :: r) = tokCells t ++ tokRow r := by simp [tokRow]
    rw [e, List.getElem?_append_right (by simp [tokCells])]
    simpa [tokCells] using hu)
  rw [← this]
  congr 2
  omega
theorem PSt.setTs {w : World} {b : Nat} {s : PS} {t : Tok} {r : List Tok} (h : PSt w b s) (hs : s.ts = t :: r) (v : Value) (hv : Rd w b v r.length (tokRow r)) : PSt (w.setCell ⟨b, 0, none⟩ v) b s.skip := by
  obtain ⟨v0, h3, h4, h5⟩ := h
  have e : s.skip.ts = r := by simp [PS.skip, hs]
  refine ⟨v, heap_set _ h3, ?_, ?_⟩
  · rw [e]; exact hv.keep (fun p hp => setCell_other p (by omega))
  · rw [e]; intro t ht; exact h5 t (by rw [hs]; simp [ht])
set_option maxHeartbeats 1000000 in
set_option maxRecDepth 100000 in
theorem skip_any (s : PS) (t : Tok) (r : List Tok) (b : Nat) (w : World) (hp : PSt w b s) (hs : s.ts = t :: r) (hl : s.ts.length ≤ 1000000) :
    Calls Tryd.prog 118 #[.pointer (some ⟨b, 0, none⟩)] w fun e w' => e = .returned (tokV t) ∧ PSt w' b s.skip ∧ w.grownBy w' (some b) := by
  obtain ⟨A, c, p0, p1, p2, f0, f1, f2, hc2, hr⟩ := hp.cells
  have hlt := hp.lt
  clear p1 p2 f1 f2
  rw [hs] at p0 hr hc2 hl
  obtain ⟨g1, o1, rfl, hg1, c0, c1, c3⟩ := hr.tok 0 (by simp)
  simp only [Nat.zero_mul, Nat.add_zero, List.getElem_cons_zero] at c0 c1 c3
  have HR := Lib.hid hr
  have HP := Lib.hid hp
  have HS := Lib.hid hs
  clear hr hp hs
  have hg2 : g1 < w.heap.size := by omega
  have hgb : g1 ≠ b := by omega
  rw [List.length_cons] at p0 hc2 hl
  by_cases hcap : c = 1
  · subst hcap
    go_enter Tryd.func118, Tryd.ntmps118
    go_wp2_with fail
    refine bodyPost_ret (v := tokV t) (by simp [results, Tryd.results118, go_sem]; rfl) rfl ⟨rfl, ?_, ?_⟩
    · exact ((HP.out.setTs HS.out _ (by have hr0 : r = [] := List.eq_nil_of_length_eq_zero (by omega); subst hr0; exact HR.out.tail g1 o1 (fun h => absurd h (by simp)) 0 (by simp))).alloc _).alloc _
    · exact only_alloc (only_alloc (only_setCell (grow_refl _ _) (.inl rfl) _) _) _
  · go_enter Tryd.func118, Tryd.ntmps118
    go_wp2_with fail
    refine bodyPost_ret (v := tokV t) (by simp [results, Tryd.results118, go_sem]; rfl) rfl ⟨rfl, ?_, ?_⟩
    · exact ((HP.out.setTs HS.out _ (HR.out.tail g1 (o1 + 3) (fun _ => ⟨rfl, rfl⟩) (c - 1) (by omega))).alloc _).alloc _
    · exact only_alloc (only_alloc (only_setCell (grow_refl _ _) (.inl rfl) _) _) _
end Go.Proofs.YtpmeabikhonaoaaDoor

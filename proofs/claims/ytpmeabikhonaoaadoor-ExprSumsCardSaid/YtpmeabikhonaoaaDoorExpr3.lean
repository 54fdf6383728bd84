/- expr: the parser. -/
import Derived.Test.YtpmeabikhonaoaaDoorExpr2
import Derived.Test.YtpmeabikhonaoaaDoorKa
namespace Go.Proofs.YtpmeabikhonaoaaDoor
open Go.RowKit

/-- What a call of the parser leaves. -/
def PPost (b : Nat) (w : World) (res : Ex × PS) (e : Ending) (w' : World) : Prop :=
  ∃ vs, e = .returned (.agg #[.string ⟨res.1.op.toArray⟩, .int .u16 res.1.n, .string ⟨res.1.name.toArray⟩, vs]) ∧ SubAt w' (fun g => w.heap.size ≤ g ∧ g < w'.heap.size) vs res.1.sub ∧ okE res.1 ∧ PSt w' b res.2 ∧ w.grownBy w' (some b)
def BinH (f r b L : Nat) : Prop := ∀ s w, PSt w b s → s.ts.length ≤ L → s.op ≤ 48 → Calls Tryd.prog 84 #[.pointer (some ⟨b, 0, none⟩), .int .i64 r] w (PPost b w (pP f r s))
theorem PSt.setOpZ {w : World} {b : Nat} {s : PS} (h : PSt w b s) (k : Nat) (z : Int) (hz : z = k) : PSt (w.setCell ⟨b, 2, none⟩ (.int .i64 z)) b { s with op := k } := by subst hz; exact h.setOp k
theorem PSt.setOther {w : World} {b : Nat} {s : PS} (h : PSt w b s) (p : Addr) (hp : b < p.block) (u : Value) : PSt (w.setCell p u) b s :=
  h.keep (Below.heap_setCell w p u b (by omega)) (fun q hq => World.cell?_of_block (Below.heap_setCell w p u q.block (by omega)))
theorem ok_mk {o : List UInt8} {n : Nat} {m : List UInt8} {s : List Ex} (hn : n ≤ 65535) (ho : o.length ≤ 1000) (hm : m.length ≤ 1000) : okE (.mk o n m s) := ⟨hn, by show o.length ≤ maxLen; unfold maxLen; omega, by show m.length ≤ maxLen; unfold maxLen; omega⟩
theorem ok0 : okE ex0 := ⟨by decide, by simp [ex0, Ex.op], by simp [ex0, Ex.name]⟩
/-- Four cells of a block that the callee left. -/
theorem four {w : World} {h : Nat} {c0 c1 c2 c3 : Value} {T : TypeId} (hh : w.heap[h]? = some (.cells #[c0, c1, c2, c3] T (0, 0))) :
    (w.cell? ⟨h, 0, none⟩ = some c0 ∧ w.cell? ⟨h, 1, none⟩ = some c1 ∧ w.cell? ⟨h, 2, none⟩ = some c2 ∧ w.cell? ⟨h, 3, none⟩ = some c3) ∧ (w.frozen? ⟨h, 0, none⟩ = false ∧ w.frozen? ⟨h, 1, none⟩ = false ∧ w.frozen? ⟨h, 2, none⟩ = false ∧ w.frozen? ⟨h, 3, none⟩ = false) :=
  ⟨⟨cell_of_heap hh, cell_of_heap hh, cell_of_heap hh, cell_of_heap hh⟩, frozen_of_heap hh, frozen_of_heap hh, frozen_of_heap hh, frozen_of_heap hh⟩
theorem heap_last {w : World} {n : Nat} (hn : w.heap.size = n) (o : Obj) : (w.alloc o).heap[n]? = some o := by subst hn; exact heap_alloc_new w o
theorem size_set (w : World) (p : Addr) (u : Value) : (w.setCell p u).heap.size = w.heap.size := by simp [World.setCell]
theorem grow_four {a w : World} {g : Nat} (h : a.grownBy w (some g)) {k : Nat} (hk : a.heap.size ≤ k) (u0 u1 u2 u3 : Value) : a.grownBy ((((w.setCell ⟨k, 0, none⟩ u0).setCell ⟨k, 1, none⟩ u1).setCell ⟨k, 2, none⟩ u2).setCell ⟨k, 3, none⟩ u3) (some g) :=
  only_setCell (only_setCell (only_setCell (only_setCell h (.inr hk) _) (.inr hk) _) (.inr hk) _) (.inr hk) _
theorem PSt.four {w : World} {b : Nat} {s : PS} (h : PSt w b s) {k : Nat} (hk : b < k) (u0 u1 u2 u3 : Value) : PSt ((((w.setCell ⟨k, 0, none⟩ u0).setCell ⟨k, 1, none⟩ u1).setCell ⟨k, 2, none⟩ u2).setCell ⟨k, 3, none⟩ u3) b s :=
  (((h.setOther _ hk _).setOther _ hk _).setOther _ hk _).setOther _ hk _
theorem SubAt.four {w : World} {S S' : Nat → Prop} {v : Value} {sub : List Ex} (h : SubAt w S v sub) {k : Nat} (hk : ¬ S k) (hS : ∀ g, S g → S' g) (u0 u1 u2 u3 : Value) : SubAt ((((w.setCell ⟨k, 0, none⟩ u0).setCell ⟨k, 1, none⟩ u1).setCell ⟨k, 2, none⟩ u2).setCell ⟨k, 3, none⟩ u3) S' v sub :=
  h.keep (fun p hp => by
    have hne : p.block ≠ k := fun e => hk (e ▸ hp)
    rw [setCell_other p hne, setCell_other p hne, setCell_other p hne, setCell_other p hne]) hS

theorem SubAt.set1 {w : World} {S : Nat → Prop} {v : Value} {sub : List Ex} (h : SubAt w S v sub) (p : Addr) (hp : ¬ S p.block) (u : Value) : SubAt (w.setCell p u) S v sub :=
  h.keep (fun q hq => World.cell?_of_block (Below.heap_setCell w p u q.block (fun e => hp (e ▸ hq)))) (fun _ h => h)
theorem SubAt.alloc' {w : World} {S S' : Nat → Prop} {v : Value} {sub : List Ex} (h : SubAt w S v sub) (o : Obj) (hw : ∀ g, S g → g < w.heap.size) (hS : ∀ g, S g → S' g) : SubAt (w.alloc o) S' v sub :=
  h.keep (fun _ hp => World.cell?_alloc_lt _ _ _ (hw _ hp)) hS

theorem SubAt.grown {w w' : World} {S : Nat → Prop} {v : Value} {sub : List Ex} {b : Nat} (h : SubAt w S v sub) (hg : w.grownBy w' (some b)) (hb : ¬ S b) (hl : ∀ g, S g → g < w.heap.size) : SubAt w' S v sub :=
  h.keep (fun p hp => World.cell?_of_block (hg.block p.block (hl _ hp) (fun e => hb (by injection e with e; exact e ▸ hp)))) (fun _ h => h)

set_option maxHeartbeats 2000000 in
set_option maxRecDepth 100000 in
theorem within_any (f r b L : Nat) (hgo : BinH f r b L) (s : PS) (w : World) (hp : PSt w b s) (hl : s.ts.length ≤ L) (hop : s.op ≤ 48) :
    Calls Tryd.prog 141 #[.pointer (some ⟨b, 0, none⟩), .int .i64 r] w (PPost b w (wIn (pP f r) s)) := by
  obtain ⟨A, c, p0, p1, p2, f0, f1, f2, hc2, hr⟩ := hp.cells
  have hlt := hp.lt
  have HP := Lib.hid hp
  have hop' : (s.op : Int) ≤ 48 := by omega
  clear hp p0 p1 f0 f1 hc2 hr
  by_cases hbig : 48 < s.op + 1
  · have hw : Hid (wIn (pP f r) s = (ex0, ({ s with op := s.op + 1 } : PS).fail 11)) := Lib.hid (by unfold wIn; exact if_pos hbig)
    have hb1 : (48 : Int) < (s.op : Int) + 1 := by omega
    rw [hw.out]
    clear hw hgo
    go_enter Tryd.func141, Tryd.ntmps141
    go_wp2_with fail
    refine (fail_any { s with op := s.op + 1 } 11 b _ ((HP.out.setOpZ (s.op + 1) _ (by omega)).alloc _)).mono ?_
    rintro e w2 ⟨rfl, hps, hgr⟩
    have hh := (hgr.block w.heap.size (by simp [World.setCell]) (by simp; omega)).trans (heap_last (size_set _ _ _) _)
    obtain ⟨⟨k0, k1, k2, k3⟩, g0, g1, g2, g3⟩ := four hh
    have hg2 : w.grownBy w2 (some b) := grow_trans (only_alloc (only_setCell (grow_refl _ _) (.inl rfl) _) _) hgr
    simp only [exV, ex0, Ex.op, Ex.n, Ex.name]
    go_wp2_with fail
    refine bodyPost_ret (v := exV ex0 (.slice none 0 0)) (by simp [results, Tryd.results141, go_sem, k0, k1, k2, k3]; rfl) rfl ⟨.slice none 0 0, rfl, SubAt.nil _ _, ok0, ?_, ?_⟩
    · exact hps.four hlt _ _ _ _
    · exact grow_four hg2 (Nat.le_refl _) _ _ _ _
  · have hw : Hid (wIn (pP f r) s = ((pP f r { s with op := s.op + 1 }).1, { (pP f r { s with op := s.op + 1 }).2 with op := (pP f r { s with op := s.op + 1 }).2.op - 1 })) := Lib.hid (by unfold wIn; exact if_neg hbig)
    have hinv := ((pP_inv f).1 r { s with op := s.op + 1 }).2.1 (by show s.op + 1 ≤ 48; omega)
    have hc := hgo { s with op := s.op + 1 }
    rw [hw.out]
    clear hw hgo
    generalize pP f r { s with op := s.op + 1 } = res at *
    obtain ⟨re, rs⟩ := res
    have hge : s.op + 1 ≤ rs.op ∧ rs.op ≤ 49 := ⟨hinv.1, hinv.2.1⟩
    clear hinv
    have hb1 : decide ((48 : Int) < (s.op : Int) + 1) = false := by simp; omega
    have HC := Lib.hid hc
    clear hc
    go_enter Tryd.func141, Tryd.ntmps141
    go_wp2_with fail
    refine (HC.out _ ((HP.out.setOpZ (s.op + 1) _ (by omega)).alloc _) hl (by show s.op + 1 ≤ 48; omega)).mono ?_
    rintro e w2 ⟨vs, rfl, hsub, hok, hps, hgr⟩
    obtain ⟨sA, sc, rfl, _, _⟩ := hsub.form
    have hh := (hgr.block w.heap.size (by simp [World.setCell]) (by simp; omega)).trans (heap_last (size_set _ _ _) _)
    obtain ⟨⟨k0, k1, k2, k3⟩, g0, g1, g2, g3⟩ := four hh
    have hg2 : w.grownBy w2 (some b) := grow_trans (only_alloc (only_setCell (grow_refl _ _) (.inl rfl) _) _) hgr
    obtain ⟨A', c', q0, q1, q2, e0, e1, e2, hcc, hrr⟩ := hps.cells
    have hlt2 := hps.lt
    have hsz : w.heap.size + 1 ≤ w2.heap.size := by have := hgr.size; simpa [World.setCell] using this
    have hH : w.heap.size < w2.heap.size := by omega
    have hHb : w.heap.size ≠ b := by omega
    have hbH : b ≠ w.heap.size := by omega
    have HPS := Lib.hid hps
    have HSUB := Lib.hid hsub
    clear hps hsub q0 q1 e0 e1 hcc hrr HC
    have hro : (1 : Int) ≤ (rs.op : Int) ∧ (rs.op : Int) ≤ 49 := by omega
    obtain ⟨hro1, hro2⟩ := hro
    dsimp only at q2 ⊢
    go_wp2_with fail
    refine bodyPost_ret (v := .agg #[.string ⟨re.op.toArray⟩, .int .u16 re.n, .string ⟨re.name.toArray⟩, .slice sA re.sub.length sc]) (by simp [results, Tryd.results141, go_sem, k0, k1, k2, k3, hH]) rfl ⟨_, rfl, ?_, hok, ?_, ?_⟩
    · refine SubAt.alloc' (((HSUB.out.more (S' := fun g => w.heap.size + 1 ≤ g ∧ g < w2.heap.size) (fun g hg => by simpa [World.setCell] using hg)).set1 ⟨b, 2, none⟩ (by simp; omega) _).four (k := w.heap.size) (S' := fun g => w.heap.size ≤ g ∧ g < w2.heap.size) (by omega) (fun g hg => by omega) _ _ _ _) _ (fun g hg => by simp [World.setCell]; omega) (fun g hg => by simp [World.setCell]; omega)
    · exact (((HPS.out.setOpZ (rs.op - 1) _ (by omega)).four hlt _ _ _ _)).alloc _
    · exact only_alloc (grow_four (only_setCell hg2 (.inl rfl) _) (Nat.le_refl _) _ _ _ _) _
end Go.Proofs.YtpmeabikhonaoaaDoor

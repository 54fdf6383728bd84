/- expr: the parser's binary. -/
import Derived.Test.YtpmeabikhonaoaaDoorExpr5
import Derived.IntWalk
import Derived.Deep.RegionWith
namespace Go.Proofs.YtpmeabikhonaoaaDoor
open Go.RowKit

theorem PSt.drew {w : World} {b : Nat} {s : PS} (h : PSt w b s) : PSt w.drew b s := h.keep rfl (fun _ _ => rfl)
/-- What holds at the head of a round. -/
def BRel (r b L g : Nat) (w : World) (h be : Nat) (s : PS) (res : Ex × PS) (wr : World) : Prop :=
  ∃ (f' : Nat) (e : Ex) (vs : Value) (s' : PS), lP f' r e s' = res ∧ 8 * s'.ts.length + (7 - r) ≤ f' ∧ f' ≤ g ∧ wr.heap[be]? = some (.cells #[.string ⟨e.op.toArray⟩, .int .u16 e.n, .string ⟨e.name.toArray⟩, vs] 25 (0, 0)) ∧
    SubAt wr (fun x => w.heap.size < x ∧ x < wr.heap.size ∧ x ≠ be) vs e.sub ∧ okE e ∧ PSt wr b s' ∧ w.grownBy wr (some b) ∧ wr.heap[h]? = some (.cells #[.string ⟨#[]⟩, .int .u16 0, .string ⟨#[]⟩, .slice none 0 0] 25 (0, 0)) ∧ s'.ts.length ≤ L ∧ (s'.k = 0 → s'.op = s.op)
theorem atT_some {ts : List Tok} {k : Int} {ls : List (List UInt8)} {o : List UInt8} (h : atT ts k ls = some o) : (∃ u q, ts = u :: q) ∧ o ∈ ls := by
  cases ts with
  | nil => simp [atT] at h
  | cons u q =>
    rw [atT_cons] at h
    split at h
    · rename_i hc
      injection h with h
      exact ⟨⟨u, q, rfl⟩, h ▸ hc.2⟩
    · cases h
theorem operT_some {r : Nat} {ts : List Tok} {o : List UInt8} (h : operT r ts = some o) : (∃ u q, ts = u :: q) ∧ o.length ≤ 3 := by
  unfold operT at h
  split at h
  · have := atT_some h; exact ⟨this.1, by have := this.2; simp at this; rcases this with rfl | rfl <;> decide⟩
  · split at h
    · have := atT_some h; exact ⟨this.1, by have := this.2; simp at this; rcases this with rfl <;> decide⟩
    · split at h
      · have := atT_some h; exact ⟨this.1, by have := this.2; simp at this; rcases this with rfl | rfl <;> decide⟩
      · split at h
        · rename_i hx
          injection h with h
          subst h
          have := atT_some hx; exact ⟨this.1, by have := this.2; simp at this; rcases this with rfl | rfl <;> decide⟩
        · have := atT_some h; exact ⟨this.1, by have := this.2; simp at this; rcases this with rfl | rfl | rfl <;> decide⟩
def leftOf (b : Nat) (w : World) : Nat := match w.cell? ⟨b, 0, none⟩ with | some (.slice _ n _) => n | _ => 0
theorem PSt.left {w : World} {b : Nat} {s : PS} (h : PSt w b s) : leftOf b w = s.ts.length := by
  obtain ⟨A, c, p0, _⟩ := h.cells
  unfold leftOf
  rw [p0]
theorem set4 {w : World} {h : Nat} {c0 c1 c2 c3 : Value} {T : TypeId} (hh : w.heap[h]? = some (.cells #[c0, c1, c2, c3] T (0, 0))) (u0 u1 u2 u3 : Value) :
    ((((w.setCell ⟨h, 0, none⟩ u0).setCell ⟨h, 1, none⟩ u1).setCell ⟨h, 2, none⟩ u2).setCell ⟨h, 3, none⟩ u3).heap[h]? = some (.cells #[u0, u1, u2, u3] T (0, 0)) := heap_set _ (heap_set _ (heap_set _ (heap_set _ hh)))
theorem four_other (w : World) (h i : Nat) (hne : i ≠ h) (u0 u1 u2 u3 : Value) :
    ((((w.setCell ⟨h, 0, none⟩ u0).setCell ⟨h, 1, none⟩ u1).setCell ⟨h, 2, none⟩ u2).setCell ⟨h, 3, none⟩ u3).heap[i]? = w.heap[i]? := by
  rw [Below.heap_setCell _ _ _ i hne, Below.heap_setCell _ _ _ i hne, Below.heap_setCell _ _ _ i hne, Below.heap_setCell _ _ _ i hne]
set_option maxHeartbeats 4000000 in
set_option maxRecDepth 100000 in
theorem binary_step (g r b L : Nat) (hr : binR r) (hL : L ≤ 100000) (hf : 8 * L + (8 - r) ≤ g + 1) (h1 : BinH g (r + 1) b L) (h2 : ∀ f' L', f' < g → 8 * L' + (7 - r) ≤ f' → L' ≤ L → BinH f' (r + 1) b L') : BinH (g + 1) r b L := by
  intro s w hp hl hop
  have hlt := hp.lt
  have HP := Lib.hid hp
  clear hp
  have HA : Hid (pP (g + 1) r s = lP g r (pP g (r + 1) s).1 (pP g (r + 1) s).2) := Lib.hid (by rw [pP_succ, if_neg (by unfold binR at hr; omega), if_neg (by unfold binR at hr; omega), if_neg (by unfold binR at hr; omega)])
  have hinv := (pP_inv g).1 (r + 1) s
  have hopI := hinv.2.1 hop
  have hlenI := hinv.1
  have hc1 := h1 s
  generalize pP (g + 1) r s = res at *
  generalize pP g (r + 1) s = r1 at *
  have r3 : ((r : Int) == 3) = false := by unfold binR at hr; rw [beq_eq_false_iff_ne]; omega
  have r6 : ((r : Int) == 6) = false := by unfold binR at hr; rw [beq_eq_false_iff_ne]; omega
  have rlt : (r : Int) ≤ 5 := by unfold binR at hr; omega
  have rge : (1 : Int) ≤ (r : Int) := by unfold binR at hr; omega
  have HC1 : Hid (∀ W, PSt W b s → Calls Tryd.prog 84 #[.pointer (some ⟨b, 0, none⟩), .int .i64 ((r : Int) + 1)] W (PPost b W r1)) := Lib.hid (fun W hW => hc1 W hW hl hop)
  have HR := Lib.hid hr
  clear hc1 h1 hinv hr
  go_enter Tryd.func84, Tryd.ntmps84
  go_wp2_with fail
  refine (HC1.out _ (HP.out.alloc _)).mono ?_
  rintro e w2 ⟨vs, rfl, hsub, hok, hps2, hgr2⟩
  obtain ⟨sA, sc, rfl, hsc, hsm⟩ := hsub.form
  have hg2 : w.grownBy w2 (some b) := grow_trans (only_alloc (grow_refl _ _) _) hgr2
  have hh2 : w2.heap[w.heap.size]? = some (.cells #[.string ⟨#[]⟩, .int .u16 0, .string ⟨#[]⟩, .slice none 0 0] 25 (0, 0)) := (hgr2.block w.heap.size (by simp) (by simp; omega)).trans (heap_last rfl _)
  have hsz2 : w.heap.size + 1 ≤ w2.heap.size := by have := hgr2.size; simpa using this
  have HREL : Hid (BRel r b L g w w.heap.size w2.heap.size s res (w2.alloc (.cells #[.string ⟨r1.1.op.toArray⟩, .int .u16 r1.1.n, .string ⟨r1.1.name.toArray⟩, .slice sA r1.1.sub.length sc] 25))) := Lib.hid
    ⟨g, r1.1, _, r1.2, HA.out.symm, by have := HR.out; unfold binR at this; omega, Nat.le_refl _, heap_last rfl _, hsub.alloc' _ (fun x hx => hx.2) (fun x hx => by simp at hx ⊢; omega), hok, hps2.alloc _, only_alloc hg2 _, (heap_alloc_old _ _ _ (by omega)).trans hh2, by omega, hopI.2.2⟩
  clear hsub hok hps2 hgr2 hg2 hh2 HC1 HA
  have hH : w.heap.size < w2.heap.size := by omega
  go_wp2_with fail
  go_loopw [6] (fun _ wr => BRel r b L g w w.heap.size w2.heap.size s res wr) (fun _ wr => leftOf b wr)
  case atStart => exact HREL.out
  case round =>
    clear HREL
    obtain ⟨f', e, vs, s', hlp, hf1, hf2, hbe, hsub, hok, hps, hgr, hh, hlen, hopr⟩ := hrel
    obtain ⟨vA, vc, rfl, hvc, hvm⟩ := hsub.form
    have hltb : w2.heap.size < wr.heap.size := lt_of_heap hbe
    by_cases hk : s'.k = 0
    · obtain ⟨x, hx⟩ : ∃ x, operT r s'.ts = x := ⟨_, rfl⟩
      have HX := Lib.hid hx
      obtain ⟨A, c, p0, p1, p2, f0, f1, f2, hc2, hrd⟩ := hps.cells
      rw [hk] at p1
      have HOP := Lib.hid (oper_any s' r HR.out b wr hps (by omega))
      rw [hx] at HOP
      have hleft : leftOf b wr = s'.ts.length := by unfold leftOf; rw [p0]
      have HLEFT := Lib.hid hleft
      clear p0 p2 f0 f1 f2 hrd hc2 hx hleft
      have HPS0 := Lib.hid hps
      have HSUB0 := Lib.hid hsub
      have HBE0 := Lib.hid hbe
      have HH0 := Lib.hid hh
      have HLP := Lib.hid hlp
      clear hps hsub hbe hh hlp
      go_wp2_with fail
      refine HOP.out.mono ?_
      rintro e0 w3 ⟨rfl, hb3⟩
      have hsz3 := hb3.size
      have hbe := (hb3.block w2.heap.size hltb).trans HBE0.out
      have hh := (hb3.block w.heap.size (by omega)).trans HH0.out
      have HPS := Lib.hid (HPS0.out.below hb3)
      have HSUB := Lib.hid (HSUB0.out.keep (S' := fun x => w.heap.size < x ∧ x < w3.heap.size ∧ x ≠ w2.heap.size) (fun p hp => hb3.cell (by omega)) (fun x hx => by omega))
      replace hgr := grow_trans hgr (only_of_below hb3 (some b))
      clear HPS0 HSUB0 HBE0 HH0 HOP hb3
      cases x with
      | none =>
        have HRES : Hid (res = (e, s')) := Lib.hid (HLP.out.symm.trans (lP_none _ _ _ _ (.inr HX.out)))
        obtain ⟨⟨j0, j1, j2, j3⟩, _⟩ := four hbe
        obtain ⟨⟨k0, k1, k2, k3⟩, g0, g1, g2, g3⟩ := four hh
        have hres := HRES.out
        subst hres
        replace HRES : Hid ((e, s') = (e, s')) := Lib.hid rfl
        simp only [atV]
        go_wp2_with fail
        refine bodyPost_ret (v := .agg #[.string ⟨e.op.toArray⟩, .int .u16 e.n, .string ⟨e.name.toArray⟩, .slice vA e.sub.length vc]) (by simp [results, Tryd.results84, go_sem, k0, k1, k2, k3]) rfl ⟨_, rfl, ?_, hok, ?_, ?_⟩
        · exact HSUB.out.four (k := w.heap.size) (by omega) (fun x hx => by simp; omega) _ _ _ _
        · exact HPS.out.four hlt _ _ _ _
        · exact grow_four hgr (Nat.le_refl _) _ _ _ _
      | some o =>
        obtain ⟨⟨u, q, huq⟩, holen⟩ := operT_some HX.out
        have hlen1 : 1 ≤ s'.ts.length := by rw [huq]; simp
        obtain ⟨f2, hf2'⟩ : ∃ n, f' = n + 1 := ⟨f' - 1, by omega⟩
        subst hf2'
        have hsk : s'.skip.ts.length = s'.ts.length - 1 := by simp [PS.skip]
        have HLP2 : Hid (lP f2 r (.mk o 0 [] [e, (pP f2 (r + 1) s'.skip).1]) (pP f2 (r + 1) s'.skip).2 = res) := Lib.hid (by have := HLP.out; rw [lP_succ, if_pos hk, HX.out] at this; exact this)
        have hopk : s'.skip.op ≤ 48 := by have := hopr hk; show s'.op ≤ 48; omega
        have hbn := h2 f2 (s'.ts.length - 1) (by omega) (by omega) (by omega) s'.skip
        have hinv := (pP_inv f2).1 (r + 1) s'.skip
        have hi1 := hinv.1
        have hi2 := hinv.2.1 hopk
        have hsop : s'.skip.op = s.op := hopr hk
        generalize pP f2 (r + 1) s'.skip = p2 at *
        have HBN : Hid (∀ W, PSt W b s'.skip → Calls Tryd.prog 84 #[.pointer (some ⟨b, 0, none⟩), .int .i64 ((r : Int) + 1)] W (PPost b W p2)) := Lib.hid (fun W hW => hbn W hW (by omega) hopk)
        have HUQ := Lib.hid huq
        have HHBE := Lib.hid hbe
        have HHH := Lib.hid hh
        clear hinv hbn HLP HX huq hopr hk h2 hbe hh
        simp only [atV]
        go_wp2_with fail
        refine (skip_any s' u q b _ HPS.out HUQ.out (by omega)).mono ?_
        rintro e1 w4 ⟨rfl, hps4, hgr4⟩
        have hsz4 := hgr4.size
        have hbe4 := (hgr4.block w2.heap.size (by omega) (by simp; omega)).trans HHBE.out
        have hh4 := (hgr4.block w.heap.size (by omega) (by simp; omega)).trans HHH.out
        have HBE4 := Lib.hid hbe4
        have HH4 := Lib.hid hh4
        have HG4 := Lib.hid (grow_trans hgr hgr4)
        have HS4 := Lib.hid (HSUB.out.grown hgr4 (by omega) (fun x hx => by omega))
        have HPS4 := Lib.hid hps4
        obtain ⟨⟨j0, j1, j2, j3⟩, i0, i1, i2, i3⟩ := four hbe4
        have hltb4 : w2.heap.size < w4.heap.size := by omega
        clear hgr4 hbe4 hh4 hps4 HHBE HHH HSUB HPS hgr
        go_wp2_with fail
        have hwr : IntKind.i64.wrap ((r : Int) + 1) = (r : Int) + 1 := IntWalk.i64_in _ (by omega)
        go_region_with (go_at_call 84; (with_reducible refine (HBN.out _ ?_).mono ?_); (first | exact HPS4.out | exact HPS4.out.drew | skip); rintro e5 w5 ⟨vs5, rfl, hsub5, hok5, hps5, hgr5⟩; obtain ⟨vA5, vc5, rfl, hvc5, hvm5⟩ := hsub5.form; have hsz5 : w4.heap.size ≤ w5.heap.size := hgr5.size; have hbe5 : w5.heap[w2.heap.size]? = _ := (hgr5.block w2.heap.size (by first | exact hltb4 | (simp; exact hltb4)) (by simp; omega)).trans HBE4.out; obtain ⟨⟨a0, a1, a2, a3⟩, b0, b1, b2, b3⟩ := four hbe5; have hltb5 : w2.heap.size < w5.heap.size := by omega)
        all_goals (
          clear hwr
          have HG5 : Hid (w4.grownBy w5 (some b)) := Lib.hid ⟨hgr5.os, hgr5.tape, hgr5.output, hgr5.size, hgr5.block⟩
          have HS5 : Hid (SubAt w5 (fun x => w4.heap.size ≤ x ∧ x < w5.heap.size) (.slice vA5 p2.1.sub.length vc5) p2.1.sub) := Lib.hid hsub5
          have HPS5 := Lib.hid hps5
          have HBE5 := Lib.hid hbe5
          clear hgr5 hsub5 hps5 hbe5
          have hsz45 := HG5.out.size
          go_wp2_with fail
          go_roundw
          case rel =>
            refine ⟨f2, .mk o 0 [] [e, p2.1], _, p2.2, HLP2.out, by omega, by omega, (heap_alloc_old _ _ _ (by simp; omega)).trans (set4 HBE5.out _ _ _ _), ?_, ok_mk (by omega) (by omega) (by simp), (HPS5.out.four (by omega) _ _ _ _).alloc _, only_alloc (grow_four (grow_trans HG4.out HG5.out) (by omega) _ _ _ _) _, (heap_alloc_old _ _ _ (by simp; omega)).trans ((four_other _ _ _ (by omega) _ _ _ _).trans ((HG5.out.block w.heap.size (by omega) (by simp; omega)).trans HH4.out)), by omega, fun h0 => (hi2.2.2 h0).trans hsop⟩
            exact SubAt.two (S := fun x => w.heap.size < x ∧ x < w5.heap.size ∧ x ≠ w2.heap.size) ((HS4.out.grown HG5.out (by omega) (fun x hx => by omega)).four (k := w2.heap.size) (by omega) (fun x hx => by omega) _ _ _ _) (HS5.out.four (k := w2.heap.size) (by omega) (fun x hx => by omega) _ _ _ _) hok hok5 (fun x hx => by simp; omega) (fun x hx => by simp; omega) w5.heap.size (by simp) (by simp; omega) _
          case measure =>
            rw [HLEFT.out, ((HPS5.out.four (k := w2.heap.size) (by omega) _ _ _ _).alloc _).left]
            omega)
    · have HRES : Hid (res = (e, s')) := Lib.hid (hlp.symm.trans (lP_none _ _ _ _ (.inl hk)))
      obtain ⟨A, c, p0, p1, p2, f0, f1, f2, hc2, hrd⟩ := hps.cells
      have hk' : ((s'.k : Int) == 0) = false := by rw [beq_eq_false_iff_ne]; omega
      obtain ⟨⟨j0, j1, j2, j3⟩, _⟩ := four hbe
      obtain ⟨⟨k0, k1, k2, k3⟩, g0, g1, g2, g3⟩ := four hh
      have HPS := Lib.hid hps
      have HSUB := Lib.hid hsub
      clear p0 p2 f0 f1 f2 hrd hc2 hps hsub hbe hh hlp hk
      have hres := HRES.out
      subst hres
      clear HRES
      go_wp2_with fail
      refine bodyPost_ret (v := .agg #[.string ⟨e.op.toArray⟩, .int .u16 e.n, .string ⟨e.name.toArray⟩, .slice vA e.sub.length vc]) (by simp [results, Tryd.results84, go_sem, k0, k1, k2, k3]) rfl ⟨_, rfl, ?_, hok, ?_, ?_⟩
      · exact HSUB.out.four (k := w.heap.size) (by omega) (fun x hx => by simp; omega) _ _ _ _
      · exact HPS.out.four hlt _ _ _ _
      · exact grow_four hgr (Nat.le_refl _) _ _ _ _
end Go.Proofs.YtpmeabikhonaoaaDoor

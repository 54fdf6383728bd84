/- expr: the parser's atom. -/
import Derived.Test.YtpmeabikhonaoaaDoorExpr3
namespace Go.Proofs.YtpmeabikhonaoaaDoor
open Go.RowKit

set_option maxHeartbeats 4000000 in
set_option maxRecDepth 100000 in
theorem atom_any (f b L : Nat) (hgo : ∀ L', L' < L → BinH f 1 b L') (s : PS) (w : World) (hp : PSt w b s) (hl : s.ts.length ≤ L) (hL : L ≤ 100000) (hop : s.op ≤ 48) :
    Calls Tryd.prog 142 #[.pointer (some ⟨b, 0, none⟩)] w (PPost b w (atomP (pP f 1) s)) := by
  obtain ⟨A, c, p0, p1, p2, f0, f1, f2, hc2, hr⟩ := hp.cells
  have hlt := hp.lt
  have HP := Lib.hid hp
  clear hp p1 p2 f0 f1 f2 hc2 hr
  cases hts : s.ts with
  | nil =>
    have HA : Hid (atomP (pP f 1) s = (ex0, s.fail 2)) := Lib.hid (by unfold atomP; rw [hts])
    rw [HA.out]
    rw [hts] at p0
    clear HA hgo hts
    go_enter Tryd.func142, Tryd.ntmps142
    go_wp2_with fail
    refine (fail_any s 2 b _ (HP.out.alloc _)).mono ?_
    rintro e wf ⟨rfl, hpsf, hgrf⟩
    have hgf : w.grownBy wf (some b) := grow_trans (only_alloc (grow_refl _ _) _) hgrf
    have hhf : wf.heap[w.heap.size]? = some (.cells #[.string ⟨#[]⟩, .int .u16 0, .string ⟨#[]⟩, .slice none 0 0] 25 (0, 0)) := (hgrf.block w.heap.size (by simp) (by simp; omega)).trans (heap_last rfl _)
    obtain ⟨⟨k0, k1, k2, k3⟩, g0, g1, g2, g3⟩ := four hhf
    simp only [exV, ex0, Ex.op, Ex.n, Ex.name]
    go_wp2_with fail
    exact bodyPost_ret (v := exV ex0 (.slice none 0 0)) (by simp [results, Tryd.results142, go_sem, k0, k1, k2, k3]; rfl) rfl ⟨.slice none 0 0, rfl, SubAt.nil _ _, ok0, hpsf.four hlt _ _ _ _, grow_four hgf (Nat.le_refl _) _ _ _ _⟩
  | cons t r =>
    have HTS := Lib.hid hts
    have hl2 : r.length + 1 ≤ L := by rw [hts] at hl; simpa using hl
    have hl3 : s.ts.length ≤ 1000000 := by omega
    have hl4 : s.skip.ts.length ≤ L - 1 := by simp [PS.skip, hts]; omega
    have hop2 : s.skip.op ≤ 48 := hop
    have htok : t.2.2 ≤ 65535 ∧ t.2.1.length ≤ 1000 := by obtain ⟨_, _, _, h⟩ := HP.out; exact h t (by rw [hts]; simp)
    have HA : Hid (atomP (pP f 1) s = if t.1 = 1 then (if wordE t.2.1 then (ex0, s.skip.fail 2) else (.mk sN 0 t.2.1 [], s.skip))
      else if t.1 = 2 then (.mk sNum t.2.2 [] [], s.skip)
      else if t.1 = 3 then (if (valueL t.2.1).2 = 0 then (.mk sNum (valueL t.2.1).1 [] [], s.skip) else (ex0, s.skip.fail (valueL t.2.1).2))
      else if t.1 = 4 then (if t.2.1 = sHere then (.mk sHere 0 [] [], s.skip)
        else if t.2.1 = [40] then (if (atT (wIn (pP f 1) s.skip).2.ts 4 [[41]]).isSome then ((wIn (pP f 1) s.skip).1, (wIn (pP f 1) s.skip).2.skip) else (ex0, (wIn (pP f 1) s.skip).2.fail 2)) else (ex0, s.skip.fail 2))
      else (ex0, s.skip.fail 2)) := Lib.hid (by unfold atomP; rw [hts])
    generalize hres : atomP (pP f 1) s = res at *
    rw [hts, List.length_cons] at p0
    have hlen0 : (((r.length + 1 : Nat) : Int) == 0) = false := by rw [beq_eq_false_iff_ne]; omega
    clear hres hts hl
    have hWI : ∀ W, PSt W b s.skip → Calls Tryd.prog 141 #[.pointer (some ⟨b, 0, none⟩), .int .i64 1] W (PPost b W (wIn (pP f 1) s.skip)) := fun W h1 => within_any f 1 b (L - 1) (hgo (L - 1) (by omega)) s.skip W h1 hl4 hop2
    have HWI := Lib.hid hWI
    have hlenI := (Inv.wIn (s := s.skip) ((pP_inv f).1 1)).1
    clear hWI hgo
    generalize wIn (pP f 1) s.skip = wi at *
    go_enter Tryd.func142, Tryd.ntmps142
    go_wp2_with fail
    refine (skip_any s t r b _ (HP.out.alloc _) HTS.out hl3).mono ?_
    rintro e w2 ⟨rfl, hps, hgr⟩
    have hg2 : w.grownBy w2 (some b) := grow_trans (only_alloc (grow_refl _ _) _) hgr
    have hsz : w.heap.size + 1 ≤ w2.heap.size := by have := hgr.size; simpa using this
    have hH : w.heap.size < w2.heap.size := by omega
    have hlt2 : b < w2.heap.size := by omega
    have hh2 : w2.heap[w.heap.size]? = some (.cells #[.string ⟨#[]⟩, .int .u16 0, .string ⟨#[]⟩, .slice none 0 0] 25 (0, 0)) := (hgr.block w.heap.size (by simp) (by simp; omega)).trans (heap_last rfl _)
    obtain ⟨⟨z0, z1, z2, z3⟩, y0, y1, y2, y3⟩ := four hh2
    have HH2 := Lib.hid hh2
    have HPS := Lib.hid hps
    clear hps hgr hh2 HP p0
    generalize s.skip = s2 at *
    obtain ⟨t1, t2, t3⟩ := t
    dsimp only at HA htok
    simp only [tokV]
    by_cases c1 : t1 = 1
    · subst c1
      rw [if_pos rfl] at HA
      cases hwd : wordE t2 with
      | true =>
        rw [hwd, if_pos rfl] at HA
        have HW := Lib.hid hwd
        clear hwd
        go_wp2_with fail
        refine (word_any t2 _).mono ?_
        rintro e w' ⟨rfl, rfl⟩
        rw [HW.out]
        go_wp2_with fail
        refine (fail_any s2 2 b _ (HPS.out.alloc _)).mono ?_
        rintro e wf ⟨rfl, hpsf, hgrf⟩
        have hgf : w.grownBy wf (some b) := grow_trans (only_alloc hg2 _) hgrf
        have hhf : wf.heap[w.heap.size]? = some (.cells #[.string ⟨#[]⟩, .int .u16 0, .string ⟨#[]⟩, .slice none 0 0] 25 (0, 0)) := (hgrf.block w.heap.size (by simp; omega) (by simp; omega)).trans ((heap_alloc_old _ _ _ hH).trans HH2.out)
        obtain ⟨⟨k0, k1, k2, k3⟩, g0, g1, g2, g3⟩ := four hhf
        simp only [exV, ex0, Ex.op, Ex.n, Ex.name]
        go_wp2_with fail
        rw [HA.out]
        exact bodyPost_ret (v := exV ex0 (.slice none 0 0)) (by simp [results, Tryd.results142, go_sem, k0, k1, k2, k3]; rfl) rfl ⟨.slice none 0 0, rfl, SubAt.nil _ _, ok0, hpsf.four hlt _ _ _ _, grow_four hgf (Nat.le_refl _) _ _ _ _⟩
      | false =>
        rw [hwd, if_neg (by simp)] at HA
        have HW := Lib.hid hwd
        clear hwd
        go_wp2_with fail
        refine (word_any t2 _).mono ?_
        rintro e w' ⟨rfl, rfl⟩
        rw [HW.out]
        go_wp2_with fail
        rw [HA.out]
        refine bodyPost_ret (v := .agg #[.string ⟨#[110]⟩, .int .u16 0, .string ⟨t2.toArray⟩, .slice none 0 0]) (by simp [results, Tryd.results142, go_sem, z0, z1, z2, z3, hH]) rfl ⟨.slice none 0 0, rfl, SubAt.nil _ _, ok_mk (by omega) (by simp) htok.2, ?_, ?_⟩
        · exact (HPS.out.four hlt _ _ _ _).alloc _
        · exact only_alloc (grow_four hg2 (Nat.le_refl _) _ _ _ _) _
    rw [if_neg c1] at HA
    by_cases c2 : t1 = 2
    · subst c2
      rw [if_pos rfl] at HA
      clear c1
      go_wp2_with fail
      rw [HA.out]
      refine bodyPost_ret (v := .agg #[.string ⟨#[35]⟩, .int .u16 t3, .string ⟨#[]⟩, .slice none 0 0]) (by simp [results, Tryd.results142, go_sem, z0, z1, z2, z3, hH]) rfl ⟨.slice none 0 0, rfl, SubAt.nil _ _, ok_mk htok.1 (by simp) (by simp), ?_, ?_⟩
      · exact (HPS.out.four hlt _ _ _ _).alloc _
      · exact only_alloc (grow_four hg2 (Nat.le_refl _) _ _ _ _) _
    rw [if_neg c2] at HA
    by_cases c3 : t1 = 3
    · subst c3
      rw [if_pos rfl] at HA
      have hvl := valueL_le t2
      have HV := Lib.hid (fun W => value_any t2 W (by omega))
      generalize valueL t2 = v at *
      obtain ⟨v1, v2⟩ := v
      dsimp only at HA hvl HV
      clear c1 c2
      by_cases hv : v2 = 0
      · subst hv
        rw [if_pos rfl] at HA
        go_wp2_with fail
        refine (HV.out _).mono ?_
        rintro e w4 ⟨rfl, hb4⟩
        have hsz4 : w2.heap.size + 1 ≤ w4.heap.size := by have := hb4.size; simpa using this
        have hps4 := (HPS.out.alloc (.cells (tokCells (3, t2, t3)).toArray 70)).below hb4
        have hg4 : w.grownBy w4 (some b) := grow_trans (only_alloc hg2 _) (only_of_below hb4 _)
        have hh4 : w4.heap[w.heap.size]? = some (.cells #[.string ⟨#[]⟩, .int .u16 0, .string ⟨#[]⟩, .slice none 0 0] 25 (0, 0)) := (hb4.block w.heap.size (by simp; omega)).trans ((heap_alloc_old _ _ _ hH).trans HH2.out)
        obtain ⟨⟨k0, k1, k2, k3⟩, g0, g1, g2, g3⟩ := four hh4
        go_wp2_with fail
        rw [HA.out]
        refine bodyPost_ret (v := .agg #[.string ⟨#[35]⟩, .int .u16 v1, .string ⟨#[]⟩, .slice none 0 0]) (by simp [results, Tryd.results142, go_sem, k0, k1, k2, k3]) rfl ⟨.slice none 0 0, rfl, SubAt.nil _ _, ok_mk hvl.2 (by simp) (by simp), ?_, ?_⟩
        · exact hps4.four hlt _ _ _ _
        · exact grow_four hg4 (Nat.le_refl _) _ _ _ _
      · rw [if_neg hv] at HA
        have hv' : ((v2 : Int) != 0) = true := by rw [bne_iff_ne]; omega
        go_wp2_with fail
        refine (HV.out _).mono ?_
        rintro e w4 ⟨rfl, hb4⟩
        have hsz4 : w2.heap.size + 1 ≤ w4.heap.size := by have := hb4.size; simpa using this
        have hps4 := (HPS.out.alloc (.cells (tokCells (3, t2, t3)).toArray 70)).below hb4
        have hg4 : w.grownBy w4 (some b) := grow_trans (only_alloc hg2 _) (only_of_below hb4 _)
        have hh4 : w4.heap[w.heap.size]? = some (.cells #[.string ⟨#[]⟩, .int .u16 0, .string ⟨#[]⟩, .slice none 0 0] 25 (0, 0)) := (hb4.block w.heap.size (by simp; omega)).trans ((heap_alloc_old _ _ _ hH).trans HH2.out)
        go_wp2_with fail
        refine (fail_any s2 v2 b _ (hps4)).mono ?_
        rintro e wf ⟨rfl, hpsf, hgrf⟩
        have hgf : w.grownBy wf (some b) := grow_trans (hg4) hgrf
        have hhf : wf.heap[w.heap.size]? = some (.cells #[.string ⟨#[]⟩, .int .u16 0, .string ⟨#[]⟩, .slice none 0 0] 25 (0, 0)) := (hgrf.block w.heap.size (by omega) (by simp; omega)).trans (hh4)
        obtain ⟨⟨k0, k1, k2, k3⟩, g0, g1, g2, g3⟩ := four hhf
        simp only [exV, ex0, Ex.op, Ex.n, Ex.name]
        go_wp2_with fail
        rw [HA.out]
        exact bodyPost_ret (v := exV ex0 (.slice none 0 0)) (by simp [results, Tryd.results142, go_sem, k0, k1, k2, k3]; rfl) rfl ⟨.slice none 0 0, rfl, SubAt.nil _ _, ok0, hpsf.four hlt _ _ _ _, grow_four hgf (Nat.le_refl _) _ _ _ _⟩
    rw [if_neg c3] at HA
    by_cases c4 : t1 = 4
    · subst c4
      rw [if_pos rfl] at HA
      clear c1 c2 c3
      by_cases d1 : t2 = sHere
      · subst d1
        rw [if_pos rfl] at HA
        go_wp2_with fail
        rw [HA.out]
        refine bodyPost_ret (v := .agg #[.string ⟨#[36]⟩, .int .u16 0, .string ⟨#[]⟩, .slice none 0 0]) (by simp [results, Tryd.results142, go_sem, z0, z1, z2, z3, hH]) rfl ⟨.slice none 0 0, rfl, SubAt.nil _ _, ok_mk (by omega) (by simp) (by simp), ?_, ?_⟩
        · exact (HPS.out.four hlt _ _ _ _).alloc _
        · exact only_alloc (grow_four hg2 (Nat.le_refl _) _ _ _ _) _
      rw [if_neg d1] at HA
      have d1' : (t2 == [36]) = false := by simpa using d1
      by_cases d2 : t2 = [40]
      · subst d2
        rw [if_pos rfl] at HA
        clear d1
        go_wp2_with fail
        refine (HWI.out _ (HPS.out.alloc _)).mono ?_
        rintro e w4 ⟨vs, rfl, hsub, hok, hps4, hgr4⟩
        obtain ⟨sA, sc, rfl, hsc, hsm⟩ := hsub.form
        have hsz4 : w2.heap.size + 1 ≤ w4.heap.size := by have := hgr4.size; simpa using this
        have hg4 : w.grownBy w4 (some b) := grow_trans (only_alloc hg2 _) hgr4
        have hh4 : w4.heap[w.heap.size]? = some (.cells #[.string ⟨#[]⟩, .int .u16 0, .string ⟨#[]⟩, .slice none 0 0] 25 (0, 0)) := (hgr4.block w.heap.size (by simp; omega) (by simp; omega)).trans ((heap_alloc_old _ _ _ hH).trans HH2.out)
        have hsub4 := hsub.more (S' := fun g => w2.heap.size + 1 ≤ g ∧ g < w4.heap.size) (fun g hg => by simpa using hg)
        have HSUB := Lib.hid hsub4
        have HPS4 := Lib.hid hps4
        have HH4 := Lib.hid hh4
        clear hsub hsub4 hps4 hh4 hgr4 HWI
        obtain ⟨⟨io, iN, im, is⟩, ips⟩ := wi
        dsimp only [Ex.op, Ex.n, Ex.name, Ex.sub] at *
        have hlenw : ips.ts.length ≤ 1000000 := by omega
        obtain ⟨x, hx⟩ : ∃ x, atT ips.ts 4 [[41]] = x := ⟨_, rfl⟩
        rw [hx] at HA
        have HX := Lib.hid hx
        clear hx
        go_wp2_with fail
        refine (at_any ips 4 [[41]] b (w4.heap.size + 1) 1 _ ((HPS4.out.alloc _).alloc _) hlenw rfl (by simp) (by have := strs_new (w4.alloc (.cells #[.string ⟨io.toArray⟩, .int .u16 iN, .string ⟨im.toArray⟩, .slice sA is.length sc] 25)) [[41]] 9; rwa [show (w4.alloc (.cells #[.string ⟨io.toArray⟩, .int .u16 iN, .string ⟨im.toArray⟩, .slice sA is.length sc] 25)).heap.size = w4.heap.size + 1 by simp] at this)).mono ?_
        rintro e w6 ⟨rfl, hw6⟩
        rw [HX.out]
        have hps6 : PSt w6 b ips := by rw [← hw6]; exact (HPS4.out.alloc _).alloc _
        have hg6 : w.grownBy w6 (some b) := by rw [← hw6]; exact only_alloc (only_alloc hg4 _) _
        have hsz6 : w4.heap.size + 2 = w6.heap.size := by rw [← hw6]; simp
        have hh6 : w6.heap[w.heap.size]? = some (.cells #[.string ⟨#[]⟩, .int .u16 0, .string ⟨#[]⟩, .slice none 0 0] 25 (0, 0)) := by
          rw [← hw6, heap_alloc_old _ _ _ (by simp; omega), heap_alloc_old _ _ _ (by omega)]; exact HH4.out
        have he6 : w6.heap[w4.heap.size]? = some (.cells #[.string ⟨io.toArray⟩, .int .u16 iN, .string ⟨im.toArray⟩, .slice sA is.length sc] 25 (0, 0)) := by
          rw [← hw6, heap_alloc_old _ _ _ (by simp)]; exact heap_last rfl _
        have hs6 : SubAt w6 (fun g => w2.heap.size + 1 ≤ g ∧ g < w4.heap.size) (.slice sA is.length sc) is := by
          rw [← hw6]
          exact (HSUB.out.alloc' _ (fun g hg => hg.2) (fun g hg => hg)).alloc' _ (fun g hg => by simp; omega) (fun g hg => hg)
        clear hw6
        cases x with
        | none =>
          rw [if_neg (by simp)] at HA
          simp only [atV]
          go_wp2_with fail
          refine (fail_any ips 2 b _ (hps6)).mono ?_
          rintro e wf ⟨rfl, hpsf, hgrf⟩
          have hgf : w.grownBy wf (some b) := grow_trans (hg6) hgrf
          have hhf : wf.heap[w.heap.size]? = some (.cells #[.string ⟨#[]⟩, .int .u16 0, .string ⟨#[]⟩, .slice none 0 0] 25 (0, 0)) := (hgrf.block w.heap.size (by omega) (by simp; omega)).trans (hh6)
          obtain ⟨⟨k0, k1, k2, k3⟩, g0, g1, g2, g3⟩ := four hhf
          simp only [exV, ex0, Ex.op, Ex.n, Ex.name]
          go_wp2_with fail
          rw [HA.out]
          exact bodyPost_ret (v := exV ex0 (.slice none 0 0)) (by simp [results, Tryd.results142, go_sem, k0, k1, k2, k3]; rfl) rfl ⟨.slice none 0 0, rfl, SubAt.nil _ _, ok0, hpsf.four hlt _ _ _ _, grow_four hgf (Nat.le_refl _) _ _ _ _⟩
        | some o =>
          rw [if_pos (by simp)] at HA
          obtain ⟨u, q, huq⟩ : ∃ u q, ips.ts = u :: q := by
            cases h : ips.ts with
            | nil => have := HX.out; rw [h] at this; simp [atT] at this
            | cons u q => exact ⟨u, q, rfl⟩
          have HUQ := Lib.hid huq
          clear huq
          simp only [atV]
          have HS6 := Lib.hid hs6
          clear hs6
          go_wp2_with fail
          refine (skip_any ips u q b _ hps6 HUQ.out hlenw).mono ?_
          rintro e w7 ⟨rfl, hps7, hgr7⟩
          have hg7 : w.grownBy w7 (some b) := grow_trans hg6 hgr7
          have hh7 := (hgr7.block w.heap.size (by omega) (by simp; omega)).trans hh6
          have he7 := (hgr7.block w4.heap.size (by omega) (by simp; omega)).trans he6
          obtain ⟨⟨k0, k1, k2, k3⟩, g0, g1, g2, g3⟩ := four hh7
          obtain ⟨⟨j0, j1, j2, j3⟩, _⟩ := four he7
          have hs7 := HS6.out.grown hgr7 (by omega) (fun g hg => by omega)
          have HS7 := Lib.hid hs7
          have hsz7 := hgr7.size
          clear hh7 he7 hh6 he6 hs7 HS6 hgr7
          go_wp2_with fail
          rw [HA.out]
          refine bodyPost_ret (v := .agg #[.string ⟨io.toArray⟩, .int .u16 iN, .string ⟨im.toArray⟩, .slice sA is.length sc]) (by simp [results, Tryd.results142, go_sem, k0, k1, k2, k3]) rfl ⟨_, rfl, ?_, hok, ?_, ?_⟩
          · exact HS7.out.four (k := w.heap.size) (by omega) (fun g hg => by simp [World.setCell]; omega) _ _ _ _
          · exact hps7.four hlt _ _ _ _
          · exact grow_four hg7 (Nat.le_refl _) _ _ _ _
      · rw [if_neg d2] at HA
        have d2' : (t2 == [40]) = false := by simpa using d2
        clear d1 d2
        go_wp2_with fail
        refine (fail_any s2 2 b _ (HPS.out.alloc _)).mono ?_
        rintro e wf ⟨rfl, hpsf, hgrf⟩
        have hgf : w.grownBy wf (some b) := grow_trans (only_alloc hg2 _) hgrf
        have hhf : wf.heap[w.heap.size]? = some (.cells #[.string ⟨#[]⟩, .int .u16 0, .string ⟨#[]⟩, .slice none 0 0] 25 (0, 0)) := (hgrf.block w.heap.size (by simp; omega) (by simp; omega)).trans ((heap_alloc_old _ _ _ hH).trans HH2.out)
        obtain ⟨⟨k0, k1, k2, k3⟩, g0, g1, g2, g3⟩ := four hhf
        simp only [exV, ex0, Ex.op, Ex.n, Ex.name]
        go_wp2_with fail
        rw [HA.out]
        exact bodyPost_ret (v := exV ex0 (.slice none 0 0)) (by simp [results, Tryd.results142, go_sem, k0, k1, k2, k3]; rfl) rfl ⟨.slice none 0 0, rfl, SubAt.nil _ _, ok0, hpsf.four hlt _ _ _ _, grow_four hgf (Nat.le_refl _) _ _ _ _⟩
    · rw [if_neg c4] at HA
      have c1' : (t1 == 1) = false := by simpa using c1
      have c2' : (t1 == 2) = false := by simpa using c2
      have c3' : (t1 == 3) = false := by simpa using c3
      have c4' : (t1 == 4) = false := by simpa using c4
      clear c1 c2 c3 c4
      go_wp2_with fail
      refine (fail_any s2 2 b _ (HPS.out.alloc _)).mono ?_
      rintro e wf ⟨rfl, hpsf, hgrf⟩
      have hgf : w.grownBy wf (some b) := grow_trans (only_alloc hg2 _) hgrf
      have hhf : wf.heap[w.heap.size]? = some (.cells #[.string ⟨#[]⟩, .int .u16 0, .string ⟨#[]⟩, .slice none 0 0] 25 (0, 0)) := (hgrf.block w.heap.size (by simp; omega) (by simp; omega)).trans ((heap_alloc_old _ _ _ hH).trans HH2.out)
      obtain ⟨⟨k0, k1, k2, k3⟩, g0, g1, g2, g3⟩ := four hhf
      simp only [exV, ex0, Ex.op, Ex.n, Ex.name]
      go_wp2_with fail
      rw [HA.out]
      exact bodyPost_ret (v := exV ex0 (.slice none 0 0)) (by simp [results, Tryd.results142, go_sem, k0, k1, k2, k3]; rfl) rfl ⟨.slice none 0 0, rfl, SubAt.nil _ _, ok0, hpsf.four hlt _ _ _ _, grow_four hgf (Nat.le_refl _) _ _ _ _⟩
end Go.Proofs.YtpmeabikhonaoaaDoor

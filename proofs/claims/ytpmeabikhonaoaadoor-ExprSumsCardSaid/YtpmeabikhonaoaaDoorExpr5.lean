/- expr: the parser's unary. -/
import Derived.Test.YtpmeabikhonaoaaDoorExpr4
namespace Go.Proofs.YtpmeabikhonaoaaDoor
open Go.RowKit

set_option maxHeartbeats 4000000 in
set_option maxRecDepth 100000 in
theorem unary3_any (f b L : Nat) (h3 : ∀ L', L' < L → BinH f 3 b L') (h4 : BinH f 4 b L) (s : PS) (w : World) (hp : PSt w b s) (hl : s.ts.length ≤ L) (hL : L ≤ 100000) (hop : s.op ≤ 48) :
    Calls Tryd.prog 116 #[.pointer (some ⟨b, 0, none⟩), .int .i64 3] w (PPost b w (pP (f + 1) 3 s)) := by
  have hlt := hp.lt
  have HP := Lib.hid hp
  have hlen : s.ts.length ≤ 1000000 := by omega
  clear hp
  obtain ⟨x, hx⟩ : ∃ x, atT s.ts 1 [sNOT] = x := ⟨_, rfl⟩
  have HX := Lib.hid hx
  have HA : Hid (pP (f + 1) 3 s = if x.isSome then (.mk sNOT 0 [] [(wIn (pP (f) 3) s.skip).1], (wIn (pP (f) 3) s.skip).2) else pP (f) 4 s) := Lib.hid (by rw [pP_succ]; simp [hx])
  clear hx
  cases x with
  | some o =>
    rw [if_pos (by simp)] at HA
    obtain ⟨u, q, huq⟩ : ∃ u q, s.ts = u :: q := by
      cases h : s.ts with
      | nil => have := HX.out; rw [h] at this; simp [atT] at this
      | cons u q => exact ⟨u, q, rfl⟩
    have hL1 : 1 ≤ s.ts.length := by rw [huq]; simp
    have hl4 : s.skip.ts.length ≤ L - 1 := by simp [PS.skip]; omega
    have hop2 : s.skip.op ≤ 48 := hop
    have HUQ := Lib.hid huq
    clear huq
    have hWI : ∀ W, PSt W b s.skip → Calls Tryd.prog 141 #[.pointer (some ⟨b, 0, none⟩), .int .i64 3] W (PPost b W (wIn (pP (f) 3) s.skip)) := fun W h1 => within_any (f) 3 b (L - 1) (h3 (L - 1) (by omega)) s.skip W h1 hl4 hop2
    have HWI := Lib.hid hWI
    clear hWI h3 h4
    generalize pP (f + 1) 3 s = res at *
    generalize wIn (pP (f) 3) s.skip = wi at *
    go_enter Tryd.func116, Tryd.ntmps116
    go_wp2_with fail
    refine (at_any s 1 [sNOT] b (w.heap.size + 1) 1 _ ((HP.out.alloc _).alloc _) hlen rfl (by simp) (by have := strs_new (w.alloc (.cells #[.string ⟨#[]⟩, .int .u16 0, .string ⟨#[]⟩, .slice none 0 0] 25)) [sNOT] 9; rwa [show (w.alloc (.cells #[.string ⟨#[]⟩, .int .u16 0, .string ⟨#[]⟩, .slice none 0 0] 25)).heap.size = w.heap.size + 1 by simp] at this)).mono ?_
    rintro e w1 ⟨rfl, hw1⟩
    rw [HX.out]
    have hps1 : PSt w1 b s := by rw [← hw1]; exact (HP.out.alloc _).alloc _
    have hg1 : w.grownBy w1 (some b) := by rw [← hw1]; exact only_alloc (only_alloc (grow_refl _ _) _) _
    have hsz1 : w.heap.size + 2 = w1.heap.size := by rw [← hw1]; simp
    have hh1 : w1.heap[w.heap.size]? = some (.cells #[.string ⟨#[]⟩, .int .u16 0, .string ⟨#[]⟩, .slice none 0 0] 25 (0, 0)) := by
      rw [← hw1, heap_alloc_old _ _ _ (by simp)]; exact heap_last rfl _
    clear hw1
    simp only [atV]
    go_wp2_with fail
    refine (skip_any s u q b _ hps1 HUQ.out hlen).mono ?_
    rintro e w2 ⟨rfl, hps2, hgr2⟩
    have hg2 : w.grownBy w2 (some b) := grow_trans hg1 hgr2
    have hh2 := (hgr2.block w.heap.size (by omega) (by simp; omega)).trans hh1
    have hsz2 := hgr2.size
    clear hgr2 hh1 hg1 hps1
    go_wp2_with fail
    refine (HWI.out _ hps2).mono ?_
    rintro e w4 ⟨vs, rfl, hsub, hok, hps4, hgr4⟩
    obtain ⟨sA, sc, rfl, hsc, hsm⟩ := hsub.form
    have hg4 : w.grownBy w4 (some b) := grow_trans hg2 hgr4
    have hh4 := (hgr4.block w.heap.size (by omega) (by simp; omega)).trans hh2
    have hsz4 := hgr4.size
    obtain ⟨⟨k0, k1, k2, k3⟩, g0, g1, g2, g3⟩ := four hh4
    have hH : w.heap.size < w4.heap.size := by omega
    have HSUB := Lib.hid hsub
    have HOK := Lib.hid hok
    clear hsub hok hgr4 hh4 hh2 hps2 HWI
    go_wp2_with fail
    rw [HA.out]
    refine bodyPost_ret (v := .agg #[.string ⟨(sNOT : List UInt8).toArray⟩, .int .u16 0, .string ⟨#[]⟩, .slice (some ⟨w4.heap.size, 0, none⟩) 1 1]) (by simp [results, Tryd.results116, go_sem, k0, k1, k2, k3, hH]) rfl ⟨_, rfl, ?_, ok_mk (by omega) (by simp) (by simp), ?_, ?_⟩
    · exact SubAt.one (HSUB.out.four (k := w.heap.size) (S' := fun g => w2.heap.size ≤ g ∧ g < w4.heap.size) (by omega) (fun g hg => hg) _ _ _ _) HOK.out (fun g hg => by simp; omega) (fun g hg => by simp; omega) w4.heap.size (by simp) (by simp; omega) _
    · exact (hps4.four hlt _ _ _ _).alloc _
    · exact only_alloc (grow_four hg4 (Nat.le_refl _) _ _ _ _) _
  | none =>
    rw [if_neg (by simp)] at HA
    have HBI := Lib.hid (fun (W : World) (h1 : PSt W b s) => show Calls Tryd.prog 84 #[.pointer (some ⟨b, 0, none⟩), .int .i64 4] W (PPost b W (pP f 4 s)) from h4 s W h1 hl hop)
    clear h3 h4
    generalize pP (f + 1) 3 s = res at *
    generalize pP f 4 s = wi at *
    go_enter Tryd.func116, Tryd.ntmps116
    go_wp2_with fail
    refine (at_any s 1 [sNOT] b (w.heap.size + 1) 1 _ ((HP.out.alloc _).alloc _) hlen rfl (by simp) (by have := strs_new (w.alloc (.cells #[.string ⟨#[]⟩, .int .u16 0, .string ⟨#[]⟩, .slice none 0 0] 25)) [sNOT] 9; rwa [show (w.alloc (.cells #[.string ⟨#[]⟩, .int .u16 0, .string ⟨#[]⟩, .slice none 0 0] 25)).heap.size = w.heap.size + 1 by simp] at this)).mono ?_
    rintro e w1 ⟨rfl, hw1⟩
    rw [HX.out]
    have hps1 : PSt w1 b s := by rw [← hw1]; exact (HP.out.alloc _).alloc _
    have hg1 : w.grownBy w1 (some b) := by rw [← hw1]; exact only_alloc (only_alloc (grow_refl _ _) _) _
    have hsz1 : w.heap.size + 2 = w1.heap.size := by rw [← hw1]; simp
    have hh1 : w1.heap[w.heap.size]? = some (.cells #[.string ⟨#[]⟩, .int .u16 0, .string ⟨#[]⟩, .slice none 0 0] 25 (0, 0)) := by
      rw [← hw1, heap_alloc_old _ _ _ (by simp)]; exact heap_last rfl _
    clear hw1
    simp only [atV]
    go_wp2_with fail
    refine (HBI.out w1 hps1).mono ?_
    rintro e w4 ⟨vs, rfl, hsub, hok, hps4, hgr4⟩
    obtain ⟨sA, sc, rfl, hsc, hsm⟩ := hsub.form
    have hg4 : w.grownBy w4 (some b) := grow_trans hg1 hgr4
    have hh4 := (hgr4.block w.heap.size (by omega) (by simp; omega)).trans hh1
    have hsz4 := hgr4.size
    obtain ⟨⟨k0, k1, k2, k3⟩, g0, g1, g2, g3⟩ := four hh4
    have HSUB := Lib.hid hsub
    clear hsub hgr4 hh4 hh1 HBI
    go_wp2_with fail
    rw [HA.out]
    refine bodyPost_ret (v := .agg #[.string ⟨wi.1.op.toArray⟩, .int .u16 wi.1.n, .string ⟨wi.1.name.toArray⟩, .slice sA wi.1.sub.length sc]) (by simp [results, Tryd.results116, go_sem, k0, k1, k2, k3]) rfl ⟨_, rfl, ?_, hok, ?_, ?_⟩
    · exact HSUB.out.four (k := w.heap.size) (by omega) (fun g hg => by simp; omega) _ _ _ _
    · exact hps4.four hlt _ _ _ _
    · exact grow_four hg4 (Nat.le_refl _) _ _ _ _
set_option maxHeartbeats 4000000 in
set_option maxRecDepth 100000 in
theorem unary6_any (f b L : Nat) (h3 : ∀ L', L' < L → BinH (f + 1) 6 b L') (h1 : ∀ L', L' < L → BinH f 1 b L') (s : PS) (w : World) (hp : PSt w b s) (hl : s.ts.length ≤ L) (hL : L ≤ 100000) (hop : s.op ≤ 48) :
    Calls Tryd.prog 116 #[.pointer (some ⟨b, 0, none⟩), .int .i64 6] w (PPost b w (pP (f + 1 + 1) 6 s)) := by
  have hlt := hp.lt
  have HP := Lib.hid hp
  have hlen : s.ts.length ≤ 1000000 := by omega
  clear hp
  obtain ⟨x, hx⟩ : ∃ x, atT s.ts 4 [[45]] = x := ⟨_, rfl⟩
  have HX := Lib.hid hx
  have HA : Hid (pP (f + 1 + 1) 6 s = if x.isSome then (.mk sNEG 0 [] [(wIn (pP (f + 1) 6) s.skip).1], (wIn (pP (f + 1) 6) s.skip).2) else pP (f + 1) 7 s) := Lib.hid (by rw [pP_succ]; simp [hx])
  clear hx
  cases x with
  | some o =>
    rw [if_pos (by simp)] at HA
    obtain ⟨u, q, huq⟩ : ∃ u q, s.ts = u :: q := by
      cases h : s.ts with
      | nil => have := HX.out; rw [h] at this; simp [atT] at this
      | cons u q => exact ⟨u, q, rfl⟩
    have hL1 : 1 ≤ s.ts.length := by rw [huq]; simp
    have hl4 : s.skip.ts.length ≤ L - 1 := by simp [PS.skip]; omega
    have hop2 : s.skip.op ≤ 48 := hop
    have HUQ := Lib.hid huq
    clear huq
    have hWI : ∀ W, PSt W b s.skip → Calls Tryd.prog 141 #[.pointer (some ⟨b, 0, none⟩), .int .i64 6] W (PPost b W (wIn (pP (f + 1) 6) s.skip)) := fun W h1 => within_any (f + 1) 6 b (L - 1) (h3 (L - 1) (by omega)) s.skip W h1 hl4 hop2
    have HWI := Lib.hid hWI
    clear hWI h3 h1
    generalize pP (f + 1 + 1) 6 s = res at *
    generalize wIn (pP (f + 1) 6) s.skip = wi at *
    go_enter Tryd.func116, Tryd.ntmps116
    go_wp2_with fail
    refine (at_any s 4 [[45]] b (w.heap.size + 1) 1 _ ((HP.out.alloc _).alloc _) hlen rfl (by simp) (by have := strs_new (w.alloc (.cells #[.string ⟨#[]⟩, .int .u16 0, .string ⟨#[]⟩, .slice none 0 0] 25)) [[45]] 9; rwa [show (w.alloc (.cells #[.string ⟨#[]⟩, .int .u16 0, .string ⟨#[]⟩, .slice none 0 0] 25)).heap.size = w.heap.size + 1 by simp] at this)).mono ?_
    rintro e w1 ⟨rfl, hw1⟩
    rw [HX.out]
    have hps1 : PSt w1 b s := by rw [← hw1]; exact (HP.out.alloc _).alloc _
    have hg1 : w.grownBy w1 (some b) := by rw [← hw1]; exact only_alloc (only_alloc (grow_refl _ _) _) _
    have hsz1 : w.heap.size + 2 = w1.heap.size := by rw [← hw1]; simp
    have hh1 : w1.heap[w.heap.size]? = some (.cells #[.string ⟨#[]⟩, .int .u16 0, .string ⟨#[]⟩, .slice none 0 0] 25 (0, 0)) := by
      rw [← hw1, heap_alloc_old _ _ _ (by simp)]; exact heap_last rfl _
    clear hw1
    simp only [atV]
    go_wp2_with fail
    refine (skip_any s u q b _ hps1 HUQ.out hlen).mono ?_
    rintro e w2 ⟨rfl, hps2, hgr2⟩
    have hg2 : w.grownBy w2 (some b) := grow_trans hg1 hgr2
    have hh2 := (hgr2.block w.heap.size (by omega) (by simp; omega)).trans hh1
    have hsz2 := hgr2.size
    clear hgr2 hh1 hg1 hps1
    go_wp2_with fail
    refine (HWI.out _ hps2).mono ?_
    rintro e w4 ⟨vs, rfl, hsub, hok, hps4, hgr4⟩
    obtain ⟨sA, sc, rfl, hsc, hsm⟩ := hsub.form
    have hg4 : w.grownBy w4 (some b) := grow_trans hg2 hgr4
    have hh4 := (hgr4.block w.heap.size (by omega) (by simp; omega)).trans hh2
    have hsz4 := hgr4.size
    obtain ⟨⟨k0, k1, k2, k3⟩, g0, g1, g2, g3⟩ := four hh4
    have hH : w.heap.size < w4.heap.size := by omega
    have HSUB := Lib.hid hsub
    have HOK := Lib.hid hok
    clear hsub hok hgr4 hh4 hh2 hps2 HWI
    go_wp2_with fail
    rw [HA.out]
    refine bodyPost_ret (v := .agg #[.string ⟨(sNEG : List UInt8).toArray⟩, .int .u16 0, .string ⟨#[]⟩, .slice (some ⟨w4.heap.size, 0, none⟩) 1 1]) (by simp [results, Tryd.results116, go_sem, k0, k1, k2, k3, hH]) rfl ⟨_, rfl, ?_, ok_mk (by omega) (by simp) (by simp), ?_, ?_⟩
    · exact SubAt.one (HSUB.out.four (k := w.heap.size) (S' := fun g => w2.heap.size ≤ g ∧ g < w4.heap.size) (by omega) (fun g hg => hg) _ _ _ _) HOK.out (fun g hg => by simp; omega) (fun g hg => by simp; omega) w4.heap.size (by simp) (by simp; omega) _
    · exact (hps4.four hlt _ _ _ _).alloc _
    · exact only_alloc (grow_four hg4 (Nat.le_refl _) _ _ _ _) _
  | none =>
    rw [if_neg (by simp)] at HA
    have HBI := Lib.hid (fun (W : World) (h0 : PSt W b s) => show Calls Tryd.prog 142 #[.pointer (some ⟨b, 0, none⟩)] W (PPost b W (pP (f + 1) 7 s)) from by rw [pP_succ, if_neg (by omega), if_neg (by omega), if_pos rfl]; exact atom_any f b L h1 s W h0 hl hL hop)
    clear h3 h1
    generalize pP (f + 1 + 1) 6 s = res at *
    generalize pP (f + 1) 7 s = wi at *
    go_enter Tryd.func116, Tryd.ntmps116
    go_wp2_with fail
    refine (at_any s 4 [[45]] b (w.heap.size + 1) 1 _ ((HP.out.alloc _).alloc _) hlen rfl (by simp) (by have := strs_new (w.alloc (.cells #[.string ⟨#[]⟩, .int .u16 0, .string ⟨#[]⟩, .slice none 0 0] 25)) [[45]] 9; rwa [show (w.alloc (.cells #[.string ⟨#[]⟩, .int .u16 0, .string ⟨#[]⟩, .slice none 0 0] 25)).heap.size = w.heap.size + 1 by simp] at this)).mono ?_
    rintro e w1 ⟨rfl, hw1⟩
    rw [HX.out]
    have hps1 : PSt w1 b s := by rw [← hw1]; exact (HP.out.alloc _).alloc _
    have hg1 : w.grownBy w1 (some b) := by rw [← hw1]; exact only_alloc (only_alloc (grow_refl _ _) _) _
    have hsz1 : w.heap.size + 2 = w1.heap.size := by rw [← hw1]; simp
    have hh1 : w1.heap[w.heap.size]? = some (.cells #[.string ⟨#[]⟩, .int .u16 0, .string ⟨#[]⟩, .slice none 0 0] 25 (0, 0)) := by
      rw [← hw1, heap_alloc_old _ _ _ (by simp)]; exact heap_last rfl _
    clear hw1
    simp only [atV]
    go_wp2_with fail
    refine (HBI.out w1 hps1).mono ?_
    rintro e w4 ⟨vs, rfl, hsub, hok, hps4, hgr4⟩
    obtain ⟨sA, sc, rfl, hsc, hsm⟩ := hsub.form
    have hg4 : w.grownBy w4 (some b) := grow_trans hg1 hgr4
    have hh4 := (hgr4.block w.heap.size (by omega) (by simp; omega)).trans hh1
    have hsz4 := hgr4.size
    obtain ⟨⟨k0, k1, k2, k3⟩, g0, g1, g2, g3⟩ := four hh4
    have HSUB := Lib.hid hsub
    clear hsub hgr4 hh4 hh1 HBI
    go_wp2_with fail
    rw [HA.out]
    refine bodyPost_ret (v := .agg #[.string ⟨wi.1.op.toArray⟩, .int .u16 wi.1.n, .string ⟨wi.1.name.toArray⟩, .slice sA wi.1.sub.length sc]) (by simp [results, Tryd.results116, go_sem, k0, k1, k2, k3]) rfl ⟨_, rfl, ?_, hok, ?_, ?_⟩
    · exact HSUB.out.four (k := w.heap.size) (by omega) (fun g hg => by simp; omega) _ _ _ _
    · exact hps4.four hlt _ _ _ _
    · exact grow_four hg4 (Nat.le_refl _) _ _ _ _
end Go.Proofs.YtpmeabikhonaoaaDoor

/- line: Parse. -/
import Derived.Test.YtpcpjghfcimblaaGreatDoorLn30
import Derived.Deep.Cut
import Derived.Deep.CutRange
import Derived.Deep.DeepCutAuto
import Derived.Deep.CutBlock
namespace Go.Proofs.YtpcpjghfcimblaaGreatDoor
open Go.RowKit

/-- The parts that were cut. -/
def CutW (W : World) (ps : List (List Tok)) (v6 : Value) (wx : World) : Prop := ∃ vs, wx.ownsRow W.heap.size 87 1 v6 ps.length vs ∧ Parts wx wx.heap.size vs ps ∧ Below W.heap.size W wx
theorem rd_new (w : World) (N : Nat) (hN : w.heap.size = N) (cs : List Value) (T : TypeId) : Rd (w.alloc (.cells cs.toArray T)) (N + 1) (.slice (some ⟨N, 0, none⟩) 1 1) 1 cs := by subst hN; exact Rd.new w cs T
theorem own_block_lt {w : World} {base size n : Nat} {e : TypeId} {v : Value} {xs : List Value} (h : w.ownsRow base e size v n xs) : ∀ g, v.ownBlock = some g → g < w.heap.size := by
  rcases h.2 with ⟨rfl, rfl⟩ | ⟨g, cap, cur, rfl, h0, hg, h1⟩
  · intro g hg; simp [Value.ownBlock] at hg
  · intro g' hg'; simp [Value.ownBlock] at hg'; subst hg'; exact lt_of_heap hg
def ParseR (w w6 : World) (d : Int) (lab : List UInt8) (colon : Bool) (op : List UInt8) (ps : List (List Tok)) (R : List Ar × Nat) (k : Nat) (wr : World) : Prop :=
  ∃ acc v us, acc.length = k ∧ argsL d op (ps.drop k) acc = R ∧ Below w.heap.size w wr ∧ wr.heap[w.heap.size]? = some (stBox lab colon op v) ∧ ArOwn wr w6.heap.size v acc us ∧ But w6.heap.size w.heap.size w6 wr
set_option maxHeartbeats 1000000 in
set_option maxRecDepth 100000 in
theorem parse12_u (d : Int) (s : List UInt8) (w : World) (hk : knownB d = false) :
    Calls Tryz.prog 17 #[.int .i64 d, .string ⟨s.toArray⟩] w (Parse12P w (st0, 1)) := by
  have HK := Lib.hid (fun W => known_any d W)
  rw [hk] at HK
  clear hk
  go_enter Tryz.func17, Tryz.ntmps17
  go_wp2_with fail
  refine (HK.out _).mono ?_
  rintro e w1 ⟨rfl, rfl⟩
  go_wp2_with fail
  exact bodyPost_ret (v := .tuple #[.agg #[.string ⟨#[]⟩, .bool false, .string ⟨#[]⟩, .slice none 0 0], .int .i64 1]) (by simp [results, Tryz.results17, go_sem]) rfl ⟨_, rfl, ArAt.nil _ _, ((Below.refl _ _).alloc (Nat.le_refl _) _)⟩
set_option maxHeartbeats 4000000 in
set_option maxRecDepth 100000 in
theorem parse12_k (d : Int) (s : List UInt8) (w : World) (hg : GWL w) (hk : knownB d = true) (hl : s.length ≤ 1000000) (out : St × Nat) (hout : parseS d s = out) :
    Calls Tryz.prog 17 #[.int .i64 d, .string ⟨s.toArray⟩] w (Parse12P w out) := by
  have HK := Lib.hid (fun W => known_any d W)
  rw [hk] at HK
  have HL := Lib.hid (fun W (hW : GW W) => line_any s W hW (by omega))
  have hsm := lineL_small s
  have hct := lineL_count s
  unfold parseS at hout
  rw [hk, if_neg (by simp)] at hout
  generalize lineL s = lr at *
  obtain ⟨l, k⟩ := lr
  simp only at *
  have HO := Lib.hid hout
  clear hout hk
  go_enter Tryz.func17, Tryz.ntmps17
  go_wp2_with fail
  refine (HK.out _).mono ?_
  rintro e w1 ⟨rfl, rfl⟩
  have B0 := Lib.hid ((Below.refl w.heap.size w).alloc (Nat.le_refl _) (stBox [] false [] (.slice none 0 0)))
  have C0 := Lib.hid (heap_alloc_new w (stBox [] false [] (.slice none 0 0)))
  go_wp2_with fail
  refine (HL.out _ (hg.below B0.out).2).mono ?_
  rintro e w2 ⟨va, rfl, ho, hb2⟩
  have B2 := Lib.hid (bthen B0.out hb2)
  have C2 := Lib.hid ((hb2.block _ (lt_of_heap C0.out)).trans C0.out)
  have RX := Lib.hid (RdX.of_own (B := w.heap.size) ho (by simp))
  have ra := RX.out.rd
  have RA := Lib.hid ra
  obtain ⟨rA, rc, rfl, hrc⟩ := ra.form
  clear ra ho hb2 C0 B0
  by_cases hk0 : k = 0
  · subst hk0
    have HO1 := Lib.hid ((if_neg (by simp)).symm.trans HO.out)
    have H3 := Lib.hid (show HeadW w w2.heap.size d [] false l (w2.alloc (rdBox (.slice rA l.length rc) d)) from ⟨B2.out.alloc B2.out.size _, (((Below.refl w2.heap.size w2).alloc (Nat.le_refl _) (rdBox (.slice rA l.length rc) d)).block _ (lt_of_heap C2.out)).trans C2.out, lt_of_heap C2.out, _, heap_alloc_new w2 _, RX.out.keep fun p _ hp => World.cell?_alloc_lt _ _ _ hp⟩)
    have RD3 := Lib.hid ((RA.out.below ((Below.refl w2.heap.size w2).alloc (Nat.le_refl _) (rdBox (.slice rA l.length rc) d))).more (B' := (w2.alloc (rdBox (.slice rA l.length rc) d)).heap.size) (by simp))
    have hB : w.heap.size < w2.heap.size := lt_of_heap C2.out
    clear HO HL HK RA
    go_upto_block 0 with (fail)
    go_cut [30, 50] (fun _ _ wx => HeadW w w2.heap.size d (headS l).1 (headS l).2.1 (headS l).2.2 wx)
    case first =>
      have HN := Lib.hid (fun i (hi : 0 ≤ i) W (hW : Below (w2.alloc (rdBox (.slice rA l.length rc) d)).heap.size (w2.alloc (rdBox (.slice rA l.length rc) d)) W) => tname_any l i hi _ W ((RD3.out.below hW).more hW.size))
      have HM := Lib.hid (fun i (hi : 0 ≤ i) m W (hW : Below (w2.alloc (rdBox (.slice rA l.length rc) d)).heap.size (w2.alloc (rdBox (.slice rA l.length rc) d)) W) => tmark_any l i hi m _ W ((RD3.out.below hW).more hW.size))
      go_wp2_with fail
      refine (HN.out 0 (by omega) _ (Below.refl _ _)).mono ?_
      rintro e w4 ⟨rfl, rfl⟩
      rw [show nameT l (0 : Int).toNat = nameT l 0 from rfl]
      cases hn0 : nameT l 0 with
      | false =>
        have hh := Lib.hid (show headS l = ([], false, l) by unfold headS; simp [hn0])
        have HN0 := Lib.hid (show nameT l (0 : Int).toNat = false from hn0)
        clear hn0
        go_wp2_with fail
        refine (HN.out 0 (by omega) _ (Below.refl _ _)).mono ?_
        rintro e w4 ⟨rfl, rfl⟩
        rw [HN0.out]
        go_wp2_with fail
        go_meet
        rw [hh.out]
        exact H3.out
      | true =>
        have HN0 := Lib.hid (show nameT l (0 : Int).toNat = true from hn0)
        have h1 : 0 < l.length := by unfold nameT at hn0; simp at hn0; exact hn0.1
        go_wp2_with fail
        refine (HM.out 1 (by omega) [58] _ (Below.refl _ _)).mono ?_
        rintro e w4 ⟨rfl, rfl⟩
        rw [show markT l (1 : Int).toNat [58] = markT l 1 [58] from rfl]
        obtain ⟨g, o, rfl, hgl, c0, c1, c2⟩ := RX.out.rd.tok 0 h1
        rw [← getD_get l 0 h1] at c0 c1 c2
        simp only [Nat.zero_mul, Nat.add_zero] at c0 c1 c2
        obtain ⟨⟨k0, k1, k2, k3⟩, g0, g1, g2, g3⟩ := four C2.out
        cases hm1 : markT l 1 [58] with
        | true =>
          have h2 : 1 < l.length := by unfold markT at hm1; simp at hm1; exact hm1.1.1
          have hh := Lib.hid (show headS l = ((l.getD 0 tok0).2.1, true, l.drop 2) by unfold headS; simp [hn0, hm1])
          have hlen : 2 ≤ l.length := h2
          have RX2 := Lib.hid (RX.out.drop 2 6 rfl hlen)
          clear hn0 hm1
          generalize l.getD 0 tok0 = t0 at *
          go_wp2_with fail
          go_region
          all_goals (
            generalize (if rc = 2 then (some ⟨g, o, none⟩ : Option Addr) else some ⟨g, o + 6, none⟩) = A2 at *
            go_wp2_with fail
            go_meet
            rw [hh.out]
            exact HeadW.colon B2.out C2.out RX2.out)
        | false =>
          have HM1 := Lib.hid hm1
          clear hm1
          cases hn1 : nameT l 1 with
          | false =>
            have hh := Lib.hid (show headS l = ([], false, l) by unfold headS; simp [hn0, hn1, HM1.out])
            have HN1 := Lib.hid (show nameT l (1 : Int).toNat = false from hn1)
            clear hn0 hn1 k0 k1 k2 k3 g0 g1 g2 g3 c0 c1 c2
            go_wp2_with fail
            refine (HN.out 0 (by omega) _ (Below.refl _ _)).mono ?_
            rintro e w4 ⟨rfl, rfl⟩
            rw [HN0.out]
            go_wp2_with fail
            refine (HN.out 1 (by omega) _ (Below.refl _ _)).mono ?_
            rintro e w4 ⟨rfl, rfl⟩
            rw [HN1.out]
            go_wp2_with fail
            go_meet
            rw [hh.out]
            exact H3.out
          | true =>
            have h2 : 1 < l.length := by unfold nameT at hn1; simp at hn1; exact hn1.1
            have HN1 := Lib.hid (show nameT l (1 : Int).toNat = true from hn1)
            obtain ⟨g', o', ha, _, e0, e1, e2⟩ := RX.out.rd.tok 1 h2
            injection ha with ha
            injection ha with ha1 ha2 _
            subst ha1 ha2
            rw [← getD_get l 1 h2] at e0 e1 e2
            simp only [Nat.one_mul] at e0 e1 e2
            have hh := Lib.hid (show headS l = if setsB (l.getD 1 tok0).2.1 then ((l.getD 0 tok0).2.1, false, l.drop 1) else ([], false, l) by unfold headS; simp [hn0, hn1, HM1.out])
            have HS := Lib.hid (fun W => sets_any (l.getD 1 tok0).2.1 W)
            generalize l.getD 0 tok0 = t0 at *
            generalize l.getD 1 tok0 = t1 at *
            clear hn0 hn1
            go_wp2_with fail
            refine (HN.out 0 (by omega) _ (Below.refl _ _)).mono ?_
            rintro e w4 ⟨rfl, rfl⟩
            rw [HN0.out]
            go_wp2_with fail
            refine (HN.out 1 (by omega) _ (Below.refl _ _)).mono ?_
            rintro e w4 ⟨rfl, rfl⟩
            rw [HN1.out]
            go_wp2_with fail
            refine (HS.out _).mono ?_
            rintro e w5 ⟨rfl, hb5⟩
            have H5 := Lib.hid (H3.out.bel hb5)
            cases hs : setsB t1.2.1 with
            | false =>
              rw [hs] at hh
              clear hs hb5
              go_wp2_with fail
              go_meet
              rw [hh.out]
              exact H5.out
            | true =>
              rw [hs] at hh
              have hgB : w.heap.size < w2.heap.size := hB
              have hc1 : w5.cell? ⟨g, o + 1, none⟩ = some (.string ⟨t0.2.1.toArray⟩) := (hb5.cell (p := ⟨g, o + 1, none⟩) (by simp; omega)).trans ((World.cell?_alloc_lt _ _ _ hgl).trans c1)
              obtain ⟨q1, q2, q3, tv, q4, q5⟩ := H5.out
              obtain ⟨⟨k0, k1, k2, k3⟩, g0, g1, g2, g3⟩ := four q2
              have hR : w5.heap[w2.heap.size]? = some (rdBox (.slice (some ⟨g, o, none⟩) l.length rc) d) := (hb5.block _ (by simp)).trans (heap_alloc_new w2 _)
              have r0 := cell_of_heap (i := 0) hR
              have r0f := frozen_of_heap (i := 0) hR
              have hlen : 1 ≤ l.length := by omega
              have RX2 := Lib.hid ((((RX.out.keep (w' := w2.alloc (rdBox (.slice (some ⟨g, o, none⟩) l.length rc) d)) fun p _ hp => World.cell?_alloc_lt _ _ _ hp).keep (w' := w5) fun p _ hp => hb5.cell (Nat.lt_trans hp (by simp)))).drop 1 3 rfl hlen)
              have RX3 := RX2.out
              rw [if_neg (by omega)] at RX3
              replace RX2 := Lib.hid RX3
              simp at r0 r0f
              clear RX3 hs hb5 q1 q2 q4 q5 hR c0 c1 c2 e0 e1 e2
              go_wp2_with fail
              go_region
              all_goals (
                go_wp2_with fail
                go_meet
                rw [hh.out]
                exact HeadW.sets H5.out RX2.out)
    case rest =>
      have HF := Lib.hid (head_ok l hsm)
      have HC := Lib.hid (head_count l)
      generalize (headS l).1 = lab at *
      generalize (headS l).2.1 = colon at *
      generalize (headS l).2.2 = r at *
      have hrl : r.length ≤ 200 := Nat.le_trans HC.out hct
      obtain ⟨wh, rfl⟩ : ∃ x : World, x = wc := ⟨_, rfl⟩
      clear HC H3 RD3 RX B2 C2 hsm hrc
      obtain ⟨q1, q2, q3, tv, q4, q5⟩ := hcut
      obtain ⟨A, c, rfl, hc⟩ := q5.rd.form
      have B5 := Lib.hid q1
      have C5 := Lib.hid q2
      have R5 := Lib.hid q4
      have X5 := Lib.hid q5
      obtain ⟨⟨k0, k1, k2, k3⟩, g0, g1, g2, g3⟩ := four q2
      have r0 := cell_of_heap (i := 0) q4
      have r0f := frozen_of_heap (i := 0) q4
      simp at r0 r0f
      clear q1 q2 q4 q5
      have okr := HF.out.2
      have fl := HF.out.1
      by_cases hr0 : r = []
      · subst hr0
        have hres := HO1.out
        unfold bodyS at hres
        rw [if_pos rfl] at hres
        have HRS := Lib.hid hres
        have HRt := Lib.hid (Right12_any d ⟨lab, colon, [], []⟩ (.slice none 0 0) wh (hg.below B5.out) ⟨fl, by simp, fun a ha => by simp at ha⟩ (ArAt.nil _ _))
        unfold endS at hres
        generalize rightS d ⟨lab, colon, [], []⟩ = rs at *
        replace HRS := Lib.hid hres
        clear hres HF HO1 X5 hg fl okr
        go_wp2_with fail
        refine HRt.out.mono ?_
        rintro e w6 ⟨rfl, hb6⟩
        have B6 := Lib.hid (bthen B5.out hb6)
        have C6 := Lib.hid ((hb6.block _ (lt_of_heap C5.out)).trans C5.out)
        obtain ⟨⟨y0, y1, y2, y3⟩, z0, z1, z2, z3⟩ := four C6.out
        have hH : w.heap.size < w6.heap.size := lt_of_heap C6.out
        clear hb6 k0 k1 k2 k3 g0 g1 g2 g3 r0 r0f HRt
        by_cases h0 : rs = 0
        · subst h0
          obtain rfl : out = (⟨lab, colon, [], []⟩, 0) := HRS.out.symm.trans (if_neg (by simp))
          clear HRS
          go_wp2_with fail
          exact bodyPost_ret (v := .tuple #[.agg #[.string ⟨lab.toArray⟩, .bool colon, .string ⟨#[]⟩, .slice none 0 0], .int .i64 0]) (by simp [results, Tryz.results17, go_sem, y0, y1, y2, y3]) rfl ⟨_, rfl, ArAt.nil _ _, bset4 B6.out (Nat.le_refl _) _ _ _ _⟩
        · have e1 : ((rs : Int) != 0) = true := by rw [bne_iff_ne]; omega
          obtain rfl : out = (st0, rs) := HRS.out.symm.trans (if_pos h0)
          clear HRS h0
          go_wp2_with fail
          exact bodyPost_ret (v := .tuple #[.agg #[.string ⟨#[]⟩, .bool false, .string ⟨#[]⟩, .slice none 0 0], .int .i64 rs]) (by simp [results, Tryz.results17, go_sem, y0, y1, y2, y3]) rfl ⟨_, rfl, ArAt.nil _ _, bset4 B6.out (Nat.le_refl _) _ _ _ _⟩
      · have h1 : 0 < r.length := List.length_pos_iff.2 hr0
        have h1' : (0 : Int) < (r.length : Int) := by omega
        have HB := Lib.hid (show bodyS d lab colon r = out from HO1.out)
        unfold bodyS at HB
        rw [if_neg hr0] at HB
        have HNm := Lib.hid (tname_any r 0 (by omega) _ wh (X5.out.rd.more (Nat.le_of_lt (lt_of_heap R5.out))))
        rw [show nameT r (0 : Int).toNat = nameT r 0 from rfl] at HNm
        clear HO1 hr0
        go_wp2_with fail
        refine HNm.out.mono ?_
        rintro e w4 ⟨rfl, rfl⟩
        clear HNm
        cases hn : nameT r 0 with
        | false =>
          rw [hn] at HB
          obtain rfl : out = (st0, 2) := HB.out.symm.trans (if_pos rfl)
          clear hn HB
          go_wp2_with fail
          exact bodyPost_ret (v := .tuple #[.agg #[.string ⟨#[]⟩, .bool false, .string ⟨#[]⟩, .slice none 0 0], .int .i64 2]) (by simp [results, Tryz.results17, go_sem, k0, k1, k2, k3]) rfl ⟨_, rfl, ArAt.nil _ _, bset4 B5.out (Nat.le_refl _) _ _ _ _⟩
        | true =>
          rw [hn, if_neg (by simp)] at HB
          obtain ⟨g, o, rfl, hgl, c0, c1, c2⟩ := X5.out.rd.tok 0 h1
          rw [← getD_get r 0 h1] at c0 c1 c2
          simp only [Nat.zero_mul, Nat.add_zero] at c0 c1 c2
          have hop := getD_small okr 0
          have B7 := Lib.hid (B5.out.setCell (p := ⟨w.heap.size, 2, none⟩) (Nat.le_refl _) (.string ⟨(r.getD 0 tok0).2.1.toArray⟩))
          have C7 := Lib.hid (heap_set (i := 2) (.string ⟨(r.getD 0 tok0).2.1.toArray⟩) C5.out)
          have X7 := Lib.hid ((X5.out.keep (w' := wh.setCell ⟨w.heap.size, 2, none⟩ (.string ⟨(r.getD 0 tok0).2.1.toArray⟩)) fun p hp _ => World.cell?_of_block (Below.heap_setCell _ _ _ p.block (by simp; omega))).drop 1 3 rfl h1)
          have HCut := Lib.hid (cut_any [44] (r.drop 1) _ _ (X7.out.rd.more (B' := (wh.setCell ⟨w.heap.size, 2, none⟩ (.string ⟨(r.getD 0 tok0).2.1.toArray⟩)).heap.size) (by simpa using Nat.le_of_lt (lt_of_heap R5.out))) (by simp; omega))
          have hps := Lib.hid (cutL_ok [44] _ (okr.drop 1))
          have hps2 := Lib.hid (cutL_short [44] (r.drop 1))
          generalize (r.getD 0 tok0).2.1 = op at *
          generalize cutL [44] (r.drop 1) = ps at *
          have hr1 : 1 ≤ r.length := h1
          clear hn X7
          go_upto_region 15 with (fail)
          go_cut [8] (fun v6 wx => CutW (wh.setCell ⟨w.heap.size, 2, none⟩ (.string ⟨op.toArray⟩)) ps v6 wx)
          case first =>
            go_wp2_with fail
            all_goals (
              have h2 := HCut.out
              first | rw [if_neg h] at h2 | simp only [h, if_true, Nat.sub_self] at h2
              refine h2.mono ?_
              rintro e w6 ⟨v6, vs, rfl, ho6, hp6, hb6⟩
              clear HCut h2
              have HW6 := Lib.hid (show CutW (wh.setCell ⟨w.heap.size, 2, none⟩ (.string ⟨op.toArray⟩)) ps v6 w6 from ⟨vs, ho6, hp6, hb6⟩)
              clear ho6 hp6 hb6
              go_wp2_with fail
              go_meet
              exact HW6.out)
          case rest =>
            clear HCut R5 X5 k0 k1 k2 k3 g0 g1 g2 g3 r0 r0f c0 c1 c2 HF okr
            obtain ⟨vs, ho6, hp6, hb6⟩ := hcut
            obtain ⟨w6, rfl⟩ : ∃ x : World, x = wc := ⟨_, rfl⟩
            have hlt7 : w.heap.size < (wh.setCell ⟨w.heap.size, 2, none⟩ (.string ⟨op.toArray⟩)).heap.size := lt_of_heap C7.out
            have B8 := Lib.hid (B7.out.trans (hb6.mono (Nat.le_of_lt hlt7)))
            have C8 : Hid (w6.heap[w.heap.size]? = some (stBox lab colon op (.slice none 0 0))) := Lib.hid ((hb6.block _ hlt7).trans C7.out)
            obtain ⟨A6, c6, rfl, hc6, hm6, hrow6⟩ := own_slice ho6 (by omega)
            unfold maxLen at hm6
            have HROW : Hid (0 < ps.length → ∃ g, A6 = some ⟨g, 0, none⟩ ∧ w.heap.size < g ∧ g < w6.heap.size ∧ ∀ j u, vs[j]? = some u → w6.cell? ⟨g, j, none⟩ = some u) := Lib.hid (fun h => by obtain ⟨g, h1, h2, h3, _, h5⟩ := hrow6 h; exact ⟨g, h1, Nat.lt_of_lt_of_le hlt7 h2, h3, h5⟩)
            have HP6 := Lib.hid hp6
            have HPR := Lib.hid (args_fit d op ps hps.out [] (fun a ha => by simp at ha))
            clear ho6 hp6 hb6 hrow6 C7 B7 hlt7 hgl hc h1 h1' hr1
            by_cases h32 : 32 < ps.length
            · obtain rfl : out = (st0, 11) := HB.out.symm.trans (if_pos h32)
              have h32' : (32 : Int) < (ps.length : Int) := by omega
              obtain ⟨⟨k0, k1, k2, k3⟩, g0, g1, g2, g3⟩ := four C8.out
              clear HB
              go_wp2_with fail
              exact bodyPost_ret (v := .tuple #[.agg #[.string ⟨#[]⟩, .bool false, .string ⟨#[]⟩, .slice none 0 0], .int .i64 11]) (by simp [results, Tryz.results17, go_sem, k0, k1, k2, k3]) rfl ⟨_, rfl, ArAt.nil _ _, bset4 B8.out (Nat.le_refl _) _ _ _ _⟩
            · rw [if_neg h32] at HB
              have h32' : decide ((32 : Int) < (ps.length : Int)) = false := by simp; omega
              have HARG : Hid (argsL d op (ps.drop 0) [] = argsL d op ps []) := Lib.hid rfl
              generalize argsL d op ps [] = R at *
              go_wp2_with fail
              go_loopw [102] (fun i wr => ∃ k : Nat, k ≤ ps.length ∧ i = .int .i64 k ∧ ParseR w w6 d lab colon op ps R k wr) (fun i _ => ps.length - (intOf i).toNat)
              case atStart => exact ⟨0, Nat.zero_le _, rfl, [], .slice none 0 0, [], rfl, HARG.out, B8.out, C8.out, OwnV.nil _ _, But.refl _ _ _⟩
              case round =>
                obtain ⟨k, hk, rfl, acc, v, us, hal, harg, hbw, hC, hown, hbut⟩ := hrel
                have HAL := Lib.hid hal
                have HARG2 := Lib.hid harg
                have BW := Lib.hid hbw
                have CW := Lib.hid hC
                have OW := Lib.hid hown
                have BU := Lib.hid hbut
                clear hal harg hbw hC hown hbut HARG
                obtain ⟨⟨k0, k1, k2, k3⟩, g0, g1, g2, g3⟩ := four CW.out
                have hBr : w.heap.size < wr.heap.size := lt_of_heap CW.out
                by_cases hlt : k < ps.length
                · have hkv : k < vs.length := by rw [HP6.out.1]; exact hlt
                  obtain ⟨g6, rfl, q1, q2, q4⟩ := HROW.out (by omega)
                  obtain ⟨⟨base, hob⟩, _⟩ := HP6.out.2 k vs[k] ps[k] (List.getElem?_eq_getElem hkv) (List.getElem?_eq_getElem hlt)
                  have c6k : wr.cell? ⟨g6, k, none⟩ = some vs[k] := (World.cell?_of_block (w := w6) (BU.out.2 g6 q2 (by omega))).trans (q4 k _ (List.getElem?_eq_getElem hkv))
                  have hrd := own_rd_but hob C8.out BU.out
                  have hpl : ps[k].length ≤ 900 := by have := hps2.out ps[k] (List.getElem_mem hlt); simp at this; omega
                  have HOp := Lib.hid (opnd_any d op ps[k] vs[k] wr (hg.below BW.out) hpl (hps.out _ (List.getElem_mem hlt)) hrd)
                  obtain ⟨pA, pc, hvk, hpc⟩ := hrd.form
                  have HST := Lib.hid ((argsL_step d op ps k hlt acc).symm.trans HARG2.out)
                  rw [hvk] at c6k HOp
                  generalize operandL d op ps[k] = res at *
                  obtain ⟨a, ka⟩ := res
                  generalize ps[k].length = pl at *
                  clear hvk hob hrd q1 q4 HARG2
                  obtain ⟨vA, vc, rfl, hvc, hvm, hvrow⟩ := own_slice OW.out.2.1 (by omega)
                  have HVR := Lib.hid hvrow
                  clear hvrow
                  go_wp2_with fail
                  refine HOp.out.mono ?_
                  rintro e w7 ⟨va, rfl, hsub, hb7⟩
                  have C9 := Lib.hid ((hb7.block _ hBr).trans CW.out)
                  have B9 := Lib.hid (BW.out.trans (hb7.mono (Nat.le_of_lt hBr)))
                  have BE9 := Lib.hid hb7
                  obtain ⟨sA, sc, rfl, hsc, hsm⟩ := hsub.form
                  have SB := Lib.hid hsub
                  obtain ⟨⟨y0, y1, y2, y3⟩, z0, z1, z2, z3⟩ := four C9.out
                  have hB7 : w.heap.size < w7.heap.size := lt_of_heap C9.out
                  clear hb7 hsub HOp k0 k1 k2 k3 g0 g1 g2 g3 c6k
                  by_cases hka : ka = 0
                  · subst hka
                    have hac : acc.length ≤ 32 := by have := HAL.out; omega
                    have hw6 : w6.heap.size ≤ wr.heap.size := BU.out.1
                    have BE8 := Lib.hid ((BE9.out.alloc BE9.out.size (.cells (arCells a (.slice sA a.e.sub.length sc)).toArray 46)).alloc (Nat.le_trans BE9.out.size (by simp)) (.cells (arCells a (.slice sA a.e.sub.length sc)).toArray 46))
                    have HO8 := Lib.hid (OwnV.keep arSub_keep OW.out BE8.out).2.1
                    have HN8 := Lib.hid (rd_new (w7.alloc (.cells (arCells a (.slice sA a.e.sub.length sc)).toArray 46)) (w7.heap.size + 1) (by simp) (arCells a (.slice sA a.e.sub.length sc)) 46)
                    have HS8 := Lib.hid (show arSub ((w7.alloc (.cells (arCells a (.slice sA a.e.sub.length sc)).toArray 46)).alloc (.cells (arCells a (.slice sA a.e.sub.length sc)).toArray 46)) (fun g => w6.heap.size ≤ g ∧ g < ((w7.alloc (.cells (arCells a (.slice sA a.e.sub.length sc)).toArray 46)).alloc (.cells (arCells a (.slice sA a.e.sub.length sc)).toArray 46)).heap.size ∧ (Value.slice vA acc.length vc).ownBlock ≠ some g) (.slice sA a.e.sub.length sc) a from
                      SubAt.keep SB.out (fun p hp => (((Below.refl w7.heap.size w7).alloc (Nat.le_refl _) _).alloc (by simp) _).cell hp.2) (fun g hg => ⟨Nat.le_trans hw6 hg.1, by simp; omega, fun hh => by have := own_block_lt OW.out.2.1 g hh; omega⟩))
                    have HST2 := Lib.hid ((if_neg (by simp)).symm.trans HST.out)
                    have B8' := Lib.hid ((B9.out.alloc B9.out.size (.cells (arCells a (.slice sA a.e.sub.length sc)).toArray 46)).alloc (Nat.le_trans B9.out.size (by simp)) (.cells (arCells a (.slice sA a.e.sub.length sc)).toArray 46))
                    have C8' := Lib.hid (((((Below.refl w7.heap.size w7).alloc (Nat.le_refl _) (.cells (arCells a (.slice sA a.e.sub.length sc)).toArray 46)).alloc (by simp) (.cells (arCells a (.slice sA a.e.sub.length sc)).toArray 46)).block _ hB7).trans C9.out)
                    have hb8 : w6.heap.size ≤ ((w7.alloc (.cells (arCells a (.slice sA a.e.sub.length sc)).toArray 46)).alloc (.cells (arCells a (.slice sA a.e.sub.length sc)).toArray 46)).heap.size := Nat.le_trans hw6 BE8.out.size
                    have hBl : w.heap.size < w6.heap.size := lt_of_heap C8.out
                    have hBw6 : w.heap.size ≤ w6.heap.size := Nat.le_of_lt hBl
                    clear HST SB hvc hvm HVR
                    go_wp2_with (at_builtin; refine wpList_append_to _ rfl (.tmp 120) (.tmp 122) 30 rfl w6.heap.size 46 _ 8 104 Tryz.underlying30 info_ar rfl (by omega) HO8.out rfl HN8.out rfl rfl (arCells_one a _ rfl) (by omega) (by omega) hb8 ?_; intro v9 w9 hown9 hbel9 hg9 hv9; obtain ⟨A9, c9, rfl, hc9, hm9, _⟩ := own_slice hown9 (by omega); have ON := Lib.hid (OwnV.snoc arSub_keep OW.out BE8.out HS8.out hown9 hg9 hv9); have B10 := Lib.hid (B8'.out.trans (hbel9.mono hBw6)); have C10 := Lib.hid ((hbel9.block _ hBl).trans C8'.out); have BU10 := Lib.hid ((BU.out.bel (BE8.out.mono hw6)).bel hbel9); obtain ⟨⟨x0, x1, x2, x3⟩, f0, f1, f2, f3⟩ := four C10.out; have hB9 := lt_of_heap C10.out; clear hown9 hbel9 hg9 hv9 y0 y1 y2 y3 z0 z1 z2 z3 HO8 HN8 HS8 BE8 B8' C8' hb8)
                    go_roundw
                    case rel => exact ⟨k + 1, by omega, by go_num, acc ++ [a], _, _, by simp [HAL.out], HST2.out, B10.out.setCell (Nat.le_refl _) _, heap_set (i := 3) _ C10.out, OwnV.set arSub_keep ON.out hBl, BU10.out.set 3 _⟩
                    case measure => simp [intOf]; omega
                  · have e1 : ((ka : Int) != 0) = true := by rw [bne_iff_ne]; omega
                    obtain rfl : R = ([], ka) := HST.out.symm.trans (if_pos hka)
                    obtain rfl : out = (st0, ka) := HB.out.symm.trans (if_pos hka)
                    clear HB HST hka
                    go_wp2_with fail
                    exact bodyPost_ret (v := .tuple #[.agg #[.string ⟨#[]⟩, .bool false, .string ⟨#[]⟩, .slice none 0 0], .int .i64 ka]) (by simp [results, Tryz.results17, go_sem, y0, y1, y2, y3, hB7]) rfl ⟨_, rfl, ArAt.nil _ _, (bset4 B9.out (Nat.le_refl _) _ _ _ _).alloc (by simpa using B9.out.size) _⟩
                · obtain rfl : k = ps.length := by omega
                  have hbl : w.heap.size < w6.heap.size := lt_of_heap C8.out
                  have hR := HARG2.out
                  rw [List.drop_length] at hR
                  obtain rfl : R = (acc, 0) := hR.symm
                  have hAA := OwnV.arAt OW.out
                  obtain ⟨vA, vc, rfl, hvc, hvm⟩ := hAA.form
                  have HAA := Lib.hid hAA
                  have HRt := Lib.hid (Right12_any d ⟨lab, colon, op, acc⟩ (.slice vA acc.length vc) wr (hg.below BW.out) ⟨fl, hop, HPR.out⟩ (hAA.keep (fun _ _ => rfl) (fun g hg => hg.2)))
                  have HRS := Lib.hid ((if_neg (by simp)).symm.trans HB.out)
                  have hres := HRS.out
                  unfold endS at hres
                  replace HRS := Lib.hid hres
                  generalize rightS d ⟨lab, colon, op, acc⟩ = rs at *
                  clear hres hR HB HARG2 OW BU HROW HP6 HPR hAA
                  go_wp2_with fail
                  refine HRt.out.mono ?_
                  rintro e w9 ⟨rfl, hb9⟩
                  have B9 := Lib.hid (BW.out.trans (hb9.mono (Nat.le_of_lt hBr)))
                  have C9 := Lib.hid ((hb9.block _ hBr).trans CW.out)
                  have A9 := Lib.hid (HAA.out.keep (w' := w9) (fun _ hp => hb9.cell hp.2) (S' := fun g => w.heap.size < g ∧ g < w9.heap.size) (fun g hg => ⟨Nat.lt_of_lt_of_le hbl hg.1, Nat.lt_of_lt_of_le hg.2 hb9.size⟩))
                  obtain ⟨⟨y0, y1, y2, y3⟩, z0, z1, z2, z3⟩ := four C9.out
                  have hH : w.heap.size < w9.heap.size := lt_of_heap C9.out
                  clear hb9 k0 k1 k2 k3 g0 g1 g2 g3 HRt HAA
                  by_cases h0 : rs = 0
                  · subst h0
                    obtain rfl : out = (⟨lab, colon, op, acc⟩, 0) := HRS.out.symm.trans (if_neg (by simp))
                    clear HRS
                    go_wp2_with fail
                    exact bodyPost_ret (v := .tuple #[.agg #[.string ⟨lab.toArray⟩, .bool colon, .string ⟨op.toArray⟩, .slice vA acc.length vc], .int .i64 0]) (by simp [results, Tryz.results17, go_sem, y0, y1, y2, y3]) rfl ⟨_, rfl, (A9.out.set4 (b := w.heap.size) (fun g hg => by omega) _ _ _ _).keep (fun _ _ => rfl) (fun g hg => ⟨by omega, by simpa using hg.2⟩), bset4 B9.out (Nat.le_refl _) _ _ _ _⟩
                  · have e1 : ((rs : Int) != 0) = true := by rw [bne_iff_ne]; omega
                    obtain rfl : out = (st0, rs) := HRS.out.symm.trans (if_pos h0)
                    clear HRS h0
                    go_wp2_with fail
                    exact bodyPost_ret (v := .tuple #[.agg #[.string ⟨#[]⟩, .bool false, .string ⟨#[]⟩, .slice none 0 0], .int .i64 rs]) (by simp [results, Tryz.results17, go_sem, y0, y1, y2, y3]) rfl ⟨_, rfl, ArAt.nil _ _, bset4 B9.out (Nat.le_refl _) _ _ _ _⟩
  · have hk1 : ((k : Int) != 0) = true := by rw [bne_iff_ne]; omega
    obtain rfl : out = (st0, k) := HO.out.symm.trans (if_pos (by simpa using hk0))
    obtain ⟨⟨k0, k1, k2, k3⟩, g0, g1, g2, g3⟩   := four C2.out
    have hH : w.heap.size < w2.heap.size := lt_of_heap C2.out
    clear hk0 HO
    go_wp2_with fail
    exact bodyPost_ret (v := .tuple #[.agg #[.string ⟨#[]⟩, .bool false, .string ⟨#[]⟩, .slice none 0 0], .int .i64 k]) (by simp [results, Tryz.results17, go_sem, k0, k1, k2, k3]) rfl ⟨_, rfl, ArAt.nil _ _, (((B2.out.setCell (Nat.le_refl _) _).setCell (Nat.le_refl _) _).setCell (Nat.le_refl _) _).setCell (Nat.le_refl _) _⟩
/-- A line is read as parseS reads it; what it holds lies in new blocks. -/
theorem parse12_any (d : Int) (s : List UInt8) (w : World) (hg : GWL w) (hl : s.length ≤ 1000000) : Calls Tryz.prog 17 #[.int .i64 d, .string ⟨s.toArray⟩] w (Parse12P w (parseS d s)) := by
  cases hk : knownB d with
  | false =>
    have : parseS d s = (st0, 1) := by unfold parseS; rw [if_pos hk]
    rw [this]
    exact parse12_u d s w hk
  | true => exact parse12_k d s w hg hk hl _ rfl
end Go.Proofs.YtpcpjghfcimblaaGreatDoor

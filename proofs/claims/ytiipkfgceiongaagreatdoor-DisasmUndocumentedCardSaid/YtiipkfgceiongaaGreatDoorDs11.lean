/- disasm: Stmts, the whole (8080). -/
import Derived.Test.YtiipkfgceiongaaGreatDoorUi
namespace Go.Proofs.YtiipkfgceiongaaGreatDoor
open Go.RowKit

/-- All blocks below N but one are as they were. -/
def ButM (N M : Nat) (w w' : World) : Prop := w.heap.size ≤ w'.heap.size ∧ ∀ g, g < N → g ≠ M → w'.heap[g]? = w.heap[g]?
theorem ButM.refl (N M : Nat) (w : World) : ButM N M w w := ⟨Nat.le_refl _, fun _ _ _ => rfl⟩
theorem ButM.bel {N M : Nat} {w w1 w2 : World} (h : ButM N M w w1) (hb : Below w1.heap.size w1 w2) (hN : N ≤ w1.heap.size) : ButM N M w w2 :=
  ⟨Nat.le_trans h.1 hb.size, fun g h1 h2 => (hb.block g (by omega)).trans (h.2 g h1 h2)⟩
theorem ButM.grown {N M : Nat} {w w1 w2 : World} (h : ButM N M w w1) (hg : w1.grownBy w2 (some M)) (hN : N ≤ w1.heap.size) : ButM N M w w2 :=
  ⟨Nat.le_trans h.1 hg.size, fun g h1 h2 => (hg.block g (by omega) (fun e => h2 (by injection e))).trans (h.2 g h1 h2)⟩
/-- The cells of piece k, in a world where its row is as it was. -/
theorem pc_cells {w2 wr : World} {base G c n : Nat} {l : List Pc} {vs : List Value} (h : PcOwn w2 base (.slice (some ⟨G, 0, none⟩) n c) l vs) (k : Nat) (hk : k < l.length) (hb : wr.heap[G]? = w2.heap[G]?) :
    ∃ aA ac, vs.getD k nilV = .slice aA l[k].s.args.length ac ∧ l[k].s.args.length ≤ ac ∧ l[k].s.args.length ≤ maxLen ∧ wr.cell? ⟨G, k * 7, none⟩ = some (.string ⟨l[k].s.label.toArray⟩) ∧ wr.cell? ⟨G, k * 7 + 1, none⟩ = some (.bool l[k].s.colon) ∧ wr.cell? ⟨G, k * 7 + 2, none⟩ = some (.string ⟨l[k].s.op.toArray⟩) ∧ wr.cell? ⟨G, k * 7 + 3, none⟩ = some (.slice aA l[k].s.args.length ac) ∧ wr.cell? ⟨G, k * 7 + 4, none⟩ = some (.int .i64 l[k].pl) ∧ wr.cell? ⟨G, k * 7 + 5, none⟩ = some (.int .i64 l[k].size) ∧ wr.cell? ⟨G, k * 7 + 6, none⟩ = some (.int .i64 l[k].tg) := by
  have hq : ∀ j u, (pcCells l[k] (vs.getD k nilV))[j]? = some u → wr.cell? ⟨G, k * 7 + j, none⟩ = some u := fun j u hu => (World.cell?_of_block hb).trans (h.get k hk j u hu)
  obtain ⟨aA, ac, h1, h2, h3⟩ := (h.2.2.1 k hk).form
  rw [h1] at hq
  exact ⟨aA, ac, h1, h2, h3, hq 0 _ rfl, hq 1 _ rfl, hq 2 _ rfl, hq 3 _ rfl, hq 4 _ rfl, hq 5 _ rfl, hq 6 _ rfl⟩
def Loop1 (w w2 : World) (M1 : Nat) (l : List Pc) (k : Nat) (wr : World) : Prop := SetAt wr M1 ((l.take k).map (·.tg)) ∧ ButM w2.heap.size M1 w2 wr ∧ Below w.heap.size w wr
def Loop2 (w wo : World) (M2 : Nat) (l : List Pc) (k : Nat) (wr : World) : Prop := SetAt wr M2 (marksK l k) ∧ ButM wo.heap.size M2 wo wr ∧ Below w.heap.size w wr
set_option maxHeartbeats 8000000 in
set_option maxRecDepth 100000 in
theorem Stmts80_main (d : Int) (n : Nat) (b : List UInt8) (v : Value) (w : World) (hg : GWL w) (hr : RdB w w.heap.size v b) (hl : b.length ≤ 1000000) (hd1 : 0 ≤ d) (hd2 : d < 2) (h0 : b ≠ []) (h1 : n + b.length ≤ 65536) (l : List Pc) (hsw : sweepF (fun _ b => first80D d b) b.length n b = l) :
    Calls Tryz.prog 13 #[.int .i64 d, .int .i64 n, v] w (StmtsP w (orgS n :: l.map (finD (marksD l))) 0) := by
  have hpos := List.length_pos_iff.2 h0
  have e1 : decide (d < 0) = false := by simp; omega
  have e2 : decide (2 < d) = false := by simp; omega
  have e3 : decide ((n : Int) < 0) = false := by simp
  have e4 : decide ((65536 : Int) < (b.length : Int)) = false := by simp; omega
  have hw : IntKind.i64.wrap (65536 - (b.length : Int)) = 65536 - (b.length : Int) := IntWalk.i64_in _ (by omega)
  have e5 : decide (65536 - (b.length : Int) < (n : Int)) = false := by simp; omega
  have e6 : ((b.length : Int) == 0) = false := by rw [beq_eq_false_iff_ne]; omega
  have HSW := Lib.hid (sweep80_any d (by omega) n b v w hg hr (by omega))
  rw [hsw] at HSW
  have hsz : ∀ pl b, b ≠ [] → 1 ≤ ((fun (_ : Nat) b => first80D d b) pl b).2.1 ∧ ((fun (_ : Nat) b => first80D d b) pl b).2.1 ≤ b.length := fun pl b hb => ⟨(first80_size d b hb).1, (first80_size d b hb).2.1⟩
  have HPW := Lib.hid (sweep_pos _ (fun pl b hb => (hsz pl b hb).1) b.length n b).2
  have HEND := Lib.hid (sweep_end _ hsz b.length n b)
  have HTG := Lib.hid (sweep_all (fun _ b => first80D d b) (fun p => -1 ≤ p.tg ∧ p.tg ≤ 65535) (fun pl b hb => (first80_size d b hb).2.2) b.length n b)
  have hll := sweep_len (fun _ b => first80D d b) b.length n b
  have HARG := Lib.hid (sweep_all (fun _ b => first80D d b) (fun p => (0 ≤ p.tg → p.s.args ≠ []) ∧ ∀ a ∈ p.s.args, a.e.sub = []) (fun pl b hb => first80_args d b (byteN_lt b)) b.length n b)
  rw [hsw] at HPW HEND HTG HARG hll
  obtain ⟨A, c, rfl, hc⟩ := hr.form
  have hc' := hc
  clear hr hsw hsz hd1 hd2 h0
  go_enter Tryz.func13, Tryz.ntmps13
  go_wp2_with fail
  refine (HSW.out).mono ?_
  rintro e w1 ⟨lv, vs, rfl, hpc, hb1⟩
  obtain ⟨lA, lc, rfl, hlc, hlm, hlr⟩ := own_slice hpc.2.1 (by omega)
  have HLR : Hid (0 < l.length → ∃ G, lA = some ⟨G, 0, none⟩ ∧ w.heap.size ≤ G ∧ G < w1.heap.size) := Lib.hid (fun h => by obtain ⟨G, a1, a2, a3, _⟩ := hlr h; exact ⟨G, a1, a2, a3⟩)
  have hz1 := hb1.size
  have HAB : Hid (∀ i, i < l.length → ∀ g, (vs.getD i nilV).ownBlock = some g → w.heap.size ≤ g ∧ g < w1.heap.size ∧ (Value.slice lA l.length lc).ownBlock ≠ some g) := Lib.hid (fun i hi g hgg => (hpc.2.2.1 i hi).block g hgg)
  have HAP := Lib.hid hpc.2.2.2
  have HA1 : Hid (∀ i (hi : i < l.length), ArgRow ((w1.alloc (.map #[] 0)).alloc (.map #[] 0)) (fun g => w.heap.size ≤ g ∧ g < w1.heap.size) (vs.getD i nilV) l[i].s.args) := Lib.hid (fun i hi => (hpc.2.2.1 i hi).keep (fun g hg => (((Below.refl w1.heap.size w1).alloc (Nat.le_refl _) (.map #[] 0)).alloc (by simp) (.map #[] 0)).block g hg.2.1) (fun g hg => ⟨hg.1, hg.2.1⟩))
  have HVL := Lib.hid hpc.1
  have P2 := Lib.hid (hpc.below (((Below.refl w1.heap.size w1).alloc (Nat.le_refl _) (.map #[] 0)).alloc (by simp) (.map #[] 0)))
  have S1 := Lib.hid ((SetAt.made w1).keep (w' := (w1.alloc (.map #[] 0)).alloc (.map #[] 0)) (Below.heap_alloc _ _ _ (by simp)))
  have S2 := Lib.hid (SetAt.made (w1.alloc (.map #[] 0)))
  have B2 := Lib.hid ((hb1.alloc hb1.size (.map #[] 0)).alloc (Nat.le_trans hb1.size (by simp)) (.map #[] 0))
  have hM : ((w1.alloc (.map #[] 0)).alloc (.map #[] 0)).heap.size = w1.heap.size + 2 := by simp
  rw [show (w1.alloc (.map #[] 0)).heap.size = w1.heap.size + 1 by simp] at S2
  clear hpc hb1 HSW hlm hlr
  have hmk := @run_makeMap Tryz.prog
  go_wp2_with fail
  clear hmk
  generalize (w1.alloc (.map #[] 0)).alloc (.map #[] 0) = w2 at *
  generalize w1.heap.size = M1 at *
  go_loopw [45] (fun i wr => ∃ k : Nat, k ≤ l.length ∧ i = .int .i64 k ∧ Loop1 w w2 M1 l k wr) (fun i _ => l.length - (intOf i).toNat)
  case atStart => exact ⟨0, Nat.zero_le _, rfl, S1.out, ButM.refl _ _ _, B2.out⟩
  case round =>
    obtain ⟨k, hk, rfl, hS, hBM, hBW⟩ := hrel
    have HS := Lib.hid hS
    have HBM := Lib.hid hBM
    have HBW := Lib.hid hBW
    have hzr := hBM.1
    clear hS hBM hBW
    by_cases hlt : k < l.length
    · obtain ⟨G, rfl, q1, q2⟩ := HLR.out (by omega)
      obtain ⟨aA, ac, hvk, hac, ham, c0, c1, c2, c3, c4, c5, c6⟩ := pc_cells P2.out k hlt (HBM.out.2 G (by omega) (by omega))
      have HT := Lib.hid (HTG.out _ (List.getElem_mem hlt))
      have hrow : (l.take (k + 1)).map (·.tg) = (l.take k).map (·.tg) ++ [l[k].tg] := by rw [List.take_succ_eq_append_getElem hlt, List.map_append]; rfl
      have HROW := Lib.hid hrow
      have hlen : ((l.take k).map (·.tg)).length = k := by simp; omega
      have HLEN := Lib.hid hlen
      generalize (l.take k).map (·.tg) = ts at *
      clear hvk ham hrow hlen
      generalize l[k] = p at *
      obtain ⟨⟨lab, col, op, args⟩, pl, size, tg⟩ := p
      simp only at *
      obtain ⟨t1, t2⟩ := HT.out
      have hwf := litI_wf tg (by omega) (by omega)
      have HK := Lib.hid (Maps.keyOf_int_mk (P := Tryz.prog) (k := 3) Tryz.underlying3 hwf)
      have hSa := HS.out.keep (w' := wr.alloc (.cells #[.string ⟨lab.toArray⟩, .bool col, .string ⟨op.toArray⟩, .slice aA args.length ac, .int .i64 (pl : Int), .int .i64 (size : Int), .int .i64 tg] 65)) (Below.heap_alloc _ _ _ HS.out.lt)
      have HSA := Lib.hid hSa
      have HBN := Lib.hid (HBM.out.bel ((Below.refl wr.heap.size wr).alloc (Nat.le_refl _) (.cells #[.string ⟨lab.toArray⟩, .bool col, .string ⟨op.toArray⟩, .slice aA args.length ac, .int .i64 (pl : Int), .int .i64 (size : Int), .int .i64 tg] 65)) hzr)
      have HBX := Lib.hid (HBW.out.alloc HBW.out.size (.cells #[.string ⟨lab.toArray⟩, .bool col, .string ⟨op.toArray⟩, .slice aA args.length ac, .int .i64 (pl : Int), .int .i64 (size : Int), .int .i64 tg] 65))
      have hzz : w2.heap.size ≤ (wr.alloc (.cells #[.string ⟨lab.toArray⟩, .bool col, .string ⟨op.toArray⟩, .slice aA args.length ac, .int .i64 (pl : Int), .int .i64 (size : Int), .int .i64 tg] 65)).heap.size := Nat.le_trans hzr (by simp)
      clear hSa hwf HS HBM HBW
      go_wp2_with (at_mapUpdate; go_loud (refine wpList_mapUpdate_own _ rfl (.tmp 49) (.tmp 51) (.const (.bool true)) 63 rfl 3 4 int_key Tryz.underlying63 (plainElem (H := Unit) Tryz.prog 4) M1 ts.length _ rfl HSA.out (by rw [HLEN.out]; unfold maxLen; omega) (.int .i64 tg) (.bool true) (litI tg) rfl rfl HK.out (.lit (.bool true)) [] (plainElem_bool Tryz.underlying4 true) ?_; intro w4 hown4 hgr4; have S4 := Lib.hid (SetAt.put tg hown4); have BM4 := Lib.hid (HBN.out.grown hgr4 hzz); have BW4 := Lib.hid (HBX.out.grown hgr4 HBX.out.size (fun g hg => by injection hg with hg; omega)); clear hown4 hgr4))
      go_wp2_with fail
      go_roundw
      case rel => exact ⟨k + 1, by omega, by go_num, by rw [HROW.out]; exact S4.out, BM4.out, BW4.out⟩
      case measure => simp [intOf]; omega
    · obtain rfl : k = l.length := by omega
      have HS2 := HS.out
      rw [List.take_length] at HS2
      have HSF := Lib.hid HS2
      have SM2 := Lib.hid (S2.out.keep (w' := wr) (HBM.out.2 _ (by omega) (by omega)))
      have HZR := Lib.hid hzr
      clear HS HS2 S1 S2 hzr
      obtain ⟨wo, rfl⟩ : ∃ wo : World, wo = wr := ⟨_, rfl⟩
      have hz2 : w2.heap.size ≤ wo.heap.size := HZR.out
      clear HZR
      go_wp2_with fail
      go_loopw [55] (fun i wr => ∃ k : Nat, k ≤ l.length ∧ i = .int .i64 k ∧ Loop2 w wo (M1 + 1) l k wr) (fun i _ => l.length - (intOf i).toNat)
      case atStart => exact ⟨0, Nat.zero_le _, rfl, by rw [marksK_zero]; exact SM2.out, ButM.refl _ _ _, HBW.out⟩
      case round =>
        obtain ⟨k, hk, rfl, hS, hBM, hBW⟩ := hrel
        have KS := Lib.hid hS
        have KBM := Lib.hid hBM
        have KBW := Lib.hid hBW
        have hzr := hBM.1
        clear hS hBM hBW
        by_cases hlt : k < l.length
        · obtain ⟨G, rfl, q1, q2⟩ := HLR.out (by omega)
          obtain ⟨aA, ac, hvk, hac, ham, c0, c1, c2, c3, c4, c5, c6⟩ := pc_cells P2.out k hlt ((KBM.out.2 G (by omega) (by omega)).trans (HBM.out.2 G (by omega) (by omega)))
          have HT := Lib.hid (HEND.out _ (List.getElem_mem hlt))
          have HMI := Lib.hid (marksK_in l k hlt)
          have HMO := Lib.hid (marksK_out l k hlt)
          have HND := Lib.hid (marksK_nodup l HPW.out k)
          have hml := marksK_len l k
          generalize l[k] = p at *
          obtain ⟨⟨lab, col, op, args⟩, pl, size, tg⟩ := p
          simp only at *
          obtain ⟨t1, t2⟩ := HT.out
          have hwf := litI_wf (pl : Int) (by omega) (by omega)
          have KA := Lib.hid ((HSF.out.keep (w' := wr) (KBM.out.2 _ (by omega) (by omega))).keep (w' := wr.alloc (.cells #[.string ⟨lab.toArray⟩, .bool col, .string ⟨op.toArray⟩, .slice aA args.length ac, .int .i64 (pl : Int), .int .i64 (size : Int), .int .i64 tg] 65)) (Below.heap_alloc _ _ _ (by omega)))
          have KB := Lib.hid (KS.out.keep (w' := wr.alloc (.cells #[.string ⟨lab.toArray⟩, .bool col, .string ⟨op.toArray⟩, .slice aA args.length ac, .int .i64 (pl : Int), .int .i64 (size : Int), .int .i64 tg] 65)) (Below.heap_alloc _ _ _ KS.out.lt))
          have HBN := Lib.hid (KBM.out.bel ((Below.refl wr.heap.size wr).alloc (Nat.le_refl _) (.cells #[.string ⟨lab.toArray⟩, .bool col, .string ⟨op.toArray⟩, .slice aA args.length ac, .int .i64 (pl : Int), .int .i64 (size : Int), .int .i64 tg] 65)) hzr)
          have HBX := Lib.hid (KBW.out.alloc KBW.out.size (.cells #[.string ⟨lab.toArray⟩, .bool col, .string ⟨op.toArray⟩, .slice aA args.length ac, .int .i64 (pl : Int), .int .i64 (size : Int), .int .i64 tg] 65))
          have hzz : wo.heap.size ≤ (wr.alloc (.cells #[.string ⟨lab.toArray⟩, .bool col, .string ⟨op.toArray⟩, .slice aA args.length ac, .int .i64 (pl : Int), .int .i64 (size : Int), .int .i64 tg] 65)).heap.size := Nat.le_trans hzr (by simp)
          have HLK := KA.out.look (pl : Int) hwf
          have HLN := KB.out.len HND.out 3
          have HK := Lib.hid (Maps.keyOf_int_mk (P := Tryz.prog) (k := 3) Tryz.underlying3 hwf)
          clear hvk ham hwf HT t1 t2
          by_cases hin : (pl : Int) ∈ l.map (·.tg)
          · rw [decide_eq_true hin] at HLK
            have HM := Lib.hid (HMI.out hin)
            clear hin HMO HMI
            generalize hmk : marksK l (k + 1) = m' at *
            have HMK := Lib.hid hmk
            clear hmk
            generalize marksK l k = m at *
            by_cases h1k : m.length < 1000
            · have h1k' : (m.length : Int) < 1000 := by omega
              go_wp2_with (at_mapUpdate; go_loud (refine wpList_mapUpdate_own _ rfl (.tmp 68) (.tmp 70) (.const (.bool true)) 63 rfl 3 4 int_key Tryz.underlying63 (plainElem (H := Unit) Tryz.prog 4) (M1 + 1) m.length _ rfl KB.out (by unfold maxLen; omega) (.int .i64 (pl : Int)) (.bool true) (litI (pl : Int)) rfl rfl HK.out (.lit (.bool true)) [] (plainElem_bool Tryz.underlying4 true) ?_; intro w4 hown4 hgr4; have S4 := Lib.hid (SetAt.put (pl : Int) hown4); have BM4 := Lib.hid (HBN.out.grown hgr4 hzz); have BW4 := Lib.hid (HBX.out.grown hgr4 HBX.out.size (fun g hg => by injection hg with hg; omega)); clear hown4 hgr4))
              go_wp2_with fail
              go_roundw
              case rel => exact ⟨k + 1, by omega, by go_num, by rw [HMK.out, HM.out, if_pos h1k]; exact S4.out, BM4.out, BW4.out⟩
              case measure => simp [intOf]; omega
            · have h1k' : decide ((m.length : Int) < 1000) = false := by simp; omega
              go_wp2_with fail
              go_roundw
              case rel => exact ⟨k + 1, by omega, by go_num, by rw [HMK.out, HM.out, if_neg h1k]; exact KB.out, HBN.out, HBX.out⟩
              case measure => simp [intOf]; omega
          · rw [decide_eq_false hin] at HLK
            have HM := Lib.hid (HMO.out hin)
            clear hin HMO HMI HLN
            generalize hmk : marksK l (k + 1) = m' at *
            have HMK := Lib.hid hmk
            clear hmk
            generalize marksK l k = m at *
            go_wp2_with fail
            go_roundw
            case rel => exact ⟨k + 1, by omega, by go_num, by rw [HMK.out, HM.out]; exact KB.out, HBN.out, HBX.out⟩
            case measure => simp [intOf]; omega
        · obtain rfl : k = l.length := by omega
          have hfin := KS.out
          rw [marksK_all] at hfin
          have HMS := Lib.hid hfin
          have HBQ := Lib.hid (show ∀ g, g < w2.heap.size → g ≠ M1 → g ≠ M1 + 1 → wr.heap[g]? = w2.heap[g]? from fun g h1 h2 h3 => (KBM.out.2 g (by omega) h3).trans (HBM.out.2 g h1 h2))
          have HZQ := Lib.hid (Nat.le_trans hz2 hzr)
          have hnn : n ≤ 65535 := by omega
          have hw2 : IntKind.u16.wrap (n : Int) = (n : Int) := IntWalk.u16_in _ (by omega)
          have HO := Lib.hid (fun W => doperand_num sn1 n W (by simp))
          have HS := Lib.hid (fun g W => dstmt_any [79, 82, 71] (.slice (some ⟨g, 0, none⟩) 1 1) W ⟨_, _, _, rfl⟩)
          clear hfin KS HSF HBM HBW KBM HPW hz2 hzr SM2
          obtain ⟨wq, rfl⟩ : ∃ wq : World, wq = wr := ⟨_, rfl⟩
          clear hk
          go_wp2_with fail
          refine (HO.out _).mono ?_
          rintro e w3 ⟨rfl, hb3⟩
          have B3 := Lib.hid hb3
          have hz3 : wq.heap.size ≤ w3.heap.size := hb3.size
          have R3 := Lib.hid (rowA_new w3 (numA n))
          clear hb3 HO
          go_wp2_with fail
          refine (HS.out _ _).mono ?_
          rintro e w4 ⟨rfl, hb4⟩
          have B4 := Lib.hid (bthen B3.out (bthen ((Below.refl w3.heap.size w3).alloc (Nat.le_refl _) (.cells (arCells (numA n) nilV).toArray 46)) hb4))
          have R4 := Lib.hid (own_below R3.out hb4)
          have hz34 : w3.heap.size + 1 ≤ w4.heap.size := by have := hb4.size; simpa using this
          clear hb4 HS B3 R3
          have HN8 := Lib.hid (rd_new w4 w4.heap.size rfl (stCells (orgS n) (.slice (some ⟨w3.heap.size, 0, none⟩) 1 1)) 32)
          have hb8 : w4.heap.size ≤ (w4.alloc (.cells (stCells (orgS n) (.slice (some ⟨w3.heap.size, 0, none⟩) 1 1)).toArray 32)).heap.size := by simp
          go_wp2_with (at_builtin; go_loud (refine wpList_append_to (w4.alloc (.cells (stCells (orgS n) (.slice (some ⟨w3.heap.size, 0, none⟩) 1 1)).toArray 32)) rfl (.tmp 72) (.tmp 78) 23 rfl w4.heap.size 32 _ 4 64 Tryz.underlying23 info_st rfl (by omega) (World.ownsRow_nil _ _ _ _) rfl HN8.out rfl rfl (stCells_one _ _ rfl) (by omega) (by omega) hb8 ?_; intro v6 w6 hown6 hbel6 hg6 hv6; obtain ⟨A6, c6, rfl, hc6, hm6, _⟩ := own_slice hown6 (by omega); have OW6 := Lib.hid hown6; have B6 := Lib.hid (bthen B4.out (((Below.refl w4.heap.size w4).alloc (Nat.le_refl _) (.cells (stCells (orgS n) (.slice (some ⟨w3.heap.size, 0, none⟩) 1 1)).toArray 32)).trans hbel6)); have R6 := Lib.hid (own_below R4.out (((Below.refl w4.heap.size w4).alloc (Nat.le_refl _) (.cells (stCells (orgS n) (.slice (some ⟨w3.heap.size, 0, none⟩) 1 1)).toArray 32)).trans hbel6)); have Z6 := Lib.hid (Nat.le_trans hb8 hbel6.size); clear hown6 hbel6 hg6 hv6))
          have OW0 : Hid (w6.ownsRow w4.heap.size 32 4 (.slice A6 1 c6) 1 (rowV stCells [orgS n] [.slice (some ⟨w3.heap.size, 0, none⟩) 1 1])) := Lib.hid (by have h := OW6.out; simpa [rowV] using h)
          have hz4 : wq.heap.size ≤ w4.heap.size := B4.out.size
          have hbz : w.heap.size ≤ wq.heap.size := KBW.out.size
          have hzq : w2.heap.size ≤ wq.heap.size := HZQ.out
          have HA6 : Hid (∀ i (hi : i < l.length), ArgRow w6 (fun g => w.heap.size ≤ g ∧ g < w4.heap.size) (vs.getD i nilV) l[i].s.args) := Lib.hid (fun i hi => (HA1.out i hi).keep (fun g hg => (B6.out.block g (by omega)).trans (HBQ.out g (by omega) (by omega) (by omega))) (fun g hg => ⟨hg.1, by omega⟩))
          have BW6 := Lib.hid (KBW.out.trans (B6.out.mono KBW.out.size))
          have M6 := Lib.hid (HMS.out.keep (w' := w6) (B6.out.block _ (by omega)))
          have G6 : Hid (∀ g, g < M1 → w6.heap[g]? = w2.heap[g]?) := Lib.hid (fun g h => (B6.out.block g (by omega)).trans (HBQ.out g (by omega) (by omega) (by omega)))
          have Z66 := Z6.out
          clear OW6 B6 B4 HMS HBQ KBW HZQ HN8 hb8 R4 hw2 hw
          generalize w3.heap.size = G0 at *
          go_wp2_with fail
          go_loopw [6, 82] (fun v i wr => ∃ k : Nat, k ≤ l.length ∧ i = .int .i64 k ∧ Loop3 w w6 w4.heap.size n (marksD l) l vs (.slice (some ⟨G0, 0, none⟩) 1 1) k v wr) (fun _ i _ => l.length - (intOf i).toNat)
          case atStart => exact ⟨0, Nat.zero_le _, rfl, OW0.out, fun i hi => by rw [if_neg (by omega)]; exact HA6.out i hi, fun _ _ _ => rfl, Z66, BW6.out⟩
          case round =>
            obtain ⟨k, hk, rfl, hown, hargs, hfr, hBz, hBW⟩ := hrel
            obtain ⟨vA, vc, rfl, hvc, hvm, _⟩ := own_slice hown (by omega)
            have KOW := Lib.hid hown
            have KAR := Lib.hid hargs
            have KFR := Lib.hid hfr
            have KBW := Lib.hid hBW
            clear hown hargs hfr hBW hvm
            by_cases hlt : k < l.length
            · obtain ⟨G, rfl, q1, q2⟩ := HLR.out (by omega)
              have hGn : ∀ i, i < l.length → (vs.getD i nilV).ownBlock ≠ some G := fun i hi hh => (HAB.out i hi G hh).2.2 rfl
              obtain ⟨aA, ac, hvk, hac, ham, c0, c1, c2, c3, c4, c5, c6⟩ := pc_cells P2.out k hlt ((KFR.out G (by omega) hGn).trans (G6.out G q2))
              have KSM := Lib.hid (M6.out.keep (w' := wr) (KFR.out (M1 + 1) (by omega) (fun i hi hh => by have := (HAB.out i hi _ hh).2.1; omega)))
              have HT := Lib.hid (HEND.out _ (List.getElem_mem hlt))
              have HT2 := Lib.hid (HTG.out _ (List.getElem_mem hlt))
              have HT3 := Lib.hid (HARG.out _ (List.getElem_mem hlt))
              have HPK := Lib.hid (show l[k] = l[k] from rfl)
              have HMP := Lib.hid (marks_pos l)
              clear hGn
              generalize marksD l = m at *
              generalize hp : l[k] = p at HPK HT HT2 HT3 c0 c1 c2 c3 c4 c5 c6 hvk hac ham
              have HPE := Lib.hid hp
              clear hp HPK
              obtain ⟨⟨lab, col, op, args⟩, pl, size, tg⟩ := p
              simp only at HT HT2 HT3 c0 c1 c2 c3 c4 c5 c6 hvk hac ham
              obtain ⟨t1, t2⟩ := HT.out
              obtain ⟨t3, t4⟩ := HT2.out
              have HVK := Lib.hid hvk
              have HLK1 := (KSM.out.keep (w' := wr.alloc (.cells #[.string ⟨lab.toArray⟩, .bool col, .string ⟨op.toArray⟩, .slice aA args.length ac, .int .i64 (pl : Int), .int .i64 (size : Int), .int .i64 tg] 65)) (Below.heap_alloc _ _ _ (by omega))).look tg (litI_wf tg (by omega) (by omega))
              clear hvk HT HT2
              go_upto_if 89 with (fail)
              go_cut [] (fun wx => Mid3 w w6 w4.heap.size n m l vs (.slice (some ⟨G0, 0, none⟩) 1 1) k (.slice vA (k + 1) vc) wr.heap.size ⟨⟨lab, col, op, args⟩, pl, size, tg⟩ (.slice aA args.length ac) wx)
              case first =>
                by_cases hin : tg ∈ m
                · have hge : 0 ≤ tg := (HMP.out tg hin).1
                  obtain ⟨tn, rfl⟩ := Int.eq_ofNat_of_zero_le hge
                  rw [decide_eq_true hin] at HLK1
                  have hargne := HT3.out.1 hge
                  obtain ⟨init, x, rfl⟩ : ∃ init x, args = init ++ [x] := ⟨args.dropLast, args.getLast hargne, (List.dropLast_concat_getLast hargne).symm⟩
                  have HIN := Lib.hid hin
                  have HLB := Lib.hid (fun W => dlabel_any tn (by omega) W)
                  have har := KAR.out k hlt
                  rw [if_neg (by omega), HPE.out] at har
                  obtain ⟨gA, cA, cur, hv1, ⟨s1, s2⟩, hcur, hcA, hcells, hnew⟩ := har.last
                  rw [HVK.out] at hv1
                  simp only [List.length_append, List.length_singleton] at hac ham c3 hv1 HLK1 ⊢
                  injection hv1 with hv1 _ hv2
                  subst hv1 hv2
                  have HCUR := Lib.hid hcur
                  have HCE := Lib.hid hcells
                  have HNW := Lib.hid hnew
                  have hlab := Lib.hid (show labelD tn = labelD tn from rfl)
                  clear hin hge hargne har hcur hcells hnew hlab
                  generalize hlb : labelD tn = lb at HLB
                  have HLE := Lib.hid hlb
                  clear hlb
                  unfold maxLen at ham
                  have hwl : IntKind.i64.wrap (init.length : Int) = (init.length : Int) := IntWalk.i64_in _ (by omega)
                  have hw0 : (init.length : Int) < (init.length : Int) + 1 := by omega
                  go_wp2_with fail
                  go_region_law (first | (go_simp; go_at_call 31; refine (HLB.out _).mono ?_; rintro e w7 ⟨rfl, hbU⟩; have q7 : wr.heap.size < w7.heap.size := (by have := hbU.size; simp at this; omega); have hP7 := (hbU.block wr.heap.size (by simp)).trans (heap_alloc_new wr _); have hG7 := (hbU.block gA (by simp; omega)).trans ((Below.heap_alloc wr _ gA (by omega)).trans HCUR.out); have y3 := cell_of_heap (i := 3) hP7; have y6 := cell_of_heap (i := 6) hP7; have a0 := (cell_of_heap (i := init.length * 8) hG7).trans (HCE.out 0 _ rfl); have a1 := (cell_of_heap (i := init.length * 8 + 1) hG7).trans (HCE.out 1 _ rfl); have a2 := (cell_of_heap (i := init.length * 8 + 2) hG7).trans (HCE.out 2 _ rfl); have a3 := (cell_of_heap (i := init.length * 8 + 3) hG7).trans (HCE.out 3 _ rfl); have a4 := (cell_of_heap (i := init.length * 8 + 4) hG7).trans (HCE.out 4 _ rfl); have a5 := (cell_of_heap (i := init.length * 8 + 5) hG7).trans (HCE.out 5 _ rfl); have a6 := (cell_of_heap (i := init.length * 8 + 6) hG7).trans (HCE.out 6 _ rfl); have a7 := (cell_of_heap (i := init.length * 8 + 7) hG7).trans (HCE.out 7 _ rfl); have f0 := frozen_of_heap (i := init.length * 8) hG7; have f1 := frozen_of_heap (i := init.length * 8 + 1) hG7; have f2 := frozen_of_heap (i := init.length * 8 + 2) hG7; have f3 := frozen_of_heap (i := init.length * 8 + 3) hG7; have f4 := frozen_of_heap (i := init.length * 8 + 4) hG7; have f5 := frozen_of_heap (i := init.length * 8 + 5) hG7; have f6 := frozen_of_heap (i := init.length * 8 + 6) hG7; have f7 := frozen_of_heap (i := init.length * 8 + 7) hG7; simp at y3 y6 f0 f1 f2 f3 f4 f5 f6 f7))
                  all_goals (
                    have HW : Hid (∀ g, g < (wr.alloc (.cells #[.string ⟨lab.toArray⟩, .bool col, .string ⟨op.toArray⟩, .slice (some ⟨gA, 0, none⟩) (init.length + 1) ac, .int .i64 (pl : Int), .int .i64 (size : Int), .int .i64 (tn : Int)] 65)).heap.size → g ≠ gA → ((((((((w7.setCell ⟨gA, init.length * 8, none⟩ (.string ⟨#[]⟩)).setCell ⟨gA, init.length * 8 + 1, none⟩ (.string ⟨#[]⟩)).setCell ⟨gA, init.length * 8 + 2, none⟩ (.bool false)).setCell ⟨gA, init.length * 8 + 3, none⟩ (.bool false)).setCell ⟨gA, init.length * 8 + 4, none⟩ (.string ⟨#[110]⟩)).setCell ⟨gA, init.length * 8 + 5, none⟩ (.int .u16 0)).setCell ⟨gA, init.length * 8 + 6, none⟩ (.string ⟨lb.toArray⟩)).setCell ⟨gA, init.length * 8 + 7, none⟩ (.slice none 0 0)).heap[g]? = (wr.alloc (.cells #[.string ⟨lab.toArray⟩, .bool col, .string ⟨op.toArray⟩, .slice (some ⟨gA, 0, none⟩) (init.length + 1) ac, .int .i64 (pl : Int), .int .i64 (size : Int), .int .i64 (tn : Int)] 65)).heap[g]?) := Lib.hid (fun g h1 h2 => by
                      rw [Below.heap_setCell _ _ _ g h2, Below.heap_setCell _ _ _ g h2, Below.heap_setCell _ _ _ g h2, Below.heap_setCell _ _ _ g h2, Below.heap_setCell _ _ _ g h2, Below.heap_setCell _ _ _ g h2, Below.heap_setCell _ _ _ g h2, Below.heap_setCell _ _ _ g h2]
                      exact hbU.block g h1)
                    have HGW := Lib.hid (show ((((((((w7.setCell ⟨gA, init.length * 8, none⟩ (.string ⟨#[]⟩)).setCell ⟨gA, init.length * 8 + 1, none⟩ (.string ⟨#[]⟩)).setCell ⟨gA, init.length * 8 + 2, none⟩ (.bool false)).setCell ⟨gA, init.length * 8 + 3, none⟩ (.bool false)).setCell ⟨gA, init.length * 8 + 4, none⟩ (.string ⟨#[110]⟩)).setCell ⟨gA, init.length * 8 + 5, none⟩ (.int .u16 0)).setCell ⟨gA, init.length * 8 + 6, none⟩ (.string ⟨lb.toArray⟩)).setCell ⟨gA, init.length * 8 + 7, none⟩ (.slice none 0 0)).heap[gA]? = some (.cells (set8 cur (init.length * 8) (nameA lb)) 46 (0, 0)) from (heap_set (i := init.length * 8 + 7) (.slice none 0 0) (heap_set (i := init.length * 8 + 6) (.string ⟨lb.toArray⟩) (heap_set (i := init.length * 8 + 5) (.int .u16 0) (heap_set (i := init.length * 8 + 4) (.string ⟨#[110]⟩) (heap_set (i := init.length * 8 + 3) (.bool false) (heap_set (i := init.length * 8 + 2) (.bool false) (heap_set (i := init.length * 8 + 1) (.string ⟨#[]⟩) (heap_set (i := init.length * 8) (.string ⟨#[]⟩) hG7)))))))))
                    have HOW := Lib.hid (show ((((((((w7.setCell ⟨gA, init.length * 8, none⟩ (.string ⟨#[]⟩)).setCell ⟨gA, init.length * 8 + 1, none⟩ (.string ⟨#[]⟩)).setCell ⟨gA, init.length * 8 + 2, none⟩ (.bool false)).setCell ⟨gA, init.length * 8 + 3, none⟩ (.bool false)).setCell ⟨gA, init.length * 8 + 4, none⟩ (.string ⟨#[110]⟩)).setCell ⟨gA, init.length * 8 + 5, none⟩ (.int .u16 0)).setCell ⟨gA, init.length * 8 + 6, none⟩ (.string ⟨lb.toArray⟩)).setCell ⟨gA, init.length * 8 + 7, none⟩ (.slice none 0 0)).ownsRow w4.heap.size 32 4 (.slice vA (k + 1) vc) (k + 1) _ from (own_set (own_set (own_set (own_set (own_set (own_set (own_set (own_set (own_below (KOW.out.alloc (.cells #[.string ⟨lab.toArray⟩, .bool col, .string ⟨op.toArray⟩, .slice (some ⟨gA, 0, none⟩) (init.length + 1) ac, .int .i64 (pl : Int), .int .i64 (size : Int), .int .i64 (tn : Int)] 65)).drew hbU) s2) s2) s2) s2) s2) s2) s2) s2))
                    have HBL := Lib.hid (show Below w.heap.size w ((((((((w7.setCell ⟨gA, init.length * 8, none⟩ (.string ⟨#[]⟩)).setCell ⟨gA, init.length * 8 + 1, none⟩ (.string ⟨#[]⟩)).setCell ⟨gA, init.length * 8 + 2, none⟩ (.bool false)).setCell ⟨gA, init.length * 8 + 3, none⟩ (.bool false)).setCell ⟨gA, init.length * 8 + 4, none⟩ (.string ⟨#[110]⟩)).setCell ⟨gA, init.length * 8 + 5, none⟩ (.int .u16 0)).setCell ⟨gA, init.length * 8 + 6, none⟩ (.string ⟨lb.toArray⟩)).setCell ⟨gA, init.length * 8 + 7, none⟩ (.slice none 0 0)) from ((((((((((KBW.out.alloc KBW.out.size (.cells #[.string ⟨lab.toArray⟩, .bool col, .string ⟨op.toArray⟩, .slice (some ⟨gA, 0, none⟩) (init.length + 1) ac, .int .i64 (pl : Int), .int .i64 (size : Int), .int .i64 (tn : Int)] 65)).drew.trans (hbU.mono (by have := KBW.out.size; simp; omega))).setCell s1 _).setCell s1 _).setCell s1 _).setCell s1 _).setCell s1 _).setCell s1 _).setCell s1 _).setCell s1 _))
                    have HSZ := Lib.hid (show wr.heap.size < ((((((((w7.setCell ⟨gA, init.length * 8, none⟩ (.string ⟨#[]⟩)).setCell ⟨gA, init.length * 8 + 1, none⟩ (.string ⟨#[]⟩)).setCell ⟨gA, init.length * 8 + 2, none⟩ (.bool false)).setCell ⟨gA, init.length * 8 + 3, none⟩ (.bool false)).setCell ⟨gA, init.length * 8 + 4, none⟩ (.string ⟨#[110]⟩)).setCell ⟨gA, init.length * 8 + 5, none⟩ (.int .u16 0)).setCell ⟨gA, init.length * 8 + 6, none⟩ (.string ⟨lb.toArray⟩)).setCell ⟨gA, init.length * 8 + 7, none⟩ (.slice none 0 0)).heap.size by simp; exact q7)
                    clear a0 a1 a2 a3 a4 a5 a6 a7 f0 f1 f2 f3 f4 f5 f6 f7 y3 y6 hP7 hG7 hbU q7 hwl hw0
                    go_wp2_with fail
                    go_meet
                    have hze : (wr.alloc (.cells #[.string ⟨lab.toArray⟩, .bool col, .string ⟨op.toArray⟩, .slice (some ⟨gA, 0, none⟩) (init.length + 1) ac, .int .i64 (pl : Int), .int .i64 (size : Int), .int .i64 (tn : Int)] 65)).heap.size = wr.heap.size + 1 := by simp
                    refine ⟨HOW.out, fun i hi => ?_, fun g hg1 hg2 => ?_, hBz, HSZ.out, ?_, HBL.out⟩
                    · by_cases hik : i = k
                      · subst hik
                        rw [if_pos (by omega), HPE.out]
                        unfold finD
                        simp only [if_pos HIN.out, List.dropLast_concat, Int.toNat_natCast, HLE.out]
                        exact HNW.out _ (nameA lb) HGW.out
                      · have hne : (vs.getD i nilV).ownBlock ≠ some gA := fun hh => by
                          have hkb : (vs.getD k nilV).ownBlock = some gA := by rw [HVK.out]; rfl
                          rcases Nat.lt_or_gt_of_ne hik with h | h
                          · exact HAP.out i k gA h (by rw [HVL.out]; exact hlt) hh hkb
                          · exact HAP.out k i gA h (by rw [HVL.out]; exact hi) hkb hh
                        have h1 := ((KAR.out i hi).ne hne).keep (w' := ((((((((w7.setCell ⟨gA, init.length * 8, none⟩ (.string ⟨#[]⟩)).setCell ⟨gA, init.length * 8 + 1, none⟩ (.string ⟨#[]⟩)).setCell ⟨gA, init.length * 8 + 2, none⟩ (.bool false)).setCell ⟨gA, init.length * 8 + 3, none⟩ (.bool false)).setCell ⟨gA, init.length * 8 + 4, none⟩ (.string ⟨#[110]⟩)).setCell ⟨gA, init.length * 8 + 5, none⟩ (.int .u16 0)).setCell ⟨gA, init.length * 8 + 6, none⟩ (.string ⟨lb.toArray⟩)).setCell ⟨gA, init.length * 8 + 7, none⟩ (.slice none 0 0))) (S' := fun g => w.heap.size ≤ g ∧ g < w4.heap.size) (fun g hg => (HW.out g (by omega) hg.2).trans (Below.heap_alloc _ _ _ (by omega))) (fun g hg => hg.1)
                        by_cases hik2 : i < k
                        · rw [if_pos hik2] at h1; rw [if_pos (by omega)]; exact h1
                        · rw [if_neg hik2] at h1; rw [if_neg (by omega)]; exact h1
                    · have hgne : g ≠ gA := fun e => hg2 k hlt (by rw [HVK.out, e]; rfl)
                      exact (HW.out g (by omega) hgne).trans ((Below.heap_alloc _ _ _ (by omega)).trans (KFR.out g hg1 hg2))
                    · rw [List.length_append, List.length_singleton]
                      exact (HW.out wr.heap.size (by omega) (by omega)).trans (heap_alloc_new wr _))
                · rw [decide_eq_false hin] at HLK1
                  have HIN := Lib.hid hin
                  clear hin
                  go_wp2_with fail
                  go_meet
                  refine ⟨KOW.out.alloc _, fun i hi => ?_, fun g hg1 hg2 => (Below.heap_alloc _ _ _ (by omega)).trans (KFR.out g hg1 hg2), hBz, by simp, heap_alloc_new wr _, KBW.out.alloc KBW.out.size _⟩
                  have h1 := (KAR.out i hi).keep (w' := wr.alloc (.cells #[.string ⟨lab.toArray⟩, .bool col, .string ⟨op.toArray⟩, .slice aA args.length ac, .int .i64 (pl : Int), .int .i64 (size : Int), .int .i64 tg] 65)) (fun g hg => Below.heap_alloc _ _ _ (by omega)) (fun g hg => hg)
                  by_cases hik : i = k
                  · subst hik
                    rw [if_neg (by omega)] at h1
                    rw [if_pos (by omega), HPE.out]
                    rw [HPE.out] at h1
                    unfold finD
                    simp only [if_neg HIN.out]
                    exact h1
                  · by_cases hik2 : i < k
                    · rw [if_pos hik2] at h1; rw [if_pos (by omega)]; exact h1
                    · rw [if_neg hik2] at h1; rw [if_neg (by omega)]; exact h1
              case rest =>
                obtain ⟨hown, hargs, hfr, hBP, hPz, hbox, hBW⟩ := hcut
                obtain ⟨wx, rfl⟩ : ∃ x : World, x = wc := ⟨_, rfl⟩
                have HNE := Lib.hid (show (Value.slice vA (k + 1) vc).ownBlock ≠ some wr.heap.size from fun h => by have := (KOW.out.lt _ h).2; omega)
                have hBw : w.heap.size ≤ w4.heap.size := by have := (HAB.out); have := KBW.out.size; omega
                have MSM := Lib.hid (M6.out.keep (w' := wx) (hfr (M1 + 1) (by omega) (fun i hi hh => by have := (HAB.out i hi _ hh).2.1; omega)))
                have MOW := Lib.hid hown
                have MAR := Lib.hid hargs
                have MFR := Lib.hid hfr
                have HQX := Lib.hid hbox
                have MBW := Lib.hid hBW
                have HLK2 := MSM.out.look (pl : Int) (litI_wf (pl : Int) (by omega) (by omega))
                clear hown hargs hfr hBW HLK1 KOW KAR KFR KBW KSM c0 c1 c2 c3 c4 c5 c6
                generalize wr.heap.size = P at *
                have k0 := cell_of_heap (i := 0) hbox
                have k1 := cell_of_heap (i := 1) hbox
                have k2 := cell_of_heap (i := 2) hbox
                have k3 := cell_of_heap (i := 3) hbox
                have k4 := cell_of_heap (i := 4) hbox
                have k5 := cell_of_heap (i := 5) hbox
                have k6 := cell_of_heap (i := 6) hbox
                have g0 := frozen_of_heap (i := 0) hbox
                have g1 := frozen_of_heap (i := 1) hbox
                simp [pcCells] at k0 k1 k2 k3 k4 k5 k6 g0 g1
                clear hbox
                by_cases hin2 : (pl : Int) ∈ m
                · rw [decide_eq_true hin2] at HLK2
                  have HI2 := Lib.hid hin2
                  clear hin2
                  have HLB2 := Lib.hid (fun W => dlabel_any pl (by omega) W)
                  generalize hlb : labelD pl = lb2 at HLB2
                  have HLE2 := Lib.hid hlb
                  clear hlb
                  go_wp2_with fail
                  refine (HLB2.out _).mono ?_
                  rintro e w8 ⟨rfl, hb8⟩
                  have C8 := Lib.hid ((hb8.block P hPz).trans HQX.out)
                  have B8 := Lib.hid hb8
                  have hP8 : P < w8.heap.size := Nat.lt_of_lt_of_le hPz hb8.size
                  clear hb8 HLB2 k0 k1 k2 k3 k4 k5 k6 g0 g1
                  have k0 := cell_of_heap (i := 0) C8.out
                  have k1 := cell_of_heap (i := 1) C8.out
                  have k2 := cell_of_heap (i := 2) C8.out
                  have k3 := cell_of_heap (i := 3) C8.out
                  have g0 := frozen_of_heap (i := 0) C8.out
                  have g1 := frozen_of_heap (i := 1) C8.out
                  simp [pcCells] at k0 k1 k2 k3 g0 g1
                  have OW8 := Lib.hid (show ((w8.setCell ⟨P, 0, none⟩ (.string ⟨lb2.toArray⟩)).setCell ⟨P, 1, none⟩ (.bool true)).ownsRow w4.heap.size 32 4 (.slice vA (k + 1) vc) (k + 1) _ from (own_ne (own_ne (own_below MOW.out B8.out) HNE.out) HNE.out))
                  have BW8 := Lib.hid (show Below w.heap.size w ((w8.setCell ⟨P, 0, none⟩ (.string ⟨lb2.toArray⟩)).setCell ⟨P, 1, none⟩ (.bool true)) from (((MBW.out.trans (B8.out.mono MBW.out.size)).setCell (p := ⟨P, 0, none⟩) (Nat.le_trans hBw hBP) _).setCell (p := ⟨P, 1, none⟩) (Nat.le_trans hBw hBP) _))
                  have FR8 : Hid (∀ g, g < w4.heap.size → ((w8.setCell ⟨P, 0, none⟩ (.string ⟨lb2.toArray⟩)).setCell ⟨P, 1, none⟩ (.bool true)).heap[g]? = wx.heap[g]?) := Lib.hid (fun g hg => (Below.heap_setCell _ _ _ g (by simp; omega)).trans ((Below.heap_setCell _ _ _ g (by simp; omega)).trans (B8.out.block g (by omega))))
                  have HN8 := Lib.hid (rd_new ((w8.setCell ⟨P, 0, none⟩ (.string ⟨lb2.toArray⟩)).setCell ⟨P, 1, none⟩ (.bool true)) w8.heap.size (by simp) (stCells ⟨lb2, true, op, if tg ∈ m then args.dropLast ++ [nameA (labelD tg.toNat)] else args⟩ (.slice aA args.length ac)) 32)
                  have hb8 : w4.heap.size ≤ (((w8.setCell ⟨P, 0, none⟩ (.string ⟨lb2.toArray⟩)).setCell ⟨P, 1, none⟩ (.bool true)).alloc (.cells (stCells ⟨lb2, true, op, if tg ∈ m then args.dropLast ++ [nameA (labelD tg.toNat)] else args⟩ (.slice aA args.length ac)).toArray 32)).heap.size := (by simp; omega)
                  clear C8 B8 MOW MBW
                  go_wp2_with (at_builtin; go_loud (refine wpList_append_to (((w8.setCell ⟨P, 0, none⟩ (.string ⟨lb2.toArray⟩)).setCell ⟨P, 1, none⟩ (.bool true)).alloc (.cells (stCells ⟨lb2, true, op, if tg ∈ m then args.dropLast ++ [nameA (labelD tg.toNat)] else args⟩ (.slice aA args.length ac)).toArray 32)) rfl (.tmp 115) (.tmp 118) 23 rfl w4.heap.size 32 _ 4 64 Tryz.underlying23 info_st rfl (by omega) (OW8.out.alloc _) rfl HN8.out rfl rfl (stCells_one _ _ rfl) (by omega) (by omega) hb8 ?_; intro v9 w9 hown9 hbel9 hg9 hv9; obtain ⟨A9, c9, rfl, hc9, hm9, _⟩ := own_slice hown9 (by omega); have O9 := Lib.hid hown9; have B9 := Lib.hid ((BW8.out.alloc BW8.out.size (.cells (stCells ⟨lb2, true, op, if tg ∈ m then args.dropLast ++ [nameA (labelD tg.toNat)] else args⟩ (.slice aA args.length ac)).toArray 32)).trans (hbel9.mono hBw)); have F9 : Hid (∀ g, g < w4.heap.size → w9.heap[g]? = wx.heap[g]?) := Lib.hid (fun g hg => (hbel9.block g hg).trans ((Below.heap_alloc _ _ _ (by simp; omega)).trans (FR8.out g hg))); have Z9 := Lib.hid (Nat.le_trans hb8 hbel9.size); clear hown9 hbel9 hg9 hv9 OW8 BW8 FR8 HN8 hb8))
                  go_wp2_with fail
                  go_roundw
                  case rel =>
                    refine ⟨k + 1, by omega, by go_num, ?_, fun i hi => (MAR.out i hi).keep (fun g hg => F9.out g hg.2) (fun g hg => hg), fun g h1 h2 => (F9.out g h1).trans (MFR.out g h1 h2), Z9.out, B9.out⟩
                    have h := O9.out
                    have e1 : (orgS n :: (l.take (k + 1)).map (finD m)) = (orgS n :: (l.take k).map (finD m)) ++ [finD m l[k]] := by rw [List.take_succ_eq_append_getElem hlt, List.map_append]; rfl
                    have e2 : (Value.slice (some ⟨G0, 0, none⟩) 1 1 :: vs.take (k + 1)) = (Value.slice (some ⟨G0, 0, none⟩) 1 1 :: vs.take k) ++ [.slice aA args.length ac] := by
                      have hkv : k < vs.length := by rw [HVL.out]; exact hlt
                      rw [List.take_succ_eq_append_getElem hkv]
                      have := HVK.out
                      rw [List.getD_eq_getElem?_getD, List.getElem?_eq_getElem hkv] at this
                      simp only [Option.getD_some] at this
                      rw [this]; rfl
                    have e3 : finD m l[k] = ⟨lb2, true, op, if tg ∈ m then args.dropLast ++ [nameA (labelD tg.toNat)] else args⟩ := by
                      rw [HPE.out]; unfold finD; simp only [if_pos HI2.out, HLE2.out]
                    rw [e1, e2, e3, rowV_snoc _ _ _ _ (by simp [HVL.out])]
                    exact h
                  case measure => simp [intOf]; omega
                · rw [decide_eq_false hin2] at HLK2
                  have HI2 := Lib.hid hin2
                  clear hin2
                  have OW8 := Lib.hid (show wx.ownsRow w4.heap.size 32 4 (.slice vA (k + 1) vc) (k + 1) _ from MOW.out)
                  have BW8 := Lib.hid (show Below w.heap.size w wx from MBW.out)
                  have FR8 : Hid (∀ g, g < w4.heap.size → wx.heap[g]? = wx.heap[g]?) := Lib.hid (fun g hg => rfl)
                  have HN8 := Lib.hid (rd_new wx wx.heap.size (rfl) (stCells ⟨lab, col, op, if tg ∈ m then args.dropLast ++ [nameA (labelD tg.toNat)] else args⟩ (.slice aA args.length ac)) 32)
                  have hb8 : w4.heap.size ≤ (wx.alloc (.cells (stCells ⟨lab, col, op, if tg ∈ m then args.dropLast ++ [nameA (labelD tg.toNat)] else args⟩ (.slice aA args.length ac)).toArray 32)).heap.size := (by simp; omega)
                  clear  MOW MBW
                  go_wp2_with (at_builtin; go_loud (refine wpList_append_to (wx.alloc (.cells (stCells ⟨lab, col, op, if tg ∈ m then args.dropLast ++ [nameA (labelD tg.toNat)] else args⟩ (.slice aA args.length ac)).toArray 32)) rfl (.tmp 115) (.tmp 118) 23 rfl w4.heap.size 32 _ 4 64 Tryz.underlying23 info_st rfl (by omega) (OW8.out.alloc _) rfl HN8.out rfl rfl (stCells_one _ _ rfl) (by omega) (by omega) hb8 ?_; intro v9 w9 hown9 hbel9 hg9 hv9; obtain ⟨A9, c9, rfl, hc9, hm9, _⟩ := own_slice hown9 (by omega); have O9 := Lib.hid hown9; have B9 := Lib.hid ((BW8.out.alloc BW8.out.size (.cells (stCells ⟨lab, col, op, if tg ∈ m then args.dropLast ++ [nameA (labelD tg.toNat)] else args⟩ (.slice aA args.length ac)).toArray 32)).trans (hbel9.mono hBw)); have F9 : Hid (∀ g, g < w4.heap.size → w9.heap[g]? = wx.heap[g]?) := Lib.hid (fun g hg => (hbel9.block g hg).trans ((Below.heap_alloc _ _ _ (by omega)).trans (FR8.out g hg))); have Z9 := Lib.hid (Nat.le_trans hb8 hbel9.size); clear hown9 hbel9 hg9 hv9 OW8 BW8 FR8 HN8 hb8))
                  go_wp2_with fail
                  go_roundw
                  case rel =>
                    refine ⟨k + 1, by omega, by go_num, ?_, fun i hi => (MAR.out i hi).keep (fun g hg => F9.out g hg.2) (fun g hg => hg), fun g h1 h2 => (F9.out g h1).trans (MFR.out g h1 h2), Z9.out, B9.out⟩
                    have h := O9.out
                    have e1 : (orgS n :: (l.take (k + 1)).map (finD m)) = (orgS n :: (l.take k).map (finD m)) ++ [finD m l[k]] := by rw [List.take_succ_eq_append_getElem hlt, List.map_append]; rfl
                    have e2 : (Value.slice (some ⟨G0, 0, none⟩) 1 1 :: vs.take (k + 1)) = (Value.slice (some ⟨G0, 0, none⟩) 1 1 :: vs.take k) ++ [.slice aA args.length ac] := by
                      have hkv : k < vs.length := by rw [HVL.out]; exact hlt
                      rw [List.take_succ_eq_append_getElem hkv]
                      have := HVK.out
                      rw [List.getD_eq_getElem?_getD, List.getElem?_eq_getElem hkv] at this
                      simp only [Option.getD_some] at this
                      rw [this]; rfl
                    have e3 : finD m l[k] = ⟨lab, col, op, if tg ∈ m then args.dropLast ++ [nameA (labelD tg.toNat)] else args⟩ := by
                      rw [HPE.out]; unfold finD; simp only [if_neg HI2.out]
                    rw [e1, e2, e3, rowV_snoc _ _ _ _ (by simp [HVL.out])]
                    exact h
                  case measure => simp [intOf]; omega
            · obtain rfl : k = l.length := by omega
              have hown := KOW.out
              rw [List.take_length, ← HVL.out, List.take_length] at hown
              have HOWN := Lib.hid hown
              have RO : Hid (ArgRow wr (fun g => w.heap.size ≤ g ∧ g < w4.heap.size) (.slice (some ⟨G0, 0, none⟩) 1 1) [numA n]) := Lib.hid (by
                rcases R6.out.2 with ⟨h, _⟩ | ⟨g, cap, cur, h1, h2, h3, h4⟩
                · cases h
                · injection h1 with h1 _ h1c
                  injection h1 with h1
                  injection h1 with h1 _ _
                  subst h1 h1c
                  have := KBW.out.size
                  exact .inr ⟨G0, 1, cur, rfl, ⟨by omega, by omega⟩, (KFR.out G0 (by omega) (fun i hi hh => by have := (HAB.out i hi _ hh).2.1; omega)).trans h3, h4⟩)
              have HFIN : Hid (StAt wr (fun g => w.heap.size ≤ g ∧ g < wr.heap.size) (.slice vA (vs.length + 1) vc) (orgS n :: l.map (finD (marksD l)))) := Lib.hid (by
                refine stat_rows (B := w4.heap.size) (vs := .slice (some ⟨G0, 0, none⟩) 1 1 :: vs) (by omega) (by simpa [HVL.out] using HOWN.out) (by simp [HVL.out]) (fun i hi => ?_)
                cases i with
                | zero => exact (RO.out.arAt (fun a ha => by simp at ha; subst ha; rfl)).keep (fun _ _ => rfl) (fun g hg => ⟨hg.1, by omega⟩)
                | succ i =>
                  simp only [List.length_cons, List.length_map] at hi
                  have hi' : i < l.length := by omega
                  have h1 := KAR.out i hi'
                  rw [if_pos hi'] at h1
                  simp only [List.getElem_cons_succ, List.getElem_map, List.getD_cons_succ]
                  exact (h1.arAt (finD_sub _ _ (HARG.out _ (List.getElem_mem hi')).2)).keep (fun _ _ => rfl) (fun g hg => ⟨hg.1, by omega⟩))
              have BWF := Lib.hid KBW.out
              rw [HVL.out] at HFIN
              clear hown HOWN RO KOW KAR KFR KBW
              go_wp2_with fail
              go_ret2
              exact ⟨_, rfl, HFIN.out, BWF.out⟩
end Go.Proofs.YtiipkfgceiongaaGreatDoor

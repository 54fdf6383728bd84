/- DisasmPlaces: the walk. -/
import Derived.Test.YtiipkfgceiongaaGreatDoorLaw17a
import Derived.Test.YtiipkfgceiongaaGreatDoorUa
import Derived.StillTactics
import Derived.StillTailTactics
import Derived.RegionTactic
namespace Go.Proofs.YtiipkfgceiongaaGreatDoor
open Go.RowKit

theorem StAt.drew {w : World} {S : Nat → Prop} {v : Value} {l : List St} (h : StAt w S v l) : StAt w.drew S v l := h.keep (fun _ _ => rfl) (fun _ h => h)
set_option maxHeartbeats 4000000 in
set_option maxRecDepth 100000 in
theorem disasmPlaces_walk (n : Int) (b : List UInt8) (v : Value) (w : World) (hg : GWL w) (hr : RdB w w.heap.size v b) :
    Calls Tryz.prog 8 #[.int .i64 n, v] w fun e w' => e = .returned (.bool true) ∧ Below w.heap.size w w' := by
  have HAl := Lib.hid (fun W (hW : GWL W) => alive17_any W hW)
  by_cases h1 : 300 < b.length
  · have e1 : (300 : Int) < (b.length : Int) := by omega
    obtain ⟨A, c, rfl, hc⟩ := hr.form
    clear h1 hr
    go_enter Tryz.func8, Tryz.ntmps8
    go_wp2_with fail
    refine (HAl.out _ hg).mono ?_
    rintro e w1 ⟨rfl, hb1⟩
    go_wp2_with fail
    go_ret
    exact ⟨rfl, hb1⟩
  have e1 : decide ((300 : Int) < (b.length : Int)) = false := by simp; omega
  by_cases h2 : n < 0
  · obtain ⟨A, c, rfl, hc⟩ := hr.form
    clear h1 hr
    go_enter Tryz.func8, Tryz.ntmps8
    go_wp2_with fail
    refine (HAl.out _ hg).mono ?_
    rintro e w1 ⟨rfl, hb1⟩
    go_wp2_with fail
    go_ret
    exact ⟨rfl, hb1⟩
  have e2 : decide (n < 0) = false := by simp; omega
  have hw : IntKind.i64.wrap (65536 - (b.length : Int)) = 65536 - (b.length : Int) := IntWalk.i64_in _ (by omega)
  by_cases h3 : 65536 - (b.length : Int) < n
  · obtain ⟨A, c, rfl, hc⟩ := hr.form
    clear h1 h2 hr
    go_enter Tryz.func8, Tryz.ntmps8
    go_wp2_with fail
    refine (HAl.out _ hg).mono ?_
    rintro e w1 ⟨rfl, hb1⟩
    go_wp2_with fail
    go_ret
    exact ⟨rfl, hb1⟩
  have e3 : decide (65536 - (b.length : Int) < n) = false := by simp; omega
  have HK := Lib.hid (stmts_keys no86 n b)
  have HS0 := Lib.hid (Stmts80_any no86 0 n b v w hg hr (by omega) (by simp))
  have HS1 := Lib.hid (fun W (hW : GWL W) hrW => Stmts80_any no86 1 n b v W hW hrW (by omega) (by simp))
  have HR1 := Lib.hid (fun W (hb : Below w.heap.size w W) => (Rd.below hr hb).more hb.size)
  obtain ⟨k0, m0⟩ := stmts_ok no86 0 (by omega) n b (by omega) (by omega) (by omega)
  obtain ⟨k1, m1⟩ := stmts_ok no86 1 (by omega) n b (by omega) (by omega) (by omega)
  have HT0 := Lib.hid (stmts_two no86 0 (by omega) n b)
  have hll : (stmtsD no86 0 n b).1.length ≤ 65537 := (stmts80_fit no86 0 n b (by simp)).2
  change (stmtsD no86 0 n b).2 = 0 at k0
  change (stmtsD no86 1 n b).2 = 0 at k1
  change b = [] ↔ (stmtsD no86 0 n b).1 = [] at m0
  rw [k0] at HS0
  rw [k1] at HS1
  have HT : Hid (∀ s ∈ (stmtsD no86 0 n b).1, s.args.length ≤ 2) := HT0
  generalize (stmtsD no86 0 n b).1 = l at *
  generalize (stmtsD no86 1 n b).1 = m at *
  have HLM : Hid (l.length = m.length) := Lib.hid (by simpa using congrArg List.length HK.out)
  obtain ⟨M, hM⟩ : ∃ M, M = m.length := ⟨_, rfl⟩
  have HLM : Hid (M = l.length) := Lib.hid (by rw [hM]; simpa using (congrArg List.length HK.out).symm)
  obtain ⟨A, c, rfl, hc⟩ := hr.form
  have hlen : m.length = l.length := by rw [← hM]; exact HLM.out
  have HLEN := Lib.hid hlen
  have h65 : n ≤ 65536 := by omega
  clear h1 h2 h3 hr k0 k1 HT0 hM HLM hlen
  by_cases hb : b = []
  · have hl := m0.1 hb
    subst hb
    subst hl
    simp only [List.length_nil] at *
    have e9 : decide ((65536 : Int) < n) = false := by simp; omega
    clear m0 m1 hll
    go_enter Tryz.func8, Tryz.ntmps8
    go_wp2_with fail
    refine HS0.out.mono ?_
    rintro e w1 ⟨lv, rfl, hs1, hb1⟩
    obtain ⟨lA, lc, rfl, hlc, hlm⟩ := hs1.form
    have B1 := Lib.hid hb1
    clear hs1 hb1 HS0 hlm
    go_wp2_with fail
    refine (HS1.out _ (hg.below B1.out) (HR1.out _ B1.out)).mono ?_
    rintro e w2 ⟨mv, rfl, hs2, hb2⟩
    obtain ⟨mA, mc, rfl, hmc, hmm⟩ := hs2.form
    have B2 := Lib.hid (bthen B1.out hb2)
    rw [HLEN.out] at hmc ⊢
    clear hs2 hb2 HS1 HR1 B1 hmm
    go_wp2_with fail
    go_loopw [9] (fun i wr => i = .int .i64 0 ∧ wr = w2) (fun _ _ => 0)
    case atStart => exact ⟨rfl, rfl⟩
    case round =>
      obtain ⟨rfl, rfl⟩ := hrel
      go_wp2_with fail
      refine (HAl.out _ (hg.below B2.out)).mono ?_
      rintro e w3 ⟨rfl, hb3⟩
      go_wp2_with fail
      go_ret
      exact ⟨rfl, bthen B2.out hb3⟩
  have hl : l ≠ [] := fun h => hb (m0.2 h)
  have q1 := List.length_pos_iff.2 hb
  have q2 := List.length_pos_iff.2 hl
  have q3 : ((b.length : Int) == 0) = false := by rw [beq_eq_false_iff_ne]; omega
  have q4 : ((l.length : Int) == 0) = false := by rw [beq_eq_false_iff_ne]; omega
  clear m0 m1 hb hl
  go_enter Tryz.func8, Tryz.ntmps8
  go_wp2_with fail
  refine HS0.out.mono ?_
  rintro e w1 ⟨lv, rfl, hs1, hb1⟩
  obtain ⟨lA, lc, rfl, hlc, hlm⟩ := hs1.form
  have S1 := Lib.hid hs1
  have B1 := Lib.hid hb1
  clear hs1 hb1 HS0 hlm
  go_wp2_with fail
  refine (HS1.out _ (hg.below B1.out) (HR1.out _ B1.out)).mono ?_
  rintro e w2 ⟨mv, rfl, hs2, hb2⟩
  obtain ⟨mA, mc, rfl, hmc, hmm⟩ := hs2.form
  have S2 := Lib.hid hs2
  have B2 := Lib.hid (bthen B1.out hb2)
  have T1 := Lib.hid (S1.out.keep (w' := w2) (fun p hp => hb2.cell hp.2) (fun g hg => hg))
  rw [HLEN.out] at hmc ⊢
  clear hs2 hb2 HS1 HR1 S1 B1 hmm
  go_wp2_with fail
  go_loopw [9] (fun i wr => ∃ k : Nat, k ≤ l.length ∧ i = .int .i64 k ∧ StAt wr (fun g => w.heap.size ≤ g ∧ g < w1.heap.size) (.slice lA l.length lc) l ∧ StAt wr (fun g => w1.heap.size ≤ g ∧ g < w2.heap.size) (.slice mA l.length mc) m ∧ Below w.heap.size w wr) (fun i _ => l.length - (intOf i).toNat)
  case atStart => exact ⟨0, Nat.zero_le _, rfl, T1.out, HLEN.out ▸ S2.out, B2.out⟩
  case round =>
    obtain ⟨k, hk, rfl, hT, hS, hB⟩ := hrel
    have HT1 := Lib.hid hT
    have HS2 := Lib.hid hS
    have HB := Lib.hid hB
    clear T1 S2 B2
    by_cases hlt : k < l.length
    · obtain ⟨g, o, vk, hA, hgl, c0, c1, c2, c3, hsub⟩ := hT.get k hlt
      subst hA
      have hltm : k < m.length := by rw [HLEN.out]; exact hlt
      rw [← HLEN.out] at hS
      obtain ⟨g', o', vk', hA', hgl', d0, d1, d2, d3, hsub'⟩ := hS.get k hltm
      subst hA'
      obtain ⟨sA, sc, rfl, hsc, hsm⟩ := hsub.form
      have hke : stKey l[k] = stKey m[k] := by
        have := congrArg (fun x => x[k]?) HK.out
        simp only [List.getElem?_map, List.getElem?_eq_getElem hlt, List.getElem?_eq_getElem hltm, Option.map_some, Option.some.injEq] at this
        exact this
      have ha2 := HT.out _ (List.getElem_mem hlt)
      clear hT hS hB hsub hsub' hsm hsc hgl hgl'
      generalize l[k] = s1 at *
      generalize m[k] = s2 at *
      obtain ⟨lab, col, op, args⟩ := s1
      obtain ⟨lab', col', op', args'⟩ := s2
      simp only [stKey, Prod.mk.injEq] at hke
      simp only at *
      obtain ⟨rfl, hop⟩ := hke
      have n1 : (lab == lab) = true := by simp
      have n3 : decide ((2 : Int) < (args.length : Int)) = false := by simp; omega
      clear ha2 hltm
      by_cases ho : op = sDB
      · subst ho
        obtain rfl : op' = sDB := by simpa using hop.symm
        clear hop
        go_wp2_with fail
        go_still (by kernel_rfl)
        go_wp2_with fail
        go_roundw
        case rel => exact ⟨k + 1, by omega, by go_num, HT1.out.drew, HS2.out.drew, HB.out.drew⟩
        case measure => simp [intOf]; omega
      · have ho' : op' ≠ sDB := by simpa [ho] using hop.symm
        have n4 := str_ne ho
        have n5 := str_ne ho'
        clear hop ho ho'
        go_wp2_with fail
        go_still (by kernel_rfl)
        go_wp2_with fail
        go_roundw
        case rel => exact ⟨k + 1, by omega, by go_num, HT1.out.drew, HS2.out.drew, HB.out.drew⟩
        case measure => simp [intOf]; omega
    · obtain rfl : k = l.length := by omega
      clear hT hS hB
      go_wp2_with fail
      refine (HAl.out _ (hg.below HB.out)).mono ?_
      rintro e w3 ⟨rfl, hb3⟩
      go_wp2_with fail
      go_ret
      exact ⟨rfl, bthen HB.out hb3⟩
end Go.Proofs.YtiipkfgceiongaaGreatDoor

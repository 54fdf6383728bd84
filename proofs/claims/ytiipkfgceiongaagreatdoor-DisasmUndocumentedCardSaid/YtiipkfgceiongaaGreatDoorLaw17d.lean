/- DisasmUndocumented: the walk. -/
import Derived.Test.YtiipkfgceiongaaGreatDoorLaw17a
import Derived.Test.YtiipkfgceiongaaGreatDoorUa
import Derived.StillTactics
import Derived.StillTailTactics
import Derived.RegionTactic
namespace Go.Proofs.YtiipkfgceiongaaGreatDoor
open Go.RowKit

theorem u8_nat (x : Nat) (h : x < 256) : (UInt8.ofNat x).toNat = x := by simp; omega
theorem rd_pre (w : World) (x y z : Value) (T : TypeId) (k : Nat) (hk : k ≤ 3) : Rd (w.alloc (.cells #[x, y, z] T)) (w.alloc (.cells #[x, y, z] T)).heap.size (.slice (some ⟨w.heap.size, 0, none⟩) k 3) k ([x, y, z].take k) := by
  have h := heap_alloc_new w (.cells #[x, y, z] T)
  refine ⟨some ⟨w.heap.size, 0, none⟩, 3, rfl, hk, fun _ => ⟨w.heap.size, 0, rfl, by simp, ?_⟩⟩
  intro j u hj
  rw [Nat.zero_add, Lib.cell_of_heap h]
  have := List.getElem?_eq_some_iff.1 hj
  obtain ⟨h1, h2⟩ := this
  rw [List.getElem_take] at h2
  have h3 : j < 3 := by simp at h1; omega
  simpa using List.getElem?_eq_some_iff.2 ⟨by simpa using h3, h2⟩
def opL (o m : Nat) : List UInt8 := [UInt8.ofNat o, UInt8.ofNat (m % 256), UInt8.ofNat (m / 256)]
def opB (o m k : Nat) : List UInt8 := if k = 0 then opL o m else (opL o m).take k
theorem opB_rd (o m k : Nat) (ho : o < 256) (hm : m < 65536) (hk : k ≤ 3) (w : World) : RdB (w.alloc (.cells #[.int .u8 (o : Int), .int .u8 ((m : Int) % 256), .int .u8 ((m : Int) / 256)] 5)) (w.alloc (.cells #[.int .u8 (o : Int), .int .u8 ((m : Int) % 256), .int .u8 ((m : Int) / 256)] 5)).heap.size (.slice (some ⟨w.heap.size, 0, none⟩) (if k = 0 then 3 else k) 3) (opB o m k) := by
  have e : (opL o m).map bv = [.int .u8 (o : Int), .int .u8 ((m : Int) % 256), .int .u8 ((m : Int) / 256)] := by
    unfold opL bv
    simp only [List.map_cons, List.map_nil]
    rw [u8_nat _ ho, u8_nat _ (by omega), u8_nat _ (by omega)]
    simp
  unfold RdB opB
  by_cases h : k = 0
  · rw [if_pos h, if_pos h, e]
    exact rd_three w _ _ _ _
  · rw [if_neg h, if_neg h, List.map_take, e]
    have hl : ((opL o m).take k).length = k := by simp [opL]; omega
    rw [hl]
    exact rd_pre w _ _ _ _ k hk
theorem size80_three : ∀ k : Fin 256, size80 k.val ≤ 3 := by decide +kernel
set_option maxHeartbeats 4000000 in
set_option maxRecDepth 100000 in
theorem undoc_walk (o m k : Nat) (w : World) (hg : GWL w) (ho : o < 256) (hm : m < 65536) (hk : size80 o = k) (hk3 : k = 0 ∨ k = 1 ∨ k = 2 ∨ k = 3) :
    Calls Tryz.prog 7 #[.int .u8 o, .int .u16 m] w fun e w' => e = .returned (.bool true) ∧ Below w.heap.size w w' := by
  have HAl := Lib.hid (fun W (hW : GWL W) => alive17_any W hW)
  have HSz := Lib.hid (fun W => size80_any o ho W)
  rw [hk] at HSz
  have HRD := Lib.hid (opB_rd o m k ho hm (by omega) w)
  have HB0 : Hid (Below w.heap.size w (w.alloc (.cells #[.int .u8 (o : Int), .int .u8 ((m : Int) % 256), .int .u8 ((m : Int) / 256)] 5))) := Lib.hid ((Below.refl w.heap.size w).alloc (Nat.le_refl _) _)
  have HUN : Hid (∀ d : Nat, d < 2 → ∃ s r, (stmtsD no86 d 0 (opB o m k)).1 = orgS 0 :: s :: r ∧ (stmtsD no86 d 0 (opB o m k)).2 = 0 ∧ (s.op = sDB ↔ k = 0) ∧ (k ≠ 0 → r = []) ∧ r.length ≤ 65535) := Lib.hid (fun d hd => by
    have hu : (UInt8.ofNat o).toNat = o := u8_nat o ho
    obtain ⟨s, r, q1, q2, q3, q4⟩ := undoc no86 d hd (UInt8.ofNat o) (UInt8.ofNat (m % 256)) (UInt8.ofNat (m / 256)) (opB o m k) (by rw [hu, hk]; rfl) (by rw [hu, hk]; omega)
    rw [hu, hk] at q3 q4
    have h5 := (stmts80_fit no86 d 0 (opB o m k) (by omega)).2
    rw [q1] at h5
    simp only [List.length_cons] at h5
    exact ⟨s, r, q1, q2, q3, q4, by omega⟩)
  have hbl : (opB o m k).length ≤ 1000000 := by unfold opB; split <;> simp [opL] <;> omega
  have HST : Hid (∀ d : Nat, d < 2 → ∀ W, GWL W → RdB W W.heap.size (.slice (some ⟨w.heap.size, 0, none⟩) (if k = 0 then 3 else k) 3) (opB o m k) → Calls Tryz.prog 13 #[.int .i64 d, .int .i64 0, .slice (some ⟨w.heap.size, 0, none⟩) (if k = 0 then 3 else k) 3] W (StmtsP W (stmtsD no86 d 0 (opB o m k)).1 (stmtsD no86 d 0 (opB o m k)).2)) := Lib.hid (fun d hd W hW hr => Stmts80_any no86 d 0 (opB o m k) _ W hW hr hbl (by omega))
  clear hk hbl
  generalize opB o m k = bl at *
  rcases hk3 with rfl | rfl | rfl | rfl
  · simp (config := { decide := true }) only [if_true] at HRD HST HUN
    go_enter Tryz.func7, Tryz.ntmps7
    go_wp2_with fail
    refine (HSz.out _).mono ?_
    rintro e w1 ⟨rfl, hb1⟩
    have B1 := Lib.hid hb1
    have G1 := Lib.hid (bthen HB0.out hb1)
    have R1 := Lib.hid ((Rd.below HRD.out hb1).more hb1.size)
    clear hb1 HSz HRD HB0
    go_wp2_with fail
    go_loopw [7] (fun i wr => ∃ d : Nat, d ≤ 2 ∧ i = .int .i64 d ∧ Below w1.heap.size w1 wr) (fun i _ => 2 - (intOf i).toNat)
    case atStart => exact ⟨0, by omega, rfl, Below.refl _ _⟩
    case round =>
      obtain ⟨d, hd, rfl, hbw⟩ := hrel
      have HBW := Lib.hid hbw
      clear hbw
      by_cases hlt : d < 2
      · obtain ⟨s, r, q1, q2, q3, q4, q5⟩ := HUN.out d hlt
        have HS := Lib.hid (HST.out d hlt wr (hg.below (bthen G1.out HBW.out)) ((Rd.below R1.out HBW.out).more HBW.out.size))
        rw [q1, q2] at HS
        clear q1 q2
        have e2 : (d : Int) < 2 := by omega
        go_wp2_with fail
        refine HS.out.mono ?_
        rintro e w2 ⟨lv, rfl, hst, hb2⟩
        obtain ⟨A2, c2, rfl, hc2, hm2⟩ := hst.form
        obtain ⟨g, off, vk, hA, hgl, d0, d1, d2, d3, hsub⟩ := hst.get 1 (by simp)
        subst hA
        have B2 := Lib.hid (HBW.out.trans (hb2.mono HBW.out.size))
        simp only [List.getElem_cons_succ, List.getElem_cons_zero, List.length_cons] at *
        have hop : s.op = sDB := q3.2 trivial
        have hk2 : (1 : Int) < (r.length : Int) + 1 + 1 := by omega
        have hk3 : decide ((r.length : Int) + 1 + 1 < 2) = false := by simp; omega
        have hk4 : ((r.length + 1 + 1 : Nat) : Int) = (r.length : Int) + 1 + 1 := by omega
        rw [hop] at d2
        clear hop q3 q4 hst hsub hb2 hgl hm2 HS
        go_wp2_with fail
        exact ⟨⟨d + 1, by omega, by simp, B2.out⟩, by simp [intOf]; omega⟩
      · obtain rfl : d = 2 := by omega
        go_wp2_with fail
        refine (HAl.out _ (hg.below (bthen G1.out HBW.out))).mono ?_
        rintro e w3 ⟨rfl, hb3⟩
        go_wp2_with fail
        go_ret
        exact ⟨rfl, bthen (bthen G1.out HBW.out) hb3⟩
  · simp (config := { decide := true }) only [if_false] at HRD HST HUN
    go_enter Tryz.func7, Tryz.ntmps7
    go_wp2_with fail
    refine (HSz.out _).mono ?_
    rintro e w1 ⟨rfl, hb1⟩
    have B1 := Lib.hid hb1
    have G1 := Lib.hid (bthen HB0.out hb1)
    have R1 := Lib.hid ((Rd.below HRD.out hb1).more hb1.size)
    clear hb1 HSz HRD HB0
    go_wp2_with fail
    go_loopw [7] (fun i wr => ∃ d : Nat, d ≤ 2 ∧ i = .int .i64 d ∧ Below w1.heap.size w1 wr) (fun i _ => 2 - (intOf i).toNat)
    case atStart => exact ⟨0, by omega, rfl, Below.refl _ _⟩
    case round =>
      obtain ⟨d, hd, rfl, hbw⟩ := hrel
      have HBW := Lib.hid hbw
      clear hbw
      by_cases hlt : d < 2
      · obtain ⟨s, r, q1, q2, q3, q4, q5⟩ := HUN.out d hlt
        have HS := Lib.hid (HST.out d hlt wr (hg.below (bthen G1.out HBW.out)) ((Rd.below R1.out HBW.out).more HBW.out.size))
        rw [q1, q2] at HS
        clear q1 q2
        have e2 : (d : Int) < 2 := by omega
        go_wp2_with fail
        refine HS.out.mono ?_
        rintro e w2 ⟨lv, rfl, hst, hb2⟩
        obtain ⟨A2, c2, rfl, hc2, hm2⟩ := hst.form
        obtain ⟨g, off, vk, hA, hgl, d0, d1, d2, d3, hsub⟩ := hst.get 1 (by simp)
        subst hA
        have B2 := Lib.hid (HBW.out.trans (hb2.mono HBW.out.size))
        simp only [List.getElem_cons_succ, List.getElem_cons_zero, List.length_cons] at *
        have hop : s.op ≠ sDB := fun h => absurd (q3.1 h) (by decide)
        obtain rfl := q4 (by decide)
        have n5 := str_ne hop
        clear hop q3 q4 hst hsub hb2 hgl hm2 HS
        simp only [List.length_nil] at *
        go_wp2_with fail
        exact ⟨⟨d + 1, by omega, by simp, B2.out⟩, by simp [intOf]; omega⟩
      · obtain rfl : d = 2 := by omega
        go_wp2_with fail
        refine (HAl.out _ (hg.below (bthen G1.out HBW.out))).mono ?_
        rintro e w3 ⟨rfl, hb3⟩
        go_wp2_with fail
        go_ret
        exact ⟨rfl, bthen (bthen G1.out HBW.out) hb3⟩
  · simp (config := { decide := true }) only [if_false] at HRD HST HUN
    go_enter Tryz.func7, Tryz.ntmps7
    go_wp2_with fail
    refine (HSz.out _).mono ?_
    rintro e w1 ⟨rfl, hb1⟩
    have B1 := Lib.hid hb1
    have G1 := Lib.hid (bthen HB0.out hb1)
    have R1 := Lib.hid ((Rd.below HRD.out hb1).more hb1.size)
    clear hb1 HSz HRD HB0
    go_wp2_with fail
    go_loopw [7] (fun i wr => ∃ d : Nat, d ≤ 2 ∧ i = .int .i64 d ∧ Below w1.heap.size w1 wr) (fun i _ => 2 - (intOf i).toNat)
    case atStart => exact ⟨0, by omega, rfl, Below.refl _ _⟩
    case round =>
      obtain ⟨d, hd, rfl, hbw⟩ := hrel
      have HBW := Lib.hid hbw
      clear hbw
      by_cases hlt : d < 2
      · obtain ⟨s, r, q1, q2, q3, q4, q5⟩ := HUN.out d hlt
        have HS := Lib.hid (HST.out d hlt wr (hg.below (bthen G1.out HBW.out)) ((Rd.below R1.out HBW.out).more HBW.out.size))
        rw [q1, q2] at HS
        clear q1 q2
        have e2 : (d : Int) < 2 := by omega
        go_wp2_with fail
        refine HS.out.mono ?_
        rintro e w2 ⟨lv, rfl, hst, hb2⟩
        obtain ⟨A2, c2, rfl, hc2, hm2⟩ := hst.form
        obtain ⟨g, off, vk, hA, hgl, d0, d1, d2, d3, hsub⟩ := hst.get 1 (by simp)
        subst hA
        have B2 := Lib.hid (HBW.out.trans (hb2.mono HBW.out.size))
        simp only [List.getElem_cons_succ, List.getElem_cons_zero, List.length_cons] at *
        have hop : s.op ≠ sDB := fun h => absurd (q3.1 h) (by decide)
        obtain rfl := q4 (by decide)
        have n5 := str_ne hop
        clear hop q3 q4 hst hsub hb2 hgl hm2 HS
        simp only [List.length_nil] at *
        go_wp2_with fail
        exact ⟨⟨d + 1, by omega, by simp, B2.out⟩, by simp [intOf]; omega⟩
      · obtain rfl : d = 2 := by omega
        go_wp2_with fail
        refine (HAl.out _ (hg.below (bthen G1.out HBW.out))).mono ?_
        rintro e w3 ⟨rfl, hb3⟩
        go_wp2_with fail
        go_ret
        exact ⟨rfl, bthen (bthen G1.out HBW.out) hb3⟩
  · simp (config := { decide := true }) only [if_false] at HRD HST HUN
    go_enter Tryz.func7, Tryz.ntmps7
    go_wp2_with fail
    refine (HSz.out _).mono ?_
    rintro e w1 ⟨rfl, hb1⟩
    have B1 := Lib.hid hb1
    have G1 := Lib.hid (bthen HB0.out hb1)
    have R1 := Lib.hid ((Rd.below HRD.out hb1).more hb1.size)
    clear hb1 HSz HRD HB0
    go_wp2_with fail
    go_loopw [7] (fun i wr => ∃ d : Nat, d ≤ 2 ∧ i = .int .i64 d ∧ Below w1.heap.size w1 wr) (fun i _ => 2 - (intOf i).toNat)
    case atStart => exact ⟨0, by omega, rfl, Below.refl _ _⟩
    case round =>
      obtain ⟨d, hd, rfl, hbw⟩ := hrel
      have HBW := Lib.hid hbw
      clear hbw
      by_cases hlt : d < 2
      · obtain ⟨s, r, q1, q2, q3, q4, q5⟩ := HUN.out d hlt
        have HS := Lib.hid (HST.out d hlt wr (hg.below (bthen G1.out HBW.out)) ((Rd.below R1.out HBW.out).more HBW.out.size))
        rw [q1, q2] at HS
        clear q1 q2
        have e2 : (d : Int) < 2 := by omega
        go_wp2_with fail
        refine HS.out.mono ?_
        rintro e w2 ⟨lv, rfl, hst, hb2⟩
        obtain ⟨A2, c2, rfl, hc2, hm2⟩ := hst.form
        obtain ⟨g, off, vk, hA, hgl, d0, d1, d2, d3, hsub⟩ := hst.get 1 (by simp)
        subst hA
        have B2 := Lib.hid (HBW.out.trans (hb2.mono HBW.out.size))
        simp only [List.getElem_cons_succ, List.getElem_cons_zero, List.length_cons] at *
        have hop : s.op ≠ sDB := fun h => absurd (q3.1 h) (by decide)
        obtain rfl := q4 (by decide)
        have n5 := str_ne hop
        clear hop q3 q4 hst hsub hb2 hgl hm2 HS
        simp only [List.length_nil] at *
        go_wp2_with fail
        exact ⟨⟨d + 1, by omega, by simp, B2.out⟩, by simp [intOf]; omega⟩
      · obtain rfl : d = 2 := by omega
        go_wp2_with fail
        refine (HAl.out _ (hg.below (bthen G1.out HBW.out))).mono ?_
        rintro e w3 ⟨rfl, hb3⟩
        go_wp2_with fail
        go_ret
        exact ⟨rfl, bthen (bthen G1.out HBW.out) hb3⟩
theorem disasmUndocumented_walk (op n : Int) (w : World) (hg : GWL w) (h1 : (Lit.int .u8 op).wf = true) (h2 : (Lit.int .u16 n).wf = true) :
    Calls Tryz.prog 7 #[.int .u8 op, .int .u16 n] w fun e w' => e = .returned (.bool true) ∧ Below w.heap.size w w' := by
  simp only [Lit.wf, Bool.and_eq_true, decide_eq_true_eq] at h1 h2
  obtain ⟨a1, a2⟩ := h1
  obtain ⟨b1, b2⟩ := h2
  have a3 : (0 : Int) ≤ op := a1
  have a4 : op ≤ (255 : Int) := a2
  have b3 : (0 : Int) ≤ n := b1
  have b4 : n ≤ (65535 : Int) := b2
  obtain ⟨o, rfl⟩ : ∃ o : Nat, op = o := ⟨op.toNat, by omega⟩
  obtain ⟨m, rfl⟩ : ∃ m : Nat, n = m := ⟨n.toNat, by omega⟩
  have h3 := size80_three ⟨o, by omega⟩
  simp only at h3
  exact undoc_walk o m (size80 o) w hg (by omega) (by omega) rfl (by omega)
end Go.Proofs.YtiipkfgceiongaaGreatDoor

/- LineJoins: the walk. -/
import Derived.Test.YtpcpjghfcimblaaGreatDoorLaw12a
import Derived.Test.YtpcpjghfcimblaaGreatDoorLn35
import Derived.Test.YtpcpjghfcimblaaGreatDoorRegMid
namespace Go.Proofs.YtpcpjghfcimblaaGreatDoor
open Go.RowKit

set_option maxHeartbeats 8000000 in
set_option maxRecDepth 100000 in
theorem lineJoins_walk (d : Int) (a b : List UInt8) (w : World) (hg : GWL w) (hla : a.length ≤ 9223372036854775807) (hlb : b.length ≤ 9223372036854775807) :
    Calls Tryz.prog 3 #[.int .i64 d, .string ⟨a.toArray⟩, .string ⟨b.toArray⟩] w fun e w' => e = .returned (.bool true) ∧ Below w.heap.size w w' := by
  have HAl := Lib.hid (fun W (hW : GWL W) => alive12_any W hW)
  by_cases h1 : 1500 < a.length ∨ 1500 < b.length
  · by_cases h2 : 1500 < a.length
    · have e1 : (1500 : Int) < (a.length : Int) := by omega
      clear h1 h2
      go_enter Tryz.func3, Tryz.ntmps3
      go_wp2_with fail
      refine (HAl.out _ hg).mono ?_
      rintro e w1 ⟨rfl, hb1⟩
      go_wp2_with fail
      go_ret
      exact ⟨rfl, hb1⟩
    · have e1 : decide ((1500 : Int) < (a.length : Int)) = false := by simp; omega
      have e2 : (1500 : Int) < (b.length : Int) := by omega
      clear h1 h2
      go_enter Tryz.func3, Tryz.ntmps3
      go_wp2_with fail
      refine (HAl.out _ hg).mono ?_
      rintro e w1 ⟨rfl, hb1⟩
      go_wp2_with fail
      go_ret
      exact ⟨rfl, hb1⟩
  · simp only [not_or, Nat.not_lt] at h1
    have e1 : decide ((1500 : Int) < (a.length : Int)) = false := by simp; omega
    have e2 : decide ((1500 : Int) < (b.length : Int)) = false := by simp; omega
    have n1 : ¬ 9223372036854775807 < a.length + 1 := by omega
    have n2 : ¬ 9223372036854775807 < a.length + 1 + b.length := by omega
    have HJ := Lib.hid (fun h => src_join d a b h1.1 h1.2 h)
    have HN := Lib.hid (fun h => src_next d a b h1.1 h1.2 h)
    have k1 := src_len d (a ++ [10]) (by simp; omega)
    have k2 := src_len d b (by omega)
    have k3 := src_line d b (by omega)
    rw [List.length_append] at k1
    have S1 := Lib.hid (fun W (hW : GWL W) => src12_any d (a ++ [10]) W hW (by simp; omega) _ rfl)
    have S2 := Lib.hid (fun W (hW : GWL W) => src12_any d b W hW (by omega) _ rfl)
    have S3 := Lib.hid (fun W (hW : GWL W) => src12_any d (a ++ [10] ++ b) W hW (by simp; omega) _ rfl)
    rw [show a ++ [10] ++ b = a ++ 10 :: b by simp] at HJ HN S3
    generalize srcS d (a ++ [10]) = r1 at *
    generalize srcS d b = r2 at *
    generalize srcS d (a ++ 10 :: b) = r3 at *
    obtain ⟨l1, p1, q1⟩ := r1
    obtain ⟨l2, p2, q2⟩ := r2
    obtain ⟨l3, p3, q3⟩ := r3
    simp only at *
    have k1' : l1.length ≤ 1502 := by simp at k1; omega
    have k2' : l2.length ≤ 1501 := by omega
    have k3' : p2 ≤ 1501 := by omega
    clear h1 k1 k2 k3
    go_enter Tryz.func3, Tryz.ntmps3
    go_wp2_with fail
    refine (S1.out _ hg).mono ?_
    rintro e w1 ⟨v1, rfl, hs1, hb1⟩
    obtain ⟨A1, c1, rfl, hc1, hm1⟩ := hs1.form
    have B1 := Lib.hid (hb1.alloc hb1.size (.cells #[.int .i64 p1, .int .i64 q1] 26))
    have T1 := Lib.hid (hs1.keep (w' := w1.alloc (.cells #[.int .i64 p1, .int .i64 q1] 26)) (fun p hp => World.cell?_alloc_lt _ _ _ hp.2) (S' := (· < (w1.alloc (.cells #[.int .i64 p1, .int .i64 q1] 26)).heap.size)) (fun g hg => by have := hg.2; simp; omega))
    clear hb1 hs1
    go_wp2_with fail
    refine (S2.out _ (hg.below B1.out)).mono ?_
    rintro e w2 ⟨v2, rfl, hs2, hb2⟩
    obtain ⟨A2, c2, rfl, hc2, hm2⟩ := hs2.form
    have B2 := Lib.hid ((bthen B1.out hb2).alloc (bthen B1.out hb2).size (.cells #[.int .i64 p2, .int .i64 q2] 26))
    have T1' := Lib.hid (T1.out.at (hb2.alloc hb2.size (.cells #[.int .i64 p2, .int .i64 q2] 26)) (B' := (w2.alloc (.cells #[.int .i64 p2, .int .i64 q2] 26)).heap.size) (by have := hb2.size; simp at this ⊢; omega))
    have T2 := Lib.hid (hs2.keep (w' := w2.alloc (.cells #[.int .i64 p2, .int .i64 q2] 26)) (fun p hp => World.cell?_alloc_lt _ _ _ hp.2) (S' := (· < (w2.alloc (.cells #[.int .i64 p2, .int .i64 q2] 26)).heap.size)) (fun g hg => by have := hg.2; simp; omega))
    have C2 := Lib.hid ((hb2.block w1.heap.size (by simp)).trans (heap_alloc_new w1 _))
    have hw12 : w1.heap.size < w2.heap.size := lt_of_heap C2.out
    clear hb2 hs2 T1
    go_wp2_with fail
    refine (S3.out _ (hg.below B2.out)).mono ?_
    rintro e w3 ⟨v3, rfl, hs3, hb3⟩
    obtain ⟨A3, c3, rfl, hc3, hm3⟩ := hs3.form
    have B3 := Lib.hid (fun o => (bthen B2.out hb3).alloc (bthen B2.out hb3).size o)
    have T1a := Lib.hid (T1'.out.at (hb3.alloc hb3.size (.cells #[.int .i64 p3, .int .i64 q3] 26)) (B' := (w3.alloc (.cells #[.int .i64 p3, .int .i64 q3] 26)).heap.size) (by have := hb3.size; simp at this ⊢; omega))
    have T2a := Lib.hid (T2.out.at (hb3.alloc hb3.size (.cells #[.int .i64 p3, .int .i64 q3] 26)) (B' := (w3.alloc (.cells #[.int .i64 p3, .int .i64 q3] 26)).heap.size) (by have := hb3.size; simp at this ⊢; omega))
    have T3 := Lib.hid (hs3.keep (w' := w3.alloc (.cells #[.int .i64 p3, .int .i64 q3] 26)) (fun p hp => World.cell?_alloc_lt _ _ _ hp.2) (S' := (· < (w3.alloc (.cells #[.int .i64 p3, .int .i64 q3] 26)).heap.size)) (fun g hg => by have := hg.2; simp; omega))
    have C1 := Lib.hid ((hb3.block w1.heap.size (by simp; omega)).trans (((Below.refl w2.heap.size w2).alloc (Nat.le_refl _) (.cells #[.int .i64 p2, .int .i64 q2] 26)).block _ hw12 |>.trans C2.out))
    have C3 := Lib.hid ((hb3.block w2.heap.size (by simp)).trans (heap_alloc_new w2 _))
    have hw23 : w2.heap.size < w3.heap.size := lt_of_heap C3.out
    have hw13 : w1.heap.size < w3.heap.size := lt_of_heap C1.out
    have x0 := cell_of_heap (i := 0) C1.out
    have x1 := cell_of_heap (i := 1) C1.out
    have y0 := cell_of_heap (i := 0) C3.out
    have y1 := cell_of_heap (i := 1) C3.out
    simp at x0 x1 y0 y1
    clear hb3 hs3 T1' T2 S1 S2 S3
    by_cases hq1 : q1 = 0
    · subst hq1
      obtain ⟨hp1, hn⟩ := HN.out rfl
      have HN2 := Lib.hid hn
      subst hp1
      by_cases hq2 : q2 = 0
      · subst hq2
        have hn3 := HN2.out
        rw [if_neg (by simp)] at hn3
        injection hn3 with hn31 hn32
        injection hn32 with hn32 hn33
        subst hn31 hn32 hn33
        have hne : (((l1.length : Int) + (l2.length : Int)) != ((l1.length : Int) + (l2.length : Int))) = false := by simp
        clear HN HJ HN2 hn
        go_wp2_with fail
        have BZ := Lib.hid (B3.out (.cells #[.int .i64 0, .int .i64 0] 26))
        go_loopw [13] (fun i wr => ∃ k : Nat, k ≤ l1.length + l2.length ∧ i = .int .i64 k ∧ Below (w3.alloc (.cells #[.int .i64 0, .int .i64 0] 26)).heap.size (w3.alloc (.cells #[.int .i64 0, .int .i64 0] 26)) wr) (fun i _ => l1.length + l2.length - (intOf i).toNat)
        case atStart => exact ⟨0, Nat.zero_le _, rfl, Below.refl _ _⟩
        case round =>
          obtain ⟨k, hk, rfl, hb⟩ := hrel
          have BW := Lib.hid (bthen BZ.out hb)
          have U1 := Lib.hid (T1a.out.at hb hb.size)
          have U2 := Lib.hid (T2a.out.at hb hb.size)
          have U3 := Lib.hid (T3.out.at hb hb.size)
          have BX := Lib.hid hb
          clear hb
          by_cases hlt : k < l1.length + l2.length
          · have h3 : k < (l1 ++ l2).length := by simp; exact hlt
            obtain ⟨g3, o3, u3, hA3, hg3, a0, a1, a2, a3, ha⟩ := U3.out.get k h3
            subst hA3
            obtain ⟨sA, sc, rfl, _, _⟩ := ha.form
            by_cases h1 : k < l1.length
            · obtain ⟨g1, o1, u1, hA1, hg1, b0, b1, b2, b3, hb⟩ := U1.out.get k h1
              subst hA1
              obtain ⟨tA, tc, rfl, _, _⟩ := hb.form
              have heq : (l1 ++ l2)[k] = l1[k] := List.getElem_append_left h1
              rw [heq] at a0 a1 a2 a3 ha
              have HSm := Lib.hid (fun W (hW : Below wr.heap.size wr W) => (Same12_any l1[k] l1[k] _ _ W (ha.at hW hW.size) (hb.at hW hW.size)).mono (fun _ _ h => (⟨h.1, h.2, bthen hW h.2⟩ : _ ∧ _ ∧ Below wr.heap.size wr _)))
              rw [(sameS_iff _ _).2 rfl] at HSm
              generalize l1[k] = x at *
              have f1 : decide ((k : Int) < (l1.length : Int)) = true := by simp; omega
              have f2 : decide ((l1.length : Int) ≤ (k : Int)) = false := by simp; omega
              have HF4 := Lib.hid (show decide (l1.length ≤ k) = false from decide_eq_false (by omega))
              have f3 : decide (l1.length ≤ k) = false := decide_eq_false (by omega)
              have HF2 := Lib.hid f2
              have HF3 := Lib.hid f3
              clear ha hb heq f2 f3
              go_wp2_with fail
              refine wp_region_mid2 13 _ rfl (by kernel_rfl) (by kernel_rfl) ?_
              simp only [List.take_succ_cons, List.take_zero, List.drop_succ_cons, List.drop_zero]
              repeat still_step
              refine wpStill_nil ⟨rfl, ?_⟩
              intro K hK
              go_simp
              refine (HSm.out _ (Below.refl _ _).drew).mono ?_
              rintro e5 w5 ⟨rfl, hb5, hbw5⟩
              refine hK _ _ ?_
              clear hK K
              (with_reducible refine wpStill_val (.bool false) ?_ ?_ (fun K hK => ?_)); rfl; go_simp; go_simp; refine hK _ ?_; clear hK K
              (with_reducible refine wpStill_pick true (.bool false) _ _ _ rfl ?_ ?_ ?_ (fun K hK => ?_)); rfl; rfl; rfl; go_simp; refine hK _ ?_; clear hK K
              (with_reducible refine wpStill_move (.bool false) _ rfl ?_ ?_ (fun K hK => ?_)); rfl; rfl; go_simp; refine hK _ ?_; clear hK K
              (with_reducible refine wpStill_move (.int .i64 (k : Int)) _ rfl ?_ ?_ (fun K hK => ?_)); rfl; rfl; go_simp; refine hK _ ?_; clear hK K
              (with_reducible refine wpStill_move (.slice (some ⟨g1, o1, none⟩) l1.length c1) _ rfl ?_ ?_ (fun K hK => ?_)); rfl; rfl; go_simp; refine hK _ ?_; clear hK K
              (with_reducible refine wpStill_len (some ⟨g1, o1, none⟩) l1.length c1 _ 23 32 Tryz.underlying23 rfl ?_ ?_ (fun K hK => ?_)); rfl; rfl; go_simp; refine hK _ ?_; clear hK K
              (with_reducible refine wpStill_val (.bool false) ?_ ?_ (fun K hK => ?_)); rfl; exact (run_geq_op _ _ _ _ _ _ _ _ rfl rfl rfl).trans (by rw [HF2.out]); go_simp; refine hK _ ?_; clear hK K
              (with_reducible refine wpStill_move (.bool false) _ rfl ?_ ?_ (fun K hK => ?_)); rfl; rfl; go_simp; refine hK _ ?_; clear hK K
              (with_reducible refine wpStill_skip ?_ (fun K hK => ?_)); rfl; go_simp; refine hK _ ?_; clear hK K
              (with_reducible refine wpStill_skip ?_ (fun K hK => ?_)); rfl; go_simp; refine hK _ ?_; clear hK K
              (with_reducible refine wpStill_skip ?_ (fun K hK => ?_)); rfl; go_simp; refine hK _ ?_; clear hK K
              (with_reducible refine wpStill_skip ?_ (fun K hK => ?_)); rfl; go_simp; refine hK _ ?_; clear hK K
              (with_reducible refine wpStill_skip ?_ (fun K hK => ?_)); rfl; go_simp; refine hK _ ?_; clear hK K
              (with_reducible refine wpStill_skip ?_ (fun K hK => ?_)); rfl; go_simp; refine hK _ ?_; clear hK K
              (with_reducible refine wpStill_skip ?_ (fun K hK => ?_)); rfl; go_simp; refine hK _ ?_; clear hK K
              (with_reducible refine wpStill_skip ?_ (fun K hK => ?_)); rfl; go_simp; refine hK _ ?_; clear hK K
              (with_reducible refine wpStill_skip ?_ (fun K hK => ?_)); rfl; go_simp; refine hK _ ?_; clear hK K
              (with_reducible refine wpStill_skip ?_ (fun K hK => ?_)); rfl; go_simp; refine hK _ ?_; clear hK K
              (with_reducible refine wpStill_skip ?_ (fun K hK => ?_)); rfl; go_simp; refine hK _ ?_; clear hK K
              (with_reducible refine wpStill_skip ?_ (fun K hK => ?_)); rfl; go_simp; refine hK _ ?_; clear hK K
              (with_reducible refine wpStill_skip ?_ (fun K hK => ?_)); rfl; go_simp; refine hK _ ?_; clear hK K
              (with_reducible refine wpStill_pick false (.bool false) _ _ _ rfl ?_ ?_ ?_ (fun K hK => ?_)); rfl; rfl; rfl; go_simp; refine hK _ ?_; clear hK K
              (with_reducible refine wpStill_pick false (.bool false) _ _ _ rfl ?_ ?_ ?_ (fun K hK => ?_)); rfl; rfl; rfl; go_simp; refine hK _ ?_; clear hK K
              refine wpStill_nil ?_
              go_wp2_with fail
              go_roundw
              case rel => exact ⟨k + 1, by omega, by go_num, BX.out.trans (hbw5.mono BX.out.size)⟩
              case measure => simp [intOf]; omega
            · obtain ⟨k2, rfl⟩ : ∃ k2, k = l1.length + k2 := ⟨k - l1.length, by omega⟩
              have h2 : k2 < l2.length := by omega
              obtain ⟨g1, o1, u1, hA1, hg1, b0, b1, b2, b3, hb⟩ := U2.out.get k2 h2
              subst hA1
              obtain ⟨tA, tc, rfl, _, _⟩ := hb.form
              have heq : (l1 ++ l2)[l1.length + k2] = l2[k2] := by rw [List.getElem_append_right (by omega)]; simp
              rw [heq] at a0 a1 a2 a3 ha
              have HSm := Lib.hid (fun W (hW : Below wr.heap.size wr W) => (Same12_any l2[k2] l2[k2] _ _ W (ha.at hW hW.size) (hb.at hW hW.size)).mono (fun _ _ h => (⟨h.1, h.2, bthen hW h.2⟩ : _ ∧ _ ∧ Below wr.heap.size wr _)))
              rw [(sameS_iff _ _).2 rfl] at HSm
              generalize l2[k2] = x at *
              have HF1 := Lib.hid (show decide (((l1.length : Int) + (k2 : Int)) < (l1.length : Int)) = false from decide_eq_false (by omega))
              have HF2 := Lib.hid (show decide ((l1.length : Int) ≤ (l1.length : Int) + (k2 : Int)) = true from decide_eq_true (by omega))
              have HF3 := Lib.hid (show IntKind.i64.wrap ((l1.length : Int) + (k2 : Int) - (l1.length : Int)) = (k2 : Int) by rw [show (l1.length : Int) + (k2 : Int) - (l1.length : Int) = (k2 : Int) by omega]; exact IntWalk.i64_in _ (by omega))
              clear ha hb heq
              go_wp2_with fail
              refine wp_region_mid2 33 _ rfl (by kernel_rfl) (by kernel_rfl) ?_
              simp only [List.take_succ_cons, List.take_zero, List.drop_succ_cons, List.drop_zero]
              (with_reducible refine wpStill_move (.int .i64 ((l1.length : Int) + (k2 : Int))) _ rfl ?_ ?_ (fun K hK => ?_)); rfl; rfl; go_simp; refine hK _ ?_; clear hK K
              (with_reducible refine wpStill_move (.slice A1 l1.length c1) _ rfl ?_ ?_ (fun K hK => ?_)); rfl; rfl; go_simp; refine hK _ ?_; clear hK K
              (with_reducible refine wpStill_len A1 l1.length c1 _ 23 32 Tryz.underlying23 rfl ?_ ?_ (fun K hK => ?_)); rfl; rfl; go_simp; refine hK _ ?_; clear hK K
              (with_reducible refine wpStill_val (.bool false) ?_ ?_ (fun K hK => ?_)); rfl; exact (run_lss_op _ _ _ _ _ _ _ _ rfl rfl rfl).trans (by rw [HF1.out]); go_simp; refine hK _ ?_; clear hK K
              (with_reducible refine wpStill_move (.bool false) _ rfl ?_ ?_ (fun K hK => ?_)); rfl; rfl; go_simp; refine hK _ ?_; clear hK K
              (with_reducible refine wpStill_skip ?_ (fun K hK => ?_)); rfl; go_simp; refine hK _ ?_; clear hK K
              (with_reducible refine wpStill_skip ?_ (fun K hK => ?_)); rfl; go_simp; refine hK _ ?_; clear hK K
              (with_reducible refine wpStill_skip ?_ (fun K hK => ?_)); rfl; go_simp; refine hK _ ?_; clear hK K
              (with_reducible refine wpStill_skip ?_ (fun K hK => ?_)); rfl; go_simp; refine hK _ ?_; clear hK K
              (with_reducible refine wpStill_skip ?_ (fun K hK => ?_)); rfl; go_simp; refine hK _ ?_; clear hK K
              (with_reducible refine wpStill_skip ?_ (fun K hK => ?_)); rfl; go_simp; refine hK _ ?_; clear hK K
              (with_reducible refine wpStill_skip ?_ (fun K hK => ?_)); rfl; go_simp; refine hK _ ?_; clear hK K
              (with_reducible refine wpStill_skip ?_ (fun K hK => ?_)); rfl; go_simp; refine hK _ ?_; clear hK K
              (with_reducible refine wpStill_skip ?_ (fun K hK => ?_)); rfl; go_simp; refine hK _ ?_; clear hK K
              (with_reducible refine wpStill_skip ?_ (fun K hK => ?_)); rfl; go_simp; refine hK _ ?_; clear hK K
              (with_reducible refine wpStill_pick false (.bool false) _ _ _ rfl ?_ ?_ ?_ (fun K hK => ?_)); rfl; rfl; rfl; go_simp; refine hK _ ?_; clear hK K
              (with_reducible refine wpStill_move (.bool false) _ rfl ?_ ?_ (fun K hK => ?_)); rfl; rfl; go_simp; refine hK _ ?_; clear hK K
              (with_reducible refine wpStill_move (.int .i64 ((l1.length : Int) + (k2 : Int))) _ rfl ?_ ?_ (fun K hK => ?_)); rfl; rfl; go_simp; refine hK _ ?_; clear hK K
              (with_reducible refine wpStill_move (.slice A1 l1.length c1) _ rfl ?_ ?_ (fun K hK => ?_)); rfl; rfl; go_simp; refine hK _ ?_; clear hK K
              (with_reducible refine wpStill_len A1 l1.length c1 _ 23 32 Tryz.underlying23 rfl ?_ ?_ (fun K hK => ?_)); rfl; rfl; go_simp; refine hK _ ?_; clear hK K
              (with_reducible refine wpStill_val (.bool true) ?_ ?_ (fun K hK => ?_)); rfl; exact (run_geq_op _ _ _ _ _ _ _ _ rfl rfl rfl).trans (by rw [HF2.out]); go_simp; refine hK _ ?_; clear hK K
              (with_reducible refine wpStill_move (.bool true) _ rfl ?_ ?_ (fun K hK => ?_)); rfl; rfl; go_simp; refine hK _ ?_; clear hK K
              (with_reducible refine wpStill_move (.slice (some ⟨g3, o3, none⟩) (l1.length + l2.length) c3) _ rfl ?_ ?_ (fun K hK => ?_)); rfl; rfl; go_simp; refine hK _ ?_; clear hK K
              (with_reducible refine wpStill_move (.int .i64 ((l1.length : Int) + (k2 : Int))) _ rfl ?_ ?_ (fun K hK => ?_)); rfl; rfl; go_simp; refine hK _ ?_; clear hK K
              have z0 : (0 : Int) ≤ (l1.length : Int) + (k2 : Int) := by omega
              have z1 : ((l1.length : Int) + (k2 : Int)).toNat = l1.length + k2 := by omega
              still_step
              still_step
              clear z0 z1
              (with_reducible refine wpStill_move (.slice (some ⟨g1, o1, none⟩) l2.length c2) _ rfl ?_ ?_ (fun K hK => ?_)); rfl; rfl; go_simp; refine hK _ ?_; clear hK K
              (with_reducible refine wpStill_move (.int .i64 ((l1.length : Int) + (k2 : Int))) _ rfl ?_ ?_ (fun K hK => ?_)); rfl; rfl; go_simp; refine hK _ ?_; clear hK K
              (with_reducible refine wpStill_move (.slice A1 l1.length c1) _ rfl ?_ ?_ (fun K hK => ?_)); rfl; rfl; go_simp; refine hK _ ?_; clear hK K
              (with_reducible refine wpStill_len A1 l1.length c1 _ 23 32 Tryz.underlying23 rfl ?_ ?_ (fun K hK => ?_)); rfl; rfl; go_simp; refine hK _ ?_; clear hK K
              (with_reducible refine wpStill_val (.int .i64 (k2 : Int)) ?_ ?_ (fun K hK => ?_)); rfl; exact (run_sub_op _ _ _ _ _ _ _ _ rfl rfl rfl).trans (by rw [HF3.out]); go_simp; refine hK _ ?_; clear hK K
              still_step
              still_step
              refine wpStill_nil ⟨rfl, ?_⟩
              intro K hK
              go_simp
              refine (HSm.out _ (Below.refl _ _).drew).mono ?_
              rintro e5 w5 ⟨rfl, hb5, hbw5⟩
              refine hK _ _ ?_
              clear hK K
              (with_reducible refine wpStill_val (.bool false) ?_ ?_ (fun K hK => ?_)); rfl; go_simp; go_simp; refine hK _ ?_; clear hK K
              (with_reducible refine wpStill_pick true (.bool false) _ _ _ rfl ?_ ?_ ?_ (fun K hK => ?_)); rfl; rfl; rfl; go_simp; refine hK _ ?_; clear hK K
              (with_reducible refine wpStill_pick false (.bool false) _ _ _ rfl ?_ ?_ ?_ (fun K hK => ?_)); rfl; rfl; rfl; go_simp; refine hK _ ?_; clear hK K
              refine wpStill_nil ?_
              go_wp2_with fail
              go_roundw
              case rel => exact ⟨l1.length + k2 + 1, by omega, by go_num, BX.out.trans (hbw5.mono BX.out.size)⟩
              case measure => simp [intOf]; omega
          · obtain rfl : k = l1.length + l2.length := by omega
            go_wp2_with fail
            refine (HAl.out _ (hg.below BW.out)).mono ?_
            rintro e w4 ⟨rfl, hb4⟩
            go_wp2_with fail
            go_ret
            exact ⟨rfl, bthen BW.out hb4⟩
      · have hn3 := HN2.out
        rw [if_pos hq2] at hn3
        injection hn3 with hn31 hn32
        injection hn32 with hn32 hn33
        subst hn31 hn32 hn33
        have e3 : ((q3 : Int) != 0) = true := by rw [bne_iff_ne]; omega
        clear HN HJ HN2 hn hq2
        go_wp2_with fail
        refine (HAl.out _ (hg.below (B3.out _))).mono ?_
        rintro e w4 ⟨rfl, hb4⟩
        go_wp2_with fail
        go_ret
        exact ⟨rfl, bthen (B3.out _) hb4⟩
    · obtain ⟨h3, hl1⟩ := HJ.out hq1
      injection h3 with h31 h32
      injection h32 with h32 h33
      subst h31 h32 h33 hl1
      have e3 : ((q3 : Int) != 0) = true := by rw [bne_iff_ne]; omega
      clear HN HJ hq1
      go_wp2_with fail
      refine (HAl.out _ (hg.below (B3.out _))).mono ?_
      rintro e w4 ⟨rfl, hb4⟩
      go_wp2_with fail
      go_ret
      exact ⟨rfl, bthen (B3.out _) hb4⟩
end Go.Proofs.YtpcpjghfcimblaaGreatDoor

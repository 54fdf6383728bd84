/- Text86Words: the walk. -/
import Derived.Test.YtmmdniahfldljaaDoorT86k
import Derived.Test.YtmmdniahfldljaaDoorT86d
namespace Go.Proofs.YtmmdniahfldljaaDoor
open Go.RowKit

set_option maxHeartbeats 1000000 in
theorem own08_any (op d s : Int) (n : Nat) (w : World) : Calls Tryd.prog 5 #[.agg #[.int .i64 op, .int .i64 d, .int .i64 s, .int .u16 n]] w fun e w' => e = .returned (.agg #[.int .i64 op, .int .i64 d, .int .i64 s, .int .u16 n]) ∧ Below w.heap.size w w' := by
  go_enter Tryd.func5, Tryd.ntmps5
  go_wp2_with fail
  exact bodyPost_ret (v := .agg #[.int .i64 op, .int .i64 d, .int .i64 s, .int .u16 n]) (by simp [results, Tryd.results5, go_sem]) rfl ⟨rfl, ((Below.refl _ _).alloc (Nat.le_refl _) _).alloc (by simp) _⟩
theorem count_take (t : List UInt8) (k : Nat) (hk : k < t.length) : (t.take (k + 1)).count 44 = (t.take k).count 44 + (if (t[k].toNat : Int) = 44 then 1 else 0) := by
  rw [List.take_succ_eq_append_getElem hk, List.count_append, List.count_singleton]
  congr 1
  by_cases h : t[k] = 44
  · rw [h]; simp
  · have : ¬ (t[k].toNat : Int) = 44 := fun h2 => h (by
      have : t[k].toNat = 44 := by omega
      exact UInt8.toNat_inj.1 (by simpa using this))
    simp [h, this]
set_option maxHeartbeats 4000000 in
set_option maxRecDepth 100000 in
theorem text86Words_walk (op d s : Int) (n : Nat) (hn : n ≤ 65535) (h1 : -9223372036854775808 ≤ op) (h1' : op ≤ 9223372036854775807) (h2 : -9223372036854775808 ≤ d) (h2' : d ≤ 9223372036854775807) (h3 : -9223372036854775808 ≤ s) (h3' : s ≤ 9223372036854775807) (w : World) (hg : GW9 w) :
    Calls Tryd.prog 3 #[.agg #[.int .i64 op, .int .i64 d, .int .i64 s, .int .u16 n]] w fun e w' => e = .returned (.bool true) ∧ Below w.heap.size w w' := by
  have HS := Lib.hid (fun W (hW : GW9 W) => Show9_w op d s n hn h1 h1' h2 h2' h3 h3' W hW (okAll op d s) (fun W' => Right_w op d s n h1 h1' W'))
  have HN := Lib.hid (fun W (hW : GW9 W) => Name9_any op W hW h1 h1')
  have HWD := Lib.hid (fun h => words_ok op d s n hn h)
  have HO := Lib.hid (fun W => own08_any op d s n W)
  have HA := Lib.hid (fun W (hW : GW9 W) => alive9_any W hW)
  go_enter Tryd.func3, Tryd.ntmps3
  go_wp2_with fail
  refine (HO.out _).mono ?_
  rintro e w1 ⟨rfl, hb1⟩
  have B1 := Lib.hid (bthen ((Below.refl w.heap.size w).alloc (Nat.le_refl _) _) hb1)
  have C1 := Lib.hid ((hb1.block w.heap.size (by simp)).trans (heap_alloc_new w _))
  clear hb1
  go_wp2_with fail
  refine (HS.out _ (hg.below B1.out)).mono ?_
  rintro e w2 ⟨k, t, rfl, hk, hb2⟩
  have B2 := Lib.hid (bthen B1.out hb2)
  have C2 := Lib.hid ((hb2.block w.heap.size (lt_of_heap C1.out)).trans C1.out)
  clear hb2 C1
  rcases hk with ⟨rfl, hP, ht⟩ | ⟨hk, rfl⟩
  · have HW := HWD.out hP
    rw [ht] at HW
    clear ht hP
    obtain ⟨q1, q2, q3, q4, ⟨b, q5, q6, q7⟩, q8, q9⟩ := HW
    have Q4 := Lib.hid q4
    have Q5 := Lib.hid q5
    have Q8 := Lib.hid q8
    have Q9 := Lib.hid q9
    clear q4 q5 q8 q9
    generalize nameL op = nm at *
    have g0 : ((t.length : Int) == 0) = false := by rw [beq_eq_false_iff_ne]; omega
    have c0 := cell_of_heap (i := 0) C2.out
    simp at c0
    go_wp2_with fail
    refine (HN.out _ (hg.below B2.out)).mono ?_
    rintro e w3 ⟨rfl, hb3⟩
    have B3 := Lib.hid (bthen B2.out hb3)
    have C3 := Lib.hid ((hb3.block w.heap.size (lt_of_heap C2.out)).trans C2.out)
    clear hb3 C2 c0
    go_wp2_with fail
    go_loop [6, 7] (fun c i => ∃ j : Nat, j ≤ t.length ∧ i = .int .i64 j ∧ c = .int .i64 ((t.take j).count 44 : Nat)) (fun _ i => t.length - (intOf i).toNat)
    case atStart => exact ⟨0, Nat.zero_le _, rfl, by simp⟩
    case round =>
      obtain ⟨j, hj, rfl, rfl⟩ := hrel
      have hcl : (t.take j).count 44 ≤ j := Nat.le_trans List.count_le_length (List.length_take_le _ _)
      by_cases hlt : j < t.length
      · have HC := Lib.hid (count_take t j hlt)
        by_cases hb : (t[j].toNat : Int) = 44
        · have HC2 := Lib.hid (show (t.take (j + 1)).count 44 = (t.take j).count 44 + 1 by rw [HC.out, if_pos hb])
          have hb' : ((t[j].toNat : Int) == 44) = true := by simpa using hb
          generalize (t.take j).count 44 = cj at *
          clear HC hb
          go_wp2_with fail
          go_round
          case rel => exact ⟨j + 1, by omega, by go_num, by rw [HC2.out]; go_num⟩
          case measure => simp [intOf]; omega
        · have HC2 := Lib.hid (show (t.take (j + 1)).count 44 = (t.take j).count 44 by rw [HC.out, if_neg hb]; rfl)
          have hb' : ((t[j].toNat : Int) == 44) = false := by simpa using hb
          generalize (t.take j).count 44 = cj at *
          clear HC hb
          go_wp2_with fail
          go_round
          case rel => exact ⟨j + 1, by omega, by go_num, by rw [HC2.out]⟩
          case measure => simp [intOf]; omega
      · obtain rfl : j = t.length := by omega
        rw [List.take_length, Q8.out]
        have c1 := cell_of_heap (i := 1) C3.out
        have c2 := cell_of_heap (i := 2) C3.out
        simp at c1 c2
        obtain ⟨hl5, hb5⟩ := List.getElem?_eq_some_iff.1 Q5.out
        have hb6 : t[t.length - 1] = b := hb5
        have b1 : ((b.toNat : Int) != 32) = true := by rw [bne_iff_ne]; omega
        have b2 : ((b.toNat : Int) != 44) = true := by rw [bne_iff_ne]; omega
        have hk4 := Q4.out
        have hlx : ((t.length : Int) - 1).toNat = t.length - 1 := by omega
        have key : (s = 0 ∧ d = 0 ∧ t = nm) ∨ (s = 0 ∧ d ≠ 0) ∨ (s ≠ 0 ∧ d = 0 ∧ t = nm) ∨ (s ≠ 0 ∧ d ≠ 0) := by
          by_cases hs0 : s = 0 <;> by_cases hd0 : d = 0
          · exact .inl ⟨hs0, hd0, Q9.out hd0⟩
          · exact .inr (.inl ⟨hs0, hd0⟩)
          · exact .inr (.inr (.inl ⟨hs0, hd0, Q9.out hd0⟩))
          · exact .inr (.inr (.inr ⟨hs0, hd0⟩))
        clear hb5
        rcases key with ⟨rfl, rfl, rfl⟩ | ⟨rfl, hd0⟩ | ⟨hs0, rfl, rfl⟩ | ⟨hs0, hd0⟩
        · rw [if_pos rfl]
          go_wp2_with fail
          refine (HA.out _ (hg.below B3.out)).mono ?_
          rintro e w4 ⟨rfl, hb4⟩
          go_wp2_with fail
          go_ret
          exact ⟨rfl, bthen B3.out hb4⟩
        · rw [if_pos rfl]
          have d1 : (d != 0) = true := by rw [bne_iff_ne]; exact hd0
          go_wp2_with fail
          refine (HA.out _ (hg.below B3.out)).mono ?_
          rintro e w4 ⟨rfl, hb4⟩
          go_wp2_with fail
          go_ret
          exact ⟨rfl, bthen B3.out hb4⟩
        · rw [if_neg hs0]
          have s1 : (s != 0) = true := by rw [bne_iff_ne]; exact hs0
          go_wp2_with fail
          refine (HA.out _ (hg.below B3.out)).mono ?_
          rintro e w4 ⟨rfl, hb4⟩
          go_wp2_with fail
          go_ret
          exact ⟨rfl, bthen B3.out hb4⟩
        · rw [if_neg hs0]
          have s1 : (s != 0) = true := by rw [bne_iff_ne]; exact hs0
          have d1 : (d != 0) = true := by rw [bne_iff_ne]; exact hd0
          go_wp2_with fail
          refine (HA.out _ (hg.below B3.out)).mono ?_
          rintro e w4 ⟨rfl, hb4⟩
          go_wp2_with fail
          go_ret
          exact ⟨rfl, bthen B3.out hb4⟩
  · have e1 : (k == 0) = false := by simpa using hk
    have e2 : (k != 0) = true := by simpa using hk
    clear hk C2
    go_wp2_with fail
    refine (HA.out _ (hg.below B2.out)).mono ?_
    rintro e w3 ⟨rfl, hb3⟩
    go_wp2_with fail
    go_ret
    exact ⟨rfl, bthen B2.out hb3⟩
end Go.Proofs.YtmmdniahfldljaaDoor

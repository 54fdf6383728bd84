/- The walk of TokenKinds. -/
import Derived.Test.YtnpphfhjpflgiaaDoorLawTok
namespace Go.Proofs.YtnpphfhjpflgiaaDoor
open Go.RowKit

theorem new_cell {wr w2 : World} {cs : List Value} {T : TypeId} (hb : Below (wr.alloc (.cells cs.toArray T)).drew.heap.size (wr.alloc (.cells cs.toArray T)).drew w2) (j : Nat) (u : Value) (h : cs[j]? = some u) : w2.cell? ⟨wr.heap.size, j, none⟩ = some u := by
  have h1 := cells_new1 wr cs T j u h
  rw [addr_add, Nat.zero_add] at h1
  exact (hb.cell (p := ⟨wr.heap.size, j, none⟩) (by show wr.heap.size < (wr.alloc _).heap.size; simp)).trans h1

theorem new_cell0 {wr w2 : World} {cs : List Value} {T : TypeId} (hb : Below (wr.alloc (.cells cs.toArray T)).heap.size (wr.alloc (.cells cs.toArray T)) w2) (j : Nat) (u : Value) (h : cs[j]? = some u) : w2.cell? ⟨wr.heap.size, j, none⟩ = some u := by
  have h1 := cells_new wr cs T j u h
  rw [addr_add, Nat.zero_add] at h1
  exact (hb.cell (p := ⟨wr.heap.size, j, none⟩) (by simp)).trans h1

set_option maxHeartbeats 2000000 in
set_option maxRecDepth 100000 in
theorem tokenKinds_walk (l : List UInt8) (hl : l.length ≤ maxLen) (w : World) (hg : GW w) :
    Calls Tryd.prog 7 #[.string ⟨l.toArray⟩] w fun e w' => e = .returned (.bool true) ∧ Below w.heap.size w w' := by
  unfold maxLen at hl
  by_cases h : 2000 < l.length
  · have h' : (2000 : Int) < (l.length : Int) := by omega
    go_enter Tryd.func7, Tryd.ntmps7
    go_wp2_with fail
    refine (alive4_any _ hg).mono ?_
    rintro e w1 ⟨rfl, hb⟩
    go_wp2_with fail
    go_ret
    exact ⟨rfl, hb⟩
  have h' : (l.length : Int) ≤ 2000 := by omega
  have hcnt := lineL_count l
  have hgood := Lib.hid (lineL_good l)
  have hsm := Lib.hid (lineL_small l)
  go_enter Tryd.func7, Tryd.ntmps7
  go_wp2_with fail
  refine (line_any l _ hg (by omega)).mono ?_
  rintro e w1 ⟨va, rfl, ho1, hb1⟩
  generalize lineL l = L at *
  obtain ⟨ts, kd⟩ := L
  replace hcnt : ts.length ≤ 200 := hcnt
  have hcnt' : (ts.length : Int) ≤ 200 := by omega
  have HR := Lib.hid (show Rd w1 w1.heap.size va ts.length (tokRow ts) from Rd.of_own ho1)
  clear ho1
  obtain ⟨A, c, rfl, hc⟩ := HR.out.form
  go_wp2_with fail
  go_loopw [5] (fun i wr => ∃ k : Nat, k ≤ ts.length ∧ i = .int .i64 k ∧ Below w1.heap.size w1 wr) (fun i _ => ts.length - (intOf i).toNat)
  case atStart => exact ⟨0, Nat.zero_le _, rfl, Below.refl _ _⟩
  case round =>
    obtain ⟨k, hk, rfl, hb⟩ := hrel
    have hsz := hb.size
    by_cases hlt : k < ts.length
    · obtain ⟨g, o, rfl, hg', c1, c2, c3⟩ := HR.out.tok k hlt
      have hgk := hgood.out ts[k] (List.getElem_mem _)
      have hnk := hsm.out ts[k] (List.getElem_mem _)
      generalize ts[k] = t at *
      have d1 := (hb.cell (p := ⟨g, o + k * 3, none⟩) hg').trans c1
      have d2 := (hb.cell (p := ⟨g, o + k * 3 + 1, none⟩) hg').trans c2
      have d3 := (hb.cell (p := ⟨g, o + k * 3 + 2, none⟩) hg').trans c3
      clear c1 c2 c3
      obtain ⟨tk, tS, tn⟩ := t
      simp only at hnk d1 d2 d3
      have hg2 := (hg.below hb1).below (hb.alloc hsz (.cells #[.int .i64 tk, .string ⟨tS.toArray⟩, .int .u16 tn] 41))
      rcases hgk with ⟨e1, e2, e3, e4⟩ | ⟨e1, e2, e3⟩ | ⟨e1, e2, e3⟩ | ⟨e1, ⟨m, e2, e3⟩, e4⟩
      · simp only at e1 e2 e3 e4
        subst e1 e4
        have hN : ∀ W : World, Calls Tryd.prog 22 #[.string ⟨tS.toArray⟩] W fun e w' => e = .returned (.bool true) ∧ W = w' := by
          intro W; have := name_any tS W (by have := hnk.2; omega); rw [e2] at this; exact this
        have hU : ∀ W : World, Calls Tryd.prog 23 #[.string ⟨tS.toArray⟩] W fun e w' => e = .returned (.string ⟨tS.toArray⟩) ∧ Below W.heap.size W w' := by
          intro W; have := upper_any tS W (by have := hnk.2; omega); rw [e3] at this; exact this
        go_wp2_with fail
        go_region_law (first | (go_simp; go_at_call 22; refine (hN _).mono ?_; rintro e w' ⟨rfl, rfl⟩) | (go_simp; go_at_call 23; refine (hU _).mono ?_; rintro e w2 ⟨rfl, hbU⟩; have q1 := new_cell hbU 1 (.string ⟨tS.toArray⟩) rfl; have q2 := new_cell hbU 2 (.int .u16 0) rfl))
        all_goals (
          have hb4 : Below w1.heap.size w1 w2 := bthen (hb.alloc hsz _).drew hbU
          go_simp
          go_wp2_with fail
          go_roundw
          case rel => exact ⟨k + 1, by omega, by go_num, hb4⟩
          case measure => simp [intOf]; omega)
      · simp only at e1 e2 e3
        subst e1 e2
        go_wp2_with fail
        go_roundw
        case rel => exact ⟨k + 1, by omega, by go_num, hb.alloc hsz _⟩
        case measure => simp [intOf]; omega
      · simp only at e1 e2 e3
        subst e1 e3
        have hql : (quoteL tS).length ≤ 1000000 := by have := (dbl_length tS).2; have := hnk.2; unfold quoteL; simp; omega
        have hq := quote_back tS
        rw [e2] at hq
        simp only [Bool.false_eq_true, if_false] at hq
        have HQ := Lib.hid hq
        clear hq
        go_wp2_with fail
        refine (quote_any tS _ hg2 (by have := hnk.2; omega)).mono ?_
        rintro e w2 ⟨rfl, hb2⟩
        have B2 := bthen (hb.alloc hsz _) hb2
        go_wp2_with fail
        refine (unquote_any (quoteL tS) _ ((hg.below hb1).below B2) hql).mono ?_
        rintro e w3 ⟨rfl, hb3⟩
        rw [HQ.out]
        have B3 := bthen B2 hb3
        have hb23 := bthen hb2 hb3
        have q1 := new_cell0 (wr := wr) (T := 41) (cs := [.int .i64 3, .string ⟨tS.toArray⟩, .int .u16 ((0 : Nat) : Int)]) hb23 1 (.string ⟨tS.toArray⟩) rfl
        have q2 := new_cell0 (wr := wr) (T := 41) (cs := [.int .i64 3, .string ⟨tS.toArray⟩, .int .u16 ((0 : Nat) : Int)]) hb23 2 (.int .u16 0) rfl
        go_wp2_with fail
        go_roundw
        case rel => exact ⟨k + 1, by omega, by go_num, B3⟩
        case measure => simp [intOf]; omega
      · simp only at e1 e2 e4
        subst e1 e2 e4
        go_wp2_with fail
        go_roundw
        case rel => exact ⟨k + 1, by omega, by go_num, hb.alloc hsz _⟩
        case measure => simp [intOf]; omega
    · obtain rfl : k = ts.length := by omega
      go_wp2_with fail
      refine (alive4_any _ ((hg.below hb1).below hb)).mono ?_
      rintro e w2 ⟨rfl, hb2⟩
      go_wp2_with fail
      go_ret
      exact ⟨rfl, bthen (hb1.trans (hb.mono hb1.size)) hb2⟩
end Go.Proofs.YtnpphfhjpflgiaaDoor

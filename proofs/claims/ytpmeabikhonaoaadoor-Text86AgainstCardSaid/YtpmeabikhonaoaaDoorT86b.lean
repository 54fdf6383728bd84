/- text86.Op; the document's lists. -/
import Derived.Test.YtpmeabikhonaoaaDoorT86a
namespace Go.Proofs.YtpmeabikhonaoaaDoor
open Go.RowKit

theorem index_0 (A A' A'' : Option Addr) (n n' n'' : Nat) (f f' f'' : Int) (w : World) : Sem.run Tryd.prog (Instr.index 90 (.agg #[.slice A n n, .int .i64 f, .slice A' n' n', .int .i64 f', .slice A'' n'' n'', .int .i64 f'']) (.int .i64 0)) w = .ok (.agg #[.slice A n n, .int .i64 f]) w := by kernel_rfl
theorem index_1 (A A' A'' : Option Addr) (n n' n'' : Nat) (f f' f'' : Int) (w : World) : Sem.run Tryd.prog (Instr.index 90 (.agg #[.slice A n n, .int .i64 f, .slice A' n' n', .int .i64 f', .slice A'' n'' n'', .int .i64 f'']) (.int .i64 1)) w = .ok (.agg #[.slice A' n' n', .int .i64 f']) w := by kernel_rfl
theorem index_2 (A A' A'' : Option Addr) (n n' n'' : Nat) (f f' f'' : Int) (w : World) : Sem.run Tryd.prog (Instr.index 90 (.agg #[.slice A n n, .int .i64 f, .slice A' n' n', .int .i64 f', .slice A'' n'' n'', .int .i64 f'']) (.int .i64 2)) w = .ok (.agg #[.slice A'' n'' n'', .int .i64 f'']) w := by kernel_rfl
attribute [go_sem] index_0 index_1 index_2
def OpRel (s : List UInt8) (w : World) (i : Value) (wr : World) : Prop := ∃ k : Nat, k ≤ 3 ∧ i = .int .i64 k ∧ (1 ≤ k → (codeL plainW 1 s).2 = false) ∧ (2 ≤ k → (codeL equalW 42 s).2 = false) ∧ (3 ≤ k → (codeL signW 48 s).2 = false) ∧ Below w.heap.size w wr
set_option maxHeartbeats 1000000 in
set_option maxRecDepth 100000 in
theorem Op9_any (s : List UInt8) (w : World) (hg : GW9 w) :
    Calls Tryd.prog 36 #[.string ⟨s.toArray⟩] w fun e w' => e = .returned (.tuple #[.int .i64 (opL s).1, .bool (opL s).2]) ∧ Below w.heap.size w w' := by
  go_enter Tryd.func36, Tryd.ntmps36
  go_wp2_with fail
  refine (plain_any _ hg).mono ?_
  rintro e w1 ⟨v1, rfl, hW1', hb1'⟩
  obtain ⟨g1, n1, rfl⟩ := hW1'.form
  have hW1 := Lib.hid hW1'
  have hb1 := Lib.hid hb1'
  clear hW1' hb1'
  go_wp2_with fail
  refine (equal_any _ (hg.below hb1.out)).mono ?_
  rintro e w3 ⟨v3, rfl, hW3', hb3'⟩
  obtain ⟨g3, n3, rfl⟩ := hW3'.form
  have hW3 := Lib.hid hW3'
  have hb3 := Lib.hid (bthen hb1.out hb3')
  have hW1' := Lib.hid (hW1.out.below hb3')
  clear hW3' hb3' hW1 hb1
  go_wp2_with fail
  refine (sign_any _ (hg.below hb3.out)).mono ?_
  rintro e w5 ⟨v5, rfl, hW5', hb5'⟩
  obtain ⟨g5, n5, rfl⟩ := hW5'.form
  have hb5 := Lib.hid (bthen hb3.out hb5')
  have hW1 := Lib.hid (hW1'.out.below hb5')
  have hW3' := Lib.hid (hW3.out.below hb5')
  have hW5 := Lib.hid hW5'
  clear hW5' hb5' hW3 hb3 hW1'
  go_wp2_with fail
  go_loopw [12] (fun i wr => OpRel s w5 i wr) (fun i _ => 3 - (intOf i).toNat)
  case atStart => exact ⟨0, by omega, rfl, by simp, by simp, by simp, Below.refl _ _⟩
  case round =>
    obtain ⟨k, hk, rfl, q1, q2, q3, hbr'⟩ := hrel
    have hbr := Lib.hid hbr'
    clear hbr'
    obtain rfl | rfl | rfl | rfl : k = 0 ∨ k = 1 ∨ k = 2 ∨ k = 3 := by omega
    · have HC := Lib.hid (fun W (hW : Below w5.heap.size w5 W) => code_any plainW 1 s _ W (hW1.out.below hW) (by omega) (by omega) (by decide))
      clear q1 q2 q3
      cases hq : (codeL plainW 1 s).2 with
      | true =>
        have HO := Lib.hid (show opL s = ((codeL plainW 1 s).1, true) by unfold opL; rw [if_pos hq, ← hq])
        rw [hq] at HC
        generalize (codeL plainW 1 s).1 = z at *
        clear hq
        go_wp2_with fail
        refine (HC.out _ (hbr.out.alloc hbr.out.size _)).mono ?_
        rintro e w7 ⟨rfl, hb7⟩
        have B7 := Lib.hid (bthen hb5.out (bthen (hbr.out.alloc hbr.out.size _) hb7))
        clear hb7
        go_wp2_with fail
        go_ret2
        rw [HO.out]
        exact ⟨rfl, B7.out⟩
      | false =>
        have HQ := Lib.hid hq
        rw [hq] at HC
        generalize (codeL plainW 1 s).1 = z at *
        clear hq
        go_wp2_with fail
        refine (HC.out _ (hbr.out.alloc hbr.out.size _)).mono ?_
        rintro e w7 ⟨rfl, hb7⟩
        have B7 := Lib.hid (bthen (hbr.out.alloc hbr.out.size _) hb7)
        clear hb7
        go_wp2_with fail
        go_roundw
        case rel => exact ⟨1, by omega, by go_num, fun _ => HQ.out, fun h => by omega, fun h => by omega, B7.out⟩
        case measure => simp [intOf]
    · have HC := Lib.hid (fun W (hW : Below w5.heap.size w5 W) => code_any equalW 42 s _ W (hW3'.out.below hW) (by omega) (by omega) (by decide))
      have Q1 := Lib.hid (q1 (by omega))
      clear q1 q2 q3
      cases hq : (codeL equalW 42 s).2 with
      | true =>
        have HO := Lib.hid (show opL s = ((codeL equalW 42 s).1, true) by unfold opL; rw [if_neg (by rw [Q1.out]; simp)]; rw [if_pos hq, ← hq])
        rw [hq] at HC
        generalize (codeL equalW 42 s).1 = z at *
        clear hq
        go_wp2_with fail
        refine (HC.out _ (hbr.out.alloc hbr.out.size _)).mono ?_
        rintro e w7 ⟨rfl, hb7⟩
        have B7 := Lib.hid (bthen hb5.out (bthen (hbr.out.alloc hbr.out.size _) hb7))
        clear hb7
        go_wp2_with fail
        go_ret2
        rw [HO.out]
        exact ⟨rfl, B7.out⟩
      | false =>
        have HQ := Lib.hid hq
        rw [hq] at HC
        generalize (codeL equalW 42 s).1 = z at *
        clear hq
        go_wp2_with fail
        refine (HC.out _ (hbr.out.alloc hbr.out.size _)).mono ?_
        rintro e w7 ⟨rfl, hb7⟩
        have B7 := Lib.hid (bthen (hbr.out.alloc hbr.out.size _) hb7)
        clear hb7
        go_wp2_with fail
        go_roundw
        case rel => exact ⟨2, by omega, by go_num, fun _ => Q1.out, fun _ => HQ.out, fun h => by omega, B7.out⟩
        case measure => simp [intOf]
    · have HC := Lib.hid (fun W (hW : Below w5.heap.size w5 W) => code_any signW 48 s _ W (hW5.out.below hW) (by omega) (by omega) (by decide))
      have Q1 := Lib.hid (q1 (by omega))
      have Q2 := Lib.hid (q2 (by omega))
      clear q1 q2 q3
      cases hq : (codeL signW 48 s).2 with
      | true =>
        have HO := Lib.hid (show opL s = ((codeL signW 48 s).1, true) by unfold opL; rw [if_neg (by rw [Q1.out]; simp)]; rw [if_neg (by rw [Q2.out]; simp)]; rw [if_pos hq, ← hq])
        rw [hq] at HC
        generalize (codeL signW 48 s).1 = z at *
        clear hq
        go_wp2_with fail
        refine (HC.out _ (hbr.out.alloc hbr.out.size _)).mono ?_
        rintro e w7 ⟨rfl, hb7⟩
        have B7 := Lib.hid (bthen hb5.out (bthen (hbr.out.alloc hbr.out.size _) hb7))
        clear hb7
        go_wp2_with fail
        go_ret2
        rw [HO.out]
        exact ⟨rfl, B7.out⟩
      | false =>
        have HQ := Lib.hid hq
        rw [hq] at HC
        generalize (codeL signW 48 s).1 = z at *
        clear hq
        go_wp2_with fail
        refine (HC.out _ (hbr.out.alloc hbr.out.size _)).mono ?_
        rintro e w7 ⟨rfl, hb7⟩
        have B7 := Lib.hid (bthen (hbr.out.alloc hbr.out.size _) hb7)
        clear hb7
        go_wp2_with fail
        go_roundw
        case rel => exact ⟨3, by omega, by go_num, fun _ => Q1.out, fun _ => Q2.out, fun _ => HQ.out, B7.out⟩
        case measure => simp [intOf]
    · have HO := Lib.hid (show opL s = (0, false) by unfold opL; rw [if_neg (by rw [q1 (by omega)]; simp), if_neg (by rw [q2 (by omega)]; simp), if_neg (by rw [q3 (by omega)]; simp)])
      clear q1 q2 q3
      go_wp2_with fail
      go_ret2
      rw [HO.out]
      exact ⟨rfl, bthen hb5.out hbr.out⟩
set_option maxHeartbeats 1000000 in
set_option maxRecDepth 100000 in
theorem names9_any (w : World) : Calls Tryd.prog 67 #[] w fun e w' => ∃ v, e = .returned v ∧ WAt w' namesR v ∧ Below w.heap.size w w' := by
  go_enter Tryd.func67, Tryd.ntmps67
  go_wp2_with fail
  go_ret
  exact ⟨_, rfl, fields_laid w namesR, (Below.refl _ _).alloc (Nat.le_refl _) _⟩
set_option maxHeartbeats 1000000 in
set_option maxRecDepth 100000 in
theorem args9_any (w : World) : Calls Tryd.prog 65 #[] w fun e w' => ∃ v, e = .returned v ∧ WAt w' argsR v ∧ Below w.heap.size w w' := by
  go_enter Tryd.func65, Tryd.ntmps65
  go_wp2_with fail
  go_ret
  exact ⟨_, rfl, fields_laid w argsR, (Below.refl _ _).alloc (Nat.le_refl _) _⟩
set_option maxHeartbeats 400000 in
theorem at9_any (ws : List (List UInt8)) (c : Int) (v : Value) (w : World) (hW : WAt w ws v) (hc : -9223372036854775808 ≤ c) (hc' : c ≤ 9223372036854775807) :
    Calls Tryd.prog 66 #[v, .int .i64 c] w fun e w' => e = .returned (.string ⟨(ofL ws 0 c).toArray⟩) ∧ w = w' := by
  obtain ⟨g, rfl, hg, hcell⟩ := hW
  by_cases h1 : c < 0
  · have HO := Lib.hid (ofL_lo ws 0 c h1)
    clear hcell
    go_enter Tryd.func66, Tryd.ntmps66
    go_wp2_with fail
    go_ret
    rw [HO.out]
    exact ⟨rfl, rfl⟩
  · obtain ⟨k, rfl⟩ : ∃ k : Nat, c = k := ⟨c.toNat, by omega⟩
    by_cases h3 : ws.length ≤ k
    · have HO := Lib.hid (ofL_hi ws 0 k (by omega))
      clear hcell
      go_enter Tryd.func66, Tryd.ntmps66
      go_wp2_with fail
      go_ret
      rw [HO.out]
      exact ⟨rfl, rfl⟩
    · have hk : k < ws.length := by omega
      have HO := Lib.hid (show ofL ws 0 k = ws[k] by unfold ofL; rw [if_neg (by omega)]; simp [hk])
      have d := hcell k hk
      clear hcell h1
      generalize ws[k] = x at *
      go_enter Tryd.func66, Tryd.ntmps66
      go_wp2_with fail
      go_ret
      rw [HO.out]
      exact ⟨rfl, rfl⟩
set_option maxHeartbeats 1000000 in
theorem find9_any (ws : List (List UInt8)) (s : List UInt8) (v : Value) (w : World) (hW : WAt w ws v) (hl : ws.length ≤ 1000) :
    Calls Tryd.prog 64 #[v, .string ⟨s.toArray⟩] w fun e w' => e = .returned (.tuple #[.int .i64 (codeL ws 0 s).1, .bool (codeL ws 0 s).2]) ∧ w = w' := by
  obtain ⟨g, rfl, hg, hcell⟩ := hW
  have HC := Lib.hid hcell
  clear hcell
  go_enter Tryd.func64, Tryd.ntmps64
  go_wp2_with fail
  go_loop [6] (fun i => ∃ k : Nat, k ≤ ws.length ∧ i = .int .i64 k ∧ (s = [] ∨ ∀ j (hj : j < ws.length), j < k → ws[j] ≠ s)) (fun i => ws.length - (intOf i).toNat)
  case atStart => exact ⟨0, Nat.zero_le _, rfl, .inr (fun j _ h => absurd h (Nat.not_lt_zero _))⟩
  case round =>
    obtain ⟨k, hk, rfl, hn'⟩ := hrel
    have hn := Lib.hid hn'
    clear hn'
    by_cases hlt : k < ws.length
    · have d := HC.out k hlt
      have HE := Lib.hid (show ∀ x, ws[k] = x → ∃ h : k < ws.length, ws[k] = x from fun x h => ⟨hlt, h⟩)
      generalize hx : ws[k] = x at *
      have HX := Lib.hid hx
      clear hx
      by_cases he : s = []
      · subst he
        go_wp2_with fail
        go_round
        case rel => exact ⟨k + 1, by omega, by go_num, .inl (by first | rfl | trivial)⟩
        case measure => simp [intOf]; omega
      · have he1 : (s == []) = false := by simpa using he
        by_cases hxs : x = s
        · subst hxs
          have HO := Lib.hid (show codeL ws 0 x = ((k : Int), true) by
            have := idxL_hit x ws 0 k hlt HX.out (fun j hj => by
              rcases hn.out with h | h
              · exact absurd h he
              · exact h j (by omega) hj)
            unfold codeL
            rw [this, if_neg (by simp [he])]; simp)
          go_wp2_with fail
          go_ret2
          rw [HO.out]
          exact ⟨rfl, rfl⟩
        · have hx1 : (x == s) = false := by simpa using hxs
          go_wp2_with fail
          go_round
          case rel => exact ⟨k + 1, by omega, by go_num, .inr (fun j hj hjk => by
            rcases hn.out with h | h
            · exact absurd h he
            · by_cases hjk' : j = k
              · subst hjk'; rw [HX.out]; exact hxs
              · exact h j hj (by omega))⟩
          case measure => simp [intOf]; omega
    · have HO := Lib.hid (show codeL ws 0 s = (0, false) by
        rcases hn.out with h | h
        · unfold codeL; rw [if_pos (.inr h)]
        · exact codeL_miss ws 0 s (fun hm => by
            obtain ⟨j, hj, e⟩ := List.getElem_of_mem hm
            exact h j hj (by omega) e))
      go_wp2_with fail
      go_ret2
      rw [HO.out]
      exact ⟨rfl, rfl⟩
end Go.Proofs.YtpmeabikhonaoaaDoor

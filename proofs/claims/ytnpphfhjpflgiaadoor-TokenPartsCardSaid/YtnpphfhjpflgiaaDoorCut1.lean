/- token.Cut's closure: is the token one of these marks? -/
import Derived.Test.YtnpphfhjpflgiaaDoorAppRd
namespace Go.Proofs.YtnpphfhjpflgiaaDoor
open Go.RowKit

def isT (t : Tok) (ls : List (List UInt8)) : Bool := decide (t.1 = 4) && decide (t.2.1 ∈ ls)

set_option maxHeartbeats 1000000 in
theorem cutIs_any (t : Tok) (ls : List (List UInt8)) (g n h : Nat) (w : World) (hn : n = ls.length) (hl : ls.length ≤ 1000)
    (hc : ∀ j (hj : j < ls.length), w.cell? ⟨g, j, none⟩ = some (.string ⟨ls[j].toArray⟩))
    (h0 : w.cell? ⟨h, 0, none⟩ = some (.int .i64 t.1)) (h1 : w.cell? ⟨h, 1, none⟩ = some (.string ⟨t.2.1.toArray⟩)) :
    Calls Tryd.prog 36 #[.slice (some ⟨g, 0, none⟩) n n, .pointer (some ⟨h, 0, none⟩)] w fun e w' => e = .returned (.bool (isT t ls)) ∧ w' = w := by
  subst hn
  have HC := Lib.hid hc
  clear hc
  obtain ⟨tk, tS, tn⟩ := t
  simp only at h0 h1
  go_enter Tryd.func36, Tryd.ntmps36
  go_wp2_with fail
  go_loop [8] (fun i => ∃ k : Nat, k ≤ ls.length ∧ i = .int .i64 k ∧ (tk = 4 → tS ∉ ls.take k)) (fun i => ls.length - (intOf i).toNat)
  case atStart => exact ⟨0, Nat.zero_le _, rfl, by simp⟩
  case round =>
    obtain ⟨k, hk, rfl, hno⟩ := hrel
    have HNO := Lib.hid hno
    clear hno
    by_cases hlt : k < ls.length
    · have c1 := HC.out k hlt
      have hrow : ls.take (k + 1) = ls.take k ++ [ls[k]] := List.take_succ_eq_append_getElem hlt
      have hmem : ls[k] ∈ ls := List.getElem_mem _
      have HM := Lib.hid hmem
      clear hmem
      generalize ls[k] = s at *
      by_cases h4 : tk = 4
      · subst h4
        by_cases hs : tS = s
        · have HI : Hid (isT (4, tS, tn) ls = true) := Lib.hid (by unfold isT; simp [hs, HM.out])
          clear hrow
          subst hs
          go_wp2_with fail
          go_ret
          rw [HI.out]
          exact ⟨rfl, rfl⟩
        · have HN : Hid ((4 : Int) = 4 → tS ∉ ls.take (k + 1)) := Lib.hid (fun _ => by rw [hrow]; simp only [List.mem_append, List.mem_singleton, not_or]; exact ⟨HNO.out rfl, hs⟩)
          have hsb : (tS == s) = false := by simp [hs]
          clear hrow
          go_wp2_with fail
          go_round
          case rel => exact ⟨k + 1, by omega, by go_num, fun _ => HN.out rfl⟩
          case measure => simp [intOf]; omega
      · have e4 : (tk == 4) = false := by simp [h4]
        clear hrow
        go_wp2_with fail
        go_round
        case rel => exact ⟨k + 1, by omega, by go_num, fun e => absurd e h4⟩
        case measure => simp [intOf]; omega
    · obtain rfl : k = ls.length := by omega
      have HI : Hid (isT (tk, tS, tn) ls = false) := Lib.hid (by
        have := HNO.out
        rw [List.take_length] at this
        unfold isT
        by_cases h4 : tk = 4
        · simp [this h4]
        · simp [h4])
      go_wp2_with fail
      go_ret
      rw [HI.out]
      exact ⟨rfl, rfl⟩
end Go.Proofs.YtnpphfhjpflgiaaDoor

/- law04's Light. -/
import Derived.Test.YtnpphfhjpflgiaaDoorPureCut
namespace Go.Proofs.YtnpphfhjpflgiaaDoor
open Go.RowKit

def lightB (ts : List Tok) : Bool := decide (ts.length ≤ 100) && ts.all fun t => decide (t.2.1.length ≤ 200)

set_option maxHeartbeats 1000000 in
theorem light_any (ts : List Tok) (v : Value) (w : World) (hr : Rd w w.heap.size v ts.length (tokRow ts)) :
    Calls Tryd.prog 24 #[v] w fun e w' => e = .returned (.bool (lightB ts)) ∧ w' = w := by
  obtain ⟨A, c, rfl, hc⟩ := hr.form
  have HR := Lib.hid hr
  clear hr
  by_cases h100 : 100 < ts.length
  · have h' : (100 : Int) < (ts.length : Int) := by omega
    have HL := Lib.hid (show lightB ts = false by unfold lightB; rw [decide_eq_false (by omega)]; rfl)
    generalize ts.length = n at *
    go_enter Tryd.func24, Tryd.ntmps24
    go_wp2_with fail
    go_ret
    rw [HL.out]
    exact ⟨rfl, rfl⟩
  have h' : decide ((100 : Int) < (ts.length : Int)) = false := by simp; omega
  go_enter Tryd.func24, Tryd.ntmps24
  go_wp2_with fail
  go_loop [3] (fun i => ∃ k : Nat, k ≤ ts.length ∧ i = .int .i64 k ∧ (ts.take k).all (fun t => decide (t.2.1.length ≤ 200)) = true) (fun i => ts.length - (intOf i).toNat)
  case atStart => exact ⟨0, Nat.zero_le _, rfl, rfl⟩
  case round =>
    obtain ⟨k, hk, rfl, hall⟩ := hrel
    have HA := Lib.hid hall
    clear hall
    by_cases hlt : k < ts.length
    · obtain ⟨g, o, rfl, hg', c1, c2, c3⟩ := HR.out.tok k hlt
      have hrow := List.take_succ_eq_append_getElem hlt
      have hmem := Lib.hid (List.getElem_mem hlt)
      generalize ts[k] = t at *
      by_cases h2 : 200 < t.2.1.length
      · have h2' : (200 : Int) < (t.2.1.length : Int) := by omega
        have HL := Lib.hid (show lightB ts = false by
          unfold lightB
          rw [show (ts.all fun t => decide (t.2.1.length ≤ 200)) = false by rw [List.all_eq_false]; exact ⟨t, hmem.out, by simp; omega⟩, Bool.and_false])
        clear hrow
        go_wp2_with fail
        go_ret
        rw [HL.out]
        exact ⟨rfl, rfl⟩
      · have h2' : decide ((200 : Int) < (t.2.1.length : Int)) = false := by simp; omega
        have H2 := Lib.hid (show (ts.take (k + 1)).all (fun t => decide (t.2.1.length ≤ 200)) = true by rw [hrow, List.all_append, HA.out]; simp; omega)
        clear hrow
        go_wp2_with fail
        go_round
        case rel => exact ⟨k + 1, by omega, by go_num, H2.out⟩
        case measure => simp [intOf]; omega
    · obtain rfl : k = ts.length := by omega
      have HL := Lib.hid (show lightB ts = true by
        have := HA.out
        rw [List.take_length] at this
        unfold lightB
        rw [this, decide_eq_true (by omega)]; rfl)
      go_wp2_with fail
      go_ret
      rw [HL.out]
      exact ⟨rfl, rfl⟩
end Go.Proofs.YtnpphfhjpflgiaaDoor

/- The walks of Text86Names, Text86Args, Text86Against, Text86Back. -/
import Derived.Test.YtpmeabikhonaoaaDoorT86d
namespace Go.Proofs.YtpmeabikhonaoaaDoor
open Go.RowKit

set_option maxHeartbeats 400000 in
theorem refName9_any (c : Int) (w : World) (hc : -9223372036854775808 ≤ c) (hc' : c ≤ 9223372036854775807) :
    Calls Tryd.prog 38 #[.int .i64 c] w fun e w' => e = .returned (.string ⟨(nameL c).toArray⟩) ∧ Below w.heap.size w w' := by
  have HE := Lib.hid (name_ref c)
  go_enter Tryd.func38, Tryd.ntmps38
  go_wp2_with fail
  refine (names9_any _).mono ?_
  rintro e w1 ⟨v, rfl, hW', hb'⟩
  obtain ⟨g, n, rfl⟩ := hW'.form
  have hW := Lib.hid hW'
  have hb := Lib.hid hb'
  clear hW' hb'
  go_wp2_with fail
  refine (at9_any namesR c _ w1 hW.out hc hc').mono ?_
  rintro e w2 ⟨rfl, rfl⟩
  rw [HE.out]
  go_wp2_with fail
  go_ret
  exact ⟨rfl, hb.out⟩
set_option maxHeartbeats 400000 in
theorem refArg9_any (c : Int) (w : World) (hc : -9223372036854775808 ≤ c) (hc' : c ≤ 9223372036854775807) :
    Calls Tryd.prog 35 #[.int .i64 c] w fun e w' => e = .returned (.string ⟨(argL c).toArray⟩) ∧ Below w.heap.size w w' := by
  have HE := Lib.hid (arg_ref c)
  go_enter Tryd.func35, Tryd.ntmps35
  go_wp2_with fail
  refine (args9_any _).mono ?_
  rintro e w1 ⟨v, rfl, hW', hb'⟩
  obtain ⟨g, n, rfl⟩ := hW'.form
  have hW := Lib.hid hW'
  have hb := Lib.hid hb'
  clear hW' hb'
  go_wp2_with fail
  refine (at9_any argsR c _ w1 hW.out hc hc').mono ?_
  rintro e w2 ⟨rfl, rfl⟩
  rw [HE.out]
  go_wp2_with fail
  go_ret
  exact ⟨rfl, hb.out⟩
set_option maxHeartbeats 400000 in
theorem refOp9_any (s : List UInt8) (w : World) :
    Calls Tryd.prog 37 #[.string ⟨s.toArray⟩] w fun e w' => e = .returned (.tuple #[.int .i64 (opL s).1, .bool (opL s).2]) ∧ Below w.heap.size w w' := by
  have HE := Lib.hid (op_ref s)
  go_enter Tryd.func37, Tryd.ntmps37
  go_wp2_with fail
  refine (names9_any _).mono ?_
  rintro e w1 ⟨v, rfl, hW', hb'⟩
  obtain ⟨g, n, rfl⟩ := hW'.form
  have hW := Lib.hid hW'
  have hb := Lib.hid hb'
  clear hW' hb'
  go_wp2_with fail
  refine (find9_any namesR s _ w1 hW.out (by decide)).mono ?_
  rintro e w2 ⟨rfl, rfl⟩
  rw [← HE.out]
  go_wp2_with fail
  go_ret2
  exact ⟨rfl, hb.out⟩
set_option maxHeartbeats 400000 in
theorem refCode9_any (s : List UInt8) (w : World) :
    Calls Tryd.prog 33 #[.string ⟨s.toArray⟩] w fun e w' => e = .returned (.tuple #[.int .i64 (acodeL s).1, .bool (acodeL s).2]) ∧ Below w.heap.size w w' := by
  have HE := Lib.hid (acode_ref s)
  go_enter Tryd.func33, Tryd.ntmps33
  go_wp2_with fail
  refine (args9_any _).mono ?_
  rintro e w1 ⟨v, rfl, hW', hb'⟩
  obtain ⟨g, n, rfl⟩ := hW'.form
  have hW := Lib.hid hW'
  have hb := Lib.hid hb'
  clear hW' hb'
  go_wp2_with fail
  refine (find9_any argsR s _ w1 hW.out (by decide)).mono ?_
  rintro e w2 ⟨rfl, rfl⟩
  rw [← HE.out]
  go_wp2_with fail
  go_ret2
  exact ⟨rfl, hb.out⟩
set_option maxHeartbeats 400000 in
theorem cond9_any (c : Int) (w : World) : Calls Tryd.prog 61 #[.int .i64 c] w fun e w' => e = .returned (.bool (condB c)) ∧ w = w' := by
  have hcs : c < 42 ∨ (42 ≤ c ∧ c ≤ 45) ∨ (46 ≤ c ∧ c ≤ 47) ∨ (48 ≤ c ∧ c ≤ 51) ∨ 52 ≤ c := by omega
  rcases hcs with h | ⟨h, h'⟩ | ⟨h, h'⟩ | ⟨h, h'⟩ | h
  · have HO := Lib.hid (show condB c = false by simp [condB]; omega)
    have g1 : ¬ 42 ≤ c := by omega
    have g2 : ¬ 48 ≤ c := by omega
    go_enter Tryd.func61, Tryd.ntmps61
    go_wp2_with fail
    go_ret
    rw [HO.out]
    exact ⟨rfl, rfl⟩
  · have HO := Lib.hid (show condB c = true by simp [condB]; omega)
    go_enter Tryd.func61, Tryd.ntmps61
    go_wp2_with fail
    go_ret
    rw [HO.out]
    exact ⟨rfl, rfl⟩
  · have HO := Lib.hid (show condB c = false by simp [condB]; omega)
    have g1 : ¬ c ≤ 45 := by omega
    have g2 : ¬ 48 ≤ c := by omega
    have g3 : 42 ≤ c := by omega
    go_enter Tryd.func61, Tryd.ntmps61
    go_wp2_with fail
    go_ret
    rw [HO.out]
    exact ⟨rfl, rfl⟩
  · have HO := Lib.hid (show condB c = true by simp [condB]; omega)
    have g1 : ¬ c ≤ 45 := by omega
    have g3 : 42 ≤ c := by omega
    go_enter Tryd.func61, Tryd.ntmps61
    go_wp2_with fail
    go_ret
    rw [HO.out]
    exact ⟨rfl, rfl⟩
  · have HO := Lib.hid (show condB c = false by simp [condB]; omega)
    have g1 : ¬ c ≤ 45 := by omega
    have g2 : ¬ c ≤ 51 := by omega
    have g3 : 42 ≤ c := by omega
    have g4 : 48 ≤ c := by omega
    go_enter Tryd.func61, Tryd.ntmps61
    go_wp2_with fail
    go_ret
    rw [HO.out]
    exact ⟨rfl, rfl⟩
set_option maxHeartbeats 400000 in
theorem refAgainst9_any (c : Int) (w : World) (hc : -9223372036854775808 ≤ c) (hc' : c ≤ 9223372036854775807) :
    Calls Tryd.prog 31 #[.int .i64 c] w fun e w' => e = .returned (.tuple #[.int .i64 (agL c).1, .bool (agL c).2]) ∧ w = w' := by
  have HC := Lib.hid (fun W => cond9_any c W)
  have HA := Lib.hid (show agL c = if condB c then (if c % 2 = 0 then c + 1 else c - 1, true) else (0, false) from rfl)
  cases hb : condB c with
  | false =>
    rw [hb] at HC HA
    have HO := Lib.hid (show agL c = (0, false) by rw [HA.out]; rfl)
    clear HA hb
    go_enter Tryd.func31, Tryd.ntmps31
    go_wp2_with fail
    refine (HC.out _).mono ?_
    rintro e w1 ⟨rfl, rfl⟩
    go_wp2_with fail
    go_ret2
    rw [HO.out]
    exact ⟨rfl, rfl⟩
  | true =>
    have hr : 42 ≤ c ∧ c ≤ 51 := by simp [condB] at hb; omega
    rw [hb] at HC HA
    clear hb
    by_cases h2 : c % 2 = 0
    · have HO := Lib.hid (show agL c = (c + 1, true) by rw [HA.out, if_pos rfl, if_pos h2])
      have l1 := hr.1
      have l2 := hr.2
      clear HA hr
      go_enter Tryd.func31, Tryd.ntmps31
      go_wp2_with fail
      refine (HC.out _).mono ?_
      rintro e w1 ⟨rfl, rfl⟩
      go_wp2_with fail
      go_ret2
      rw [HO.out]
      exact ⟨rfl, rfl⟩
    · have HO := Lib.hid (show agL c = (c - 1, true) by rw [HA.out, if_pos rfl, if_neg h2])
      have h2' : (c % 2 == 0) = false := by simpa using h2
      have l1 := hr.1
      have l2 := hr.2
      clear HA hr
      go_enter Tryd.func31, Tryd.ntmps31
      go_wp2_with fail
      refine (HC.out _).mono ?_
      rintro e w1 ⟨rfl, rfl⟩
      go_wp2_with fail
      go_ret2
      rw [HO.out]
      exact ⟨rfl, rfl⟩
end Go.Proofs.YtpmeabikhonaoaaDoor

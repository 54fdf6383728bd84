/- ref05: right, Right. -/
import Derived.Test.YtpmeabikhonaoaaDoorLaw5a
import Derived.Test.YtpmeabikhonaoaaDoorRef5a
import Derived.Test.YtpmeabikhonaoaaDoorRefName
import Derived.Test.YtpmeabikhonaoaaDoorRefUpper
import Derived.Test.YtpmeabikhonaoaaDoorExpr11
import Derived.Deep.QuietTactic
import Derived.BigQuiet
namespace Go.Proofs.YtpmeabikhonaoaaDoor
open Go.RowKit

set_option maxHeartbeats 4000000 in
set_option maxRecDepth 100000 in
theorem rright_name (n : Nat) (m : List UInt8) (s : List Ex) (d : Nat) (hd0 : 1 ≤ d) (hd : d ≤ 1000) (v : Value) (w : World) (hs : SubAt w (· < w.heap.size) v s) (hml : m.length ≤ 1000000) :
    Calls Tryd.prog 69 #[.agg #[.string ⟨#[110]⟩, .int .u16 n, .string ⟨m.toArray⟩, v], .int .i64 d] w fun e w' => e = .returned (.bool (rightE (.mk sN n m s) (25 - d))) ∧ Below w.heap.size w w' := by
  have HB : Hid (∀ W, Calls Tryd.prog 103 #[.string ⟨#[110]⟩] W fun e w' => e = .returned (.tuple #[.int .i64 7, .int .i64 0]) ∧ W = w') := Lib.hid (fun W => rank_any sN W)
  have HR := rightE_mk sN n m s (25 - d)
  rw [headE_name] at HR
  obtain ⟨A, c, rfl, hc, hm2⟩ := hs.form
  unfold maxLen at hm2
  have HN := Lib.hid (fun W => (refName_any m W hml).mono (fun _ _ h => And.intro h.1 h.2.symm))
  have HU := Lib.hid (fun W => refUpper_any m W hml)
  have HW := Lib.hid (fun W => refWord_any m W)
  have HR' := Lib.hid HR
  clear HR hs
  generalize rightE (.mk sN n m s) (25 - d) = res at *
  by_cases h0 : 24 < d
  · have HRES : Hid (res = false) := Lib.hid (by rw [HR'.out, show (25 - d == 0) = true by simp; omega]; rfl)
    have h0' : (24 : Int) < (d : Int) := by omega
    go_enter Tryd.func69, Tryd.ntmps69
    go_wp2_with fail
    refine (HB.out _).mono ?_
    rintro e w1 ⟨rfl, rfl⟩
    go_wp2_with fail
    go_ret
    rw [HRES.out]
    exact ⟨rfl, (Below.refl _ _).alloc (Nat.le_refl _) _⟩
  have h0' : decide ((24 : Int) < (d : Int)) = false := by simp; omega
  rcases Classical.em (¬ (s.length = 0)) with h1 | h1
  · have HRES : Hid (res = false) := Lib.hid (by rw [HR'.out]; simp [h1])
    have h1' : ((s.length : Int) != 0) = true := by rw [bne_iff_ne]; omega
    have h1'' : ((s.length : Int) == 0) = false := by rw [beq_eq_false_iff_ne]; omega
    clear h1
    go_enter Tryd.func69, Tryd.ntmps69
    go_wp2_with fail
    refine (HB.out _).mono ?_
    rintro e w1 ⟨rfl, rfl⟩
    go_wp2_with fail
    go_ret
    rw [HRES.out]
    exact ⟨rfl, (Below.refl _ _).alloc (Nat.le_refl _) _⟩
  replace h1 := Classical.not_not.1 h1
  have hs0 : s = [] := List.eq_nil_of_length_eq_zero h1
  subst hs0
  rcases Classical.em (¬ (n = 0)) with h2 | h2
  · have HRES : Hid (res = false) := Lib.hid (by rw [HR'.out]; simp [h2])
    have h2' : ((n : Int) != 0) = true := by rw [bne_iff_ne]; omega
    have h2'' : ((n : Int) == 0) = false := by rw [beq_eq_false_iff_ne]; omega
    clear h1 h2
    go_enter Tryd.func69, Tryd.ntmps69
    go_wp2_with fail
    refine (HB.out _).mono ?_
    rintro e w1 ⟨rfl, rfl⟩
    go_wp2_with fail
    go_ret
    rw [HRES.out]
    exact ⟨rfl, (Below.refl _ _).alloc (Nat.le_refl _) _⟩
  replace h2 := Classical.not_not.1 h2
  subst h2
  have HR2 : Hid (res = (nameB m && upper m == m && !wordE m)) := Lib.hid (by rw [HR'.out, show (25 - d == 0) = false by simp; omega]; simp [rightL])
  clear HR' h1
  cases hn : nameB m with
  | false =>
    rw [hn] at HN HR2
    have HRES : Hid (res = false) := Lib.hid (by rw [HR2.out]; simp)
    clear hn HR2
    go_enter Tryd.func69, Tryd.ntmps69
    go_wp2_with fail
    refine (HB.out _).mono ?_
    rintro e w1 ⟨rfl, rfl⟩
    go_wp2_with fail
    go_quiet ((go_at_call 104; exact Calls.quiet_of_same (HN.out _)))
    go_wp2_with fail
    all_goals (
      go_ret
      rw [HRES.out]
      exact ⟨rfl, below_dn ((Below.refl _ _).alloc (Nat.le_refl _) _) _⟩)
  | true =>
    rw [hn] at HN HR2
    have HN2 := Lib.hid (fun W => (HN.out W).mono (fun _ _ h => And.intro h.1 h.2.symm))
    by_cases hu : upper m = m
    · rw [hu] at HU HR2
      cases hw : wordE m with
      | true =>
        rw [hw] at HW HR2
        clear hn hu hw
        have HRES : Hid (res = false) := Lib.hid (by rw [HR2.out]; simp)
        go_enter Tryd.func69, Tryd.ntmps69
        go_wp2_with fail
        refine (HB.out _).mono ?_
        rintro e w1 ⟨rfl, rfl⟩
        go_wp2_with fail
        first | (go_region_with (first | (go_at_call 104; (with_reducible refine (HN2.out _).mono ?_); rintro e1 w2 ⟨rfl, rfl⟩) | (go_at_call 105; (with_reducible refine (HU.out _).mono ?_); rintro e1 w3 ⟨rfl, hb3⟩; obtain ⟨hcc, hff⟩ := bcell hb3) | (go_at_call 106; (with_reducible refine (HW.out _).mono ?_); rintro e1 w4 ⟨rfl, rfl⟩))) | fail
        all_goals (
          have hbw := ((Below.refl w.heap.size w).alloc (Nat.le_refl _) _).drew.trans (hb3.mono (by simp))
          go_simp
          go_wp2_with fail
          all_goals (
            go_ret
            rw [HRES.out]
            exact ⟨rfl, hbw⟩))
      | false =>
        rw [hw] at HW HR2
        clear hn hu hw
        have HRES : Hid (res = true) := Lib.hid (by rw [HR2.out]; simp)
        go_enter Tryd.func69, Tryd.ntmps69
        go_wp2_with fail
        refine (HB.out _).mono ?_
        rintro e w1 ⟨rfl, rfl⟩
        go_wp2_with fail
        first | (go_region_with (first | (go_at_call 104; (with_reducible refine (HN2.out _).mono ?_); rintro e1 w2 ⟨rfl, rfl⟩) | (go_at_call 105; (with_reducible refine (HU.out _).mono ?_); rintro e1 w3 ⟨rfl, hb3⟩; obtain ⟨hcc, hff⟩ := bcell hb3) | (go_at_call 106; (with_reducible refine (HW.out _).mono ?_); rintro e1 w4 ⟨rfl, rfl⟩))) | fail
        all_goals (
          have hbw := ((Below.refl w.heap.size w).alloc (Nat.le_refl _) _).drew.trans (hb3.mono (by simp))
          have HBW := Lib.hid hbw
          clear hbw hb3 hcc hff
          go_simp
          go_wp2_with fail
          refine wp_loop_rounds 1 ?_
          rw [rounds_succ]
          go_wp2_with fail
          go_ret
          rw [HRES.out]
          exact ⟨rfl, HBW.out⟩)
    · have HRES : Hid (res = false) := Lib.hid (by rw [HR2.out]; simp [hu])
      have hu' : (upper m == m) = false := by simpa using hu
      clear hn hu
      go_enter Tryd.func69, Tryd.ntmps69
      go_wp2_with fail
      refine (HB.out _).mono ?_
      rintro e w1 ⟨rfl, rfl⟩
      go_wp2_with fail
      first | (go_region_with (first | (go_at_call 104; (with_reducible refine (HN2.out _).mono ?_); rintro e1 w2 ⟨rfl, rfl⟩) | (go_at_call 105; (with_reducible refine (HU.out _).mono ?_); rintro e1 w3 ⟨rfl, hb3⟩; obtain ⟨hcc, hff⟩ := bcell hb3) | (go_at_call 106; (with_reducible refine (HW.out _).mono ?_); rintro e1 w4 ⟨rfl, rfl⟩))) | fail
      all_goals (
        have hbw := ((Below.refl w.heap.size w).alloc (Nat.le_refl _) _).drew.trans (hb3.mono (by simp))
        go_simp
        go_wp2_with fail
        all_goals (
          go_ret
          rw [HRES.out]
          exact ⟨rfl, hbw⟩))
end Go.Proofs.YtpmeabikhonaoaaDoor

/- expr: right of a name; right; Right. -/
import Derived.Test.YtpmeabikhonaoaaDoorExpr11
namespace Go.Proofs.YtpmeabikhonaoaaDoor
open Go.RowKit

set_option maxHeartbeats 4000000 in
set_option maxRecDepth 100000 in
theorem right_name (n : Nat) (m : List UInt8) (s : List Ex) (most : Nat) (v : Value) (w : World) (hs : SubAt w (· < w.heap.size) v s) (hmo : most ≤ 1000) (hRH : RightH s (most - 1)) (hml : m.length ≤ 1000000) :
    Calls Tryd.prog 68 #[.agg #[.string ⟨#[110]⟩, .int .u16 n, .string ⟨m.toArray⟩, v], .int .i64 most] w fun e w' => e = .returned (.bool (rightE (.mk sN n m s) most)) ∧ Below w.heap.size w w' := by
  have HB : Hid (∀ W, Calls Tryd.prog 71 #[.string ⟨#[110]⟩] W fun e w' => e = .returned (.tuple #[.int .i64 7, .int .i64 0]) ∧ W = w') := Lib.hid (fun W => binds_any sN W)
  have HR := rightE_mk sN n m s most
  rw [headE_name] at HR
  obtain ⟨A, c, rfl, hc, hm2⟩ := hs.form
  unfold maxLen at hm2
  have HN := Lib.hid (fun W => name_any m W hml)
  have HU := Lib.hid (fun W => upper_any m W hml)
  have HW := Lib.hid (fun W => word_any m W)
  have HR' := Lib.hid HR
  clear HR
  generalize rightE (.mk sN n m s) most = res at *
  cases hn : nameB m with
  | false =>
    rw [hn] at HN HR'
    have HRES : Hid (res = false) := Lib.hid (by rw [HR'.out]; simp)
    have HN2 := Lib.hid (fun W => (HN.out W).mono (fun _ _ h => And.intro h.1 h.2.symm))
    go_enter Tryd.func68, Tryd.ntmps68
    go_wp2_with fail
    refine (HB.out _).mono ?_
    rintro e w1 ⟨rfl, rfl⟩
    go_wp2_with fail
    go_quiet ((go_at_call 99; exact Calls.quiet_of_same (HN2.out _)))
    go_wp2_with fail
    all_goals (
      go_ret
      rw [HRES.out]
      exact ⟨rfl, below_dn (((Below.refl _ _).alloc (Nat.le_refl _) _).alloc (by simp) _) _⟩)
  | true =>
    rw [hn] at HN HR'
    by_cases hu : upper m = m
    · rw [hu] at HU HR'
      cases hw : wordE m with
      | true =>
        rw [hw] at HW HR'
        clear hn hu hw
        have HRES : Hid (res = false) := Lib.hid (by rw [HR'.out]; simp)
        go_enter Tryd.func68, Tryd.ntmps68
        go_wp2_with fail
        refine (HB.out _).mono ?_
        rintro e w1 ⟨rfl, rfl⟩
        go_wp2_with fail
        first | (go_region_with (first | (go_at_call 99; (with_reducible refine (HN.out _).mono ?_); rintro e1 w2 ⟨rfl, rfl⟩) | (go_at_call 77; (with_reducible refine (HU.out _).mono ?_); rintro e1 w3 ⟨rfl, hb3⟩; obtain ⟨hcc, hff⟩ := bcell hb3) | (go_at_call 100; (with_reducible refine (HW.out _).mono ?_); rintro e1 w4 ⟨rfl, rfl⟩))) | fail
        all_goals (
          have hbw := (((Below.refl w.heap.size w).alloc (Nat.le_refl _) _).alloc (by simp) _).drew.trans (hb3.mono (by simp; omega))
          go_wp2_with fail
          all_goals (
            go_ret
            rw [HRES.out]
            exact ⟨rfl, hbw⟩))
      | false =>
        rw [hw] at HW HR'
        clear hn hu hw
        by_cases h0 : most = 0
        · subst h0
          have HRES : Hid (res = false) := Lib.hid (by rw [HR'.out]; simp)
          go_enter Tryd.func68, Tryd.ntmps68
          go_wp2_with fail
          refine (HB.out _).mono ?_
          rintro e w1 ⟨rfl, rfl⟩
          go_wp2_with fail
          first | (go_region_with (first | (go_at_call 99; (with_reducible refine (HN.out _).mono ?_); rintro e1 w2 ⟨rfl, rfl⟩) | (go_at_call 77; (with_reducible refine (HU.out _).mono ?_); rintro e1 w3 ⟨rfl, hb3⟩; obtain ⟨hcc, hff⟩ := bcell hb3) | (go_at_call 100; (with_reducible refine (HW.out _).mono ?_); rintro e1 w4 ⟨rfl, rfl⟩))) | fail
          all_goals (
            have hbw := (((Below.refl w.heap.size w).alloc (Nat.le_refl _) _).alloc (by simp) _).drew.trans (hb3.mono (by simp; omega))
            go_wp2_with fail
            all_goals (
              go_ret
              rw [HRES.out]
              exact ⟨rfl, hbw⟩))
        have h0' : ((most : Int) == 0) = false := by rw [beq_eq_false_iff_ne]; omega
        by_cases h1 : s.length = 0
        · by_cases h2 : n = 0
          · have hs0 : s = [] := List.eq_nil_of_length_eq_zero h1
            subst hs0 h2
            have HRES : Hid (res = true) := Lib.hid (by rw [HR'.out]; simp [rightL]; omega)
            have hmd : most - 1 + 1 = most := by omega
            have HRH := Lib.hid hRH
            clear h0 h1 hs
            go_enter Tryd.func68, Tryd.ntmps68
            go_wp2_with fail
            refine (HB.out _).mono ?_
            rintro e w1 ⟨rfl, rfl⟩
            go_wp2_with fail
            first | (go_region_with (first | (go_at_call 99; (with_reducible refine (HN.out _).mono ?_); rintro e1 w2 ⟨rfl, rfl⟩) | (go_at_call 77; (with_reducible refine (HU.out _).mono ?_); rintro e1 w3 ⟨rfl, hb3⟩; obtain ⟨hcc, hff⟩ := bcell hb3) | (go_at_call 100; (with_reducible refine (HW.out _).mono ?_); rintro e1 w4 ⟨rfl, rfl⟩))) | fail
            
            all_goals (
              have hbw := (((Below.refl w.heap.size w).alloc (Nat.le_refl _) _).alloc (by simp) _).drew.trans (hb3.mono (by simp; omega))
              have hmc : w3.cell? ⟨w.heap.size + 1, 0, none⟩ = some (.int .i64 ((most - 1 + 1 : Nat) : Int)) := by rw [hmd, hcc _ _ (by simp)]; exact cell_of_heap (heap_last (by simp) _)
              have HCON := Lib.hid (rcont_any [] (most - 1) (by omega) HRH.out (.slice A 0 c) (w.heap.size + 1) w3 (SubAt.empty w3 _ A c) hmc)
              clear hmc
              go_wp2_with fail
              refine HCON.out.mono ?_
              rintro e5 w5 ⟨rfl, hb5⟩
              go_wp2_with fail
              go_ret
              rw [HRES.out]
              exact ⟨by simp [rightL], hbw.trans (hb5.mono hbw.size)⟩)
          · have HRES : Hid (res = false) := Lib.hid (by rw [HR'.out]; simp [h2])
            have h2' : ((n : Int) != 0) = true := by rw [bne_iff_ne]; omega
            have h1' : ((s.length : Int) != 0) = false := by rw [h1]; rfl
            clear h0 h1 h2
            go_enter Tryd.func68, Tryd.ntmps68
            go_wp2_with fail
            refine (HB.out _).mono ?_
            rintro e w1 ⟨rfl, rfl⟩
            go_wp2_with fail
            first | (go_region_with (first | (go_at_call 99; (with_reducible refine (HN.out _).mono ?_); rintro e1 w2 ⟨rfl, rfl⟩) | (go_at_call 77; (with_reducible refine (HU.out _).mono ?_); rintro e1 w3 ⟨rfl, hb3⟩; obtain ⟨hcc, hff⟩ := bcell hb3) | (go_at_call 100; (with_reducible refine (HW.out _).mono ?_); rintro e1 w4 ⟨rfl, rfl⟩))) | fail
            all_goals (
              have hbw := (((Below.refl w.heap.size w).alloc (Nat.le_refl _) _).alloc (by simp) _).drew.trans (hb3.mono (by simp; omega))
              go_wp2_with fail
              all_goals (
                go_ret
                rw [HRES.out]
                exact ⟨rfl, hbw⟩))
        · have HRES : Hid (res = false) := Lib.hid (by rw [HR'.out]; simp [h1])
          have h1' : ((s.length : Int) != 0) = true := by rw [bne_iff_ne]; omega
          clear h0 h1
          go_enter Tryd.func68, Tryd.ntmps68
          go_wp2_with fail
          refine (HB.out _).mono ?_
          rintro e w1 ⟨rfl, rfl⟩
          go_wp2_with fail
          first | (go_region_with (first | (go_at_call 99; (with_reducible refine (HN.out _).mono ?_); rintro e1 w2 ⟨rfl, rfl⟩) | (go_at_call 77; (with_reducible refine (HU.out _).mono ?_); rintro e1 w3 ⟨rfl, hb3⟩; obtain ⟨hcc, hff⟩ := bcell hb3) | (go_at_call 100; (with_reducible refine (HW.out _).mono ?_); rintro e1 w4 ⟨rfl, rfl⟩))) | fail
          all_goals (
            have hbw := (((Below.refl w.heap.size w).alloc (Nat.le_refl _) _).alloc (by simp) _).drew.trans (hb3.mono (by simp; omega))
            go_wp2_with fail
            all_goals (
              go_ret
              rw [HRES.out]
              exact ⟨rfl, hbw⟩))
    · have HRES : Hid (res = false) := Lib.hid (by rw [HR'.out]; simp [hu])
      have hu' : (upper m == m) = false := by simpa using hu
      clear hn hu
      go_enter Tryd.func68, Tryd.ntmps68
      go_wp2_with fail
      refine (HB.out _).mono ?_
      rintro e w1 ⟨rfl, rfl⟩
      go_wp2_with fail
      first | (go_region_with (first | (go_at_call 99; (with_reducible refine (HN.out _).mono ?_); rintro e1 w2 ⟨rfl, rfl⟩) | (go_at_call 77; (with_reducible refine (HU.out _).mono ?_); rintro e1 w3 ⟨rfl, hb3⟩; obtain ⟨hcc, hff⟩ := bcell hb3) | (go_at_call 100; (with_reducible refine (HW.out _).mono ?_); rintro e1 w4 ⟨rfl, rfl⟩))) | fail
      all_goals (
        have hbw := (((Below.refl w.heap.size w).alloc (Nat.le_refl _) _).alloc (by simp) _).drew.trans (hb3.mono (by simp; omega))
        go_wp2_with fail
        all_goals (
          go_ret
          rw [HRES.out]
          exact ⟨rfl, hbw⟩))
theorem right_any (e : Ex) : ∀ (most : Nat) (v : Value) (w : World), most ≤ 1000 → fitE e = true → SubAt w (· < w.heap.size) v e.sub →
    Calls Tryd.prog 68 #[.agg #[.string ⟨e.op.toArray⟩, .int .u16 e.n, .string ⟨e.name.toArray⟩, v], .int .i64 most] w fun r w' => r = .returned (.bool (rightE e most)) ∧ Below w.heap.size w w' := by
  induction e using Ex.ind with
  | h o n m s ih =>
    intro most v w hmo hf hs
    simp only [fitE, Bool.and_eq_true, decide_eq_true_eq] at hf
    have hR : RightH s (most - 1) := fun x hx v w hv => ih x hx (most - 1) v w (by omega) (fitL_mem s hf.2 x hx) hv
    by_cases ho : o = sN
    · subst ho
      exact right_name n m s most v w hs hmo hR (by omega)
    · exact right_other o n m s most v w hs hmo hR ho
def rightK (e : Ex) : Nat := if rightE e 24 then 0 else 2
set_option maxHeartbeats 1000000 in
theorem Right_any (e : Ex) (v : Value) (w : World) (hf : fitE e = true) (hs : SubAt w (· < w.heap.size) v e.sub) :
    Calls Tryd.prog 42 #[.agg #[.string ⟨e.op.toArray⟩, .int .u16 e.n, .string ⟨e.name.toArray⟩, v]] w fun r w' => r = .returned (.int .i64 (rightK e)) ∧ Below w.heap.size w w' := by
  have HC := Lib.hid (fun o => right_any e 24 v (w.alloc o) (by omega) hf (hs.keep (fun p hp => World.cell?_alloc_lt _ _ _ hp) (fun g (hg : g < w.heap.size) => by simp; omega)))
  obtain ⟨A, c, rfl, _, _⟩ := hs.form
  have HK : Hid (rightK e = if rightE e 24 then 0 else 2) := Lib.hid rfl
  generalize rightK e = rk at *
  clear hs hf
  cases hr : rightE e 24 with
  | true =>
    rw [hr] at HC HK
    go_enter Tryd.func42, Tryd.ntmps42
    go_wp2_with fail
    refine (HC.out _).mono ?_
    rintro e0 w2 ⟨rfl, hb2⟩
    go_wp2_with fail
    go_ret
    rw [HK.out]
    exact ⟨rfl, ((Below.refl _ _).alloc (Nat.le_refl _) _).trans (hb2.mono (by simp))⟩
  | false =>
    rw [hr] at HC HK
    go_enter Tryd.func42, Tryd.ntmps42
    go_wp2_with fail
    refine (HC.out _).mono ?_
    rintro e0 w2 ⟨rfl, hb2⟩
    go_wp2_with fail
    go_ret
    rw [HK.out]
    exact ⟨rfl, ((Below.refl _ _).alloc (Nat.le_refl _) _).trans (hb2.mono (by simp))⟩
end Go.Proofs.YtpmeabikhonaoaaDoor

/- expr: Same. -/
import Derived.Test.YtpmeabikhonaoaaDoorExpr18
namespace Go.Proofs.YtpmeabikhonaoaaDoor
open Go.RowKit

theorem sameE_mk (o : List UInt8) (n : Nat) (m : List UInt8) (s : List Ex) (y : Ex) : sameE (.mk o n m s) y = (o == y.op && n == y.n && m == y.name && sameL s y.sub) := by
  cases y
  simp [sameE, Ex.op, Ex.n, Ex.name, Ex.sub]
set_option maxHeartbeats 4000000 in
theorem Same_any (x : Ex) : SameH x := by
  induction x using Ex.ind with
  | h o n m s ih =>
    intro y v u w hs ht
    have HQ : Hid (∀ W, Below w.heap.size w W → Calls Tryd.prog 51 #[v, u, .func (.func 25) #[] #[]] W fun e w' => e = .returned (.bool (sameL s y.sub)) ∧ Below W.heap.size W w') :=
      Lib.hid (fun W hW => eqf_any s y.sub ih v u W ((hs.bel hW).more (fun x hx => Nat.lt_of_lt_of_le hx hW.size)) ((ht.bel hW).more (fun x hx => Nat.lt_of_lt_of_le hx hW.size)))
    have HR := Lib.hid (sameE_mk o n m s y)
    generalize sameE (.mk o n m s) y = res at *
    obtain ⟨A, c, rfl, hc, hm⟩ := hs.form
    obtain ⟨A', c', rfl, hc', hm'⟩ := ht.form
    clear hs ht ih
    generalize sameL s y.sub = rs at *
    obtain ⟨yo, yn, ym, ys⟩ := y
    simp only [Ex.op, Ex.n, Ex.name, Ex.sub] at *
    generalize s.length = sl at *
    generalize ys.length = yl at *
    by_cases h1 : o = yo
    · subst h1
      by_cases h2 : n = yn
      · subst h2
        by_cases h3 : m = ym
        · subst h3
          have HR' : Hid (res = rs) := Lib.hid (by rw [HR.out]; simp)
          go_enter Tryd.func25, Tryd.ntmps25
          go_wp2_with fail
          refine (HQ.out _ (((Below.refl _ _).alloc (Nat.le_refl _) _).alloc (by simp) _)).mono ?_
          rintro e w1 ⟨rfl, hb1⟩
          go_wp2_with fail
          go_ret
          rw [HR'.out]
          exact ⟨rfl, (((Below.refl _ _).alloc (Nat.le_refl _) _).alloc (by simp) _).trans (hb1.mono (by simp; omega))⟩
        · have d3 : (m == ym) = false := by simpa using h3
          have HR' : Hid (res = false) := Lib.hid (by rw [HR.out, d3]; simp)
          go_enter Tryd.func25, Tryd.ntmps25
          go_wp2_with fail
          go_ret
          rw [HR'.out]
          exact ⟨rfl, ((Below.refl _ _).alloc (Nat.le_refl _) _).alloc (by simp) _⟩
      · have d2 : ((n : Int) == (yn : Int)) = false := by rw [beq_eq_false_iff_ne]; omega
        have d2' : (n == yn) = false := by rw [beq_eq_false_iff_ne]; omega
        have HR' : Hid (res = false) := Lib.hid (by rw [HR.out, d2']; simp)
        clear d2'
        go_enter Tryd.func25, Tryd.ntmps25
        go_wp2_with fail
        go_ret
        rw [HR'.out]
        exact ⟨rfl, ((Below.refl _ _).alloc (Nat.le_refl _) _).alloc (by simp) _⟩
    · have d1 : (o == yo) = false := by simpa using h1
      have HR' : Hid (res = false) := Lib.hid (by rw [HR.out, d1]; simp)
      go_enter Tryd.func25, Tryd.ntmps25
      go_wp2_with fail
      go_ret
      rw [HR'.out]
      exact ⟨rfl, ((Below.refl _ _).alloc (Nat.le_refl _) _).alloc (by simp) _⟩
end Go.Proofs.YtpmeabikhonaoaaDoor

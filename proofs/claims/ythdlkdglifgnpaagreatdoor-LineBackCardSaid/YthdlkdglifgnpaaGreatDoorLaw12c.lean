/- ref12: Arg, Same, of what is the same. -/
import Derived.Test.YthdlkdglifgnpaaGreatDoorRef5d
import Derived.Test.YthdlkdglifgnpaaGreatDoorKn
namespace Go.Proofs.YthdlkdglifgnpaaGreatDoor
open Go.RowKit

set_option maxHeartbeats 4000000 in
theorem refArg_eq (a : Ar) (v u : Value) (w : World) (hs : SubAt w (· < w.heap.size) v a.e.sub) (ht : SubAt w (· < w.heap.size) u a.e.sub) :
    Calls Tryz.prog 21 #[arV a v, arV a u] w fun e w' => e = .returned (.bool true) ∧ Below w.heap.size w w' := by
  have HQ := Lib.hid (fun W (hW : Below w.heap.size w W) => refSame_any a.e a.e v u W (hs.at hW hW.size) (ht.at hW hW.size))
  rw [(sameE_iff _ _).2 rfl] at HQ
  obtain ⟨A, c, rfl, hc, hm⟩ := hs.form
  obtain ⟨A', c', rfl, hc', hm'⟩ := ht.form
  clear hs ht hc hm hc' hm'
  obtain ⟨aw, at1, ais, amem, ae⟩ := a
  unfold arV
  simp only at *
  generalize ae.sub.length = sl at *
  obtain ⟨o, n, m, s⟩ := ae
  simp only [Ex.op, Ex.n, Ex.name] at *
  cases ais <;> cases amem
  all_goals (
    go_enter Tryz.func21, Tryz.ntmps21
    go_wp2_with fail
    refine (HQ.out _ (((Below.refl _ _).alloc (Nat.le_refl _) _).alloc (by simp) _)).mono ?_
    rintro e w1 ⟨rfl, hb1⟩
    go_wp2_with fail
    go_ret
    exact ⟨rfl, (((Below.refl _ _).alloc (Nat.le_refl _) _).alloc (by simp) _).trans (hb1.mono (by simp; omega))⟩)
set_option maxHeartbeats 4000000 in
set_option maxRecDepth 100000 in
theorem refSame12_eq (s : St) (v u : Value) (w : World) (hs : ArAt w (· < w.heap.size) v s.args) (ht : ArAt w (· < w.heap.size) u s.args) :
    Calls Tryz.prog 8 #[stV s v, stV s u] w fun e w' => e = .returned (.bool true) ∧ Below w.heap.size w w' := by
  obtain ⟨A, c, rfl, hc, hm⟩ := hs.form
  obtain ⟨A', c', rfl, hc', hm'⟩ := ht.form
  unfold maxLen at hm hm'
  have HS := Lib.hid hs
  have HT := Lib.hid ht
  clear hs ht
  obtain ⟨lab, colon, op, l⟩ := s
  unfold stV
  simp only at *
  have n1 : (lab != lab) = false := by simp
  have n2 : (op != op) = false := by simp
  have n3 : ((l.length : Int) != (l.length : Int)) = false := by simp
  have n4 : (colon != colon) = false := by simp
  go_enter Tryz.func8, Tryz.ntmps8
  go_wp2_with fail
  go_loopw [5] (fun i wr => ∃ k : Nat, k ≤ l.length ∧ i = .int .i64 k ∧ Below (w.heap.size + 2) ((w.alloc (.cells #[.string ⟨lab.toArray⟩, .bool colon, .string ⟨op.toArray⟩, .slice A l.length c] 25)).alloc (.cells #[.string ⟨lab.toArray⟩, .bool colon, .string ⟨op.toArray⟩, .slice A' l.length c'] 25)) wr) (fun i _ => l.length - (intOf i).toNat)
  case atStart => exact ⟨0, Nat.zero_le _, rfl, Below.refl _ _⟩
  case round =>
    obtain ⟨k, hk, rfl, hb⟩ := hrel
    have b1 := box1_at hb 3 (.slice A l.length c) rfl
    have b2 := box2_at hb 3 (.slice A' l.length c') rfl
    have hz : w.heap.size + 2 ≤ wr.heap.size := by have := hb.size; simp at this; omega
    have hbw : Below w.heap.size w wr := (((Below.refl _ _).alloc (Nat.le_refl _) _).alloc (by simp) _).trans (hb.mono (by omega))
    have HB := Lib.hid hb
    have HBW := Lib.hid hbw
    clear hb
    by_cases hlt : k < l.length
    · obtain ⟨g, o, v1, hA, hgl, c0, c1, c2, c3, c4, c5, c6, c7, hs1⟩ := (HS.out.at hbw hbw.size).get k hlt
      subst hA
      obtain ⟨sA, sc, rfl, _, _⟩ := hs1.form
      obtain ⟨g', o', v2, hA', hgl', d0, d1, d2, d3, d4, d5, d6, d7, hs2⟩ := (HT.out.at hbw hbw.size).get k hlt
      subst hA'
      obtain ⟨tA, tc, rfl, _, _⟩ := hs2.form
      have HC := Lib.hid (refArg_eq l[k] _ _ wr.drew (hs1.keep (w' := wr.drew) (fun p _ => rfl) (fun _ h => h)) (hs2.keep (w' := wr.drew) (fun p _ => rfl) (fun _ h => h)))
      generalize l[k] = x at *
      clear hs1 hs2 hbw
      go_wp2_with fail
      go_still_tail 10, (by kernel_rfl)
      change wpList _ _ _ _ _ wr.drew
      go_wp2_with fail
      refine HC.out.mono ?_
      rintro e0 w5 ⟨rfl, hb5⟩
      go_wp2_with fail
      go_roundw
      case rel => exact ⟨k + 1, by omega, by go_num, HB.out.drew.trans (hb5.mono hz)⟩
      case measure => simp [intOf]; omega
    · obtain rfl : k = l.length := by omega
      clear hbw
      go_wp2_with fail
      go_ret
      exact ⟨rfl, HBW.out⟩
end Go.Proofs.YthdlkdglifgnpaaGreatDoor

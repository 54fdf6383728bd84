/- slices.Reverse at bytes, of a row of the call's own. -/
import Derived.Test.YtpmeabikhonaoaaDoorRows
import Derived.Test.YtpmeabikhonaoaaDoorKa
import Derived.BigRegion
namespace Go.Proofs.YtpmeabikhonaoaaDoor
open Go.RowKit

def RevAt (xs ys : List UInt8) (k : Nat) : Prop := ys.length = xs.length ∧ ∀ t, t < xs.length → ys[t]? = if t < k ∨ xs.length - k ≤ t then xs[xs.length - 1 - t]? else xs[t]?

theorem RevAt.zero (xs : List UInt8) : RevAt xs xs 0 := ⟨rfl, fun t ht => by rw [if_neg (by omega)]⟩
theorem RevAt.step {xs ys : List UInt8} {k : Nat} (h : RevAt xs ys k) (hk : k < xs.length - 1 - k) (hi : k < ys.length) (hj : xs.length - 1 - k < ys.length) :
    RevAt xs ((ys.set k ys[xs.length - 1 - k]).set (xs.length - 1 - k) ys[k]) (k + 1) := by
  refine ⟨by simp [h.1], fun t ht => ?_⟩
  have hi' := h.2 k (by omega)
  have hj' := h.2 (xs.length - 1 - k) (by omega)
  rw [if_neg (by omega)] at hi' hj'
  rw [List.getElem?_eq_getElem hi] at hi'
  rw [List.getElem?_eq_getElem hj] at hj'
  rw [List.getElem?_set, List.getElem?_set]
  by_cases e1 : xs.length - 1 - k = t
  · rw [if_pos e1, if_pos (by simp; omega), if_pos (by omega), hi']
    congr 1; omega
  · rw [if_neg e1]
    by_cases e2 : k = t
    · rw [if_pos e2, if_pos (by omega), if_pos (by omega), hj']
      congr 1; omega
    · rw [if_neg e2, h.2 t ht]
      by_cases c : t < k ∨ xs.length - k ≤ t
      · rw [if_pos c, if_pos (by omega)]
      · rw [if_neg c, if_neg (by omega)]
theorem RevAt.end_ {xs ys : List UInt8} {k : Nat} (h : RevAt xs ys k) (hk : xs.length ≤ 2 * k + 1) : ys = xs.reverse := by
  apply List.ext_getElem?
  intro t
  by_cases ht : t < xs.length
  · rw [h.2 t ht, List.getElem?_reverse ht]
    split
    · rfl
    · congr 1; omega
  · rw [List.getElem?_eq_none (by rw [h.1]; omega), List.getElem?_eq_none (by simp; omega)]

theorem row_set {ys : List UInt8} {pad : List Value} {i : Nat} (hi : i < ys.length) (c : UInt8) : (ys.map bv ++ pad).toArray.setIfInBounds i (bv c) = ((ys.set i c).map bv ++ pad).toArray := by
  apply Array.ext'
  simp [hi, List.map_set]
theorem row_at {ys : List UInt8} {pad : List Value} {i : Nat} (hi : i < ys.length) : (ys.map bv ++ pad).toArray[i]? = some (bv ys[i]) := by
  simp [List.getElem?_append, hi]

set_option maxHeartbeats 400000 in
theorem reverse_any (xs : List UInt8) (pad : List Value) (g cap : Nat) (w : World) (hl : xs.length ≤ 1000000) (hg : w.heap[g]? = some (.cells (xs.map bv ++ pad).toArray 5 (0, 0))) :
    Calls Tryd.prog 109 #[.slice (some ⟨g, 0, none⟩) xs.length cap] w fun e w' => e = .returned (.tuple #[]) ∧ w.grownBy w' (some g) ∧ w'.heap[g]? = some (.cells (xs.reverse.map bv ++ pad).toArray 5 (0, 0)) := by
  go_enter Tryd.func109, Tryd.ntmps109
  go_wp2
  go_loopw [2, 3] (fun i j wr => ∃ (k : Nat) (ys : List UInt8), i = .int .i64 k ∧ j = .int .i64 ((xs.length : Int) - 1 - k) ∧ k ≤ xs.length ∧ RevAt xs ys k ∧ w.grownBy wr (some g) ∧ wr.heap[g]? = some (.cells (ys.map bv ++ pad).toArray 5 (0, 0))) (fun i _ _ => xs.length - (intOf i).toNat)
  case atStart => exact ⟨0, xs, rfl, by simp, Nat.zero_le _, RevAt.zero xs, World.grownBy.refl _ _, hg⟩
  case round =>
    obtain ⟨k, ys, rfl, rfl, hk, hr, hgr, hh⟩ := hrel
    clear hg
    by_cases hlt : (k : Int) < (xs.length : Int) - 1 - k
    · obtain ⟨j, hj⟩ : ∃ j : Nat, (xs.length : Int) - 1 - k = (j : Int) := ⟨xs.length - 1 - k, by omega⟩
      have hj1 : k < j := by omega
      have hj2 : j < xs.length := by omega
      have HJ : Hid (j = xs.length - 1 - k) := Lib.hid (by omega)
      rw [hj]
      clear hj hlt
      have hyl := hr.1
      have hki : k < ys.length := by omega
      have hji : j < ys.length := by omega
      have c1 : wr.cell? ⟨g, k, none⟩ = some (.int .u8 ((ys[k].toNat : Nat) : Int)) := by rw [cell_of_heap hh, row_at hki]; rfl
      have c2 : wr.cell? ⟨g, j, none⟩ = some (.int .u8 ((ys[j].toNat : Nat) : Int)) := by rw [cell_of_heap hh, row_at hji]; rfl
      have f1 : wr.frozen? ⟨g, k, none⟩ = false := by rw [frozen_of_heap hh]; simp
      have f2 : wr.frozen? ⟨g, j, none⟩ = false := by rw [frozen_of_heap hh]; simp
      have R : Hid (RevAt xs ((ys.set k ys[j]).set j ys[k]) (k + 1)) := by
        have e := HJ.out; subst e; exact hr.step hj1 hki hji
      have HH : ∀ wz : World, wz.heap[g]? = some (.cells (ys.map bv ++ pad).toArray 5 (0, 0)) → ((wz.setCell ⟨g, k, none⟩ (bv ys[j])).setCell ⟨g, j, none⟩ (bv ys[k])).heap[g]? = some (.cells (((ys.set k ys[j]).set j ys[k]).map bv ++ pad).toArray 5 (0, 0)) := by
        intro wz hz
        rw [heap_set _ (heap_set _ hz), row_set hki, row_set (by simpa using hji)]
      have HK := Lib.hid HH
      have H0 := Lib.hid hh
      have HY := Lib.hid hyl
      have HR := Lib.hid hr
      clear HH hh hyl hr
      go_wp2
      go_region
      go_wp2
      go_roundw
      case rel => exact ⟨k + 1, _, by go_num, by have := HJ.out; rw [show (xs.length : Int) - 1 - ((k + 1 : Nat) : Int) = (j : Int) - 1 by omega], by omega, R.out, only_drew (only_setCell (only_setCell hgr (.inl rfl) _) (.inl rfl) _), HK.out _ H0.out⟩
      case measure => simp [intOf]; omega
    · have hlt' : (xs.length : Int) - 1 - k ≤ k := by omega
      go_wp2
      go_end0
      refine ⟨rfl, hgr, ?_⟩
      rw [← List.map_reverse, ← hr.end_ (by omega)]; exact hh
end Go.Proofs.YtpmeabikhonaoaaDoor

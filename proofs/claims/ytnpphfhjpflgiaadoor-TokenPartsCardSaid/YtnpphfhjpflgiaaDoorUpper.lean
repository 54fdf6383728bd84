/- number.Upper: what it returns. -/
import Derived.Test.YtnpphfhjpflgiaaDoorRows
import Derived.Test.YtnpphfhjpflgiaaDoorBase
import Derived.Test.YtnpphfhjpflgiaaDoorPureNum
namespace Go.Proofs.YtnpphfhjpflgiaaDoor
open Go.RowKit

def upRow (l : List UInt8) (pad : List Value) (k : Nat) : Array Value := (((l.take k).map upB ++ l.drop k).map bv ++ pad).toArray

theorem upRow_zero (l : List UInt8) (cap : Nat) : bytesRow ⟨l.toArray⟩ cap = upRow l (List.replicate (cap - l.length) (.int .u8 0)) 0 := by
  simp [bytesRow, upRow, bv, ByteArray.size]
theorem upRow_size (l : List UInt8) (pad : List Value) (k : Nat) : (upRow l pad k).size = l.length + pad.length := by
  simp [upRow]; omega
theorem upRow_at (l : List UInt8) (pad : List Value) (k : Nat) (hk : k < l.length) : (upRow l pad k)[k]? = some (bv l[k]) := by
  have h1 : min k l.length = k := by omega
  have h2 : 0 < l.length - k := by omega
  simp [upRow, h1, List.getElem?_append, h2]
theorem upRow_end (l : List UInt8) (pad : List Value) (j : Nat) (hj : j < (upper l).length) : (upRow l pad l.length)[j]? = some (bv (upper l)[j]) := by
  have hj' : j < l.length := by simpa [upper] using hj
  simp [upRow, upper, List.getElem?_append, hj']
theorem up_take (l : List UInt8) (k : Nat) (hk : k < l.length) : (l.take (k + 1)).map upB = (l.take k).map upB ++ [upB l[k]] := by
  rw [List.take_succ_eq_append_getElem hk, List.map_append]; rfl
theorem upRow_keep (l : List UInt8) (pad : List Value) (k : Nat) (hk : k < l.length) (h : upB l[k] = l[k]) : upRow l pad (k + 1) = upRow l pad k := by
  unfold upRow; rw [up_take l k hk, List.drop_eq_getElem_cons hk, h, List.append_assoc]; rfl
theorem set_mid (a b : List Value) (x y : Value) (pad : List Value) (k : Nat) (h : a.length = k) : (a ++ x :: b ++ pad).toArray.setIfInBounds k y = (a ++ y :: b ++ pad).toArray := by
  subst h; simp
theorem upRow_set (l : List UInt8) (pad : List Value) (k : Nat) (hk : k < l.length) : (upRow l pad k).setIfInBounds k (bv (upB l[k])) = upRow l pad (k + 1) := by
  unfold upRow
  rw [up_take l k hk, List.drop_eq_getElem_cons hk, List.append_assoc, List.map_append, List.map_cons, set_mid _ _ _ _ _ k (by simp; omega), List.map_append, List.map_append]
  rfl
theorem up_val (c : UInt8) (h : 97 ≤ c.toNat) (h' : c.toNat ≤ 122) : Value.int .u8 ((c.toNat : Int) - 97 + 65) = bv (upB c) := by
  have : (upB c).toNat = c.toNat - 32 := by
    unfold upB; rw [if_pos ⟨h, h'⟩, UInt8.toNat_sub_of_le]; rfl
    rw [UInt8.le_iff_toNat_le]; show 32 ≤ c.toNat; omega
  unfold bv; rw [this]; congr 1; omega
theorem up_no (c : UInt8) (h : ¬ (97 ≤ c.toNat ∧ c.toNat ≤ 122)) : upB c = c := by unfold upB; rw [if_neg h]

set_option maxHeartbeats 400000 in
theorem upper_any (l : List UInt8) (w : World) (hl : l.length ≤ 1000000) :
    Calls Tryd.prog 23 #[.string ⟨l.toArray⟩] w fun e w' => e = .returned (.string ⟨(upper l).toArray⟩) ∧ Below w.heap.size w w' := by
  have hcv := fun W => run_bytes_of_string (P := Tryd.prog) W 9 52 5 ⟨l.toArray⟩ Tryd.underlying9 Tryd.underlying52 Tryd.underlying5
  go_enter Tryd.func23, Tryd.ntmps23
  go_wp2
  clear hcv
  obtain ⟨pad, hpad⟩ : ∃ pad, bytesRow ⟨l.toArray⟩ (grownCap w l.length 0 5) = upRow l pad 0 := ⟨_, upRow_zero _ _⟩
  rw [hpad]; clear hpad
  generalize grownCap w l.length 0 5 = cap
  generalize hN : (upRow l pad 0).size = N
  have HN : Hid (N = l.length + pad.length) := by rw [← hN, upRow_size]; rfl
  clear hN
  go_loopw [10] (fun i wr => ∃ k : Nat, k ≤ l.length ∧ i = .int .i64 k ∧ wr.heap[w.heap.size]? = some (.cells (upRow l pad k) 5 (N, N + 1)) ∧ Below w.heap.size w wr) (fun i _ => l.length - (intOf i).toNat)
  case atStart => exact ⟨0, Nat.zero_le _, rfl, heap_alloc_new w _, ((Below.refl _ _).alloc (Nat.le_refl _) _).drew⟩
  case round =>
    obtain ⟨k, hk, rfl, hh, hb⟩ := hrel
    by_cases hlt : k < l.length
    · have hcell : wr.cell? ⟨w.heap.size, k, none⟩ = some (.int .u8 ((l[k].toNat : Nat) : Int)) := by rw [cell_of_heap hh, upRow_at l pad k hlt]; rfl
      have hfz : wr.frozen? ⟨w.heap.size, k, none⟩ = false := by rw [frozen_of_heap hh]; have := HN.out; simp; omega
      have H1 := Lib.hid hh; clear hh
      by_cases hc : 97 ≤ l[k].toNat ∧ l[k].toNat ≤ 122
      · obtain ⟨h1, h2⟩ := hc
        have h1' : (97 : Int) ≤ (l[k].toNat : Int) := by omega
        have h2' : (l[k].toNat : Int) ≤ 122 := by omega
        go_wp2
        go_roundw
        case rel => exact ⟨k + 1, by omega, by go_num, by rw [heap_set _ H1.out, up_val _ h1 h2, upRow_set l pad k hlt], hb.setCell (by simp) _⟩
        case measure => simp [intOf]; omega
      · have hno := Lib.hid (up_no _ hc)
        rcases (show l[k].toNat < 97 ∨ (97 ≤ l[k].toNat ∧ 122 < l[k].toNat) from by omega) with h1 | ⟨h1, h2⟩
        · clear hc
          have h1' : (l[k].toNat : Int) < 97 := by omega
          go_wp2
          go_roundw
          case rel => exact ⟨k + 1, by omega, by go_num, by rw [upRow_keep l pad k hlt hno.out]; exact H1.out, hb⟩
          case measure => simp [intOf]; omega
        · clear hc
          have h1' : (97 : Int) ≤ (l[k].toNat : Int) := by omega
          have h2' : (122 : Int) < (l[k].toNat : Int) := by omega
          go_wp2
          go_roundw
          case rel => exact ⟨k + 1, by omega, by go_num, by rw [upRow_keep l pad k hlt hno.out]; exact H1.out, hb⟩
          case measure => simp [intOf]; omega
    · obtain rfl : k = l.length := by omega
      have hcv := conv_back (P := Tryd.prog) wr 52 9 5 w.heap.size 0 cap l.length (upper l) Tryd.underlying52 Tryd.underlying5 Tryd.underlying9 (by simp [upper]) (fun j hj => by rw [Nat.zero_add, cell_of_heap hh, upRow_end l pad j hj])
      clear hh
      go_wp2
      go_ret
      exact ⟨rfl, hb⟩
end Go.Proofs.YtnpphfhjpflgiaaDoor

/- The reference's Show. -/
import Derived.Test.YtnpphfhjpflgiaaRefUpper
import Derived.Test.YtnpphfhjpflgiaaPureNum
namespace Go.Proofs.Ytnpphfhjpflgiaa
open Go.RowKit

/-- 'string([]byte{c})'. -/
theorem conv_one (W : World) (c : Int) : (convert 36 9 (.slice (some ⟨W.heap.size, 0, none⟩) 1 1)).run Try.prog (W.alloc (.cells #[.int .u8 c] 5)) = .ok (.string ⟨[byteOf c].toArray⟩) (W.alloc (.cells #[.int .u8 c] 5)) := by
  have h := run_convert_bytes_arg (P := Try.prog) (W.alloc (.cells #[.int .u8 c] 5)) 36 5 Try.underlying36 Try.underlying5 W.heap.size 0 1 1 [c] rfl (fun i hi => by
    obtain rfl : i = 0 := by omega
    rw [cell_of_heap (heap_alloc_new W _)]; rfl) 9 Try.underlying9
  rw [h]; rfl

set_option maxHeartbeats 400000 in
theorem refShow_any (n : Nat) (w : World) (hn : n ≤ 65535) :
    Calls Try.prog 12 #[.int .u16 (n : Int)] w fun e w' => e = .returned (.string ⟨(showN n).toArray⟩) ∧ Below w.heap.size w w' := by
  have hcv := conv_one
  by_cases h10 : n < 10
  · have hf : Hid (showN n = [UInt8.ofNat (48 + n)]) := Lib.hid (by unfold showN; rw [if_pos h10])
    generalize showN n = sn at *
    have h1 : (n : Int) < 10 := by omega
    go_enter Try.func12, Try.ntmps12
    go_wp2_with fail
    go_ret
    rw [hf.out, ← show byteOf (48 + (n : Int)) = UInt8.ofNat (48 + n) by unfold byteOf; congr 1]
    exact ⟨rfl, (Below.refl _ _).alloc (Nat.le_refl _) _⟩
  · have hf : Hid (showN n = (let x := 72 :: hexR 5 n; if 57 < (x.getLastD 0).toNat then x ++ [48] else x).reverse) := Lib.hid (by unfold showN; rw [if_neg h10])
    generalize showN n = sn at *
    have h1 : (10 : Int) ≤ (n : Int) := by omega
    go_enter Try.func12, Try.ntmps12
    go_wp2_with fail
    go_loopw [0, 3, 4] (fun m s d wr => ∃ (m' f d' : Nat) (xs : List UInt8), m = .int .u16 m' ∧ m' ≤ n ∧ m' < 16 ^ f ∧ xs ++ hexR f m' = 72 :: hexR 5 n ∧ xs.length ≤ 6 ∧ s = .string ⟨xs.reverse.toArray⟩ ∧ d = .int .u16 d' ∧ d' < 16 ∧ (xs = [72] ∨ xs.getLastD 0 = hexD d') ∧ Below w.heap.size w wr) (fun m _ _ _ => (intOf m).toNat)
    case atStart => exact ⟨n, 5, 0, [72], rfl, Nat.le_refl _, by omega, rfl, by simp, rfl, rfl, by omega, .inl rfl, Below.refl _ _⟩
    case round =>
      obtain ⟨m', f, d', xs, rfl, hm1, hm2, hx, hxl, rfl, rfl, hd, hl, hb⟩ := hrel
      have HX := Lib.hid hx
      have HM := Lib.hid hm2
      have HL := Lib.hid hl
      clear hx hm2 hl
      by_cases h0 : 0 < m'
      · have h0' : (0 : Int) < (m' : Int) := by omega
        have hsz := hb.size
        obtain ⟨f', hf1, hf2⟩ := hexR_step h0 HM.out HX.out
        have hl2 : (xs ++ [hexD (m' % 16)]).length ≤ 6 := by
          have h5 := congrArg List.length hf2
          have h6 := hexR_length 5 n
          simp only [List.length_append, List.length_cons] at h5 ⊢
          omega
        have H1 := Lib.hid hf1
        have H2 := Lib.hid hf2
        have H3 := Lib.hid hl2
        clear hf1 hf2 hl2
        by_cases h9 : 9 < m' % 16
        · have h9' : (9 : Int) < (m' : Int) % 16 := by omega
          have H5 : Hid (byteOf (65 + (m' : Int) % 16 - 10) = hexD (m' % 16)) := Lib.hid (by rw [← (hexD_big (m' % 16) h9 (by omega)).1]; unfold byteOf; congr 1; omega)
          go_wp2_with fail
          go_roundw
          case rel => exact ⟨m' / 16, f', m' % 16, xs ++ [hexD (m' % 16)], by go_num, by omega, H1.out, H2.out, H3.out, by rw [H5.out, List.reverse_append]; rfl, by go_num, by omega, .inr (by simp), hb.alloc hsz _⟩
          case measure => simp [intOf]; omega
        · have h9' : (m' : Int) % 16 ≤ 9 := by omega
          have H5 : Hid (byteOf (48 + (m' : Int) % 16) = hexD (m' % 16)) := Lib.hid (by rw [← (hexD_small (m' % 16) h9).1]; unfold byteOf; congr 1)
          go_wp2_with fail
          go_roundw
          case rel => exact ⟨m' / 16, f', m' % 16, xs ++ [hexD (m' % 16)], by go_num, by omega, H1.out, H2.out, H3.out, by rw [H5.out, List.reverse_append]; rfl, by go_num, by omega, .inr (by simp), hb.alloc hsz _⟩
          case measure => simp [intOf]; omega
      · obtain rfl : m' = 0 := by omega
        have hx : xs = 72 :: hexR 5 n := by have := HX.out; rw [hexR_zero, List.append_nil] at this; exact this
        have hlast : xs.getLastD 0 = hexD d' := by
          rcases HL.out with h | h
          · rw [hx, hexR, if_neg (by omega)] at h; simp at h
          · exact h
        rw [← hx, hlast] at hf
        clear hx HX HM HL hlast
        by_cases h9 : 9 < d'
        · have h9' : (9 : Int) < (d' : Int) := by omega
          have hfin : Hid (sn = (xs ++ [48]).reverse) := by have := hf.out; rw [if_pos (hexD_big d' h9 hd).2] at this; exact Lib.hid this
          go_wp2_with fail
          go_ret
          rw [hfin.out, List.reverse_append]
          exact ⟨rfl, hb⟩
        · have h9' : (d' : Int) ≤ 9 := by omega
          have hfin : Hid (sn = xs.reverse) := by have := hf.out; rw [if_neg (hexD_small d' h9).2] at this; exact Lib.hid this
          go_wp2_with fail
          go_ret
          rw [hfin.out]
          exact ⟨rfl, hb⟩
end Go.Proofs.Ytnpphfhjpflgiaa

/- number.Show. -/
import Derived.Test.YtpmeabikhonaoaaDoorReverse
import Derived.Test.YtpmeabikhonaoaaDoorKa
namespace Go.Proofs.YtpmeabikhonaoaaDoor
open Go.RowKit

theorem and15 (a : Nat) (ha : a ≤ 65535) : bits .and .u16 (a : Int) 15 = ((a % 16 : Nat) : Int) := by
  have hx : a % 16 < 16 := Nat.mod_lt _ (by omega)
  show IntKind.u16.wrap ((BitVec.ofInt 16 (a : Int) &&& BitVec.ofInt 16 (15 : Int)).toNat : Int) = _
  have h1 : (BitVec.ofInt 16 (a : Int)).toNat = a := by rw [BitVec.ofInt_natCast, BitVec.toNat_ofNat]; exact Nat.mod_eq_of_lt (by omega)
  have h2 : (BitVec.ofInt 16 (15 : Int)).toNat = 15 := by decide
  rw [BitVec.toNat_and, h1, h2, Nat.and_two_pow_sub_one_eq_mod a 4]
  exact IntWalk.u16_in _ (by omega)
theorem digs_get (i : Nat) (h : i < [(48 : UInt8), 49, 50, 51, 52, 53, 54, 55, 56, 57, 65, 66, 67, 68, 69, 70].length) : [(48 : UInt8), 49, 50, 51, 52, 53, 54, 55, 56, 57, 65, 66, 67, 68, 69, 70][i]'h = hexD i := by
  have : ∀ i : Fin 16, [(48 : UInt8), 49, 50, 51, 52, 53, 54, 55, 56, 57, 65, 66, 67, 68, 69, 70][i.val]'(by simp) = hexD i.val := by decide +kernel
  exact this ⟨i, by simpa using h⟩

theorem show_small (n : Nat) (h : n < 10) : List.drop n (48 :: List.take n [49, 50, 51, 52, 53, 54, 55, 56, 57, 65, 66, 67, 68, 69, 70]) = [UInt8.ofNat (48 + n)] := by
  have : ∀ n : Fin 10, List.drop n.val (48 :: List.take n.val [49, 50, 51, 52, 53, 54, 55, 56, 57, 65, 66, 67, 68, 69, 70]) = [UInt8.ofNat (48 + n.val)] := by decide +kernel
  exact this ⟨n, h⟩

set_option maxHeartbeats 1000000 in
set_option maxRecDepth 100000 in
theorem show_any (n : Nat) (w : World) (hn : n ≤ 65535) :
    Calls Tryd.prog 72 #[.int .u16 (n : Int)] w fun e w' => e = .returned (.string ⟨(showN n).toArray⟩) ∧ Below w.heap.size w w' := by
  obtain ⟨i0, hi, hz0, hz1, hz2⟩ := info_parts info_u8
  by_cases h10 : n < 10
  · have hf : Hid (showN n = [UInt8.ofNat (48 + n)]) := Lib.hid (by unfold showN; rw [if_pos h10])
    generalize showN n = sn at *
    have h1 : (n : Int) < 10 := by omega
    go_enter Tryd.func72, Tryd.ntmps72
    go_wp2_with fail
    go_ret
    refine ⟨?_, Below.refl _ _⟩
    rw [hf.out, ← show_small n h10]; rfl
  · have hf : Hid (showN n = (let x := 72 :: hexR 5 n; if 57 < (x.getLastD 0).toNat then x ++ [48] else x).reverse) := Lib.hid (by unfold showN; rw [if_neg h10])
    generalize showN n = sn at *
    have h1 : (10 : Int) ≤ (n : Int) := by omega
    go_enter Tryd.func72, Tryd.ntmps72
    go_wp2_with fail
    go_loopw [0, 3] (fun m v wr => ∃ (m' f : Nat) (xs : List UInt8), m = .int .u16 m' ∧ m' ≤ n ∧ m' < 16 ^ f ∧ xs ++ hexR f m' = 72 :: hexR 5 n ∧ xs.length ≤ 6 ∧ wr.ownsRow w.heap.size 5 1 v xs.length (xs.map bv) ∧ Below w.heap.size w wr) (fun m _ _ => (intOf m).toNat)
    case atStart =>
      refine ⟨n, 5, [72], rfl, Nat.le_refl _, by omega, rfl, by simp, ⟨by simp, .inr ⟨w.heap.size, 1, _, rfl, Nat.le_refl _, heap_alloc_new _ _, by simp, by decide, rfl, rfl⟩⟩, (Below.refl _ _).alloc (Nat.le_refl _) _⟩
    case round =>
      obtain ⟨m', f, xs, rfl, hm1, hm2, hx, hxl, hown, hb⟩ := hrel
      have HX := Lib.hid hx
      have HM := Lib.hid hm2
      clear hx hm2
      by_cases h0 : 0 < m'
      · have h0' : (0 : Int) < (m' : Int) := by omega
        have hsz := hb.size
        have ha := and15 m' (by omega)
        have hlt : ((m' % 16 : Nat) : Int) < 16 := by omega
        go_wp2_with (at_builtin; refine append_byte wr rfl _ _ rfl w.heap.size hown rfl _ (hexD (m' % 16)) (by rw [digs_get]) rfl (by omega) hsz ?_)
        intro v' w1 hown' hb'
        have hb1 := hb.trans hb'
        clear hb hb' hown
        obtain ⟨f', hf1, hf2⟩ := hexR_step h0 HM.out HX.out
        have hl2 : (xs ++ [hexD (m' % 16)]).length ≤ 6 := by
          have h5 := congrArg List.length hf2
          have h6 := hexR_length 5 n
          simp only [List.length_append, List.length_cons] at h5 ⊢
          omega
        have H1 := Lib.hid hf1
        have H2 := Lib.hid hf2
        have H3 := Lib.hid hl2
        have H4 : Hid (w1.ownsRow w.heap.size 5 1 v' (xs ++ [hexD (m' % 16)]).length ((xs ++ [hexD (m' % 16)]).map bv)) := by rw [List.length_append, List.map_append]; exact Lib.hid hown'
        clear hf1 hf2 hl2 hown'
        go_wp2_with fail
        go_roundw
        case rel => exact ⟨m' / 16, f', xs ++ [hexD (m' % 16)], by go_num, by omega, H1.out, H2.out, H3.out, H4.out, hb1⟩
        case measure => simp [intOf]; omega
      · obtain rfl : m' = 0 := by omega
        have hx : xs = 72 :: hexR 5 n := by have := HX.out; rw [hexR_zero, List.append_nil] at this; exact this
        have hxl0 : 1 ≤ xs.length := by rw [hx]; simp
        rw [← hx] at hf
        have HL := Lib.hid (last_get xs hxl0)
        rw [HL.out] at hf
        obtain ⟨g, cap, pad, hv, hg0, hg, hcap⟩ := own_block hown hxl0
        have hcl : wr.cell? ⟨g, xs.length - 1, none⟩ = some (.int .u8 ((xs[xs.length - 1].toNat : Nat) : Int)) := by rw [cell_of_heap hg, row_at (by omega)]; rfl
        have Hg := Lib.hid hg
        clear hx HX HM hg
        rw [hv]
        by_cases h57 : 57 < xs[xs.length - 1].toNat
        · have h57' : (57 : Int) < (xs[xs.length - 1].toNat : Int) := by omega
          rw [hv] at hown
          have hsz := hb.size
          go_wp2_with (first | (at_builtin; refine append_byte wr rfl _ _ rfl w.heap.size hown rfl _ 48 rfl rfl (by omega) hsz ?_))
          intro v' w1 hown' hb'
          have hb1 := hb.trans hb'
          have hfin : Hid (sn = (xs ++ [48]).reverse) := by have := hf.out; rw [if_pos h57] at this; exact Lib.hid this
          have ho2 : w1.ownsRow w.heap.size 5 1 v' (xs ++ [48]).length ((xs ++ [48]).map bv) := by rw [List.length_append, List.map_append]; exact hown'
          have hl2 : (xs ++ [48]).length ≤ 7 := by simp; omega
          have hl3 : 0 < (xs ++ [48]).length := by simp
          have HV : Hid (xs.length + 1 = (xs ++ [48]).length) := Lib.hid (by simp)
          clear hb hb' hown' hown hf Hg hcl hv HL h57 h57'
          generalize xs ++ [48] = ys at *
          obtain ⟨g', cap', pad', hv, hg0', hg', hcap'⟩ := own_block ho2 hl3
          rw [hv]
          clear ho2 hv
          have Hg := Lib.hid hg'
          clear hg'
          go_wp2_with fail
          refine (reverse_any ys pad' g' cap' _ (by omega) Hg.out).mono ?_
          rintro e w2 ⟨rfl, hgr, hg2⟩
          have hcv := conv_block (P := Tryd.prog) w2 105 9 5 g' cap' ys.length ys.reverse pad' (0, 0) Tryd.underlying105 Tryd.underlying5 Tryd.underlying9 (by simp) hg2
          have hb2 : Below w.heap.size w w2 := hb1.grown hgr hb1.size (fun k hk => by cases hk; exact hg0')
          clear hg2 hgr hb1
          go_wp2_with fail
          go_ret
          rw [hfin.out]
          exact ⟨rfl, hb2⟩
        · have h57' : (xs[xs.length - 1].toNat : Int) ≤ 57 := by omega
          have hfin : Hid (sn = xs.reverse) := by have := hf.out; rw [if_neg h57] at this; exact Lib.hid this
          go_wp2_with fail
          refine (reverse_any xs pad g cap _ (by omega) Hg.out).mono ?_
          rintro e w2 ⟨rfl, hgr, hg2⟩
          have hcv := conv_block (P := Tryd.prog) w2 105 9 5 g cap xs.length xs.reverse pad (0, 0) Tryd.underlying105 Tryd.underlying5 Tryd.underlying9 (by simp) hg2
          have hb2 : Below w.heap.size w w2 := hb.grown hgr hb.size (fun k hk => by cases hk; exact hg0)
          clear hg2 hgr hb
          go_wp2_with fail
          go_ret
          rw [hfin.out]
          exact ⟨rfl, hb2⟩
end Go.Proofs.YtpmeabikhonaoaaDoor

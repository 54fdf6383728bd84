/- token.first. -/
import Derived.Test.YtnpphfhjpflgiaaDoorTokSpan
import Derived.Test.YtnpphfhjpflgiaaDoorParse
namespace Go.Proofs.YtnpphfhjpflgiaaDoor
open Go.RowKit

/-- A token, as a value. -/
def tokV (t : Tok) : Value := .agg #[.int .i64 t.1, .string ⟨t.2.1.toArray⟩, .int .u16 t.2.2]
def markBytes : List UInt8 := [44, 40, 41, 91, 93, 43, 45, 42, 47, 58, 36]
theorem index_marks : ∀ n : Fin 256, (0 ≤ Lib.indexByte [44, 40, 41, 91, 93, 43, 45, 42, 47, 58, 36] (UInt8.ofNat n.val)) ↔ markB (UInt8.ofNat n.val) = true := by decide +kernel

theorem zero_cells {w w1 : World} {T : TypeId} {a b c : Value} (hb : Below (w.heap.size + 1) (w.alloc (.cells #[a, b, c] T)) w1) :
    w1.cell? ⟨w.heap.size, 0, none⟩ = some a ∧ w1.cell? ⟨w.heap.size, 1, none⟩ = some b ∧ w1.cell? ⟨w.heap.size, 2, none⟩ = some c ∧
    w1.frozen? ⟨w.heap.size, 0, none⟩ = false ∧ w1.frozen? ⟨w.heap.size, 1, none⟩ = false ∧ w1.frozen? ⟨w.heap.size, 2, none⟩ = false ∧ w.heap.size < w1.heap.size := by
  have h := hb.block w.heap.size (by omega)
  rw [heap_alloc_new] at h
  refine ⟨?_, ?_, ?_, ?_, ?_, ?_, lt_of_heap h⟩
  · rw [cell_of_heap h]; rfl
  · rw [cell_of_heap h]; rfl
  · rw [cell_of_heap h]; rfl
  · rw [frozen_of_heap h]; simp
  · rw [frozen_of_heap h]; simp
  · rw [frozen_of_heap h]; simp

theorem bset {B : Nat} {a w : World} (h : Below B a w) (i : Nat) (u : Value) : Below B a (w.setCell ⟨B, i, none⟩ u) := h.setCell (Nat.le_refl _) u

set_option maxHeartbeats 1000000 in
theorem first_any (l : List UInt8) (w : World) (hg : GW w) (hne : 1 ≤ l.length) (hl : l.length ≤ 1000000) :
    Calls Tryd.prog 33 #[.string ⟨l.toArray⟩] w fun e w' => e = .returned (.tuple #[tokV (firstT l).1, .int .i64 (firstT l).2.1, .int .i64 (firstT l).2.2]) ∧ Below w.heap.size w w' := by
  have hhd : l.headD 0 = l[0] := by cases l with | nil => simp at hne | cons c r => rfl
  have HF : Hid (firstT l = if letB l[0] then (if 16 < spanL tailB l then (tok0, 0, 11) else ((1, upper (l.take (spanL tailB l)), 0), spanL tailB l, 0))
    else if numB l[0] then ((2, [], (parse (l.take (spanL alnumB l))).1), spanL alnumB l, (parse (l.take (spanL alnumB l))).2)
    else if l[0] = 39 then (if quotedL l = 0 then (tok0, 0, 2) else ((3, (unquote (l.take (quotedL l))).1, 0), quotedL l, (unquote (l.take (quotedL l))).2))
    else if markB l[0] then ((4, [l[0]], 0), 1, 0)
    else (tok0, 0, 2)) := by rw [← hhd]; exact Lib.hid rfl
  clear hhd
  have hlt : (0 : Int) < (l.length : Int) := by omega
  generalize firstT l = ft at *
  cases hL : letB l[0] with
  | true =>
    rw [if_pos hL] at HF
    have HL := Lib.hid hL
    have hs := spanL_le tailB l
    clear hL
    by_cases h16 : 16 < spanL tailB l
    · have hf := Lib.hid (HF.out.trans (if_pos h16))
      have h16' : (16 : Int) < (spanL tailB l : Int) := by omega
      go_enter Tryd.func33, Tryd.ntmps33
      go_wp2_with fail
      refine (tbegin_any l[0] _).mono ?_
      rintro e w' ⟨rfl, rfl⟩
      rw [HL.out]
      go_wp2_with fail
      refine (span_tail l _ hl).mono ?_
      rintro e w' ⟨rfl, rfl⟩
      go_wp2_with fail
      rw [hf.out]
      refine bodyPost_ret (v := .tuple #[.agg #[.int .i64 0, .string ⟨#[]⟩, .int .u16 0], .int .i64 0, .int .i64 11]) (by simp [results, Tryd.results33, go_sem]) rfl ⟨rfl, ?_⟩
      exact (Below.refl _ _).alloc (Nat.le_refl _) _
    · have hf := Lib.hid (HF.out.trans (if_neg h16))
      have h16' : (spanL tailB l : Int) ≤ 16 := by omega
      have hsl : (spanL tailB l : Int) ≤ (l.length : Int) := by omega
      go_enter Tryd.func33, Tryd.ntmps33
      go_wp2_with fail
      refine (tbegin_any l[0] _).mono ?_
      rintro e w' ⟨rfl, rfl⟩
      rw [HL.out]
      go_wp2_with fail
      refine (span_tail l _ hl).mono ?_
      rintro e w' ⟨rfl, rfl⟩
      go_wp2_with fail
      refine (upper_any _ _ (by simp; omega)).mono ?_
      rintro e w1 ⟨rfl, hb1⟩
      obtain ⟨z0, z1, z2, f0, f1, f2, hz⟩ := zero_cells (by simpa using hb1)
      have hb2 := ((Below.refl w.heap.size w).alloc (Nat.le_refl _) _).trans (hb1.mono (by simp))
      clear hb1
      go_wp2_with fail
      rw [hf.out]
      refine bodyPost_ret (v := .tuple #[.agg #[.int .i64 1, .string ⟨(upper (l.take (spanL tailB l))).toArray⟩, .int .u16 0], .int .i64 (spanL tailB l), .int .i64 0]) (by simp [results, Tryd.results33, go_sem, z0, z1, z2]) rfl ⟨rfl, ?_⟩
      repeat (first | exact hb2 | apply bset)
  | false =>
    rw [if_neg (by rw [hL]; simp)] at HF
    have HL := Lib.hid hL
    clear hL
    cases hN : numB l[0] with
    | true =>
      have hf := Lib.hid (HF.out.trans (if_pos hN))
      have HN := Lib.hid hN
      have hs := spanL_le alnumB l
      have hsl : (spanL alnumB l : Int) ≤ (l.length : Int) := by omega
      have hsl0 : (0 : Int) ≤ (spanL alnumB l : Int) := by omega
      clear hN HF
      go_enter Tryd.func33, Tryd.ntmps33
      go_wp2_with fail
      refine (tbegin_any l[0] _).mono ?_
      rintro e w' ⟨rfl, rfl⟩
      rw [HL.out]
      go_wp2_with fail
      refine (tdigit_any l[0] _).mono ?_
      rintro e w' ⟨rfl, rfl⟩
      rw [HN.out]
      go_wp2_with fail
      refine (span_alnum l _ hl).mono ?_
      rintro e w' ⟨rfl, rfl⟩
      go_wp2_with fail
      refine (parse_any _ _ (by simp; omega)).mono ?_
      rintro e w1 ⟨rfl, hb1⟩
      generalize spanL alnumB l = n at *
      generalize parse (l.take n) = pn at *
      obtain ⟨z0, z1, z2, f0, f1, f2, hz⟩ := zero_cells (by simpa using hb1)
      have hb2 := ((Below.refl w.heap.size w).alloc (Nat.le_refl _) _).trans (hb1.mono (by simp))
      clear hb1
      go_wp2_with fail
      rw [hf.out]
      refine bodyPost_ret (v := .tuple #[.agg #[.int .i64 2, .string ⟨#[]⟩, .int .u16 pn.1], .int .i64 n, .int .i64 pn.2]) (by simp [results, Tryd.results33, go_sem, z0, z1, z2]) rfl ⟨rfl, ?_⟩
      repeat (first | exact hb2 | apply bset)
    | false =>
      rw [if_neg (by rw [hN]; simp)] at HF
      have HN := Lib.hid hN
      clear hN
      by_cases hq : l[0] = 39
      · rw [if_pos hq] at HF
        have e39 : ((l[0].toNat : Int) == 39) = true := by rw [hq]; rfl
        have hql := quotedL_le l (by intro h; subst h; simp at hne)
        clear hq
        by_cases hz : quotedL l = 0
        · have hf := Lib.hid (HF.out.trans (if_pos hz))
          have HZ := Lib.hid hz
          clear hz hql HF
          go_enter Tryd.func33, Tryd.ntmps33
          go_wp2_with fail
          refine (tbegin_any l[0] _).mono ?_
          rintro e w' ⟨rfl, rfl⟩
          rw [HL.out]
          go_wp2_with fail
          refine (tdigit_any l[0] _).mono ?_
          rintro e w' ⟨rfl, rfl⟩
          rw [HN.out]
          go_wp2_with fail
          refine (quoted_any l _ hne hl).mono ?_
          rintro e w' ⟨rfl, rfl⟩
          rw [HZ.out]
          go_wp2_with fail
          rw [hf.out]
          refine bodyPost_ret (v := .tuple #[.agg #[.int .i64 0, .string ⟨#[]⟩, .int .u16 0], .int .i64 0, .int .i64 2]) (by simp [results, Tryd.results33, go_sem]) rfl ⟨rfl, ?_⟩
          exact (Below.refl _ _).alloc (Nat.le_refl _) _
        · have hf := Lib.hid (HF.out.trans (if_neg hz))
          have hz' : ((quotedL l : Int) == 0) = false := by rw [beq_eq_false_iff_ne]; omega
          have hq1 : (2 : Int) ≤ (quotedL l : Int) := by omega
          have hq2 : (quotedL l : Int) ≤ (l.length : Int) := by omega
          have hq3 : quotedL l ≤ l.length := by omega
          clear hz hql HF
          go_enter Tryd.func33, Tryd.ntmps33
          go_wp2_with fail
          refine (tbegin_any l[0] _).mono ?_
          rintro e w' ⟨rfl, rfl⟩
          rw [HL.out]
          go_wp2_with fail
          refine (tdigit_any l[0] _).mono ?_
          rintro e w' ⟨rfl, rfl⟩
          rw [HN.out]
          go_wp2_with fail
          refine (quoted_any l _ hne hl).mono ?_
          rintro e w' ⟨rfl, rfl⟩
          generalize quotedL l = n at *
          go_wp2_with fail
          refine (unquote_any (l.take n) _ (hg.below ((Below.refl _ _).alloc (Nat.le_refl _) _)) (by simp; omega)).mono ?_
          rintro e w1 ⟨rfl, hb1⟩
          generalize unquote (l.take n) = pn at *
          obtain ⟨z0, z1, z2, f0, f1, f2, hz⟩ := zero_cells (by simpa using hb1)
          have hb2 := ((Below.refl w.heap.size w).alloc (Nat.le_refl _) _).trans (hb1.mono (by simp))
          clear hb1
          go_wp2_with fail
          rw [hf.out]
          refine bodyPost_ret (v := .tuple #[.agg #[.int .i64 3, .string ⟨pn.1.toArray⟩, .int .u16 0], .int .i64 n, .int .i64 pn.2]) (by simp [results, Tryd.results33, go_sem, z0, z1, z2]) rfl ⟨rfl, ?_⟩
          repeat (first | exact hb2 | apply bset)
      · rw [if_neg hq] at HF
        have e39 : ((l[0].toNat : Int) == 39) = false := by
          rw [beq_eq_false_iff_ne]; intro h; apply hq; apply UInt8.toNat.inj; show l[0].toNat = 39; omega
        have him := index_marks ⟨l[0].toNat, l[0].toNat_lt⟩
        simp only [UInt8.ofNat_toNat] at him
        have h1 : 1 ≤ l.length := hne
        cases hM : markB l[0] with
        | true =>
          have hf := Lib.hid (HF.out.trans (if_pos hM))
          have hix : decide ((0 : Int) ≤ Lib.indexByte [44, 40, 41, 91, 93, 43, 45, 42, 47, 58, 36] l[0]) = true := by simpa using him.2 hM
          have HT : Hid (List.take 1 l = [l[0]]) := by cases l with | nil => simp at hne | cons c r => exact Lib.hid rfl
          clear hM HF him hq
          go_enter Tryd.func33, Tryd.ntmps33
          go_wp2_with fail
          refine (tbegin_any l[0] _).mono ?_
          rintro e w' ⟨rfl, rfl⟩
          rw [HL.out]
          go_wp2_with fail
          refine (tdigit_any l[0] _).mono ?_
          rintro e w' ⟨rfl, rfl⟩
          rw [HN.out]
          go_wp2_with fail
          refine (Tryd.strings_IndexByte ⟨#[44, 40, 41, 91, 93, 43, 45, 42, 47, 58, 36]⟩ (l[0].toNat : Int) _).mono ?_
          rintro e w' ⟨rfl, rfl⟩
          rw [show Lib.indexByte (ByteArray.mk #[44, 40, 41, 91, 93, 43, 45, 42, 47, 58, 36]).data.toList (l[0].toNat : Int).toNat.toUInt8 = Lib.indexByte [44, 40, 41, 91, 93, 43, 45, 42, 47, 58, 36] l[0] by simp]
          generalize Lib.indexByte [44, 40, 41, 91, 93, 43, 45, 42, 47, 58, 36] l[0] = ix at *
          go_wp2_with fail
          rw [hf.out]
          refine bodyPost_ret (v := .tuple #[.agg #[.int .i64 4, .string ⟨[l[0]].toArray⟩, .int .u16 0], .int .i64 1, .int .i64 0]) (by rw [← HT.out]; simp [results, Tryd.results33, go_sem]) rfl ⟨rfl, ?_⟩
          exact (Below.refl _ _).alloc (Nat.le_refl _) _
        | false =>
          have hf := Lib.hid (HF.out.trans (if_neg (by rw [hM]; simp)))
          have hix : decide ((0 : Int) ≤ Lib.indexByte [44, 40, 41, 91, 93, 43, 45, 42, 47, 58, 36] l[0]) = false := by
            rw [decide_eq_false_iff_not]; intro h; rw [him.1 h] at hM; cases hM
          clear hM HF him hq
          go_enter Tryd.func33, Tryd.ntmps33
          go_wp2_with fail
          refine (tbegin_any l[0] _).mono ?_
          rintro e w' ⟨rfl, rfl⟩
          rw [HL.out]
          go_wp2_with fail
          refine (tdigit_any l[0] _).mono ?_
          rintro e w' ⟨rfl, rfl⟩
          rw [HN.out]
          go_wp2_with fail
          refine (Tryd.strings_IndexByte ⟨#[44, 40, 41, 91, 93, 43, 45, 42, 47, 58, 36]⟩ (l[0].toNat : Int) _).mono ?_
          rintro e w' ⟨rfl, rfl⟩
          rw [show Lib.indexByte (ByteArray.mk #[44, 40, 41, 91, 93, 43, 45, 42, 47, 58, 36]).data.toList (l[0].toNat : Int).toNat.toUInt8 = Lib.indexByte [44, 40, 41, 91, 93, 43, 45, 42, 47, 58, 36] l[0] by simp]
          generalize Lib.indexByte [44, 40, 41, 91, 93, 43, 45, 42, 47, 58, 36] l[0] = ix at *
          go_wp2_with fail
          rw [hf.out]
          refine bodyPost_ret (v := .tuple #[.agg #[.int .i64 0, .string ⟨#[]⟩, .int .u16 0], .int .i64 0, .int .i64 2]) (by simp [results, Tryd.results33, go_sem]) rfl ⟨rfl, ?_⟩
          exact (Below.refl _ _).alloc (Nat.le_refl _) _
end Go.Proofs.YtnpphfhjpflgiaaDoor

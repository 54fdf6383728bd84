/- The reference's Parse. -/
import Derived.Test.YtnpphfhjpflgiaaDoorRefUpper
import Derived.Test.YtnpphfhjpflgiaaDoorNumBased
import Derived.Deep.DeepCutAuto
import Derived.Deep.CutBlock
namespace Go.Proofs.YtnpphfhjpflgiaaDoor
open Go.RowKit

theorem base_ways (c : UInt8) :
    (((c.toNat : Int) == 72) = true ∧ baseN c = 16 ∧ baseC c = true) ∨
    (((c.toNat : Int) == 72) = false ∧ ((c.toNat : Int) == 79) = true ∧ baseN c = 8 ∧ baseC c = true) ∨
    (((c.toNat : Int) == 72) = false ∧ ((c.toNat : Int) == 79) = false ∧ ((c.toNat : Int) == 81) = true ∧ baseN c = 8 ∧ baseC c = true) ∨
    (((c.toNat : Int) == 72) = false ∧ ((c.toNat : Int) == 79) = false ∧ ((c.toNat : Int) == 81) = false ∧ ((c.toNat : Int) == 66) = true ∧ baseN c = 2 ∧ baseC c = true) ∨
    (((c.toNat : Int) == 72) = false ∧ ((c.toNat : Int) == 79) = false ∧ ((c.toNat : Int) == 81) = false ∧ ((c.toNat : Int) == 66) = false ∧ ((c.toNat : Int) == 68) = true ∧ baseN c = 10 ∧ baseC c = true) ∨
    (((c.toNat : Int) == 72) = false ∧ ((c.toNat : Int) == 79) = false ∧ ((c.toNat : Int) == 81) = false ∧ ((c.toNat : Int) == 66) = false ∧ ((c.toNat : Int) == 68) = false ∧ baseN c = 10 ∧ baseC c = false) := by
  unfold baseN baseC
  cases (c.toNat : Int) == 72 <;> cases (c.toNat : Int) == 79 <;> cases (c.toNat : Int) == 81 <;> cases (c.toNat : Int) == 66 <;> cases (c.toNat : Int) == 68 <;> simp
theorem head_get (l : List UInt8) (h : 1 ≤ l.length) : l.headD 0 = l[0]'(by omega) := by
  cases l with
  | nil => simp at h
  | cons c r => rfl

set_option maxHeartbeats 1000000 in
theorem refParse_any (l : List UInt8) (w : World) (hl : l.length ≤ 1000000) :
    Calls Tryd.prog 55 #[.string ⟨l.toArray⟩] w fun e w' => e = .returned (.tuple #[.int .u16 (parse l).1, .int .i64 (parse l).2]) ∧ Below w.heap.size w w' := by
  have HP : Hid (parse l = if upper l = [] ∨ ((upper l).headD 0).toNat < 48 ∨ 57 < ((upper l).headD 0).toNat then (0, 2) else parseEnd (parseL (baseN ((upper l).getLastD 0)) (baseD (upper l)))) := rfl
  have hlen : (upper l).length ≤ 1000000 := by rw [upper_length]; exact hl
  generalize parse l = pl at *
  go_enter Tryd.func55, Tryd.ntmps55
  go_wp2_with fail
  refine (refUpper_any _ _ hl).mono ?_
  rintro e w1 ⟨rfl, hb1⟩
  generalize upper l = t at *
  by_cases ht : t = []
  · have hp := Lib.hid (HP.out.trans (if_pos (.inl ht)))
    clear HP
    subst ht
    go_wp2_with fail
    go_ret2
    rw [hp.out]
    exact ⟨rfl, hb1⟩
  have hne : 1 ≤ t.length := by cases t with | nil => simp at ht | cons c r => simp
  have hne0 : ((t.length : Int) == 0) = false := by simp; omega
  have hne1 : (0 : Int) < (t.length : Int) := by omega
  have hhd := head_get t hne
  by_cases h1 : (t[0].toNat : Int) < 48
  · have hp := Lib.hid (HP.out.trans (if_pos (.inr (.inl (by rw [hhd]; omega)))))
    clear HP hhd
    go_wp2_with fail
    go_ret2
    rw [hp.out]
    exact ⟨rfl, hb1⟩
  by_cases h2 : (57 : Int) < (t[0].toNat : Int)
  · have hp := Lib.hid (HP.out.trans (if_pos (.inr (.inr (by rw [hhd]; omega)))))
    clear HP hhd
    go_wp2_with fail
    go_ret2
    rw [hp.out]
    exact ⟨rfl, hb1⟩
  have HQ := Lib.hid (HP.out.trans (if_neg (by rw [hhd]; simp only [not_or]; exact ⟨ht, by omega, by omega⟩)))
  clear HP
  have d1 : decide ((t[0].toNat : Int) < 48) = false := by simp; omega
  have d2 : decide ((57 : Int) < (t[0].toNat : Int)) = false := by simp; omega
  have HL := Lib.hid (last_get t hne)
  have HD := Lib.hid (List.dropLast_eq_take (l := t))
  clear h1 h2 hhd ht
  go_upto_block 0 with (fail)
  go_cut [5, 7] (fun a b wx => wx = w1 ∧ a = .int .i64 (baseN t[t.length - 1]) ∧ b = .bool (baseC t[t.length - 1]))
  case first =>
    rcases base_ways t[t.length - 1] with ⟨e1, B1, B2⟩ | ⟨e1, e2, B1, B2⟩ | ⟨e1, e2, e3, B1, B2⟩ | ⟨e1, e2, e3, e4, B1, B2⟩ | ⟨e1, e2, e3, e4, e5, B1, B2⟩ | ⟨e1, e2, e3, e4, e5, B1, B2⟩
    all_goals
      have H1 := Lib.hid B1
      have H2 := Lib.hid B2
      clear B1 B2
      go_wp2_with fail
      go_meet
      rw [H1.out, H2.out]
      exact ⟨rfl, rfl, rfl⟩
  case rest =>
    obtain ⟨rfl, rfl, rfl⟩ := hcut
    have hbd := Lib.hid (show baseD t = if baseC t[t.length - 1] then t.take (t.length - 1) else t by unfold baseD; rw [HL.out, HD.out])
    go_upto_if 42 with (fail)
    go_cut [4] (fun a wx => wx = wc ∧ a = .string ⟨(baseD t).toArray⟩)
    case first =>
      go_wp2_with fail
      · go_meet
        have hc : baseC t[t.length - 1] = true := by assumption
        rw [hbd.out, if_pos hc]
        exact ⟨rfl, rfl⟩
      · go_meet
        have hc : baseC t[t.length - 1] = false := by assumption
        rw [hbd.out, hc]
        exact ⟨rfl, rfl⟩
    case rest =>
      obtain ⟨rfl, rfl⟩ := hcut
      have hdl : (baseD t).length ≤ 1000000 := by
        rw [hbd.out]; split
        · simp; omega
        · exact hlen
      rw [HL.out] at HQ
      have HB := Lib.hid (baseN_cases t[t.length - 1])
      generalize baseD t = s at *
      generalize baseN t[t.length - 1] = b at *
      clear HL HD hbd
      have b0 : (0 : Int) ≤ (b : Int) := by omega
      have b1 : (b : Int) ≤ 16 := by have := HB.out; omega
      go_wp2_with fail
      go_loopw [8, 9, 10] (fun n o i wr => ∃ k m : Nat, k ≤ s.length ∧ i = .int .i64 k ∧ n = .int .i64 m ∧ o = .bool (decide (65535 < m)) ∧ parseL b (s.take k) = some m ∧ Below w.heap.size w wr) (fun _ _ i _ => s.length - (intOf i).toNat)
      case atStart => exact ⟨0, 0, Nat.zero_le _, rfl, rfl, rfl, rfl, hb1⟩
      case round =>
        clear hb1
        obtain ⟨k, m, hk, rfl, rfl, rfl, hm0, hb⟩ := hrel
        have hm1 := parseL_le _ _ _ hm0
        have hm := Lib.hid hm0
        clear hm0
        by_cases hlt : k < s.length
        · have hsn := parseL_snoc b (s.take k) s[k]
          rw [← List.take_succ_eq_append_getElem hlt, hm.out] at hsn
          have hvi : digI s[k] = if digV s[k] < 16 then (digV s[k] : Int) else -1 := rfl
          have hva := digV_all s[k]
          by_cases hd : digV s[k] < b
          · have hst : parseStep b (some m) s[k] = some (min (m * b + digV s[k]) 65536) := by simp [parseStep, hd]
            have HS := Lib.hid (hsn.trans hst)
            clear hsn hst
            have hmul : m * b ≤ 65536 * 16 := Nat.mul_le_mul hm1 (by omega)
            have hm2 : (0 : Int) ≤ (m : Int) * (b : Int) := by rw [← Int.natCast_mul]; omega
            have hm3 : (m : Int) * (b : Int) ≤ 1048576 := by rw [← Int.natCast_mul]; omega
            rw [if_pos (by omega)] at hvi
            have HV := Lib.hid hvi
            clear hvi hva
            have hd0 : (0 : Int) ≤ (digV s[k] : Int) := by omega
            have hd1 : (digV s[k] : Int) < (b : Int) := by omega
            have hd2 : decide ((digV s[k] : Int) < 0) = false := by simp
            have hd3 : decide ((b : Int) ≤ (digV s[k] : Int)) = false := by simp; omega
            generalize digV s[k] = d at *
            go_wp2_with fail
            refine (digit_any s[k] _).mono ?_
            rintro e w' ⟨rfl, rfl⟩
            rw [HV.out]
            have hmb : ((m * b + d : Nat) : Int) = (m : Int) * (b : Int) + (d : Int) := by simp
            by_cases hov : 65535 < m * b + d
            · have hov' : (65535 : Int) < (m : Int) * (b : Int) + (d : Int) := by omega
              have hmin : Hid (min (m * b + d) 65536 = 65536) := Lib.hid (by omega)
              clear hmb
              go_wp2_with fail
              go_roundw
              case rel => exact ⟨k + 1, 65536, by omega, by go_num, rfl, rfl, by rw [HS.out, hmin.out], hb⟩
              case measure => simp [intOf]; omega
            · have hov' : (m : Int) * (b : Int) + (d : Int) ≤ 65535 := by omega
              have hmin : Hid (min (m * b + d) 65536 = m * b + d) := Lib.hid (by omega)
              have HM := Lib.hid hmb
              have hmm : m * 1 ≤ m * b := Nat.mul_le_mul_left m (by have := HB.out; omega)
              have HO : Hid (Value.bool (decide (65535 < m)) = Value.bool (decide (65535 < m * b + d))) := by
                rw [show decide (65535 < m) = false by simp; omega, show decide (65535 < m * b + d) = false by simp; omega]; exact Lib.hid rfl
              clear hmm
              clear hmb
              go_wp2_with fail
              go_roundw
              case rel => exact ⟨k + 1, m * b + d, by omega, by go_num, by rw [HM.out], HO.out, by rw [HS.out, hmin.out], hb⟩
              case measure => simp [intOf]; omega
          · have hst : parseStep b (some m) s[k] = none := by simp [parseStep, hd]
            have HS := Lib.hid (hsn.trans hst)
            clear hsn hst
            have hfin : Hid (pl = (0, 2)) := by
              have := parseL_none b _ (s.drop (k + 1)) HS.out
              rw [List.take_append_drop] at this
              rw [HQ.out, this]; exact Lib.hid rfl
            rcases hva with hv | hv
            · rw [if_pos hv] at hvi
              have HV := Lib.hid hvi
              have hd2 : decide ((digV s[k] : Int) < 0) = false := by simp
              have hd3 : b ≤ digV s[k] := by omega
              clear hvi hd
              go_wp2_with fail
              refine (digit_any s[k] _).mono ?_
              rintro e w' ⟨rfl, rfl⟩
              rw [HV.out]
              generalize digV s[k] = d at *
              go_wp2_with fail
              go_ret2
              rw [hfin.out]
              exact ⟨rfl, hb⟩
            · rw [if_neg (by omega)] at hvi
              have HV := Lib.hid hvi
              clear hvi hd hv
              go_wp2_with fail
              refine (digit_any s[k] _).mono ?_
              rintro e w' ⟨rfl, rfl⟩
              rw [HV.out]
              go_wp2_with fail
              go_ret2
              rw [hfin.out]
              exact ⟨rfl, hb⟩
        · obtain rfl : k = s.length := by omega
          have hq : Hid (pl = parseEnd (some m)) := by rw [HQ.out, ← hm.out, List.take_length]; exact Lib.hid rfl
          by_cases h6 : 65535 < m
          · have h6' : decide (65535 < m) = true := by simpa using h6
            go_wp2_with fail
            go_ret2
            rw [hq.out]; simp only [parseEnd]; rw [if_pos h6]
            exact ⟨rfl, hb⟩
          · have h6' : decide (65535 < m) = false := by simpa using h6
            have h7 : (m : Int) ≤ 65535 := by omega
            go_wp2_with fail
            go_ret2
            rw [hq.out]; simp only [parseEnd]; rw [if_neg h6]
            exact ⟨rfl, hb⟩
end Go.Proofs.YtnpphfhjpflgiaaDoor

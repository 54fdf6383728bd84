/- The reference's mark and next. -/
import Derived.Test.YtnpphfhjpflgiaaDoorTokFirst
import Derived.Test.YtnpphfhjpflgiaaDoorRefParse
import Derived.Test.YtnpphfhjpflgiaaDoorRefUnquote
import Derived.Deep.DeepCutAuto
import Derived.Deep.CutBlock
namespace Go.Proofs.YtnpphfhjpflgiaaDoor
open Go.RowKit

theorem marks_get : ∀ k : Fin 11, ∀ n : Fin 256, markB (UInt8.ofNat n.val) = ((marks.take k.val).contains (UInt8.ofNat n.val) || (marks.drop k.val).contains (UInt8.ofNat n.val)) := by decide +kernel
set_option maxHeartbeats 400000 in
theorem mark_any (c : UInt8) (w : World) :
    Calls Tryd.prog 56 #[.int .u8 (c.toNat : Int)] w fun e w' => e = .returned (.bool (markB c)) ∧ w = w' := by
  have HM : Hid (markB c = [44, 40, 41, 91, 93, 43, 45, 42, 47, 58, 36].contains c) := Lib.hid rfl
  generalize markB c = mc at *
  go_enter Tryd.func56, Tryd.ntmps56
  go_wp2_with fail
  go_loop [4] (fun i => ∃ k : Nat, k ≤ 11 ∧ i = .int .i64 k ∧ ([44, 40, 41, 91, 93, 43, 45, 42, 47, 58, 36].take k).contains c = false) (fun i => 11 - (intOf i).toNat)
  case atStart => exact ⟨0, Nat.zero_le _, rfl, rfl⟩
  case round =>
    obtain ⟨k, hk, rfl, hc⟩ := hrel
    have HC := Lib.hid hc
    clear hc
    by_cases hlt : k < 11
    · have hlt' : k < [(44 : UInt8), 40, 41, 91, 93, 43, 45, 42, 47, 58, 36].length := by simpa using hlt
      have hlti : (k : Int) < 11 := by omega
      by_cases he : [(44 : UInt8), 40, 41, 91, 93, 43, 45, 42, 47, 58, 36][k] = c
      · have hf : Hid (mc = true) := Lib.hid (by rw [HM.out, List.contains_iff_mem]; exact he ▸ List.getElem_mem hlt')
        have e1 : (([(44 : UInt8), 40, 41, 91, 93, 43, 45, 42, 47, 58, 36][k].toNat : Int) == (c.toNat : Int)) = true := by rw [he]; simp
        clear he
        go_wp2_with fail
        go_ret
        rw [hf.out]
        exact ⟨rfl, rfl⟩
      · have hf : Hid (([44, 40, 41, 91, 93, 43, 45, 42, 47, 58, 36].take (k + 1)).contains c = false) := Lib.hid (by
          rw [List.take_succ_eq_append_getElem hlt']
          have h1 := HC.out
          rw [Bool.eq_false_iff] at h1 ⊢
          intro h2
          replace h1 : ¬ _ := h1
          rw [List.contains_iff_mem] at h1 h2
          rcases List.mem_append.1 h2 with h3 | h3
          · exact h1 h3
          · exact he (List.mem_singleton.1 h3).symm)
        have e1 : (([(44 : UInt8), 40, 41, 91, 93, 43, 45, 42, 47, 58, 36][k].toNat : Int) == (c.toNat : Int)) = false := by
          rw [beq_eq_false_iff_ne]; intro h; apply he; apply UInt8.toNat.inj; omega
        clear he
        go_wp2_with fail
        go_round
        case rel => exact ⟨k + 1, by omega, by go_num, hf.out⟩
        case measure => simp [intOf]; omega
    · obtain rfl : k = 11 := by omega
      have hf : Hid (mc = false) := Lib.hid (by rw [HM.out]; exact HC.out)
      go_wp2_with fail
      go_ret
      rw [hf.out]
      exact ⟨rfl, rfl⟩

theorem qlen_step (t : List UInt8) (n : Nat) (h1 : 1 ≤ t.length) (h : t.headD 0 ≠ 39) : qlen t n = qlen (t.drop 1) (n + 1) := by
  match t, h1, h with
  | [c], _, h => rw [qlen, if_neg (by simpa using h)]; rfl
  | c :: d :: r, _, h => rw [qlen, if_neg (by simpa using h)]; rfl

set_option maxHeartbeats 2000000 in
theorem next_any (l : List UInt8) (w : World) (hne : 1 ≤ l.length) (hl : l.length ≤ 1000000) :
    Calls Tryd.prog 34 #[.string ⟨l.toArray⟩] w fun e w' => e = .returned (.tuple #[tokV (firstT l).1, .int .i64 (firstT l).2.1, .int .i64 (firstT l).2.2]) ∧ Below w.heap.size w w' := by
  have hhd : l.headD 0 = l[0] := by cases l with | nil => simp at hne | cons c r => rfl
  have HF : Hid (firstT l = if letB l[0] then (if 16 < spanL tailB l then (tok0, 0, 11) else ((1, upper (l.take (spanL tailB l)), 0), spanL tailB l, 0))
    else if numB l[0] then ((2, [], (parse (l.take (spanL alnumB l))).1), spanL alnumB l, (parse (l.take (spanL alnumB l))).2)
    else if l[0] = 39 then (if quotedL l = 0 then (tok0, 0, 2) else ((3, (unquote (l.take (quotedL l))).1, 0), quotedL l, (unquote (l.take (quotedL l))).2))
    else if markB l[0] then ((4, [l[0]], 0), 1, 0)
    else (tok0, 0, 2)) := by rw [← hhd]; exact Lib.hid rfl
  clear hhd
  have hlt : (0 : Int) < (l.length : Int) := by omega
  generalize firstT l = ft at *
  go_enter Tryd.func34, Tryd.ntmps34
  go_wp2_with fail
  refine (letter_any l[0] _).mono ?_
  rintro e w' ⟨rfl, rfl⟩
  cases hL : letB l[0] with
  | true =>
    rw [if_pos hL] at HF
    have HT0 : Hid (tailB l[0] = true) := Lib.hid (by unfold tailB; rw [hL]; rfl)
    have HS := Lib.hid (spanL_stop tailB l)
    have HA := Lib.hid (spanL_all tailB l)
    have hsl := spanL_le tailB l
    generalize spanL tailB l = sl at *
    clear hL
    go_upto_block 0 with (fail)
    go_cut [5] (fun a wx => wx = w.alloc (.cells #[.int .i64 0, .string ⟨#[]⟩, .int .u16 0] 46) ∧ a = .int .i64 sl)
    case first =>
      go_wp2_with fail
      go_loop [5] (fun i => ∃ k : Nat, 1 ≤ k ∧ k ≤ l.length ∧ i = .int .i64 k ∧ ∀ j (hj : j < l.length), j < k → tailB l[j] = true) (fun i => l.length - (intOf i).toNat)
      case atStart =>
        refine ⟨1, Nat.le_refl _, hne, rfl, fun j _ h => ?_⟩
        obtain rfl : j = 0 := by omega
        exact HT0.out
      case round =>
        obtain ⟨k, hk1, hk, rfl, hp⟩ := hrel
        have HP := Lib.hid hp
        clear hp
        by_cases hkl : k < l.length
        · have hkl' : (k : Int) < (l.length : Int) := by omega
          go_wp2_with fail
          refine (rtail_any l[k] _).mono ?_
          rintro e w' ⟨rfl, rfl⟩
          cases h : tailB l[k]
          · have hf := Lib.hid (HS.out k hkl HP.out h)
            clear h
            go_wp2_with fail
            go_meet
            rw [hf.out]
            exact ⟨rfl, rfl⟩
          · have H := Lib.hid h
            clear h
            go_wp2_with fail
            go_round
            case rel =>
              refine ⟨k + 1, by omega, by omega, by go_num, fun j hj hjk => ?_⟩
              rcases Nat.lt_or_eq_of_le (Nat.le_of_lt_succ hjk) with h | h
              · exact HP.out j hj h
              · subst h; exact H.out
            case measure => simp [intOf]; omega
        · obtain rfl : k = l.length := by omega
          have hf := Lib.hid (HA.out (fun j hj => HP.out j hj hj))
          go_wp2_with fail
          go_meet
          rw [hf.out]
          exact ⟨rfl, rfl⟩
    case rest =>
      obtain ⟨rfl, rfl⟩ := hcut
      have hsl' : (sl : Int) ≤ (l.length : Int) := by omega
      by_cases h16 : 16 < sl
      · have hf := Lib.hid (HF.out.trans (if_pos h16))
        have h16' : (16 : Int) < (sl : Int) := by omega
        go_wp2_with fail
        rw [hf.out]
        refine bodyPost_ret (v := .tuple #[.agg #[.int .i64 0, .string ⟨#[]⟩, .int .u16 0], .int .i64 0, .int .i64 11]) (by simp [results, Tryd.results34, go_sem]) rfl ⟨rfl, ?_⟩
        exact (Below.refl _ _).alloc (Nat.le_refl _) _
      · have hf := Lib.hid (HF.out.trans (if_neg h16))
        have h16' : (sl : Int) ≤ 16 := by omega
        go_wp2_with fail
        refine (refUpper_any _ _ (by simp; omega)).mono ?_
        rintro e w1 ⟨rfl, hb1⟩
        obtain ⟨z0, z1, z2, f0, f1, f2, hz⟩ := zero_cells (by simpa using hb1)
        have hb2 := ((Below.refl w.heap.size w).alloc (Nat.le_refl _) _).trans (hb1.mono (by simp))
        clear hb1
        go_wp2_with fail
        rw [hf.out]
        refine bodyPost_ret (v := .tuple #[.agg #[.int .i64 1, .string ⟨(upper (l.take sl)).toArray⟩, .int .u16 0], .int .i64 sl, .int .i64 0]) (by simp [results, Tryd.results34, go_sem, z0, z1, z2]) rfl ⟨rfl, ?_⟩
        repeat (first | exact hb2 | apply bset)
  | false =>
    rw [if_neg (by rw [hL]; simp)] at HF
    clear hL
    cases hN : numB l[0] with
    | true =>
      rw [if_pos hN] at HF
      have HT0 : Hid (alnumB l[0] = true) := Lib.hid (by unfold alnumB; rw [hN, Bool.or_true])
      have n1 : (48 : Int) ≤ (l[0].toNat : Int) := by unfold numB at hN; simp at hN; omega
      have n2 : (l[0].toNat : Int) ≤ 57 := by unfold numB at hN; simp at hN; omega
      have HS := Lib.hid (spanL_stop alnumB l)
      have HA := Lib.hid (spanL_all alnumB l)
      have hsl := spanL_le alnumB l
      generalize spanL alnumB l = sl at *
      clear hN
      go_upto_block 2 with (fail)
      go_cut [5] (fun a wx => wx = w.alloc (.cells #[.int .i64 0, .string ⟨#[]⟩, .int .u16 0] 46) ∧ a = .int .i64 sl)
      case first =>
        go_wp2_with fail
        go_loop [5] (fun i => ∃ k : Nat, 1 ≤ k ∧ k ≤ l.length ∧ i = .int .i64 k ∧ ∀ j (hj : j < l.length), j < k → alnumB l[j] = true) (fun i => l.length - (intOf i).toNat)
        case atStart =>
          refine ⟨1, Nat.le_refl _, hne, rfl, fun j _ h => ?_⟩
          obtain rfl : j = 0 := by omega
          exact HT0.out
        case round =>
          obtain ⟨k, hk1, hk, rfl, hp⟩ := hrel
          have HP := Lib.hid hp
          clear hp
          by_cases hkl : k < l.length
          · have hkl' : (k : Int) < (l.length : Int) := by omega
            go_wp2_with fail
            refine (ralnum_any l[k] _).mono ?_
            rintro e w' ⟨rfl, rfl⟩
            cases h : alnumB l[k]
            · have hf := Lib.hid (HS.out k hkl HP.out h)
              clear h
              go_wp2_with fail
              go_meet
              rw [hf.out]
              exact ⟨rfl, rfl⟩
            · have H := Lib.hid h
              clear h
              go_wp2_with fail
              go_round
              case rel =>
                refine ⟨k + 1, by omega, by omega, by go_num, fun j hj hjk => ?_⟩
                rcases Nat.lt_or_eq_of_le (Nat.le_of_lt_succ hjk) with h | h
                · exact HP.out j hj h
                · subst h; exact H.out
              case measure => simp [intOf]; omega
          · obtain rfl : k = l.length := by omega
            have hf := Lib.hid (HA.out (fun j hj => HP.out j hj hj))
            go_wp2_with fail
            go_meet
            rw [hf.out]
            exact ⟨rfl, rfl⟩
      case rest =>
        obtain ⟨rfl, rfl⟩ := hcut
        have hsl' : (sl : Int) ≤ (l.length : Int) := by omega
        go_wp2_with fail
        refine (refParse_any _ _ (by simp; omega)).mono ?_
        rintro e w1 ⟨rfl, hb1⟩
        generalize parse (l.take sl) = pn at *
        obtain ⟨z0, z1, z2, f0, f1, f2, hz⟩ := zero_cells (by simpa using hb1)
        have hb2 := ((Below.refl w.heap.size w).alloc (Nat.le_refl _) _).trans (hb1.mono (by simp))
        clear hb1
        go_wp2_with fail
        rw [HF.out]
        refine bodyPost_ret (v := .tuple #[.agg #[.int .i64 2, .string ⟨#[]⟩, .int .u16 pn.1], .int .i64 sl, .int .i64 pn.2]) (by simp [results, Tryd.results34, go_sem, z0, z1, z2]) rfl ⟨rfl, ?_⟩
        repeat (first | exact hb2 | apply bset)
    | false =>
      rw [if_neg (by rw [hN]; simp)] at HF
      have hnn : (l[0].toNat : Int) < 48 ∨ ((48 : Int) ≤ (l[0].toNat : Int) ∧ (57 : Int) < (l[0].toNat : Int)) := by unfold numB at hN; simp at hN; omega
      clear hN
      by_cases hq : l[0] = 39
      · rw [if_pos hq] at HF
        clear hnn
        have HQ : Hid (quotedL l = qlen (l.drop 1) 1) := Lib.hid rfl
        generalize quotedL l = ql at *
        go_wp2_with fail
        have hqz := Lib.hid hq
        clear hq
        go_loop [5] (fun i => ∃ k : Nat, 1 ≤ k ∧ k ≤ l.length ∧ i = .int .i64 k ∧ ql = qlen (l.drop k) k) (fun i => l.length - (intOf i).toNat)
        case atStart => exact ⟨1, Nat.le_refl _, hne, rfl, HQ.out⟩
        case round =>
          obtain ⟨k, hk1, hk, rfl, hq⟩ := hrel
          have HK := Lib.hid hq
          clear hq
          by_cases hkl : k < l.length
          · have hkl' : (k : Int) < (l.length : Int) := by omega
            have hdh : (l.drop k).headD 0 = l[k] := by rw [List.drop_eq_getElem_cons hkl]; rfl
            by_cases h39 : l[k] = 39
            · have hqa := qlen_at (l.drop k) k (by rw [hdh]; exact h39)
              simp only [List.drop_drop] at hqa
              by_cases h2 : k + 1 < l.length ∧ (l.drop (k + 1)).headD 0 = 39
              · obtain ⟨hl2, h2b⟩ := h2
                rw [if_pos h2b] at hqa
                have hn1 : (k : Int) + 1 < (l.length : Int) := by omega
                have hh2 : l[k + 1] = 39 := by rw [List.drop_eq_getElem_cons hl2] at h2b; exact h2b
                have HN2 := Lib.hid (HK.out.trans hqa)
                clear hqa h2b hdh
                go_wp2_with fail
                go_round
                case rel => exact ⟨k + 2, by omega, by omega, by go_num, HN2.out⟩
                case measure => simp [intOf]; omega
              · have hnh : ¬ (l.drop (k + 1)).headD 0 = 39 := fun h => by
                  rcases Nat.lt_or_ge (k + 1) l.length with h3 | h3
                  · exact h2 ⟨h3, h⟩
                  · rw [List.drop_of_length_le h3] at h; simp at h
                rw [if_neg hnh] at hqa
                have hql : ql = k + 1 := HK.out.trans hqa
                have hf := Lib.hid (HF.out.trans (if_neg (by omega)))
                rw [hql] at hf
                clear hqa h2 hdh hql
                have hn2 : k + 1 = l.length ∨ ∃ h3 : k + 1 < l.length, ((l[k + 1].toNat : Int) == 39) = false := by
                  rcases Nat.lt_or_ge (k + 1) l.length with h3 | h3
                  · right
                    refine ⟨h3, ?_⟩
                    rw [beq_eq_false_iff_ne]; intro h; apply hnh; rw [List.drop_eq_getElem_cons h3]; apply UInt8.toNat.inj; show l[k + 1].toNat = 39; omega
                  · left; omega
                clear hnh
                have hk2 : (k : Int) + 1 ≤ (l.length : Int) := by omega
                rcases hn2 with hn2 | ⟨h3, hn2⟩
                · have hn3 : decide ((k : Int) + 1 < (l.length : Int)) = false := by simp; omega
                  have hn4 : (l.length : Int) ≤ (k : Int) + 1 := by omega
                  clear hn2
                  go_wp2_with fail
                  refine (refUnquote_any (l.take (k + 1)) _ (by simp; omega)).mono ?_
                  rintro e w1 ⟨rfl, hb1⟩
                  generalize unquote (l.take (k + 1)) = pn at *
                  obtain ⟨z0, z1, z2, f0, f1, f2, hz⟩ := zero_cells (by simpa using hb1)
                  have hb2 := ((Below.refl w.heap.size w).alloc (Nat.le_refl _) _).trans (hb1.mono (by simp))
                  clear hb1
                  go_wp2_with fail
                  rw [hf.out]
                  refine bodyPost_ret (v := .tuple #[.agg #[.int .i64 3, .string ⟨pn.1.toArray⟩, .int .u16 0], .int .i64 ((k : Int) + 1), .int .i64 pn.2]) (by simp [results, Tryd.results34, go_sem, z0, z1, z2]) rfl ⟨rfl, ?_⟩
                  repeat (first | exact hb2 | apply bset)
                · have hn3 : (k : Int) + 1 < (l.length : Int) := by omega
                  go_wp2_with fail
                  refine (refUnquote_any (l.take (k + 1)) _ (by simp; omega)).mono ?_
                  rintro e w1 ⟨rfl, hb1⟩
                  generalize unquote (l.take (k + 1)) = pn at *
                  obtain ⟨z0, z1, z2, f0, f1, f2, hz⟩ := zero_cells (by simpa using hb1)
                  have hb2 := ((Below.refl w.heap.size w).alloc (Nat.le_refl _) _).trans (hb1.mono (by simp))
                  clear hb1
                  go_wp2_with fail
                  rw [hf.out]
                  refine bodyPost_ret (v := .tuple #[.agg #[.int .i64 3, .string ⟨pn.1.toArray⟩, .int .u16 0], .int .i64 ((k : Int) + 1), .int .i64 pn.2]) (by simp [results, Tryd.results34, go_sem, z0, z1, z2]) rfl ⟨rfl, ?_⟩
                  repeat (first | exact hb2 | apply bset)
            · have hst := qlen_step (l.drop k) k (by rw [List.length_drop]; omega) (by rw [hdh]; exact h39)
              rw [List.drop_drop] at hst
              have HN2 := Lib.hid (HK.out.trans hst)
              have e39 : ((l[k].toNat : Int) != 39) = true := by
                rw [bne_iff_ne]; intro h; apply h39; apply UInt8.toNat.inj; show l[k].toNat = 39; omega
              clear h39 hst hdh
              go_wp2_with fail
              go_round
              case rel => exact ⟨k + 1, by omega, by omega, by go_num, HN2.out⟩
              case measure => simp [intOf]; omega
          · obtain rfl : k = l.length := by omega
            have hql : ql = 0 := by rw [HK.out, List.drop_length]; rfl
            have hf := Lib.hid (HF.out.trans (if_pos hql))
            clear hql
            go_wp2_with fail
            rw [hf.out]
            refine bodyPost_ret (v := .tuple #[.agg #[.int .i64 0, .string ⟨#[]⟩, .int .u16 0], .int .i64 0, .int .i64 2]) (by simp [results, Tryd.results34, go_sem]) rfl ⟨rfl, ?_⟩
            exact (Below.refl _ _).alloc (Nat.le_refl _) _
      · rw [if_neg hq] at HF
        have e39 : ((l[0].toNat : Int) == 39) = false := by
          rw [beq_eq_false_iff_ne]; intro h; apply hq; apply UInt8.toNat.inj; show l[0].toNat = 39; omega
        clear hq
        have HT : Hid (List.take 1 l = [l[0]]) := by cases l with | nil => simp at hne | cons c r => exact Lib.hid rfl
        rcases hnn with hnn | ⟨hn1, hn2⟩
        all_goals
          go_wp2_with fail
          refine (mark_any l[0] _).mono ?_
          rintro e w' ⟨rfl, rfl⟩
          cases hM : markB l[0] with
          | true =>
            have hf := Lib.hid (HF.out.trans (if_pos hM))
            clear hM
            go_wp2_with fail
            rw [hf.out]
            refine bodyPost_ret (v := .tuple #[.agg #[.int .i64 4, .string ⟨[l[0]].toArray⟩, .int .u16 0], .int .i64 1, .int .i64 0]) (by rw [← HT.out]; simp [results, Tryd.results34, go_sem]) rfl ⟨rfl, ?_⟩
            exact (Below.refl _ _).alloc (Nat.le_refl _) _
          | false =>
            have hf := Lib.hid (HF.out.trans (if_neg (by rw [hM]; simp)))
            clear hM
            go_wp2_with fail
            rw [hf.out]
            refine bodyPost_ret (v := .tuple #[.agg #[.int .i64 0, .string ⟨#[]⟩, .int .u16 0], .int .i64 0, .int .i64 2]) (by simp [results, Tryd.results34, go_sem]) rfl ⟨rfl, ?_⟩
            exact (Below.refl _ _).alloc (Nat.le_refl _) _
end Go.Proofs.YtnpphfhjpflgiaaDoor

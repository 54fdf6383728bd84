/- The walk of TokenSpaces. -/
import Derived.Test.YtnpphfhjpflgiaaDoorLawTok
import Derived.Test.YtnpphfhjpflgiaaDoorAppRd
namespace Go.Proofs.YtnpphfhjpflgiaaDoor
open Go.RowKit

theorem own_empty (w : World) (e : TypeId) (size : Nat) : (w.alloc (.cells #[] e)).ownsRow w.heap.size e size (.slice (some ⟨w.heap.size, 0, none⟩) 0 0) 0 [] := by
  refine ⟨by simp, .inr ⟨w.heap.size, 0, #[], rfl, Nat.le_refl _, heap_alloc_new w _, Nat.le_refl _, by decide, by simp, by simp⟩⟩

set_option maxHeartbeats 2000000 in
set_option maxRecDepth 100000 in
theorem tokenSpaces_walk (a : List UInt8) (hla : a.length ≤ maxLen) (b : List UInt8) (hlb : b.length ≤ maxLen) (note : List UInt8) (hln : note.length ≤ maxLen) (w : World) (hg : GW w) :
    Calls Tryd.prog 6 #[.string ⟨a.toArray⟩, .string ⟨b.toArray⟩, .string ⟨note.toArray⟩] w fun e w' => e = .returned (.bool true) ∧ Below w.heap.size w w' := by
  unfold maxLen at hla hlb hln
  by_cases h : 60 < a.length ∨ 60 < b.length ∨ 60 < note.length
  · have hh : (decide ((60 : Int) < (a.length : Int)) = true) ∨ (decide ((60 : Int) < (a.length : Int)) = false ∧ decide ((60 : Int) < (b.length : Int)) = true) ∨ (decide ((60 : Int) < (a.length : Int)) = false ∧ decide ((60 : Int) < (b.length : Int)) = false ∧ decide ((60 : Int) < (note.length : Int)) = true) := by
      simp only [decide_eq_true_eq, decide_eq_false_iff_not]; omega
    rcases hh with h1 | ⟨h1, h2⟩ | ⟨h1, h2, h3⟩ <;>
    · go_enter Tryd.func6, Tryd.ntmps6
      go_wp2_with fail
      refine (alive4_any _ hg).mono ?_
      rintro e w1 ⟨rfl, hb⟩
      go_wp2_with fail
      go_ret
      exact ⟨rfl, hb⟩
  have h1 : decide ((60 : Int) < (a.length : Int)) = false := by simp only [decide_eq_false_iff_not]; omega
  have h2 : decide ((60 : Int) < (b.length : Int)) = false := by simp only [decide_eq_false_iff_not]; omega
  have h3 : decide ((60 : Int) < (note.length : Int)) = false := by simp only [decide_eq_false_iff_not]; omega
  have hla' : a.length ≤ 60 := by omega
  have hlb' : b.length ≤ 60 := by omega
  have hln' : note.length ≤ 60 := by omega
  go_enter Tryd.func6, Tryd.ntmps6
  go_wp2_with fail
  go_loop [7] (fun i => ∃ k : Nat, k ≤ a.length ∧ i = .int .i64 k ∧ (59 : UInt8) ∉ a.take k) (fun i => a.length - (intOf i).toNat)
  case atStart => exact ⟨0, Nat.zero_le _, rfl, by simp⟩
  case round =>
    obtain ⟨k, hk, rfl, hno⟩ := hrel
    have HNO := Lib.hid hno
    clear hno
    by_cases hlt : k < a.length
    · by_cases hc : a[k] = 59
      · go_wp2_with fail
        refine (alive4_any _ hg).mono ?_
        rintro e w1 ⟨rfl, hb⟩
        go_wp2_with fail
        go_ret
        exact ⟨rfl, hb⟩
      · have hc' : ((a[k].toNat : Int) == 59) = false := ne_byte (n := 59) (by omega) hc
        have hno2 : (59 : UInt8) ∉ a.take (k + 1) := by
          rw [List.take_succ_eq_append_getElem hlt]
          simp only [List.mem_append, List.mem_singleton, not_or]
          exact ⟨HNO.out, fun e => hc e.symm⟩
        have HN2 := Lib.hid hno2
        clear hc hno2
        go_wp2_with fail
        go_round
        case rel => exact ⟨k + 1, by omega, by go_num, HN2.out⟩
        case measure => simp [intOf]; omega
    · obtain rfl : k = a.length := by omega
      have hno : (59 : UInt8) ∉ a := by have := HNO.out; rwa [List.take_length] at this
      have HL : Hid ((lineL a).2 = 0 → (lineL b).2 = 0 → lineL (32 :: 9 :: (a ++ 32 :: (b ++ 59 :: note))) = ((lineL a).1 ++ (lineL b).1, 0)) :=
        Lib.hid (fun h1 h2 => by have := line_spaces a b note hno h1 h2 (by omega); simpa using this)
      have hcx := lineL_count (32 :: 9 :: (a ++ 32 :: (b ++ 59 :: note)))
      have hlx : (32 :: 9 :: (a ++ 32 :: (b ++ 59 :: note))).length ≤ 1000000 := by simp; omega
      have hca := lineL_count a
      have hcb := lineL_count b
      clear HNO hno
      go_wp2_with fail
      refine (line_any a _ hg (by omega)).mono ?_
      rintro e w1 ⟨va, rfl, ho1, hb1⟩
      go_wp2_with fail
      refine (line_any b _ (hg.below hb1) (by omega)).mono ?_
      rintro e w2 ⟨vb, rfl, ho2, hb2⟩
      have B2 := bthen hb1 hb2
      have ra := ((Rd.of_own ho1).below hb2).more hb2.size
      have rb := Rd.of_own ho2
      clear ho1 ho2
      go_wp2_with fail
      refine (line_any (32 :: 9 :: (a ++ 32 :: (b ++ 59 :: note))) _ (hg.below B2) hlx).mono ?_
      rintro e w3 ⟨vx, rfl, ho3, hb3⟩
      have B3 := bthen B2 hb3
      have ra3 := (ra.below hb3).more hb3.size
      have rb3 := (rb.below hb3).more hb3.size
      have rx := Rd.of_own ho3
      clear ra rb ho3 hlx
      generalize lineL (32 :: 9 :: (a ++ 32 :: (b ++ 59 :: note))) = LX at *
      generalize lineL a = LA at *
      generalize lineL b = LB at *
      obtain ⟨ta, ka⟩ := LA
      obtain ⟨tb, kb⟩ := LB
      simp only at hca hcb ra3 rb3 ⊢
      by_cases hka : ka = 0
      · subst hka
        by_cases hkb : kb = 0
        · subst hkb
          obtain rfl : LX = (ta ++ tb, 0) := HL.out rfl rfl
          simp only at rx hcx ⊢
          clear HL
          go_wp2_with fail
          refine (back_any (ta ++ tb) vx _ rx (by omega)).mono ?_
          rintro e w4 ⟨vc, rfl, ho4, hb4⟩
          have B4 := bthen B3 hb4
          have rc := Rd.of_own ho4
          have ra4 := (ra3.below hb4).more hb4.size
          have rb4 := (rb3.below hb4).more hb4.size
          clear rx ra3 rb3 ho4
          go_wp2_with fail
          have hwe := own_empty w4 46 3
          have ra5 := (ra4.below (Below.refl _ w4 |>.alloc (Nat.le_refl _) (.cells #[] 46))).more (show w4.heap.size ≤ (w4.alloc (.cells #[] 46)).heap.size by simp)
          refine (back_any ta va _ ra5 (by omega)).mono ?_
          rintro e w5 ⟨vd, rfl, ho5, hb5⟩
          have hsz5 : w4.heap.size ≤ w5.heap.size := by have := hb5.size; simp at this; omega
          have hb45 : Below w4.heap.size w4 w5 := ((Below.refl _ w4).alloc (Nat.le_refl _) _).trans (hb5.mono (by simp))
          have hwe5 := hwe.kept (only_of_below hb5 none) (by simp [Value.ownBlock])
          have rd5 := Rd.of_own ho5
          have rc5 := rc.below hb45
          have rb5 := rb4.below hb45
          have B5 := bthen B4 hb45
          clear ra4 ra5 rb4 rc hwe ho5 hb5
          go_wp2_with (at_builtin; refine wpList_append_rd w5 (by rfl) _ _ 34 rfl w4.heap.size 46 _ 3 32 Tryd.underlying34 info_rtok rfl (by decide) hwe5 rfl rd5 rfl (tokRow_length _) (tokRow_one _) (by omega) (by omega) hsz5 ?_)
          intro v6 w6 ho6 hb6 hgr6
          have B6 : Below w.heap.size w w6 := B5.trans (hb6.mono B4.size)
          have hsz6 : w4.heap.size ≤ w6.heap.size := Nat.le_trans hsz5 hb6.size
          have rc6 := rc5.below hb6
          have rb6 := (rb5.below hb6).more hsz6
          clear hwe5 rd5 rc5 rb5 hgr6
          go_wp2_with fail
          refine (back_any tb vb _ rb6 (by omega)).mono ?_
          rintro e w7 ⟨vf, rfl, ho7, hb7⟩
          have B7 := bthen B6 hb7
          have rf7 := Rd.of_own ho7
          have rc7 := rc6.below (hb7.mono hsz6)
          have ho67 := ho6.kept (only_of_below hb7 none) (by cases v6.ownBlock <;> simp)
          have hsz7 : w4.heap.size ≤ w7.heap.size := Nat.le_trans hsz6 hb7.size
          clear rb6 rc6 ho6 ho7
          go_wp2_with (at_builtin; refine wpList_append_rd w7 (by rfl) _ _ 34 rfl w4.heap.size 46 _ 3 32 Tryd.underlying34 info_rtok rfl (by decide) ho67 rfl rf7 rfl (tokRow_length _) (tokRow_one _) (by omega) (by omega) hsz7 ?_)
          intro v8 w8 ho8 hb8 hgr8
          have B8 : Below w.heap.size w w8 := B7.trans (hb8.mono B4.size)
          have rc8 := (rc7.below hb8).more (Nat.le_trans hsz7 hb8.size)
          have r8 := Rd.of_own ho8
          rw [← tokRow_append, ← List.length_append] at r8
          clear ho8 hgr8 rc7 rf7 ho67
          go_wp2_with fail
          refine (same_any (ta ++ tb) (ta ++ tb) vc v8 _ rc8 r8 (by omega) (by omega)).mono ?_
          rintro e w9 ⟨rfl, hb9⟩
          rw [decide_eq_true (rfl : ta ++ tb = ta ++ tb)]
          have B9 := bthen B8 hb9
          go_wp2_with fail
          refine (alive4_any _ (hg.below B9)).mono ?_
          rintro e w10 ⟨rfl, hb10⟩
          go_wp2_with fail
          go_ret
          exact ⟨rfl, bthen B9 hb10⟩
        · have hkb' : ((kb : Int) != 0) = true := by rw [bne_iff_ne]; omega
          clear HL ra3 rb3 rx
          go_wp2_with fail
          refine (alive4_any _ (hg.below B3)).mono ?_
          rintro e w4 ⟨rfl, hb4⟩
          go_wp2_with fail
          go_ret
          exact ⟨rfl, bthen B3 hb4⟩
      · have hka' : ((ka : Int) != 0) = true := by rw [bne_iff_ne]; omega
        clear HL ra3 rb3 rx
        go_wp2_with fail
        refine (alive4_any _ (hg.below B3)).mono ?_
        rintro e w4 ⟨rfl, hb4⟩
        go_wp2_with fail
        go_ret
        exact ⟨rfl, bthen B3 hb4⟩
end Go.Proofs.YtnpphfhjpflgiaaDoor

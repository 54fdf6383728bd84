/- number.Quote, number.Unquote, number.Value. -/
import Derived.Test.YtnpphfhjpflgiaaDoorRows
import Derived.Test.YtnpphfhjpflgiaaDoorBase
import Derived.Test.YtnpphfhjpflgiaaDoorPureQuote
import Derived.Test.YtnpphfhjpflgiaaDoorShelf
import Derived.Deep.QuietTactic
import Derived.BigQuiet
namespace Go.Proofs.YtnpphfhjpflgiaaDoor
open Go.RowKit

/-- What the library's search asks of a variable of its own: it holds some number. -/
def GW (w : World) : Prop := ∃ m : Int, w.cell? ⟨0, 0, none⟩ = some (.int .i64 m)
theorem GW.below {w w' : World} (h : GW w) (hb : Below w.heap.size w w') : GW w' := by
  obtain ⟨m, hm⟩ := h
  exact ⟨m, (hb.cell (World.block_lt_of_cell? w _ hm)).trans hm⟩

theorem countB_le' (s : List UInt8) (old : List UInt8) (h : 1 ≤ old.length) : Lib.countB ⟨s.toArray⟩ ⟨old.toArray⟩ ≤ s.length := by
  have := Lib.countB_le ⟨old.toArray⟩ (by simpa [ByteArray.size] using h) s.length ⟨s.toArray⟩ (by simp [ByteArray.size])
  simpa [ByteArray.size] using this

theorem replace_dbl (s : List UInt8) (w : World) (hg : GW w) (hl : s.length ≤ 1000000) :
    Calls Tryd.prog 32 #[.string ⟨s.toArray⟩, .string ⟨#[39]⟩, .string ⟨#[39, 39]⟩] w fun e w' => e = .returned (.string ⟨(dbl s).toArray⟩) ∧ Below w.heap.size w w' := by
  obtain ⟨m, hm⟩ := hg
  have hc := countB_le' s [39] (by simp)
  refine (Tryd.strings_ReplaceAll ⟨s.toArray⟩ ⟨#[39]⟩ ⟨#[39, 39]⟩ m w (by simp [ByteArray.size]; omega) hm (by simp [ByteArray.size]) (by simp [ByteArray.size]; omega)).mono ?_
  rintro e w' ⟨rfl, hb⟩
  refine ⟨?_, hb⟩
  rw [← replaceAll_dbl s]
theorem replace_hal (s : List UInt8) (w : World) (hg : GW w) (hl : s.length ≤ 1000000) :
    Calls Tryd.prog 32 #[.string ⟨s.toArray⟩, .string ⟨#[39, 39]⟩, .string ⟨#[39]⟩] w fun e w' => e = .returned (.string ⟨(hal s).toArray⟩) ∧ Below w.heap.size w w' := by
  obtain ⟨m, hm⟩ := hg
  have hc := countB_le' s [39, 39] (by simp)
  refine (Tryd.strings_ReplaceAll ⟨s.toArray⟩ ⟨#[39, 39]⟩ ⟨#[39]⟩ m w (by simp [ByteArray.size]; omega) hm (by simp [ByteArray.size]) (by simp [ByteArray.size]; omega)).mono ?_
  rintro e w' ⟨rfl, hb⟩
  refine ⟨?_, hb⟩
  rw [← replaceAll_hal s]

set_option maxHeartbeats 400000 in
theorem quote_any (l : List UInt8) (w : World) (hg : GW w) (hl : l.length ≤ 1000000) :
    Calls Tryd.prog 12 #[.string ⟨l.toArray⟩] w fun e w' => e = .returned (.string ⟨(quoteL l).toArray⟩) ∧ Below w.heap.size w w' := by
  have hd := (dbl_length l).2
  go_enter Tryd.func12, Tryd.ntmps12
  go_wp2_with fail
  refine (replace_dbl l _ hg hl).mono ?_
  rintro e w1 ⟨rfl, hb⟩
  go_wp2_with fail
  go_ret
  exact ⟨rfl, hb⟩

theorem cutP (s : List UInt8) : Lib.trimPrefix s [39] = if s.headD 0 = 39 then s.drop 1 else s := by
  cases s with
  | nil => rfl
  | cons c r =>
    by_cases h : c = 39
    · simp [Lib.trimPrefix, Lib.hasPrefix, List.isPrefixOf, h]
    · simp [Lib.trimPrefix, Lib.hasPrefix, List.isPrefixOf, h, Ne.symm h]
theorem hasP (s : List UInt8) : Lib.hasPrefix s [39] = decide (s.headD 0 = 39) := by
  cases s with
  | nil => rfl
  | cons c r =>
    by_cases h : c = 39
    · simp [Lib.hasPrefix, List.isPrefixOf, h]
    · simp [Lib.hasPrefix, List.isPrefixOf, h, Ne.symm h]
theorem hasS (s : List UInt8) : Lib.hasSuffix s [39] = decide (s.getLastD 0 = 39) := by
  unfold Lib.hasSuffix
  rw [Bool.eq_iff_iff, List.isSuffixOf_iff_suffix, decide_eq_true_eq]
  constructor
  · rintro ⟨t, rfl⟩; simp
  · intro h
    rcases List.eq_nil_or_concat s with rfl | ⟨a, c, rfl⟩
    · simp at h
    · rw [List.concat_eq_append, List.getLastD_concat] at h
      exact ⟨a, by rw [h, List.concat_eq_append]⟩
theorem cutS (s : List UInt8) : Lib.trimSuffix s [39] = if s.getLastD 0 = 39 then s.take (s.length - 1) else s := by
  unfold Lib.trimSuffix
  rw [hasS]; simp

/-- The three steps of Unquote: what is cut, ahead and behind. -/
def cut1 (s : List UInt8) : List UInt8 := if s.headD 0 = 39 then s.drop 1 else s
def cut2 (s : List UInt8) : List UInt8 := if (cut1 s).getLastD 0 = 39 then (cut1 s).take ((cut1 s).length - 1) else cut1 s
theorem unquote_no (s : List UInt8) (h : ¬ (s.headD 0 = 39 ∧ (cut1 s).getLastD 0 = 39)) : unquote s = ([], 2) := by
  unfold unquote
  rw [if_pos]
  by_cases h1 : s.headD 0 = 39
  · by_cases hl : s.length < 2
    · exact .inl hl
    · right; right
      intro h2
      refine h ⟨h1, ?_⟩
      unfold cut1
      rw [if_pos h1]
      match s, hl with
      | c :: d :: r, _ => simpa using h2
  · exact .inr (.inl h1)
theorem unquote_yes (s : List UInt8) (h1 : s.headD 0 = 39) (h2 : (cut1 s).getLastD 0 = 39) : unquote s = unqEnd (unq (cut2 s)) := by
  have e1 : cut1 s = s.drop 1 := by unfold cut1; rw [if_pos h1]
  match s with
  | [] => simp at h1
  | [c] => rw [e1] at h2; simp at h2
  | c :: d :: r =>
    have e2 : cut2 (c :: d :: r) = inner (c :: d :: r) := by
      unfold cut2 inner
      rw [if_pos h2, e1]
      simp
    unfold unquote
    rw [if_neg, e2]
    rw [not_or, not_or]
    rw [e1] at h2
    exact ⟨by simp, by simpa using h1, by simpa using h2⟩

theorem any_take_step (s : List UInt8) (k w : Nat) (hk : k < s.length) (hw : 1 ≤ w) (h : w = 1 ∨ oddB s[k] = true) : (s.take (k + w)).any oddB = ((s.take k).any oddB || oddB s[k]) := by
  have e1 : s.take (k + 1) = s.take k ++ [s[k]] := List.take_succ_eq_append_getElem hk
  rcases h with rfl | h
  · rw [e1, List.any_append]; simp
  · rw [h, Bool.or_true, List.any_eq_true]
    refine ⟨s[k], ?_, h⟩
    have : s.take (k + 1) <+: s.take (k + w) := List.take_prefix_take_left (by omega)
    exact this.subset (e1 ▸ List.mem_append_right _ (List.mem_singleton.2 rfl))

theorem decode_odd (t2 : List UInt8) (pos : Nat) (hlt : pos < t2.length) : ∃ r wd : Nat, Utf8.decode ⟨t2.toArray⟩ pos = (r, wd) ∧ 1 ≤ wd ∧ (t2.take (pos + wd)).any oddB = ((t2.take pos).any oddB || (decide ((r : Int) < 32) || decide ((126 : Int) < (r : Int)))) := by
  have hsz : pos < (ByteArray.mk t2.toArray).size := by simpa [ByteArray.size] using hlt
  by_cases ha : t2[pos].toNat < 128
  · refine ⟨t2[pos].toNat, 1, decode_ascii _ _ hsz ha, Nat.le_refl _, ?_⟩
    rw [any_take_step t2 pos 1 hlt (Nat.le_refl _) (.inl rfl)]
    congr 1
    unfold oddB
    rw [Bool.eq_iff_iff]; simp; omega
  · obtain ⟨h1, h2⟩ := decode_high ⟨t2.toArray⟩ pos hsz (by show 128 ≤ t2[pos].toNat; omega)
    have ho : oddB t2[pos] = true := by unfold oddB; simp; omega
    generalize Utf8.decode ⟨t2.toArray⟩ pos = d at *
    obtain ⟨r, wd⟩ := d
    refine ⟨r, wd, rfl, h2, ?_⟩
    rw [any_take_step t2 pos wd hlt h2 (.inr ho), ho]
    congr 1
    symm
    have h1' : 128 ≤ r := h1
    rw [Bool.or_eq_true]; right; rw [decide_eq_true_eq]; omega

set_option maxHeartbeats 1000000 in
theorem unquote_any (l : List UInt8) (w : World) (hg : GW w) (hl : l.length ≤ 1000000) :
    Calls Tryd.prog 11 #[.string ⟨l.toArray⟩] w fun e w' => e = .returned (.tuple #[.string ⟨(unquote l).1.toArray⟩, .int .i64 (unquote l).2]) ∧ Below w.heap.size w w' := by
  have HN := Lib.hid (unquote_no l)
  have HY := Lib.hid (unquote_yes l)
  have hl1 : (cut1 l).length ≤ 1000000 := by unfold cut1; split; (simp; omega); exact hl
  have hl2 : (cut2 l).length ≤ 1000000 := by unfold cut2; split; (simp; omega); exact hl1
  have e1 := Lib.hid (cutP l)
  have e2 := Lib.hid (hasP l)
  have e3 := Lib.hid (cutS (cut1 l))
  have e4 := Lib.hid (hasS (cut1 l))
  have e5 : Hid (Lib.trimPrefix l [39] = cut1 l) := e1
  have e6 : Hid (Lib.trimSuffix (cut1 l) [39] = cut2 l) := e3
  clear e1 e3
  generalize unquote l = ul at *
  go_enter Tryd.func11, Tryd.ntmps11
  go_wp2_with fail
  refine (Tryd.strings_CutPrefix ⟨l.toArray⟩ ⟨#[39]⟩ _).mono ?_
  rintro e w' ⟨rfl, rfl⟩
  rw [show (Lib.trimPrefix (ByteArray.mk l.toArray).data.toList (ByteArray.mk #[39]).data.toList) = cut1 l from e5.out, show (Lib.hasPrefix (ByteArray.mk l.toArray).data.toList (ByteArray.mk #[39]).data.toList) = _ from e2.out]
  generalize cut1 l = t1 at *
  generalize cut2 l = t2 at *
  generalize hp : decide (l.headD 0 = 39) = p
  have HP := Lib.hid hp
  clear hp
  go_wp2_with fail
  refine (Tryd.strings_CutSuffix ⟨t1.toArray⟩ ⟨#[39]⟩ _ (by simp [ByteArray.size]; omega)).mono ?_
  rintro e w' ⟨rfl, rfl⟩
  rw [show (Lib.trimSuffix (ByteArray.mk t1.toArray).data.toList (ByteArray.mk #[39]).data.toList) = t2 from e6.out, show (Lib.hasSuffix (ByteArray.mk t1.toArray).data.toList (ByteArray.mk #[39]).data.toList) = _ from e4.out]
  generalize hq : decide (t1.getLastD 0 = 39) = q
  have HQ := Lib.hid hq
  clear hq
  go_wp2_with fail
  refine (replace_hal t2 _ hg hl2).mono ?_
  rintro e w1 ⟨rfl, hb1⟩
  have hg1 := hg.below hb1
  clear hg
  have HD := Lib.hid (unq_eq t2)
  have hh := hal_length _ t2 (Nat.le_refl _)
  go_wp2_with fail
  go_loopw [8] (fun o wr => ∃ pos : Nat, wr = w1.iter ⟨t2.toArray⟩ pos ∧ o = .bool ((t2.take pos).any oddB)) (fun _ wr => t2.length - wr.iterPos w1.heap.size)
  case atStart => exact ⟨0, rfl, rfl⟩
  case round =>
    obtain ⟨pos, rfl, rfl⟩ := hrel
    by_cases hlt : pos < t2.length
    · have hnx : ∀ ty, (Instr.next (.pointer (some ⟨w1.heap.size, 0, none⟩)) true ty).run Tryd.prog (w1.iter ⟨t2.toArray⟩ pos) = _ := fun ty => run_next_any w1 ⟨t2.toArray⟩ pos ty (by simpa [ByteArray.size] using hlt)
      have hdc := decode_odd t2 pos hlt
      obtain ⟨r, wd, hr1, hr2, hr3⟩ := hdc
      rw [hr1] at hnx
      have HR := Lib.hid hr3
      clear hr1 hr3
      generalize (List.take pos t2).any oddB = ob at *
      go_wp2_with fail
      all_goals
        go_roundw
        case rel => exact ⟨pos + wd, rfl, by rw [HR.out]; first | (simp [*]; done) | (simp [*]; omega)⟩
        case measure => simp; omega
    · have hnx : ∀ ty, (Instr.next (.pointer (some ⟨w1.heap.size, 0, none⟩)) true ty).run Tryd.prog (w1.iter ⟨t2.toArray⟩ pos) = _ := fun ty => run_next_end w1 ⟨t2.toArray⟩ pos ty (by simpa [ByteArray.size] using hlt)
      have ht : t2.take pos = t2 := List.take_of_length_le (by omega)
      rw [ht]
      have HT := Lib.hid ht
      clear ht
      have hbi : Below w1.heap.size w1 (w1.iter ⟨t2.toArray⟩ pos) := (Below.refl _ _).alloc (Nat.le_refl _) _
      have hgi := hg1.below hbi
      have hbw := bthen hb1 hbi
      cases p with
      | false =>
        have hf : Hid (ul = ([], 2)) := Lib.hid (HN.out (fun h => of_decide_eq_false HP.out h.1))
        go_wp2_with fail
        go_ret2
        rw [hf.out]
        exact ⟨rfl, hbw⟩
      | true =>
        cases q with
        | false =>
          have hf : Hid (ul = ([], 2)) := Lib.hid (HN.out (fun h => of_decide_eq_false HQ.out h.2))
          go_wp2_with fail
          go_ret2
          rw [hf.out]
          exact ⟨rfl, hbw⟩
        | true =>
          have HU := Lib.hid (HY.out (of_decide_eq_true HP.out) (of_decide_eq_true HQ.out))
          cases ho : t2.any oddB with
          | true =>
            have hf : Hid (ul = ([], 2)) := by rw [HU.out, HD.out, if_pos (.inl ho)]; exact Lib.hid rfl
            clear ho
            go_wp2_with fail
            go_ret2
            rw [hf.out]
            exact ⟨rfl, hbw⟩
          | false =>
            have HO := Lib.hid ho
            clear ho
            go_wp2_with fail
            refine (replace_dbl (hal t2) _ hgi (by omega)).mono ?_
            rintro e w2 ⟨rfl, hb2⟩
            have hb3 := bthen hbw hb2
            clear hbw hb2 hgi hg1
            by_cases he : dbl (hal t2) = t2
            · have hf : Hid (ul = (hal t2, 0)) := by rw [HU.out, HD.out, if_neg (by simp [HO.out, he])]; exact Lib.hid rfl
              rw [he]
              clear he
              go_wp2_with fail
              go_ret2
              rw [hf.out]
              exact ⟨rfl, hb3⟩
            · have hf : Hid (ul = ([], 2)) := by rw [HU.out, HD.out, if_pos (.inr he)]; exact Lib.hid rfl
              have hne : (dbl (hal t2) == t2) = false := by simpa using he
              clear he
              go_wp2_with fail
              go_ret2
              rw [hf.out]
              exact ⟨rfl, hb3⟩
end Go.Proofs.YtnpphfhjpflgiaaDoor

/- token.span, token.quoted; the reference's mark. -/
import Derived.Test.YtnpphfhjpflgiaaDoorTokBytes
import Derived.Test.YtnpphfhjpflgiaaDoorQuote
namespace Go.Proofs.YtnpphfhjpflgiaaDoor
open Go.RowKit

set_option maxHeartbeats 400000 in
theorem span_tail (l : List UInt8) (w : World) (hl : l.length ≤ 1000000) :
    Calls Tryd.prog 45 #[.string ⟨l.toArray⟩, .func (.func 46) #[] #[]] w fun e w' => e = .returned (.int .i64 (spanL tailB l)) ∧ w = w' := by
  have HS := Lib.hid (spanL_stop tailB l)
  have HA := Lib.hid (spanL_all tailB l)
  generalize spanL tailB l = sl at *
  go_enter Tryd.func45, Tryd.ntmps45
  go_wp2_with fail
  go_loop [8] (fun i => ∃ k : Nat, k ≤ l.length ∧ i = .int .i64 k ∧ ∀ j (hj : j < l.length), j < k → tailB l[j] = true) (fun i => l.length - (intOf i).toNat)
  case atStart => exact ⟨0, Nat.zero_le _, rfl, fun j _ h => absurd h (by omega)⟩
  case round =>
    obtain ⟨k, hk, rfl, hp⟩ := hrel
    have HP := Lib.hid hp
    clear hp
    by_cases hlt : k < l.length
    · go_wp2_with fail
      refine (isTail_any l[k] _).mono ?_
      rintro e w' ⟨rfl, rfl⟩
      cases h : tailB l[k]
      · have hf := Lib.hid (HS.out k hlt HP.out h)
        clear h
        go_wp2_with fail
        go_ret
        rw [hf.out]
        exact ⟨rfl, rfl⟩
      · have H := Lib.hid h
        clear h
        go_wp2_with fail
        go_round
        case rel => exact ⟨k + 1, by omega, by go_num, fun j hj hjk => by
          rcases Nat.lt_or_eq_of_le (Nat.le_of_lt_succ hjk) with h | h
          · exact HP.out j hj h
          · subst h; exact H.out⟩
        case measure => simp [intOf]; omega
    · obtain rfl : k = l.length := by omega
      have hf := Lib.hid (HA.out (fun j hj => HP.out j hj hj))
      go_wp2_with fail
      go_ret
      rw [hf.out]
      exact ⟨rfl, rfl⟩
set_option maxHeartbeats 400000 in
theorem span_alnum (l : List UInt8) (w : World) (hl : l.length ≤ 1000000) :
    Calls Tryd.prog 45 #[.string ⟨l.toArray⟩, .func (.func 48) #[] #[]] w fun e w' => e = .returned (.int .i64 (spanL alnumB l)) ∧ w = w' := by
  have HS := Lib.hid (spanL_stop alnumB l)
  have HA := Lib.hid (spanL_all alnumB l)
  generalize spanL alnumB l = sl at *
  go_enter Tryd.func45, Tryd.ntmps45
  go_wp2_with fail
  go_loop [8] (fun i => ∃ k : Nat, k ≤ l.length ∧ i = .int .i64 k ∧ ∀ j (hj : j < l.length), j < k → alnumB l[j] = true) (fun i => l.length - (intOf i).toNat)
  case atStart => exact ⟨0, Nat.zero_le _, rfl, fun j _ h => absurd h (by omega)⟩
  case round =>
    obtain ⟨k, hk, rfl, hp⟩ := hrel
    have HP := Lib.hid hp
    clear hp
    by_cases hlt : k < l.length
    · go_wp2_with fail
      refine (isAlnum_any l[k] _).mono ?_
      rintro e w' ⟨rfl, rfl⟩
      cases h : alnumB l[k]
      · have hf := Lib.hid (HS.out k hlt HP.out h)
        clear h
        go_wp2_with fail
        go_ret
        rw [hf.out]
        exact ⟨rfl, rfl⟩
      · have H := Lib.hid h
        clear h
        go_wp2_with fail
        go_round
        case rel => exact ⟨k + 1, by omega, by go_num, fun j hj hjk => by
          rcases Nat.lt_or_eq_of_le (Nat.le_of_lt_succ hjk) with h | h
          · exact HP.out j hj h
          · subst h; exact H.out⟩
        case measure => simp [intOf]; omega
    · obtain rfl : k = l.length := by omega
      have hf := Lib.hid (HA.out (fun j hj => HP.out j hj hj))
      go_wp2_with fail
      go_ret
      rw [hf.out]
      exact ⟨rfl, rfl⟩

theorem indexByte_spec (l : List UInt8) (c : UInt8) : (Lib.indexByte l c = -1 ∧ ∀ d ∈ l, d ≠ c) ∨ (∃ i : Nat, Lib.indexByte l c = i ∧ ∃ h : i < l.length, l[i] = c ∧ ∀ j (hj : j < l.length), j < i → l[j] ≠ c) := by
  induction l with
  | nil => left; exact ⟨rfl, fun d hd => by simp at hd⟩
  | cons b r ih =>
    by_cases hb : b = c
    · right
      refine ⟨0, by unfold Lib.indexByte; simp [hb], by simp, hb, fun j _ h => absurd h (by omega)⟩
    · have e : Lib.indexByte (b :: r) c = if Lib.indexByte r c == -1 then -1 else Lib.indexByte r c + 1 := by
        rw [Lib.indexByte]; simp [hb]
      rcases ih with ⟨h1, h2⟩ | ⟨i, h1, h2, h3, h4⟩
      · left
        refine ⟨by rw [e, h1]; rfl, fun d hd => ?_⟩
        rcases List.mem_cons.1 hd with rfl | hd
        · exact hb
        · exact h2 d hd
      · right
        refine ⟨i + 1, ?_, by simp; exact h2, h3, fun j hj hji => ?_⟩
        · rw [e, h1, if_neg (by rw [beq_iff_eq]; omega)]; omega
        · cases j with
          | zero => exact hb
          | succ j => exact h4 j (by simpa using hj) (by omega)
theorem qlen_none (t : List UInt8) (n : Nat) (h : ∀ d ∈ t, d ≠ 39) : qlen t n = 0 := by
  induction t generalizing n with
  | nil => rfl
  | cons c r ih =>
    cases r with
    | nil => unfold qlen; rw [if_neg (h c (by simp))]
    | cons d r => unfold qlen; rw [if_neg (h c (by simp))]; exact ih (n + 1) (fun x hx => h x (by simp [hx]))
theorem qlen_skip (i : Nat) : ∀ (t : List UInt8) (n : Nat), i < t.length → (∀ j (hj : j < t.length), j < i → t[j] ≠ 39) → qlen t n = qlen (t.drop i) (n + i) := by
  induction i with
  | zero => intro t n _ _; rfl
  | succ i ih =>
    intro t n hi h
    match t, hi, h with
    | [c], hi, _ => simp at hi
    | c :: d :: r, hi, h =>
      have hc : c ≠ 39 := h 0 (by simp) (by omega)
      rw [show qlen (c :: d :: r) n = qlen (d :: r) (n + 1) by rw [qlen, if_neg hc], ih (d :: r) (n + 1) (by simpa using hi) (fun j hj hji => h (j + 1) (by simpa using hj) (by omega))]
      rw [show n + 1 + i = n + (i + 1) by omega]; rfl
/-- The next quote, and what stands behind it. -/
theorem qlen_at (t : List UInt8) (n : Nat) (h : t.headD 0 = 39) : qlen t n = if (t.drop 1).headD 0 = 39 then qlen (t.drop 2) (n + 2) else n + 1 := by
  match t, h with
  | [c], h => have : c = 39 := h; subst this; rfl
  | c :: d :: r, h =>
    have : c = 39 := h
    subst this
    rw [qlen, if_pos rfl]; rfl

set_option maxHeartbeats 1000000 in
theorem quoted_any (l : List UInt8) (w : World) (hne : 1 ≤ l.length) (hl : l.length ≤ 1000000) :
    Calls Tryd.prog 50 #[.string ⟨l.toArray⟩] w fun e w' => e = .returned (.int .i64 (quotedL l)) ∧ w = w' := by
  have HQ : Hid (quotedL l = qlen (l.drop 1) 1) := Lib.hid rfl
  generalize quotedL l = ql at *
  go_enter Tryd.func50, Tryd.ntmps50
  go_wp2_with fail
  go_loop [3] (fun a => ∃ k : Nat, 1 ≤ k ∧ k ≤ l.length ∧ a = .int .i64 k ∧ ql = qlen (l.drop k) k) (fun a => l.length + 1 - (intOf a).toNat)
  case atStart => exact ⟨1, Nat.le_refl _, hne, rfl, HQ.out⟩
  case round =>
    obtain ⟨k, hk1, hk, rfl, hq⟩ := hrel
    have HK := Lib.hid hq
    clear hq
    have hk' : (k : Int) ≤ (l.length : Int) := by omega
    go_wp2_with fail
    refine (Tryd.strings_IndexByte ⟨(l.drop k).toArray⟩ 39 _).mono ?_
    rintro e w' ⟨rfl, rfl⟩
    rcases indexByte_spec (l.drop k) 39 with ⟨h1, h2⟩ | ⟨i, h1, h2, h3, h4⟩
    · have hf : Hid (ql = 0) := Lib.hid (by rw [HK.out, qlen_none _ _ h2])
      rw [show Lib.indexByte (ByteArray.mk (l.drop k).toArray).data.toList (39 : Int).toNat.toUInt8 = -1 from h1]
      clear h1 h2
      go_wp2_with fail
      go_ret
      rw [hf.out]
      exact ⟨rfl, rfl⟩
    · rw [show Lib.indexByte (ByteArray.mk (l.drop k).toArray).data.toList (39 : Int).toNat.toUInt8 = (i : Int) from h1]
      have hi : k + i < l.length := by rw [List.length_drop] at h2; omega
      have hsk := qlen_skip i (l.drop k) k h2 h4
      have hhd : ((l.drop k).drop i).headD 0 = 39 := by rw [List.drop_eq_getElem_cons h2]; exact h3
      rw [qlen_at _ _ hhd] at hsk
      simp only [List.drop_drop] at hsk
      have HS := Lib.hid (HK.out.trans hsk)
      clear h1 h2 h3 h4 hsk hhd
      have hi' : (k : Int) + ((i : Int) + 1) ≤ (l.length : Int) := by omega
      have hi0 : (0 : Int) ≤ (i : Int) := by omega
      go_wp2_with fail
      refine (Tryd.strings_HasPrefix ⟨(l.drop (k + (i + 1))).toArray⟩ ⟨#[39]⟩ _).mono ?_
      rintro e w' ⟨rfl, rfl⟩
      rw [show Lib.hasPrefix (ByteArray.mk (l.drop (k + (i + 1))).toArray).data.toList (ByteArray.mk #[39]).data.toList = _ from hasP (l.drop (k + (i + 1)))]
      by_cases hh : (l.drop (k + (i + 1))).headD 0 = 39
      · have hn : k + i + 2 ≤ l.length := by
          rcases Nat.lt_or_ge (k + (i + 1)) l.length with h | h
          · omega
          · rw [List.drop_of_length_le h] at hh; simp at hh
        have hf : Hid (ql = qlen (l.drop (k + i + 2)) (k + i + 2)) := Lib.hid (by have := HS.out; rw [if_pos (by rw [show k + i + 1 = k + (i + 1) by omega]; exact hh)] at this; exact this)
        rw [show decide ((l.drop (k + (i + 1))).headD 0 = 39) = true by simpa using hh]
        clear hh
        go_wp2_with fail
        go_round
        case rel => exact ⟨k + i + 2, by omega, hn, by go_num, hf.out⟩
        case measure => simp [intOf]; omega
      · have hf : Hid (ql = k + i + 1) := Lib.hid (by have := HS.out; rw [if_neg (by rw [show k + i + 1 = k + (i + 1) by omega]; exact hh)] at this; exact this)
        rw [show decide ((l.drop (k + (i + 1))).headD 0 = 39) = false by simpa using hh]
        clear hh
        go_wp2_with fail
        go_ret
        rw [hf.out]
        exact ⟨ret_int (by omega), rfl⟩
end Go.Proofs.YtnpphfhjpflgiaaDoor

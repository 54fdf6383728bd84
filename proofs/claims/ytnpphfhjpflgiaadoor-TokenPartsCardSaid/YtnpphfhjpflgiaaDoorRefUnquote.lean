/- The reference's Unquote. -/
import Derived.Test.YtnpphfhjpflgiaaDoorRefQuote
namespace Go.Proofs.YtnpphfhjpflgiaaDoor
open Go.RowKit

/-- So far xs has come out of the first k bytes. -/
def UnqAt (t xs : List UInt8) (k : Nat) : Prop := unq t = (unq (t.drop k)).map (xs ++ ·)
theorem UnqAt.zero (t : List UInt8) : UnqAt t [] 0 := by unfold UnqAt; simp
theorem unq_odd (t : List UInt8) (k : Nat) (hk : k < t.length) (h : oddB t[k] = true) : unq (t.drop k) = none := by
  rw [List.drop_eq_getElem_cons hk]
  cases h2 : t.drop (k + 1) with
  | nil => rw [unq, if_pos h]
  | cons d r => rw [unq, if_pos h]
theorem unq_plain (t : List UInt8) (k : Nat) (hk : k < t.length) (h : oddB t[k] = false) (h39 : t[k] ≠ 39) : unq (t.drop k) = (unq (t.drop (k + 1))).map (t[k] :: ·) := by
  rw [List.drop_eq_getElem_cons hk]
  cases h2 : t.drop (k + 1) with
  | nil => rw [show unq [t[k]] = some [t[k]] by rw [unq, h, if_neg (by simp), if_neg h39], unq]; rfl
  | cons d r => rw [unq, h, if_neg (by simp), if_neg h39]
theorem unq_lone (t : List UInt8) (k : Nat) (hk : k < t.length) (h39 : t[k] = 39) (h : k + 1 = t.length ∨ ∃ h2 : k + 1 < t.length, t[k + 1] ≠ 39) : unq (t.drop k) = none := by
  have o39 : oddB 39 = false := by decide
  rw [List.drop_eq_getElem_cons hk, h39]
  rcases h with h | ⟨h2, h3⟩
  · rw [List.drop_of_length_le (by omega), unq, o39, if_neg (by simp), if_pos rfl]
  · rw [List.drop_eq_getElem_cons h2, unq, o39, if_neg (by simp), if_pos rfl, if_neg h3]
theorem unq_two (t : List UInt8) (k : Nat) (hk : k + 1 < t.length) (h39 : t[k] = 39) (h2 : t[k + 1] = 39) : unq (t.drop k) = (unq (t.drop (k + 2))).map (39 :: ·) := by
  have o39 : oddB 39 = false := by decide
  rw [List.drop_eq_getElem_cons (by omega : k < t.length), h39, List.drop_eq_getElem_cons hk, h2, unq, o39, if_neg (by simp), if_pos rfl, if_pos rfl]
theorem UnqAt.step {t xs : List UInt8} {k j : Nat} {c : UInt8} (h : UnqAt t xs k) (h2 : unq (t.drop k) = (unq (t.drop j)).map (c :: ·)) : UnqAt t (xs ++ [c]) j := by
  unfold UnqAt at *
  rw [h, h2, Option.map_map]
  congr 1
  funext x; simp
theorem UnqAt.none {t xs : List UInt8} {k : Nat} (h : UnqAt t xs k) (h2 : unq (t.drop k) = none) : unq t = none := by
  unfold UnqAt at h; rw [h, h2]; rfl
theorem UnqAt.end_ {t xs : List UInt8} (h : UnqAt t xs t.length) : unq t = some xs := by
  unfold UnqAt at h; rw [h, List.drop_length, unq]; simp

set_option maxHeartbeats 1000000 in
theorem refUnquote_any (l : List UInt8) (w : World) (hl : l.length ≤ 1000000) :
    Calls Tryd.prog 13 #[.string ⟨l.toArray⟩] w fun e w' => e = .returned (.tuple #[.string ⟨(unquote l).1.toArray⟩, .int .i64 (unquote l).2]) ∧ Below w.heap.size w w' := by
  have HU : Hid (unquote l = if l.length < 2 ∨ l.headD 0 ≠ 39 ∨ l.getLastD 0 ≠ 39 then ([], 2) else unqEnd (unq (inner l))) := Lib.hid rfl
  generalize unquote l = ul at *
  by_cases h2 : l.length < 2
  · have hf := Lib.hid (HU.out.trans (if_pos (.inl h2)))
    have h2' : (l.length : Int) < 2 := by omega
    go_enter Tryd.func13, Tryd.ntmps13
    go_wp2_with fail
    go_ret2
    rw [hf.out]
    exact ⟨rfl, Below.refl _ _⟩
  have h2' : (2 : Int) ≤ (l.length : Int) := by omega
  have d2 : decide ((l.length : Int) < 2) = false := by simp; omega
  have hhd : l.headD 0 = l[0] := by cases l with | nil => simp at h2 | cons c r => rfl
  have hla := last_get l (by omega)
  rw [hhd, hla] at HU
  by_cases h0 : l[0] ≠ 39
  · have hf := Lib.hid (HU.out.trans (if_pos (.inr (.inl h0))))
    have e0 : ((l[0].toNat : Int) != 39) = true := by rw [bne_iff_ne]; intro h; apply h0; apply UInt8.toNat.inj; show l[0].toNat = 39; omega
    clear HU hhd hla h0
    go_enter Tryd.func13, Tryd.ntmps13
    go_wp2_with fail
    go_ret2
    rw [hf.out]
    exact ⟨rfl, Below.refl _ _⟩
  replace h0 := Classical.not_not.1 h0
  have e0 : ((l[0].toNat : Int) != 39) = false := by rw [h0]; rfl
  by_cases h1 : l[l.length - 1] ≠ 39
  · have hf := Lib.hid (HU.out.trans (if_pos (.inr (.inr h1))))
    have e1 : ((l[l.length - 1].toNat : Int) != 39) = true := by rw [bne_iff_ne]; intro h; apply h1; apply UInt8.toNat.inj; show l[l.length - 1].toNat = 39; omega
    clear HU hhd hla h0 h1
    go_enter Tryd.func13, Tryd.ntmps13
    go_wp2_with fail
    go_ret2
    rw [hf.out]
    exact ⟨rfl, Below.refl _ _⟩
  replace h1 := Classical.not_not.1 h1
  have e1 : ((l[l.length - 1].toNat : Int) != 39) = false := by rw [h1]; rfl
  have HF := Lib.hid (HU.out.trans (if_neg (by rw [not_or, not_or]; exact ⟨h2, fun h => h h0, fun h => h h1⟩)))
  have hil : (inner l).length ≤ 1000000 := by unfold inner; simp; omega
  clear HU hhd hla h0 h1
  go_enter Tryd.func13, Tryd.ntmps13
  go_wp2_with fail
  have hin : (List.take (l.length - 1) l).tail = inner l := by unfold inner; rw [List.drop_one]
  rw [hin]
  clear hin
  generalize inner l = t at *
  go_loopw [5, 6] (fun v i wr => ∃ (k : Nat) (xs : List UInt8), k ≤ t.length ∧ i = .int .i64 k ∧ xs.length ≤ k ∧ UnqAt t xs k ∧ wr.ownsRow w.heap.size 5 1 v xs.length (xs.map bv) ∧ Below w.heap.size w wr) (fun _ i _ => t.length - (intOf i).toNat)
  case atStart => exact ⟨0, [], Nat.zero_le _, rfl, by simp, UnqAt.zero t, World.ownsRow_nil _ _ _ _, Below.refl _ _⟩
  case round =>
    obtain ⟨k, xs, hk, rfl, hxl, hu, hown, hb⟩ := hrel
    have hsz := hb.size
    have HT := Lib.hid hu
    clear hu
    by_cases hlt : k < t.length
    · by_cases ho : oddB t[k] = true
      · have hf : Hid (ul = ([], 2)) := Lib.hid (by rw [HF.out, HT.out.none (unq_odd t k hlt ho)]; rfl)
        unfold oddB at ho
        by_cases h32 : (t[k].toNat : Int) < 32
        · clear ho
          go_wp2_with fail
          go_ret2
          rw [hf.out]
          exact ⟨rfl, hb⟩
        · have h126 : (126 : Int) < (t[k].toNat : Int) := by simp at ho; omega
          clear ho
          go_wp2_with fail
          go_ret2
          rw [hf.out]
          exact ⟨rfl, hb⟩
      · have ho' : oddB t[k] = false := by simpa using ho
        have h32 : (32 : Int) ≤ (t[k].toNat : Int) := by unfold oddB at ho'; simp at ho'; omega
        have h126 : (t[k].toNat : Int) ≤ 126 := by unfold oddB at ho'; simp at ho'; omega
        by_cases h39 : t[k] = 39
        · by_cases he : k + 1 = t.length
          · have hf : Hid (ul = ([], 2)) := Lib.hid (by rw [HF.out, HT.out.none (unq_lone t k hlt h39 (.inl he))]; rfl)
            have he' : ((k : Int) == (t.length : Int) - 1) = true := by rw [beq_iff_eq]; omega
            clear ho ho' h32 h126 he
            go_wp2_with fail
            go_ret2
            rw [hf.out]
            exact ⟨rfl, hb⟩
          · have hlt2 : k + 1 < t.length := by omega
            have he' : ((k : Int) == (t.length : Int) - 1) = false := by rw [beq_eq_false_iff_ne]; omega
            by_cases h2 : t[k + 1] = 39
            · have HS := Lib.hid (HT.out.step (unq_two t k hlt2 h39 h2))
              clear ho ho' h32 h126 he
              go_wp2_with (at_builtin; refine append_byte wr rfl _ _ rfl w.heap.size hown rfl _ 39 rfl rfl (by omega) hsz ?_)
              intro v1 w1 hown1 hb1
              have hb2 := hb.trans hb1
              have R : Hid (w1.ownsRow w.heap.size 5 1 v1 (xs ++ [39]).length ((xs ++ [39]).map bv)) := Lib.hid (by rw [List.length_append, List.map_append]; exact hown1)
              clear hown hown1 hb hb1
              go_wp2_with fail
              go_roundw
              case rel => exact ⟨k + 2, xs ++ [39], by omega, by go_num, by simp; omega, HS.out, R.out, hb2⟩
              case measure => simp [intOf]; omega
            · have hf : Hid (ul = ([], 2)) := Lib.hid (by rw [HF.out, HT.out.none (unq_lone t k hlt h39 (.inr ⟨hlt2, h2⟩))]; rfl)
              have e2 : ((t[k + 1].toNat : Int) != 39) = true := by
                rw [bne_iff_ne]; intro h; apply h2; apply UInt8.toNat.inj; show t[k + 1].toNat = 39; omega
              clear ho ho' h32 h126 he h2
              go_wp2_with fail
              go_ret2
              rw [hf.out]
              exact ⟨rfl, hb⟩
        · have HS := Lib.hid (HT.out.step (unq_plain t k hlt ho' h39))
          have e39 : ((t[k].toNat : Int) == 39) = false := by
            rw [beq_eq_false_iff_ne]; intro h; apply h39; apply UInt8.toNat.inj; show t[k].toNat = 39; omega
          clear ho ho' h39
          go_wp2_with (at_builtin; refine append_byte wr rfl _ _ rfl w.heap.size hown rfl _ t[k] rfl rfl (by omega) hsz ?_)
          intro v1 w1 hown1 hb1
          have hb2 := hb.trans hb1
          have R : Hid (w1.ownsRow w.heap.size 5 1 v1 (xs ++ [t[k]]).length ((xs ++ [t[k]]).map bv)) := Lib.hid (by rw [List.length_append, List.map_append]; exact hown1)
          clear hown hown1 hb hb1
          go_wp2_with fail
          go_roundw
          case rel => exact ⟨k + 1, xs ++ [t[k]], by omega, by go_num, by simp; omega, HS.out, R.out, hb2⟩
          case measure => simp [intOf]; omega
    · obtain rfl : k = t.length := by omega
      have hf : Hid (ul = (xs, 0)) := Lib.hid (by rw [HF.out, HT.out.end_]; rfl)
      have hcv := conv_own (P := Tryd.prog) wr 52 9 5 w.heap.size xs.length u5 xs Tryd.underlying52 Tryd.underlying5 Tryd.underlying9 rfl hown
      clear hown
      go_wp2_with fail
      go_ret2
      rw [hf.out]
      exact ⟨rfl, hb⟩
end Go.Proofs.YtnpphfhjpflgiaaDoor

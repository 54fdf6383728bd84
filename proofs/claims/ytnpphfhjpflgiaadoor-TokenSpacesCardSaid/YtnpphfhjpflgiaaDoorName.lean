/- number.Name, and the reference's. -/
import Derived.Test.YtnpphfhjpflgiaaDoorNumBytes
namespace Go.Proofs.YtnpphfhjpflgiaaDoor
open Go.RowKit

theorem byte_ways (c : UInt8) :
    (alphaB c = true ∧ (c.toNat : Int) < 128 ∧ letB c = true) ∨
    (alphaB c = false ∧ ((c.toNat : Int) == 63) = true ∧ letB c = true) ∨
    (alphaB c = false ∧ ((c.toNat : Int) == 63) = false ∧ ((c.toNat : Int) == 64) = true ∧ letB c = true) ∨
    (alphaB c = false ∧ ((c.toNat : Int) == 63) = false ∧ ((c.toNat : Int) == 64) = false ∧ ((c.toNat : Int) == 95) = true ∧ letB c = true) ∨
    (alphaB c = false ∧ ((c.toNat : Int) == 63) = false ∧ ((c.toNat : Int) == 64) = false ∧ ((c.toNat : Int) == 95) = false ∧ (48 : Int) ≤ (c.toNat : Int) ∧ (c.toNat : Int) ≤ 57 ∧ letB c = false ∧ numB c = true) ∨
    (alphaB c = false ∧ ((c.toNat : Int) == 63) = false ∧ ((c.toNat : Int) == 64) = false ∧ ((c.toNat : Int) == 95) = false ∧ (c.toNat : Int) < 48 ∧ letB c = false ∧ numB c = false) ∨
    (alphaB c = false ∧ ((c.toNat : Int) == 63) = false ∧ ((c.toNat : Int) == 64) = false ∧ ((c.toNat : Int) == 95) = false ∧ (48 : Int) ≤ (c.toNat : Int) ∧ (57 : Int) < (c.toNat : Int) ∧ letB c = false ∧ numB c = false) := by
  have : ∀ n : Fin 256, 
    (alphaB (UInt8.ofNat n.val) = true ∧ (n.val : Int) < 128 ∧ letB (UInt8.ofNat n.val) = true) ∨
    (alphaB (UInt8.ofNat n.val) = false ∧ ((n.val : Int) == 63) = true ∧ letB (UInt8.ofNat n.val) = true) ∨
    (alphaB (UInt8.ofNat n.val) = false ∧ ((n.val : Int) == 63) = false ∧ ((n.val : Int) == 64) = true ∧ letB (UInt8.ofNat n.val) = true) ∨
    (alphaB (UInt8.ofNat n.val) = false ∧ ((n.val : Int) == 63) = false ∧ ((n.val : Int) == 64) = false ∧ ((n.val : Int) == 95) = true ∧ letB (UInt8.ofNat n.val) = true) ∨
    (alphaB (UInt8.ofNat n.val) = false ∧ ((n.val : Int) == 63) = false ∧ ((n.val : Int) == 64) = false ∧ ((n.val : Int) == 95) = false ∧ (48 : Int) ≤ (n.val : Int) ∧ (n.val : Int) ≤ 57 ∧ letB (UInt8.ofNat n.val) = false ∧ numB (UInt8.ofNat n.val) = true) ∨
    (alphaB (UInt8.ofNat n.val) = false ∧ ((n.val : Int) == 63) = false ∧ ((n.val : Int) == 64) = false ∧ ((n.val : Int) == 95) = false ∧ (n.val : Int) < 48 ∧ letB (UInt8.ofNat n.val) = false ∧ numB (UInt8.ofNat n.val) = false) ∨
    (alphaB (UInt8.ofNat n.val) = false ∧ ((n.val : Int) == 63) = false ∧ ((n.val : Int) == 64) = false ∧ ((n.val : Int) == 95) = false ∧ (48 : Int) ≤ (n.val : Int) ∧ (57 : Int) < (n.val : Int) ∧ letB (UInt8.ofNat n.val) = false ∧ numB (UInt8.ofNat n.val) = false) := by decide +kernel
  have h := this ⟨c.toNat, c.toNat_lt⟩
  simpa only [UInt8.ofNat_toNat] using h

/-- The first k bytes may be of a name. -/
def nameTo (l : List UInt8) (k : Nat) : Bool := (l.take k).all (fun c => letB c || numB c) && (k == 0 || letB (l.headD 0))
theorem nameTo_step (l : List UInt8) (k : Nat) (hk : k < l.length) (h : nameTo l k = true) (hc : letB l[k] = true ∨ (0 < k ∧ numB l[k] = true)) : nameTo l (k + 1) = true := by
  unfold nameTo at *
  rw [List.take_succ_eq_append_getElem hk]
  simp only [Bool.and_eq_true, List.all_append, List.all_cons, List.all_nil, Bool.and_true, Bool.or_eq_true] at h ⊢
  refine ⟨⟨h.1, by rcases hc with h | h; exact .inl h; exact .inr h.2⟩, .inr ?_⟩
  rcases Nat.eq_zero_or_pos k with rfl | h0
  · rcases hc with hc | hc
    · cases l with
      | nil => simp at hk
      | cons c r => exact hc
    · omega
  · rcases h.2 with h2 | h2
    · simp at h2; omega
    · exact h2
theorem nameTo_no (l : List UInt8) (k : Nat) (hk : k < l.length) (hc : letB l[k] = false) (hn : k = 0 ∨ numB l[k] = false) : nameB l = false := by
  unfold nameB
  rcases hn with rfl | hn
  · have : letB (l.headD 0) = false := by
      cases l with
      | nil => simp at hk
      | cons c r => exact hc
    rw [this]; simp
  · have : (l.all fun c => letB c || numB c) = false := by
      rw [List.all_eq_false]
      exact ⟨l[k], List.getElem_mem hk, by simp [hc, hn]⟩
    rw [this]; simp
theorem nameTo_end (l : List UInt8) (h1 : 1 ≤ l.length) (h2 : l.length ≤ 16) (h : nameTo l l.length = true) : nameB l = true := by
  unfold nameTo at h
  unfold nameB
  rw [List.take_length] at h
  simp only [Bool.and_eq_true, Bool.or_eq_true, decide_eq_true_eq] at h ⊢
  refine ⟨⟨⟨h1, h2⟩, ?_⟩, h.1⟩
  rcases h.2 with h2 | h2
  · simp at h2; subst h2; simp at h1
  · exact h2

set_option maxHeartbeats 1000000 in
theorem name_any (l : List UInt8) (w : World) (hl : l.length ≤ 1000000) :
    Calls Tryd.prog 22 #[.string ⟨l.toArray⟩] w fun e w' => e = .returned (.bool (nameB l)) ∧ w = w' := by
  by_cases h0 : l = []
  · subst h0
    go_enter Tryd.func22, Tryd.ntmps22
    go_wp2_with fail
    go_ret
    exact ⟨rfl, rfl⟩
  have h1 : 1 ≤ l.length := by cases l with | nil => simp at h0 | cons c r => simp
  have he : l.isEmpty = false := by cases l with | nil => simp at h0 | cons c r => rfl
  by_cases h16 : 16 < l.length
  · have h16' : (16 : Int) < (l.length : Int) := by omega
    have hf : Hid (nameB l = false) := Lib.hid (by unfold nameB; rw [show decide (l.length ≤ 16) = false by simp; omega]; simp)
    clear h0
    generalize nameB l = r at *
    go_enter Tryd.func22, Tryd.ntmps22
    go_wp2_with fail
    go_ret
    rw [hf.out]
    exact ⟨rfl, rfl⟩
  have h16' : (l.length : Int) ≤ 16 := by omega
  have d16 : decide ((16 : Int) < (l.length : Int)) = false := by simp; omega
  have hE := fun h => Lib.hid (nameTo_end l h1 (by omega) h)
  have hE' := Lib.hid hE
  have hN := Lib.hid (nameTo_no l)
  clear hE h0
  generalize nameB l = r at *
  go_enter Tryd.func22, Tryd.ntmps22
  go_wp2_with fail
  go_loop [14] (fun i => ∃ k : Nat, k ≤ l.length ∧ i = .int .i64 k ∧ nameTo l k = true) (fun i => l.length - (intOf i).toNat)
  case atStart => exact ⟨0, Nat.zero_le _, rfl, rfl⟩
  case round =>
    obtain ⟨k, hk, rfl, hnt⟩ := hrel
    have HT := Lib.hid hnt
    clear hnt
    by_cases hlt : k < l.length
    · go_wp2_with fail
      refine (begins_any _ _).mono ?_
      rintro e w' ⟨rfl, rfl⟩
      rcases byte_ways l[k] with ⟨e1, e2, b1⟩ | ⟨e1, e2, b1⟩ | ⟨e1, e2, e3, b1⟩ | ⟨e1, e2, e3, e4, b1⟩ | ⟨e1, e2, e3, e4, e5, e6, b1, b2⟩ | ⟨e1, e2, e3, e4, e5, b1, b2⟩ | ⟨e1, e2, e3, e4, e5, e6, b1, b2⟩
      iterate 4
        · have HS := Lib.hid (nameTo_step l k hlt HT.out (.inl b1))
          clear b1
          go_wp2_with fail
          go_round
          case rel => exact ⟨k + 1, by omega, by go_num, HS.out⟩
          case measure => simp [intOf]; omega
      · by_cases hk0 : 0 < k
        · have HS := Lib.hid (nameTo_step l k hlt HT.out (.inr ⟨hk0, b2⟩))
          have hk0' : (0 : Int) < (k : Int) := by omega
          clear b1 b2
          go_wp2_with fail
          go_round
          case rel => exact ⟨k + 1, by omega, by go_num, HS.out⟩
          case measure => simp [intOf]; omega
        · have HS := Lib.hid (hN.out k hlt b1 (.inl (by omega)))
          obtain rfl : k = 0 := by omega
          clear b1 b2
          go_wp2_with fail
          go_ret
          rw [HS.out]
          exact ⟨rfl, rfl⟩
      iterate 2
        · have HS := Lib.hid (hN.out k hlt b1 (.inr b2))
          clear b1 b2
          by_cases hk0 : 0 < k
          · have hk0' : (0 : Int) < (k : Int) := by omega
            go_wp2_with fail
            go_ret
            rw [HS.out]
            exact ⟨rfl, rfl⟩
          · obtain rfl : k = 0 := by omega
            go_wp2_with fail
            go_ret
            rw [HS.out]
            exact ⟨rfl, rfl⟩
    · obtain rfl : k = l.length := by omega
      have HS := Lib.hid (hE'.out HT.out).out
      go_wp2_with fail
      go_ret
      rw [HS.out]
      exact ⟨rfl, rfl⟩
end Go.Proofs.YtnpphfhjpflgiaaDoor

/- The reference's Unquote. -/
import Derived.Test.YtpmeabikhonaoaaDoorRefQuote
namespace Go.Proofs.YtpmeabikhonaoaaDoor
open Go.RowKit

/-- So far xs has come out of the first k bytes. -/
def UnqAt (t xs : List UInt8) (k : Nat) : Prop := unq t = (unq (t.drop k)).map (xs ++ ·)
theorem UnqAt.zero (t : List UInt8) : UnqAt t [] 0 := by unfold UnqAt; simp
theorem unq_odd (t : List UInt8) (k : Nat) (hk : k < t.length) (h : oddB t[k] = true) : unq (t.drop k) = none := by
  rw [List.drop_eq_getElem_cons hk]
  cases h2 : t.drop (k + 1) with
  | nil => rw [unq, if_pos h]
  | cons d r => rw [unq, if_pos h]
theorem unq_plain (t : List UInt8) (k : Nat) (hk : k < t.length) (h : oddB t[k] = false) (h39 : t[k] ≠ 39) : unq (t.drop k) = (unq (t.drop (k + 1))).map (t[k] :: ·) := by
  rw [List.drop_eq_getElem_cons hk]
  cases h2 : t.drop (k + 1) with
  | nil => rw [show unq [t[k]] = some [t[k]] by rw [unq, h, if_neg (by simp), if_neg h39], unq]; rfl
  | cons d r => rw [unq, h, if_neg (by simp), if_neg h39]
theorem unq_lone (t : List UInt8) (k : Nat) (hk : k < t.length) (h39 : t[k] = 39) (h : k + 1 = t.length ∨ ∃ h2 : k + 1 < t.length, t[k + 1] ≠ 39) : unq (t.drop k) = none := by
  have o39 : oddB 39 = false := by decide
  rw [List.drop_eq_getElem_cons hk, h39]
  rcases h with h | ⟨h2, h3⟩
  · rw [List.drop_of_length_le (by omega), unq, o39, if_neg (by simp), if_pos rfl]
  · rw [List.drop_eq_getElem_cons h2, unq, o39, if_neg (by simp), if_pos rfl, if_neg h3]
theorem unq_two (t : List UInt8) (k : Nat) (hk : k + 1 < t.length) (h39 : t[k] = 39) (h2 : t[k + 1] = 39) : unq (t.drop k) = (unq (t.drop (k + 2))).map (39 :: ·) := by
  have o39 : oddB 39 = false := by decide
  rw [List.drop_eq_getElem_cons (by omega : k < t.length), h39, List.drop_eq_getElem_cons hk, h2, unq, o39, if_neg (by simp), if_pos rfl, if_pos rfl]
theorem UnqAt.step {t xs : List UInt8} {k j : Nat} {c : UInt8} (h : UnqAt t xs k) (h2 : unq (t.drop k) = (unq (t.drop j)).map (c :: ·)) : UnqAt t (xs ++ [c]) j := by
  unfold UnqAt at *
  rw [h, h2, Option.map_map]
  congr 1
  funext x; simp
theorem UnqAt.none {t xs : List UInt8} {k : Nat} (h : UnqAt t xs k) (h2 : unq (t.drop k) = none) : unq t = none := by
  unfold UnqAt at h; rw [h, h2]; rfl
theorem UnqAt.end_ {t xs : List UInt8} (h : UnqAt t xs t.length) : unq t = some xs := by
  unfold UnqAt at h; rw [h, List.drop_length, unq]; simp

end Go.Proofs.YtpmeabikhonaoaaDoor

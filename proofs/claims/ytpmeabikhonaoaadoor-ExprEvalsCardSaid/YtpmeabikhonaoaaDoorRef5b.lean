/- ref05: power, half, two, Find. -/
import Derived.Test.YtpmeabikhonaoaaDoorRef5a
import Derived.Test.YtpmeabikhonaoaaDoorExpr12
import Derived.Test.YtpmeabikhonaoaaDoorRd
namespace Go.Proofs.YtpmeabikhonaoaaDoor
open Go.RowKit

set_option maxHeartbeats 1000000 in
theorem power_any (a n : Nat) (ha : a ≤ 65535) (hn : n ≤ 65535) (w : World) : Calls Tryd.prog 107 #[.int .u16 a, .int .u16 n] w fun e w' => e = .returned (.int .u16 ((a * 2 ^ n) % 65536 : Nat)) ∧ w = w' := by
  have HE : Hid (∀ k, k ≤ n → (k = n ∨ k = 16) → (a * 2 ^ k) % 65536 = (a * 2 ^ n) % 65536) := Lib.hid (fun k hk h => by
    rcases h with rfl | rfl
    · rfl
    · have e : a * 2 ^ n = 65536 * (a * 2 ^ (n - 16)) := by rw [show (65536 : Nat) = 2 ^ 16 from rfl, Nat.mul_left_comm, ← Nat.pow_add, show 16 + (n - 16) = n by omega]
      rw [e, Nat.mul_mod_right, show (2 : Nat) ^ 16 = 65536 from rfl, Nat.mul_mod_left])
  generalize (a * 2 ^ n) % 65536 = res at *
  go_enter Tryd.func107, Tryd.ntmps107
  go_wp2_with fail
  go_loop [0, 5] (fun x i => ∃ k : Nat, k ≤ n ∧ k ≤ 16 ∧ i = .int .u16 k ∧ x = .int .u16 ((a * 2 ^ k) % 65536 : Nat)) (fun _ i => 16 - (intOf i).toNat)
  case atStart => exact ⟨0, Nat.zero_le _, by omega, rfl, by simp; omega⟩
  case round =>
    obtain ⟨k, hk, hk16, rfl, rfl⟩ := hrel
    have HS : Hid (((a * 2 ^ k) % 65536 * 2) % 65536 = (a * 2 ^ (k + 1)) % 65536) := Lib.hid (by rw [Nat.pow_succ, ← Nat.mul_assoc]; omega)
    have hxl : (a * 2 ^ k) % 65536 ≤ 65535 := by omega
    have HE' := Lib.hid (HE.out k hk)
    clear HE
    generalize (a * 2 ^ k) % 65536 = x at *
    by_cases h1 : k < n ∧ k < 16
    · obtain ⟨h1, h2⟩ := h1
      have h1' : (k : Int) < (n : Int) := by omega
      have h2' : (k : Int) < 16 := by omega
      go_wp2_with fail
      go_round
      case rel => exact ⟨k + 1, by omega, by omega, by go_num, by rw [← HS.out, wrap16]; (first | (congr 1; done) | (congr 1; omega))⟩
      case measure => simp [intOf]; omega
    · have hres := HE'.out (by omega)
      subst hres
      by_cases h2 : k < n
      · have h3 : decide ((k : Int) < 16) = false := by simp; omega
        have h2' : (k : Int) < (n : Int) := by omega
        clear HS HE'
        go_wp2_with fail
        go_ret
        exact ⟨rfl, rfl⟩
      · have h2' : decide (k < n) = false := by simp; omega
        clear HS HE'
        go_wp2_with fail
        go_ret
        exact ⟨rfl, rfl⟩
set_option maxHeartbeats 1000000 in
theorem half_any (a n : Nat) (ha : a ≤ 65535) (hn : n ≤ 65535) (w : World) : Calls Tryd.prog 108 #[.int .u16 a, .int .u16 n] w fun e w' => e = .returned (.int .u16 (a / 2 ^ n : Nat)) ∧ w = w' := by
  have HE : Hid (∀ k, k ≤ n → (k = n ∨ k = 16) → a / 2 ^ k = a / 2 ^ n) := Lib.hid (fun k hk h => by
    rcases h with rfl | rfl
    · rfl
    · rw [Nat.div_eq_of_lt (show a < 2 ^ 16 by omega), Nat.div_eq_of_lt (Nat.lt_of_lt_of_le (show a < 2 ^ 16 by omega) (Nat.pow_le_pow_right (by omega) hk))])
  generalize a / 2 ^ n = res at *
  go_enter Tryd.func108, Tryd.ntmps108
  go_wp2_with fail
  go_loop [0, 5] (fun x i => ∃ k : Nat, k ≤ n ∧ k ≤ 16 ∧ i = .int .u16 k ∧ x = .int .u16 (a / 2 ^ k : Nat)) (fun _ i => 16 - (intOf i).toNat)
  case atStart => exact ⟨0, Nat.zero_le _, by omega, rfl, by simp⟩
  case round =>
    obtain ⟨k, hk, hk16, rfl, rfl⟩ := hrel
    have HS : Hid (a / 2 ^ k / 2 = a / 2 ^ (k + 1)) := Lib.hid (by rw [Nat.pow_succ, Nat.div_div_eq_div_mul])
    have hxl : a / 2 ^ k ≤ 65535 := Nat.le_trans (Nat.div_le_self _ _) ha
    have HE' := Lib.hid (HE.out k hk)
    clear HE
    generalize a / 2 ^ k = x at *
    by_cases h1 : k < n ∧ k < 16
    · obtain ⟨h1, h2⟩ := h1
      have h1' : (k : Int) < (n : Int) := by omega
      have h2' : (k : Int) < 16 := by omega
      go_wp2_with fail
      go_round
      case rel => exact ⟨k + 1, by omega, by omega, by go_num, by rw [← HS.out]; (first | (congr 1; done) | (congr 1; omega))⟩
      case measure => simp [intOf]; omega
    · have hres := HE'.out (by omega)
      subst hres
      by_cases h2 : k < n
      · have h3 : decide ((k : Int) < 16) = false := by simp; omega
        have h2' : (k : Int) < (n : Int) := by omega
        clear HS HE'
        go_wp2_with fail
        go_ret
        exact ⟨rfl, rfl⟩
      · have h2' : decide (k < n) = false := by simp; omega
        clear HS HE'
        go_wp2_with fail
        go_ret
        exact ⟨rfl, rfl⟩

/-- Symbols. -/
abbrev Sy := List UInt8 × Nat
def syCells (s : Sy) : List Value := [.string ⟨s.1.toArray⟩, .int .u16 s.2]
def syRow (l : List Sy) : List Value := l.flatMap syCells
def findE (l : List Sy) (m : List UInt8) : Nat × Nat :=
  match l.find? (fun s => s.1 == m) with
  | some s => (s.2, 0)
  | none => (0, 3)
theorem findE_cons (s : Sy) (l : List Sy) (m : List UInt8) : findE (s :: l) m = if s.1 = m then (s.2, 0) else findE l m := by
  unfold findE
  rw [List.find?_cons]
  by_cases h : s.1 = m
  · have : (s.1 == m) = true := by simpa using h
    rw [this, if_pos h]
  · have : (s.1 == m) = false := by simpa using h
    rw [this, if_neg h]
theorem syRow_get (l : List Sy) (k : Nat) (hk : k < l.length) : (syRow l)[k * 2]? = some (.string ⟨l[k].1.toArray⟩) ∧ (syRow l)[k * 2 + 1]? = some (.int .u16 l[k].2) := by
  induction l generalizing k with
  | nil => simp at hk
  | cons t ts ih =>
    cases k with
    | zero => simp [syRow, syCells]
    | succ k =>
      have := ih k (by simpa using hk)
      have e : syRow (t :: ts) = syCells t ++ syRow ts := by simp [syRow]
      rw [e]
      have hl : (syCells t).length = 2 := rfl
      refine ⟨?_, ?_⟩ <;> rw [List.getElem?_append_right (by rw [hl]; omega), hl]
      · rw [show (k + 1) * 2 - 2 = k * 2 by omega]; exact this.1
      · rw [show (k + 1) * 2 + 1 - 2 = k * 2 + 1 by omega]; exact this.2
theorem Rd.sy {w : World} {B c : Nat} {A : Option Addr} {l : List Sy} (h : Rd w B (.slice A l.length c) l.length (syRow l)) (k : Nat) (hk : k < l.length) :
    ∃ g o, A = some ⟨g, o, none⟩ ∧ g < B ∧ w.cell? ⟨g, o + k * 2, none⟩ = some (.string ⟨l[k].1.toArray⟩) ∧ w.cell? ⟨g, o + k * 2 + 1, none⟩ = some (.int .u16 l[k].2) := by
  obtain ⟨A', c', h1, h2, h3⟩ := h
  injection h1 with h1 _ _
  subst h1
  obtain ⟨g, o, h4, h5, h6⟩ := h3 (by omega)
  have ⟨g1, g2⟩ := syRow_get l k hk
  exact ⟨g, o, h4, h5, h6 _ _ g1, by simpa [Nat.add_assoc] using h6 _ _ g2⟩
set_option maxHeartbeats 1000000 in
theorem find5_any (l : List Sy) (m : List UInt8) (v : Value) (w : World) (hr : Rd w w.heap.size v l.length (syRow l)) (hl : l.length ≤ 1000000) :
    Calls Tryd.prog 17 #[v, .string ⟨m.toArray⟩] w fun e w' => e = .returned (.tuple #[.int .u16 (findE l m).1, .int .i64 (findE l m).2]) ∧ w = w' := by
  obtain ⟨A, c, rfl, hc⟩ := hr.form
  have HR := Lib.hid hr
  clear hr
  have H0 : Hid (findE (l.drop 0) m = findE l m) := Lib.hid rfl
  generalize findE l m = res at *
  go_enter Tryd.func17, Tryd.ntmps17
  go_wp2_with fail
  go_loop [6] (fun i => ∃ k : Nat, k ≤ l.length ∧ i = .int .i64 k ∧ findE (l.drop k) m = res) (fun i => l.length - (intOf i).toNat)
  case atStart => exact ⟨0, Nat.zero_le _, rfl, H0.out⟩
  case round =>
    obtain ⟨k, hk, rfl, hall⟩ := hrel
    have HA := Lib.hid hall
    clear hall H0
    by_cases hlt : k < l.length
    · obtain ⟨g, o, rfl, hg', c1, c2⟩ := HR.out.sy k hlt
      have HD : Hid (findE (l.drop k) m = if l[k].1 = m then (l[k].2, 0) else findE (l.drop (k + 1)) m) := Lib.hid (by rw [List.drop_eq_getElem_cons hlt, findE_cons])
      generalize l[k] = t at *
      by_cases h2 : t.1 = m
      · have HL : Hid (res = (t.2, 0)) := Lib.hid (by rw [← HA.out, HD.out, if_pos h2])
        have h2' : (t.1 == m) = true := by simpa using h2
        clear h2 HD
        go_wp2_with fail
        go_ret2
        rw [HL.out]
        exact ⟨rfl, rfl⟩
      · have HL : Hid (findE (l.drop (k + 1)) m = res) := Lib.hid (by rw [← HA.out, HD.out, if_neg h2])
        have h2' : (t.1 == m) = false := by simpa using h2
        clear h2 HD
        go_wp2_with fail
        go_round
        case rel => exact ⟨k + 1, by omega, by go_num, HL.out⟩
        case measure => simp [intOf]; omega
    · obtain rfl : k = l.length := by omega
      have HL : Hid (res = (0, 3)) := Lib.hid (by rw [← HA.out, List.drop_length]; rfl)
      go_wp2_with fail
      go_ret2
      rw [HL.out]
      exact ⟨rfl, rfl⟩
end Go.Proofs.YtpmeabikhonaoaaDoor

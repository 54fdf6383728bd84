/- The walk of ExprParts. -/
import Derived.Test.YtpmeabikhonaoaaDoorLaw5b
import Derived.Test.YtpmeabikhonaoaaDoorKb
import Derived.Deep.QuietTactic
import Derived.BigQuiet
namespace Go.Proofs.YtpmeabikhonaoaaDoor
open Go.RowKit

theorem bin_div : binO [47] 5 := .inl ⟨rfl, .inr (.inl rfl)⟩
theorem bin_mod : binO sMOD 5 := .inl ⟨rfl, .inr (.inr (.inl rfl))⟩
theorem bin_shl : binO sSHL 5 := .inl ⟨rfl, .inr (.inr (.inr (.inl rfl)))⟩
theorem bin_shr : binO sSHR 5 := .inl ⟨rfl, .inr (.inr (.inr (.inr rfl)))⟩
theorem okE_num (n : Nat) (hn : n ≤ 65535) : okE (numE n) := ⟨hn, by simp [numE, Ex.op, maxLen], by simp [numE, Ex.name, maxLen]⟩
set_option maxHeartbeats 1000000 in
theorem parts1_any (o : List UInt8) (r : Nat) (ho : binO o r) (a b : Nat) (ha : a ≤ 65535) (hb : b ≤ 65535) (w : World) :
    Calls Tryd.prog 24 #[.string ⟨o.toArray⟩, .int .u16 a, .int .u16 b] w fun e w' => e = .returned (.tuple #[.int .u16 (twoE o a b).1, .int .i64 (twoE o a b).2]) ∧ Below w.heap.size w w' := by
  have hsub := SubAt.two (e := numE a) (e' := numE b) (SubAt.nil w (· < w.heap.size)) (SubAt.nil w (· < w.heap.size)) (okE_num a ha) (okE_num b hb) (fun _ h => h) (S' := (· < w.heap.size + 1)) (fun _ h => Nat.lt_succ_of_lt h) w.heap.size rfl (Nat.lt_succ_self _) 25
  have hr : rightE (.mk o 0 [] [numE a, numE b]) 24 = true := right_two ho _ _ 23 (right_num a 22) (right_num b 22)
  have hol : o.length ≤ 1000 := by unfold binO at ho; rcases ho with ⟨_, rfl | rfl | rfl | rfl | rfl⟩ | ⟨_, rfl | rfl⟩ | ⟨_, rfl⟩ | ⟨_, rfl | rfl⟩ <;> decide
  have hf : fitE (.mk o 0 [] [numE a, numE b]) = true := by simp [fitE, fitL, numE, ha, hb, hol]
  have HE : Hid (Calls Tryd.prog 15 #[.agg #[.string ⟨o.toArray⟩, .int .u16 0, .string ⟨#[]⟩, .slice (some ⟨w.heap.size, 0, none⟩) 2 2], .int .u16 0, .nilFunc] (w.alloc (.cells #[.string ⟨#[35]⟩, .int .u16 a, .string ⟨#[]⟩, .slice none 0 0, .string ⟨#[35]⟩, .int .u16 b, .string ⟨#[]⟩, .slice none 0 0] 25)) fun e w' => e = .returned (.tuple #[.int .u16 (twoE o a b).1, .int .i64 (twoE o a b).2]) ∧ Below (w.alloc (.cells #[.string ⟨#[35]⟩, .int .u16 a, .string ⟨#[]⟩, .slice none 0 0, .string ⟨#[35]⟩, .int .u16 b, .string ⟨#[]⟩, .slice none 0 0] 25)).heap.size (w.alloc (.cells #[.string ⟨#[35]⟩, .int .u16 a, .string ⟨#[]⟩, .slice none 0 0, .string ⟨#[35]⟩, .int .u16 b, .string ⟨#[]⟩, .slice none 0 0] 25)) w') := Lib.hid (by
    have := Eval_nil (.mk o 0 [] [numE a, numE b]) _ 0 (by omega) _ hf (hsub.more (S' := (· < (w.alloc (.cells (exCells (numE a) (.slice none 0 0) ++ exCells (numE b) (.slice none 0 0)).toArray 25)).heap.size)) (fun g hg => by simpa using hg))
    rw [show evalK 0 und (.mk o 0 [] [numE a, numE b]) = twoE o a b by unfold evalK; rw [if_pos hr, eval_two ho 0 und _ _ a b (eval_num _ _ a) (eval_num _ _ b)]] at this
    exact this)
  clear hsub hr hf hol
  generalize twoE o a b = t at *
  go_enter Tryd.func24, Tryd.ntmps24
  go_wp2_with fail
  refine HE.out.mono ?_
  rintro e w1 ⟨rfl, hb1⟩
  go_wp2_with fail
  go_ret2
  exact ⟨rfl, bthen ((Below.refl _ _).alloc (Nat.le_refl _) _) hb1⟩
theorem pow16 (b : Nat) (hb : b < 16) : 2 ^ b ≤ 32768 := Nat.le_trans (Nat.pow_le_pow_right (by omega) (show b ≤ 15 by omega)) (by decide)
theorem one_shl (b : Nat) (hb : b < 16) : IntKind.u16.wrap (2 ^ b) = ((2 ^ b : Nat) : Int) := by
  have h := pow16 b hb
  have e : (2 : Int) ^ b = ((2 ^ b : Nat) : Int) := by simp
  rw [wrap16, e]
  generalize 2 ^ b = p at *
  omega
theorem shr_div (a p : Nat) (ha : a ≤ 65535) : IntKind.u16.wrap ((a : Int) / (p : Int)) = ((a / p : Nat) : Int) := by
  have hle := Nat.div_le_self a p
  rw [wrap16, ← Int.natCast_ediv]
  generalize a / p = z at *
  omega
theorem big_shl (a b : Nat) (hb : 16 ≤ b) : (a * 2 ^ b) % 65536 = 0 := by
  have e : a * 2 ^ b = 65536 * (a * 2 ^ (b - 16)) := by rw [show (65536 : Nat) = 2 ^ 16 from rfl, Nat.mul_left_comm, ← Nat.pow_add, show 16 + (b - 16) = b by omega]
  rw [e, Nat.mul_mod_right]
theorem big_shr (a b : Nat) (ha : a ≤ 65535) (hb : 16 ≤ b) : a / 2 ^ b = 0 := Nat.div_eq_of_lt (Nat.lt_of_lt_of_le (show a < 2 ^ 16 by omega) (Nat.pow_le_pow_right (by omega) hb))
set_option maxHeartbeats 4000000 in
set_option maxRecDepth 100000 in
theorem exprParts_walk (a : Int) (wa : (Lit.int .u16 a).wf = true) (b : Int) (wb : (Lit.int .u16 b).wf = true) (w : World) (hg : GW w) :
    Calls Tryd.prog 6 #[.int .u16 a, .int .u16 b] w fun e w' => e = .returned (.bool true) ∧ Below w.heap.size w w' := by
  have ha0 := bounds_u16 wa
  have hb0 := bounds_u16 wb
  obtain ⟨a, rfl⟩ := Int.eq_ofNat_of_zero_le ha0.1
  obtain ⟨b, rfl⟩ := Int.eq_ofNat_of_zero_le hb0.1
  have ha : a ≤ 65535 := by omega
  have hb : b ≤ 65535 := by omega
  clear wa wb ha0 hb0
  have H1 := Lib.hid (fun W => parts1_any [47] 5 bin_div a b ha hb W)
  have H2 := Lib.hid (fun W => parts1_any sMOD 5 bin_mod a b ha hb W)
  have H3 := Lib.hid (fun W => parts1_any sSHL 5 bin_shl a b ha hb W)
  have H4 := Lib.hid (fun W => parts1_any sSHR 5 bin_shr a b ha hb W)
  have HAL := Lib.hid (fun W (hW : Below w.heap.size w W) => alive5_any W (hg.below hW))
  by_cases h0 : b = 0
  · subst h0
    rw [show twoE [47] a 0 = (0, 5) from rfl] at H1
    rw [show twoE sMOD a 0 = (0, 5) from rfl] at H2
    rw [show twoE sSHL a 0 = (a, 0) by show ((a * 2 ^ 0) % 65536, 0) = (a, 0); rw [Nat.pow_zero, Nat.mul_one, Nat.mod_eq_of_lt (by omega)]] at H3
    rw [show twoE sSHR a 0 = (a, 0) by show (a / 2 ^ 0, 0) = (a, 0); rw [Nat.pow_zero, Nat.div_one]] at H4
    go_enter Tryd.func6, Tryd.ntmps6
    go_wp2_with fail
    refine (H1.out _).mono ?_
    rintro e w1 ⟨rfl, hb1⟩
    go_wp2_with fail
    refine (H2.out _).mono ?_
    rintro e w2 ⟨rfl, hb2⟩
    go_wp2_with fail
    refine (H3.out _).mono ?_
    rintro e w3 ⟨rfl, hb3⟩
    go_wp2_with fail
    refine (H4.out _).mono ?_
    rintro e w4 ⟨rfl, hb4⟩
    have B4 := Lib.hid (bthen (bthen (bthen hb1 hb2) hb3) hb4)
    clear hb1 hb2 hb3 hb4
    go_wp2_with fail
    refine (HAL.out _ B4.out).mono ?_
    rintro e w5 ⟨rfl, hb5⟩
    go_wp2_with fail
    go_ret
    exact ⟨rfl, bthen B4.out hb5⟩
  · have hb1 : ((b : Int) == 0) = false := by rw [beq_eq_false_iff_ne]; omega
    rw [show twoE [47] a b = (a / b, 0) by show (if b = 0 then _ else _) = _; rw [if_neg h0]; rfl] at H1
    rw [show twoE sMOD a b = (a % b, 0) by show (if b = 0 then _ else _) = _; rw [if_neg h0]; rfl] at H2
    rw [show twoE sSHL a b = ((a * 2 ^ b) % 65536, 0) from rfl] at H3
    rw [show twoE sSHR a b = (a / 2 ^ b, 0) from rfl] at H4
    dsimp only at H1 H2 H3 H4
    have hq : a / b ≤ 65535 := Nat.le_trans (Nat.div_le_self _ _) ha
    have hr : a % b < b := Nat.mod_lt _ (by omega)
    have hqr : a / b * b + a % b = a := Nat.div_add_mod' a b
    have hqb : IntKind.u16.wrap (((a / b : Nat) : Int) * (b : Int)) = ((a / b * b : Nat) : Int) := by rw [wrap16, ← Int.natCast_mul]; omega
    have hsum : IntKind.u16.wrap (((a / b * b : Nat) : Int) + ((a % b : Nat) : Int)) = (a : Int) := by rw [wrap16]; omega
    have hr' : ((a % b : Nat) : Int) < (b : Int) := by omega
    generalize a / b * b = qb at *
    generalize a / b = q at *
    generalize a % b = m at *
    by_cases h16 : b < 16
    · have h16' : (b : Int) < 16 := by omega
      have hp := pow16 b h16
      have hpp : 0 < 2 ^ b := Nat.pow_pos (by omega)
      have hmin : min b 16 = b := by omega
      have hw1 := one_shl b h16
      have hmul : IntKind.u16.wrap ((a : Int) * ((2 ^ b : Nat) : Int)) = (((a * 2 ^ b) % 65536 : Nat) : Int) := by rw [wrap16, ← Int.natCast_mul]; omega
      have hdiv := shr_div a (2 ^ b) ha
      generalize (a * 2 ^ b) % 65536 = sh at *
      generalize a / 2 ^ b = sr at *
      generalize 2 ^ b = pw at *
      have hp' : (pw : Int) ≤ 32768 := by omega
      have hpp' : (1 : Int) ≤ (pw : Int) := by omega
      have hpz : ((pw : Int) == 0) = false := by rw [beq_eq_false_iff_ne]; omega
      go_enter Tryd.func6, Tryd.ntmps6
      go_wp2_with fail
      refine (H1.out _).mono ?_
      rintro e w1 ⟨rfl, hb1⟩
      go_wp2_with fail
      refine (H2.out _).mono ?_
      rintro e w2 ⟨rfl, hb2⟩
      go_wp2_with fail
      refine (H3.out _).mono ?_
      rintro e w3 ⟨rfl, hb3⟩
      go_wp2_with fail
      refine (H4.out _).mono ?_
      rintro e w4 ⟨rfl, hb4⟩
      have B4 := Lib.hid (bthen (bthen (bthen hb1 hb2) hb3) hb4)
      clear hb1 hb2 hb3 hb4
      go_wp2_with fail
      go_quiet (fail)
      go_wp2_with fail
      refine (HAL.out _ (below_dn B4.out _)).mono ?_
      rintro e w5 ⟨rfl, hb5⟩
      go_wp2_with fail
      go_ret
      exact ⟨rfl, bthen (below_dn B4.out _) hb5⟩
    · have h16' : decide ((b : Int) < 16) = false := by simp; omega
      rw [big_shl a b (by omega)] at H3
      rw [big_shr a b ha (by omega)] at H4
      go_enter Tryd.func6, Tryd.ntmps6
      go_wp2_with fail
      refine (H1.out _).mono ?_
      rintro e w1 ⟨rfl, hb1⟩
      go_wp2_with fail
      refine (H2.out _).mono ?_
      rintro e w2 ⟨rfl, hb2⟩
      go_wp2_with fail
      refine (H3.out _).mono ?_
      rintro e w3 ⟨rfl, hb3⟩
      go_wp2_with fail
      refine (H4.out _).mono ?_
      rintro e w4 ⟨rfl, hb4⟩
      have B4 := Lib.hid (bthen (bthen (bthen hb1 hb2) hb3) hb4)
      clear hb1 hb2 hb3 hb4
      go_wp2_with fail
      refine (HAL.out _ B4.out).mono ?_
      rintro e w5 ⟨rfl, hb5⟩
      go_wp2_with fail
      go_ret
      exact ⟨rfl, bthen B4.out hb5⟩
end Go.Proofs.YtpmeabikhonaoaaDoor

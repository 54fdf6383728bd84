/- law05: of, alive. -/
import Derived.Test.YtpmeabikhonaoaaDoorExpr21
import Derived.Test.YtpmeabikhonaoaaDoorExpr17
import Derived.Test.YtpmeabikhonaoaaDoorExpr9
namespace Go.Proofs.YtpmeabikhonaoaaDoor
open Go.RowKit

/-- What was stored in a new block of an expression. -/
theorem SubAt.up {w w' : World} {B : Nat} {v : Value} {sub : List Ex} (h : SubAt w (fun g => B ≤ g ∧ g < w.heap.size) v sub) (hb : Below w.heap.size w w') : SubAt w' (· < w'.heap.size) v sub :=
  h.keep (fun _ hp => hb.cell hp.2) (fun _ hg => Nat.lt_of_lt_of_le hg.2 hb.size)
set_option maxHeartbeats 2000000 in
theorem of5_any (s : List UInt8) (want : Nat) (ts : List Tok) (x : Ex) (hl : s.length ≤ 1000) (h1 : lineL s = (ts, 0)) (h2 : allE ts = (x, 0)) (h3 : rightE x 24 = true) (h4 : fitE x = true) (h5 : evalE 0 und x = (want, 0)) (h6 : showE x 1 = s) (hts : ts.length ≤ 1000) (htt : ∀ t ∈ ts, t.2.2 ≤ 65535 ∧ t.2.1.length ≤ 1000) (w : World) (hg : GW w) :
    Calls Tryd.prog 41 #[.string ⟨s.toArray⟩, .int .u16 want] w fun e w' => e = .returned (.bool true) ∧ Below w.heap.size w w' := by
  have HL := Lib.hid (line_any s w hg (by omega))
  rw [h1] at HL
  have HA := Lib.hid (fun v W hr => all_any ts v W hr hts htt)
  rw [h2] at HA
  have HE : Hid (∀ v W, SubAt W (· < W.heap.size) v x.sub → Calls Tryd.prog 15 #[.agg #[.string ⟨x.op.toArray⟩, .int .u16 x.n, .string ⟨x.name.toArray⟩, v], .int .u16 0, .nilFunc] W fun r w' => r = .returned (.tuple #[.int .u16 want, .int .i64 0]) ∧ Below W.heap.size W w') := Lib.hid (fun v W hs => by
    have := Eval_nil x v 0 (by omega) W h4 hs
    rwa [show evalK 0 und x = (want, 0) by unfold evalK; rw [if_pos h3, h5]] at this)
  have HS : Hid (∀ v W, GW W → SubAt W (· < W.heap.size) v x.sub → Calls Tryd.prog 19 #[.agg #[.string ⟨x.op.toArray⟩, .int .u16 x.n, .string ⟨x.name.toArray⟩, v]] W fun r w' => r = .returned (.tuple #[.string ⟨s.toArray⟩, .int .i64 0]) ∧ Below W.heap.size W w') := Lib.hid (fun v W hgw hs => by
    have := Show_any x v W h4 hgw hs
    rwa [show showK x = s by unfold showK; rw [if_pos h3, h6], show rightK x = 0 by unfold rightK; rw [if_pos h3]] at this)
  clear h1 h2 h3 h4 h5 h6 htt
  go_enter Tryd.func41, Tryd.ntmps41
  go_wp2_with fail
  refine HL.out.mono ?_
  rintro e w1 ⟨va, rfl, ho1, hb1⟩
  have ra := Rd.of_own ho1
  obtain ⟨rA, rc, rfl, hrc⟩ := ra.form
  clear ho1 HL
  go_wp2_with fail
  refine (HA.out _ _ ra).mono ?_
  rintro e w2 ⟨vs, rfl, hsub, hok, hb2⟩
  obtain ⟨sA, sc, rfl, hsc, hsm⟩ := hsub.form
  have g2 := hg.below (bthen hb1 hb2)
  have B2 := Lib.hid (bthen hb1 hb2)
  clear hb1 hb2 ra HA
  go_wp2_with fail
  have hs2 := hsub.up ((Below.refl w2.heap.size w2).alloc (Nat.le_refl _) (.cells #[.string ⟨x.op.toArray⟩, .int .u16 x.n, .string ⟨x.name.toArray⟩, .slice sA x.sub.length sc] 25))
  refine (HE.out _ _ hs2).mono ?_
  rintro e w3 ⟨rfl, hb3⟩
  have hs3 := (hs2.bel hb3).more (S' := (· < w3.heap.size)) (fun y hy => Nat.lt_of_lt_of_le hy hb3.size)
  have B3 := Lib.hid (bthen (B2.out.alloc B2.out.size _) hb3)
  have g3 := hg.below B3.out
  obtain ⟨hcc, hff⟩ := bcell hb3
  clear HE hs2 hb3
  go_wp2_with fail
  refine (HS.out _ _ g3 hs3).mono ?_
  rintro e w4 ⟨rfl, hb4⟩
  clear hcc hff hs3 HS
  go_wp2_with fail
  go_ret
  exact ⟨rfl, bthen B3.out hb4⟩
theorem ex_a1 : lineL [49, 32, 43, 32, 50, 32, 42, 32, 51] = ([(2, [], 1), (4, [43], 0), (2, [], 2), (4, [42], 0), (2, [], 3)], 0) := by decide +kernel
theorem ex_a2 : lineL [78, 79, 84, 32, 48, 32, 65, 78, 68, 32, 48, 70, 72] = ([(1, sNOT, 0), (2, [], 0), (1, sAND, 0), (2, [], 15)], 0) := by decide +kernel
theorem ex_a3 : lineL [40, 32, 49, 32, 43, 32, 50, 32, 41, 32, 42, 32, 51] = ([(4, [40], 0), (2, [], 1), (4, [43], 0), (2, [], 2), (4, [41], 0), (4, [42], 0), (2, [], 3)], 0) := by decide +kernel
def exA1 : Ex := .mk [43] 0 [] [numE 1, .mk [42] 0 [] [numE 2, numE 3]]
def exA2 : Ex := .mk sAND 0 [] [.mk sNOT 0 [] [numE 0], numE 15]
def exA3 : Ex := .mk [42] 0 [] [.mk [43] 0 [] [numE 1, numE 2], numE 3]
theorem alive5_1 (w : World) (hg : GW w) : Calls Tryd.prog 41 #[.string ⟨#[49, 32, 43, 32, 50, 32, 42, 32, 51]⟩, .int .u16 7] w fun e w' => e = .returned (.bool true) ∧ Below w.heap.size w w' :=
  of5_any [49, 32, 43, 32, 50, 32, 42, 32, 51] 7 _ exA1 (by simp) ex_a1 (by rfl) (by decide +kernel) (by decide +kernel) (by decide +kernel) (by decide +kernel) (by decide) (by decide) w hg
theorem alive5_2 (w : World) (hg : GW w) : Calls Tryd.prog 41 #[.string ⟨#[78, 79, 84, 32, 48, 32, 65, 78, 68, 32, 48, 70, 72]⟩, .int .u16 15] w fun e w' => e = .returned (.bool true) ∧ Below w.heap.size w w' :=
  of5_any [78, 79, 84, 32, 48, 32, 65, 78, 68, 32, 48, 70, 72] 15 _ exA2 (by simp) ex_a2 (by rfl) (by decide +kernel) (by decide +kernel) (by decide +kernel) (by decide +kernel) (by decide) (by decide) w hg
theorem alive5_3 (w : World) (hg : GW w) : Calls Tryd.prog 41 #[.string ⟨#[40, 32, 49, 32, 43, 32, 50, 32, 41, 32, 42, 32, 51]⟩, .int .u16 9] w fun e w' => e = .returned (.bool true) ∧ Below w.heap.size w w' :=
  of5_any [40, 32, 49, 32, 43, 32, 50, 32, 41, 32, 42, 32, 51] 9 _ exA3 (by simp) ex_a3 (by rfl) (by decide +kernel) (by decide +kernel) (by decide +kernel) (by decide +kernel) (by decide) (by decide) w hg
set_option maxHeartbeats 1000000 in
theorem alive5_any (w : World) (hg : GW w) : Calls Tryd.prog 14 #[] w fun e w' => e = .returned (.bool true) ∧ Below w.heap.size w w' := by
  go_enter Tryd.func14, Tryd.ntmps14
  go_wp2_with fail
  refine (alive5_1 _ hg).mono ?_
  rintro e w1 ⟨rfl, hb1⟩
  go_wp2_with fail
  refine (alive5_2 _ (hg.below hb1)).mono ?_
  rintro e w2 ⟨rfl, hb2⟩
  go_wp2_with fail
  refine (alive5_3 _ (hg.below (bthen hb1 hb2))).mono ?_
  rintro e w3 ⟨rfl, hb3⟩
  go_wp2_with fail
  go_ret
  exact ⟨rfl, bthen (bthen hb1 hb2) hb3⟩
end Go.Proofs.YtpmeabikhonaoaaDoor

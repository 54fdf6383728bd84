/- The walks of Text86Names, Text86Args, Text86Against, Text86Back. -/
import Derived.Test.YtpmeabikhonaoaaDoorT86e
import Derived.StillTailTactics
import Derived.OpenShut
namespace Go.Proofs.YtpmeabikhonaoaaDoor
open Go.RowKit

theorem bounds64 {c : Int} (h : (Lit.int .i64 c).wf = true) : -9223372036854775808 ≤ c ∧ c ≤ 9223372036854775807 := _root_.Go.bounds_i64 h
set_option maxHeartbeats 2000000 in
set_option maxRecDepth 100000 in
theorem text86Names_walk (c : Int) (wc : (Lit.int .i64 c).wf = true) (l : List UInt8) (hl : l.length ≤ maxLen) (w : World) (hg : GW9 w) :
    Calls Tryd.prog 11 #[.int .i64 c, .string ⟨l.toArray⟩] w fun e w' => e = .returned (.bool true) ∧ Below w.heap.size w w' := by
  obtain ⟨hc, hc'⟩ := bounds64 wc
  clear wc
  unfold maxLen at hl
  by_cases h100 : 100 < l.length
  · have h2 : decide (l.length ≤ 100) = false := by simpa using h100
    go_enter Tryd.func11, Tryd.ntmps11
    go_wp2_with fail
    refine (alive9_any _ hg).mono ?_
    rintro e w1 ⟨rfl, hb⟩
    go_wp2_with fail
    go_ret
    exact ⟨rfl, hb⟩
  · have h2 : l.length ≤ 100 := by omega
    have H1 := Lib.hid (fun W (h : GW9 W) => Op9_any l W h)
    have H2 := Lib.hid (fun W => refOp9_any l W)
    have H3 := Lib.hid (fun W (h : GW9 W) => Name9_any c W h hc hc')
    have H4 := Lib.hid (fun W => refName9_any c W hc hc')
    generalize opL l = p at *
    obtain ⟨p1, p2⟩ := p
    generalize nameL c = nm at *
    go_enter Tryd.func11, Tryd.ntmps11
    go_wp2_with fail
    refine (H1.out _ hg).mono ?_
    rintro e w1 ⟨rfl, hb1'⟩
    have hb1 := Lib.hid hb1'
    clear hb1'
    go_wp2_with fail
    refine (H2.out _).mono ?_
    rintro e w2 ⟨rfl, hb2⟩
    have B2 := Lib.hid (bthen hb1.out hb2)
    clear hb1 hb2
    go_wp2_with fail
    refine (H3.out _ (hg.below B2.out)).mono ?_
    rintro e w3 ⟨rfl, hb3⟩
    have B3 := Lib.hid (bthen B2.out hb3)
    clear B2 hb3
    go_wp2_with fail
    refine (H4.out _).mono ?_
    rintro e w4 ⟨rfl, hb4⟩
    have B4 := Lib.hid (bthen B3.out hb4)
    clear B3 hb4
    go_wp2_with fail
    refine (alive9_any _ (hg.below B4.out)).mono ?_
    rintro e w5 ⟨rfl, hb5⟩
    go_wp2_with fail
    go_ret
    exact ⟨rfl, bthen B4.out hb5⟩
set_option maxHeartbeats 2000000 in
set_option maxRecDepth 100000 in
theorem text86Args_walk (c : Int) (wc : (Lit.int .i64 c).wf = true) (l : List UInt8) (hl : l.length ≤ maxLen) (w : World) (hg : GW9 w) :
    Calls Tryd.prog 10 #[.int .i64 c, .string ⟨l.toArray⟩] w fun e w' => e = .returned (.bool true) ∧ Below w.heap.size w w' := by
  obtain ⟨hc, hc'⟩ := bounds64 wc
  clear wc
  unfold maxLen at hl
  by_cases h100 : 100 < l.length
  · have h2 : decide (l.length ≤ 100) = false := by simpa using h100
    go_enter Tryd.func10, Tryd.ntmps10
    go_wp2_with fail
    refine (alive9_any _ hg).mono ?_
    rintro e w1 ⟨rfl, hb⟩
    go_wp2_with fail
    go_ret
    exact ⟨rfl, hb⟩
  · have h2 : l.length ≤ 100 := by omega
    have H1 := Lib.hid (fun W (h : GW9 W) => Code9_any l W h)
    have H2 := Lib.hid (fun W => refCode9_any l W)
    have H3 := Lib.hid (fun W (h : GW9 W) => Arg9_any c W h hc hc')
    have H4 := Lib.hid (fun W => refArg9_any c W hc hc')
    generalize acodeL l = p at *
    obtain ⟨p1, p2⟩ := p
    generalize argL c = nm at *
    go_enter Tryd.func10, Tryd.ntmps10
    go_wp2_with fail
    refine (H1.out _ hg).mono ?_
    rintro e w1 ⟨rfl, hb1'⟩
    have hb1 := Lib.hid hb1'
    clear hb1'
    go_wp2_with fail
    refine (H2.out _).mono ?_
    rintro e w2 ⟨rfl, hb2⟩
    have B2 := Lib.hid (bthen hb1.out hb2)
    clear hb1 hb2
    go_wp2_with fail
    refine (H3.out _ (hg.below B2.out)).mono ?_
    rintro e w3 ⟨rfl, hb3⟩
    have B3 := Lib.hid (bthen B2.out hb3)
    clear B2 hb3
    go_wp2_with fail
    refine (H4.out _).mono ?_
    rintro e w4 ⟨rfl, hb4⟩
    have B4 := Lib.hid (bthen B3.out hb4)
    clear B3 hb4
    go_wp2_with fail
    refine (alive9_any _ (hg.below B4.out)).mono ?_
    rintro e w5 ⟨rfl, hb5⟩
    go_wp2_with fail
    go_ret
    exact ⟨rfl, bthen B4.out hb5⟩
theorem agL_bound (c : Int) : -9223372036854775808 ≤ (agL c).1 ∧ (agL c).1 ≤ 9223372036854775807 := by
  unfold agL
  cases h : condB c with
  | false => simp
  | true =>
    simp [condB] at h
    simp only [if_true]
    split <;> omega
set_option maxHeartbeats 2000000 in
set_option maxRecDepth 100000 in
theorem text86Against_walk (c : Int) (wc : (Lit.int .i64 c).wf = true) (w : World) (hg : GW9 w) :
    Calls Tryd.prog 9 #[.int .i64 c] w fun e w' => e = .returned (.bool true) ∧ Below w.heap.size w w' := by
  obtain ⟨hc, hc'⟩ := bounds64 wc
  clear wc
  have hab := agL_bound c
  have H1 := Lib.hid (fun W (h : GW9 W) => Against9_any c W h hc hc')
  have H2 := Lib.hid (fun W => refAgainst9_any c W hc hc')
  have H3 := Lib.hid (fun W (h : GW9 W) => Against9_any (agL c).1 W h hab.1 hab.2)
  have HT := Lib.hid (ag_twice c)
  clear hab
  cases hq : (agL c).2 with
  | true =>
    rw [HT.out hq] at H3
    rw [hq] at H1 H2
    clear HT hq
    generalize (agL c).1 = a at *
    go_enter Tryd.func9, Tryd.ntmps9
    go_wp2_with fail
    refine (H1.out _ hg).mono ?_
    rintro e w1 ⟨rfl, hb1'⟩
    have hb1 := Lib.hid hb1'
    clear hb1'
    go_wp2_with fail
    refine (H2.out _).mono ?_
    rintro e w2 ⟨rfl, rfl⟩
    go_wp2_with fail
    refine (H3.out _ (hg.below hb1.out)).mono ?_
    rintro e w3 ⟨rfl, hb3⟩
    have B3 := Lib.hid (bthen hb1.out hb3)
    clear hb1 hb3
    go_wp2_with fail
    refine (alive9_any _ (hg.below B3.out)).mono ?_
    rintro e w5 ⟨rfl, hb5⟩
    go_wp2_with fail
    go_ret
    exact ⟨rfl, bthen B3.out hb5⟩
  | false =>
    rw [hq] at H1 H2
    clear HT hq
    generalize (agL c).1 = a at *
    generalize agL a = p at *
    obtain ⟨p1, p2⟩ := p
    go_enter Tryd.func9, Tryd.ntmps9
    go_wp2_with fail
    refine (H1.out _ hg).mono ?_
    rintro e w1 ⟨rfl, hb1'⟩
    have hb1 := Lib.hid hb1'
    clear hb1'
    go_wp2_with fail
    refine (H2.out _).mono ?_
    rintro e w2 ⟨rfl, rfl⟩
    go_wp2_with fail
    refine (H3.out _ (hg.below hb1.out)).mono ?_
    rintro e w3 ⟨rfl, hb3⟩
    have B3 := Lib.hid (bthen hb1.out hb3)
    clear hb1 hb3
    go_wp2_with fail
    refine (alive9_any _ (hg.below B3.out)).mono ?_
    rintro e w5 ⟨rfl, hb5⟩
    go_wp2_with fail
    go_ret
    exact ⟨rfl, bthen B3.out hb5⟩
end Go.Proofs.YtpmeabikhonaoaaDoor

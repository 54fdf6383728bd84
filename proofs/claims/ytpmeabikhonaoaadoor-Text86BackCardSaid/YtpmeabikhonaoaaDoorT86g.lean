/- The walk of Text86Back. -/
import Derived.Test.YtpmeabikhonaoaaDoorT86f
namespace Go.Proofs.YtpmeabikhonaoaaDoor
open Go.RowKit

theorem op_bin : ∀ s ∈ namesR, 0 ≤ (opL s).1 ∧ (opL s).1 ≤ 100 := by decide +kernel
theorem acode_bin : ∀ s ∈ argsR, 0 ≤ (acodeL s).1 ∧ (acodeL s).1 ≤ 100 := by decide +kernel
theorem op_bound (s : List UInt8) : 0 ≤ (opL s).1 ∧ (opL s).1 ≤ 100 := by
  by_cases h : s ∈ namesR
  · exact op_bin s h
  · rw [op_out s h]; simp
theorem acode_bound (s : List UInt8) : 0 ≤ (acodeL s).1 ∧ (acodeL s).1 ≤ 100 := by
  by_cases h : s ∈ argsR
  · exact acode_bin s h
  · rw [acode_out s h]; simp
set_option maxHeartbeats 4000000 in
set_option maxRecDepth 100000 in
theorem text86Back_walk (c : Int) (wc : (Lit.int .i64 c).wf = true) (d : Int) (wd : (Lit.int .i64 d).wf = true) (l : List UInt8) (hl : l.length ≤ maxLen) (w : World) (hg : GW9 w) :
    Calls Tryd.prog 12 #[.int .i64 c, .int .i64 d, .string ⟨l.toArray⟩] w fun e w' => e = .returned (.bool true) ∧ Below w.heap.size w w' := by
  obtain ⟨hc, hc'⟩ := bounds64 wc
  obtain ⟨hd, hd'⟩ := bounds64 wd
  clear wc wd
  unfold maxLen at hl
  by_cases h100 : 100 < l.length
  · have h2 : decide (l.length ≤ 100) = false := by simpa using h100
    go_enter Tryd.func12, Tryd.ntmps12
    go_wp2_with fail
    refine (alive9_any _ hg).mono ?_
    rintro e w1 ⟨rfl, hb⟩
    go_wp2_with fail
    go_ret
    exact ⟨rfl, hb⟩
  · have h2 : l.length ≤ 100 := by omega
    have ob := op_bound l
    have ab := acode_bound l
    have H1 := Lib.hid (fun W (h : GW9 W) => Name9_any c W h hc hc')
    have H2 := Lib.hid (fun W (h : GW9 W) => Arg9_any d W h hd hd')
    have H3 := Lib.hid (fun W (h : GW9 W) => Op9_any l W h)
    have H4 := Lib.hid (fun W (h : GW9 W) => Code9_any l W h)
    have H5 := Lib.hid (fun W (h : GW9 W) => Op9_any (nameL c) W h)
    have H6 := Lib.hid (fun W (h : GW9 W) => Code9_any (argL d) W h)
    have H7 := Lib.hid (fun W (h : GW9 W) => Name9_any (opL l).1 W h (by omega) (by omega))
    have H8 := Lib.hid (fun W (h : GW9 W) => Arg9_any (acodeL l).1 W h (by omega) (by omega))
    have E5 := Lib.hid (name_back c)
    have E6 := Lib.hid (arg_back d)
    have E7 := Lib.hid (op_name l)
    have E8 := Lib.hid (acode_arg l)
    clear ob ab h100
    have T1 : nameL c = [] ∨ nameL c ≠ [] := Classical.em _
    have T2 : argL d = [] ∨ argL d ≠ [] := Classical.em _
    rcases T1 with q1 | q1 <;> rcases T2 with q2 | q2 <;> cases q3 : (opL l).2 <;> cases q4 : (acodeL l).2
    · rw [q1] at H1
      rw [q2] at H2
      rw [q3] at H3
      rw [q4] at H4
      clear E5 E6 E7 E8 q1 q2 q3 q4
      generalize (opL l).1 = o1 at *
      generalize (acodeL l).1 = o2 at *
      go_enter Tryd.func12, Tryd.ntmps12
      have B0 := Lib.hid (Below.refl w.heap.size w)
      go_wp2_with fail
      refine (H1.out _ (hg.below B0.out)).mono ?_
      rintro e w1 ⟨rfl, hb1⟩
      have B1 := Lib.hid (bthen B0.out hb1)
      clear hb1 B0
      go_wp2_with fail
      refine (H2.out _ (hg.below B1.out)).mono ?_
      rintro e w2 ⟨rfl, hb2⟩
      have B2 := Lib.hid (bthen B1.out hb2)
      clear hb2 B1
      go_wp2_with fail
      refine (H3.out _ (hg.below B2.out)).mono ?_
      rintro e w3 ⟨rfl, hb3⟩
      have B3 := Lib.hid (bthen B2.out hb3)
      clear hb3 B2
      go_wp2_with fail
      refine (H4.out _ (hg.below B3.out)).mono ?_
      rintro e w4 ⟨rfl, hb4⟩
      have B4 := Lib.hid (bthen B3.out hb4)
      clear hb4 B3
      go_wp2_with fail
      refine (alive9_any _ (hg.below B4.out)).mono ?_
      rintro e w5 ⟨rfl, hb5⟩
      go_wp2_with fail
      go_ret
      exact ⟨rfl, bthen B4.out hb5⟩
    · rw [q1] at H1
      rw [q2] at H2
      rw [q3] at H3
      rw [q4] at H4
      rw [E8.out q4] at H8
      clear E5 E6 E7 E8 q1 q2 q3 q4
      generalize (opL l).1 = o1 at *
      generalize (acodeL l).1 = o2 at *
      go_enter Tryd.func12, Tryd.ntmps12
      have B0 := Lib.hid (Below.refl w.heap.size w)
      go_wp2_with fail
      refine (H1.out _ (hg.below B0.out)).mono ?_
      rintro e w1 ⟨rfl, hb1⟩
      have B1 := Lib.hid (bthen B0.out hb1)
      clear hb1 B0
      go_wp2_with fail
      refine (H2.out _ (hg.below B1.out)).mono ?_
      rintro e w2 ⟨rfl, hb2⟩
      have B2 := Lib.hid (bthen B1.out hb2)
      clear hb2 B1
      go_wp2_with fail
      refine (H3.out _ (hg.below B2.out)).mono ?_
      rintro e w3 ⟨rfl, hb3⟩
      have B3 := Lib.hid (bthen B2.out hb3)
      clear hb3 B2
      go_wp2_with fail
      refine (H4.out _ (hg.below B3.out)).mono ?_
      rintro e w4 ⟨rfl, hb4⟩
      have B4 := Lib.hid (bthen B3.out hb4)
      clear hb4 B3
      go_wp2_with fail
      refine (H8.out _ (hg.below B4.out)).mono ?_
      rintro e w5 ⟨rfl, hb5⟩
      have B5 := Lib.hid (bthen B4.out hb5)
      clear hb5 B4
      go_wp2_with fail
      refine (alive9_any _ (hg.below B5.out)).mono ?_
      rintro e w6 ⟨rfl, hb6⟩
      go_wp2_with fail
      go_ret
      exact ⟨rfl, bthen B5.out hb6⟩
    · rw [q1] at H1
      rw [q2] at H2
      rw [q3] at H3
      rw [E7.out q3] at H7
      rw [q4] at H4
      clear E5 E6 E7 E8 q1 q2 q3 q4
      generalize (opL l).1 = o1 at *
      generalize (acodeL l).1 = o2 at *
      go_enter Tryd.func12, Tryd.ntmps12
      have B0 := Lib.hid (Below.refl w.heap.size w)
      go_wp2_with fail
      refine (H1.out _ (hg.below B0.out)).mono ?_
      rintro e w1 ⟨rfl, hb1⟩
      have B1 := Lib.hid (bthen B0.out hb1)
      clear hb1 B0
      go_wp2_with fail
      refine (H2.out _ (hg.below B1.out)).mono ?_
      rintro e w2 ⟨rfl, hb2⟩
      have B2 := Lib.hid (bthen B1.out hb2)
      clear hb2 B1
      go_wp2_with fail
      refine (H3.out _ (hg.below B2.out)).mono ?_
      rintro e w3 ⟨rfl, hb3⟩
      have B3 := Lib.hid (bthen B2.out hb3)
      clear hb3 B2
      go_wp2_with fail
      refine (H4.out _ (hg.below B3.out)).mono ?_
      rintro e w4 ⟨rfl, hb4⟩
      have B4 := Lib.hid (bthen B3.out hb4)
      clear hb4 B3
      go_wp2_with fail
      refine (H7.out _ (hg.below B4.out)).mono ?_
      rintro e w5 ⟨rfl, hb5⟩
      have B5 := Lib.hid (bthen B4.out hb5)
      clear hb5 B4
      go_wp2_with fail
      refine (alive9_any _ (hg.below B5.out)).mono ?_
      rintro e w6 ⟨rfl, hb6⟩
      go_wp2_with fail
      go_ret
      exact ⟨rfl, bthen B5.out hb6⟩
    · rw [q1] at H1
      rw [q2] at H2
      rw [q3] at H3
      rw [E7.out q3] at H7
      rw [q4] at H4
      rw [E8.out q4] at H8
      clear E5 E6 E7 E8 q1 q2 q3 q4
      generalize (opL l).1 = o1 at *
      generalize (acodeL l).1 = o2 at *
      go_enter Tryd.func12, Tryd.ntmps12
      have B0 := Lib.hid (Below.refl w.heap.size w)
      go_wp2_with fail
      refine (H1.out _ (hg.below B0.out)).mono ?_
      rintro e w1 ⟨rfl, hb1⟩
      have B1 := Lib.hid (bthen B0.out hb1)
      clear hb1 B0
      go_wp2_with fail
      refine (H2.out _ (hg.below B1.out)).mono ?_
      rintro e w2 ⟨rfl, hb2⟩
      have B2 := Lib.hid (bthen B1.out hb2)
      clear hb2 B1
      go_wp2_with fail
      refine (H3.out _ (hg.below B2.out)).mono ?_
      rintro e w3 ⟨rfl, hb3⟩
      have B3 := Lib.hid (bthen B2.out hb3)
      clear hb3 B2
      go_wp2_with fail
      refine (H4.out _ (hg.below B3.out)).mono ?_
      rintro e w4 ⟨rfl, hb4⟩
      have B4 := Lib.hid (bthen B3.out hb4)
      clear hb4 B3
      go_wp2_with fail
      refine (H7.out _ (hg.below B4.out)).mono ?_
      rintro e w5 ⟨rfl, hb5⟩
      have B5 := Lib.hid (bthen B4.out hb5)
      clear hb5 B4
      go_wp2_with fail
      refine (H8.out _ (hg.below B5.out)).mono ?_
      rintro e w6 ⟨rfl, hb6⟩
      have B6 := Lib.hid (bthen B5.out hb6)
      clear hb6 B5
      go_wp2_with fail
      refine (alive9_any _ (hg.below B6.out)).mono ?_
      rintro e w7 ⟨rfl, hb7⟩
      go_wp2_with fail
      go_ret
      exact ⟨rfl, bthen B6.out hb7⟩
    · rw [q1] at H1
      rw [E6.out q2] at H6
      have q2' : (argL d == []) = false := by simpa using q2
      rw [q3] at H3
      rw [q4] at H4
      clear E5 E6 E7 E8 q1 q2 q3 q4
      generalize (opL l).1 = o1 at *
      generalize (acodeL l).1 = o2 at *
      generalize argL d = am at *
      go_enter Tryd.func12, Tryd.ntmps12
      have B0 := Lib.hid (Below.refl w.heap.size w)
      go_wp2_with fail
      refine (H1.out _ (hg.below B0.out)).mono ?_
      rintro e w1 ⟨rfl, hb1⟩
      have B1 := Lib.hid (bthen B0.out hb1)
      clear hb1 B0
      go_wp2_with fail
      refine (H2.out _ (hg.below B1.out)).mono ?_
      rintro e w2 ⟨rfl, hb2⟩
      have B2 := Lib.hid (bthen B1.out hb2)
      clear hb2 B1
      go_wp2_with fail
      refine (H6.out _ (hg.below B2.out)).mono ?_
      rintro e w3 ⟨rfl, hb3⟩
      have B3 := Lib.hid (bthen B2.out hb3)
      clear hb3 B2
      go_wp2_with fail
      refine (H3.out _ (hg.below B3.out)).mono ?_
      rintro e w4 ⟨rfl, hb4⟩
      have B4 := Lib.hid (bthen B3.out hb4)
      clear hb4 B3
      go_wp2_with fail
      refine (H4.out _ (hg.below B4.out)).mono ?_
      rintro e w5 ⟨rfl, hb5⟩
      have B5 := Lib.hid (bthen B4.out hb5)
      clear hb5 B4
      go_wp2_with fail
      refine (alive9_any _ (hg.below B5.out)).mono ?_
      rintro e w6 ⟨rfl, hb6⟩
      go_wp2_with fail
      go_ret
      exact ⟨rfl, bthen B5.out hb6⟩
    · rw [q1] at H1
      rw [E6.out q2] at H6
      have q2' : (argL d == []) = false := by simpa using q2
      rw [q3] at H3
      rw [q4] at H4
      rw [E8.out q4] at H8
      clear E5 E6 E7 E8 q1 q2 q3 q4
      generalize (opL l).1 = o1 at *
      generalize (acodeL l).1 = o2 at *
      generalize argL d = am at *
      go_enter Tryd.func12, Tryd.ntmps12
      have B0 := Lib.hid (Below.refl w.heap.size w)
      go_wp2_with fail
      refine (H1.out _ (hg.below B0.out)).mono ?_
      rintro e w1 ⟨rfl, hb1⟩
      have B1 := Lib.hid (bthen B0.out hb1)
      clear hb1 B0
      go_wp2_with fail
      refine (H2.out _ (hg.below B1.out)).mono ?_
      rintro e w2 ⟨rfl, hb2⟩
      have B2 := Lib.hid (bthen B1.out hb2)
      clear hb2 B1
      go_wp2_with fail
      refine (H6.out _ (hg.below B2.out)).mono ?_
      rintro e w3 ⟨rfl, hb3⟩
      have B3 := Lib.hid (bthen B2.out hb3)
      clear hb3 B2
      go_wp2_with fail
      refine (H3.out _ (hg.below B3.out)).mono ?_
      rintro e w4 ⟨rfl, hb4⟩
      have B4 := Lib.hid (bthen B3.out hb4)
      clear hb4 B3
      go_wp2_with fail
      refine (H4.out _ (hg.below B4.out)).mono ?_
      rintro e w5 ⟨rfl, hb5⟩
      have B5 := Lib.hid (bthen B4.out hb5)
      clear hb5 B4
      go_wp2_with fail
      refine (H8.out _ (hg.below B5.out)).mono ?_
      rintro e w6 ⟨rfl, hb6⟩
      have B6 := Lib.hid (bthen B5.out hb6)
      clear hb6 B5
      go_wp2_with fail
      refine (alive9_any _ (hg.below B6.out)).mono ?_
      rintro e w7 ⟨rfl, hb7⟩
      go_wp2_with fail
      go_ret
      exact ⟨rfl, bthen B6.out hb7⟩
    · rw [q1] at H1
      rw [E6.out q2] at H6
      have q2' : (argL d == []) = false := by simpa using q2
      rw [q3] at H3
      rw [E7.out q3] at H7
      rw [q4] at H4
      clear E5 E6 E7 E8 q1 q2 q3 q4
      generalize (opL l).1 = o1 at *
      generalize (acodeL l).1 = o2 at *
      generalize argL d = am at *
      go_enter Tryd.func12, Tryd.ntmps12
      have B0 := Lib.hid (Below.refl w.heap.size w)
      go_wp2_with fail
      refine (H1.out _ (hg.below B0.out)).mono ?_
      rintro e w1 ⟨rfl, hb1⟩
      have B1 := Lib.hid (bthen B0.out hb1)
      clear hb1 B0
      go_wp2_with fail
      refine (H2.out _ (hg.below B1.out)).mono ?_
      rintro e w2 ⟨rfl, hb2⟩
      have B2 := Lib.hid (bthen B1.out hb2)
      clear hb2 B1
      go_wp2_with fail
      refine (H6.out _ (hg.below B2.out)).mono ?_
      rintro e w3 ⟨rfl, hb3⟩
      have B3 := Lib.hid (bthen B2.out hb3)
      clear hb3 B2
      go_wp2_with fail
      refine (H3.out _ (hg.below B3.out)).mono ?_
      rintro e w4 ⟨rfl, hb4⟩
      have B4 := Lib.hid (bthen B3.out hb4)
      clear hb4 B3
      go_wp2_with fail
      refine (H4.out _ (hg.below B4.out)).mono ?_
      rintro e w5 ⟨rfl, hb5⟩
      have B5 := Lib.hid (bthen B4.out hb5)
      clear hb5 B4
      go_wp2_with fail
      refine (H7.out _ (hg.below B5.out)).mono ?_
      rintro e w6 ⟨rfl, hb6⟩
      have B6 := Lib.hid (bthen B5.out hb6)
      clear hb6 B5
      go_wp2_with fail
      refine (alive9_any _ (hg.below B6.out)).mono ?_
      rintro e w7 ⟨rfl, hb7⟩
      go_wp2_with fail
      go_ret
      exact ⟨rfl, bthen B6.out hb7⟩
    · rw [q1] at H1
      rw [E6.out q2] at H6
      have q2' : (argL d == []) = false := by simpa using q2
      rw [q3] at H3
      rw [E7.out q3] at H7
      rw [q4] at H4
      rw [E8.out q4] at H8
      clear E5 E6 E7 E8 q1 q2 q3 q4
      generalize (opL l).1 = o1 at *
      generalize (acodeL l).1 = o2 at *
      generalize argL d = am at *
      go_enter Tryd.func12, Tryd.ntmps12
      have B0 := Lib.hid (Below.refl w.heap.size w)
      go_wp2_with fail
      refine (H1.out _ (hg.below B0.out)).mono ?_
      rintro e w1 ⟨rfl, hb1⟩
      have B1 := Lib.hid (bthen B0.out hb1)
      clear hb1 B0
      go_wp2_with fail
      refine (H2.out _ (hg.below B1.out)).mono ?_
      rintro e w2 ⟨rfl, hb2⟩
      have B2 := Lib.hid (bthen B1.out hb2)
      clear hb2 B1
      go_wp2_with fail
      refine (H6.out _ (hg.below B2.out)).mono ?_
      rintro e w3 ⟨rfl, hb3⟩
      have B3 := Lib.hid (bthen B2.out hb3)
      clear hb3 B2
      go_wp2_with fail
      refine (H3.out _ (hg.below B3.out)).mono ?_
      rintro e w4 ⟨rfl, hb4⟩
      have B4 := Lib.hid (bthen B3.out hb4)
      clear hb4 B3
      go_wp2_with fail
      refine (H4.out _ (hg.below B4.out)).mono ?_
      rintro e w5 ⟨rfl, hb5⟩
      have B5 := Lib.hid (bthen B4.out hb5)
      clear hb5 B4
      go_wp2_with fail
      refine (H7.out _ (hg.below B5.out)).mono ?_
      rintro e w6 ⟨rfl, hb6⟩
      have B6 := Lib.hid (bthen B5.out hb6)
      clear hb6 B5
      go_wp2_with fail
      refine (H8.out _ (hg.below B6.out)).mono ?_
      rintro e w7 ⟨rfl, hb7⟩
      have B7 := Lib.hid (bthen B6.out hb7)
      clear hb7 B6
      go_wp2_with fail
      refine (alive9_any _ (hg.below B7.out)).mono ?_
      rintro e w8 ⟨rfl, hb8⟩
      go_wp2_with fail
      go_ret
      exact ⟨rfl, bthen B7.out hb8⟩
    · rw [E5.out q1] at H5
      have q1' : (nameL c == []) = false := by simpa using q1
      rw [q2] at H2
      rw [q3] at H3
      rw [q4] at H4
      clear E5 E6 E7 E8 q1 q2 q3 q4
      generalize (opL l).1 = o1 at *
      generalize (acodeL l).1 = o2 at *
      generalize nameL c = nm at *
      go_enter Tryd.func12, Tryd.ntmps12
      have B0 := Lib.hid (Below.refl w.heap.size w)
      go_wp2_with fail
      refine (H1.out _ (hg.below B0.out)).mono ?_
      rintro e w1 ⟨rfl, hb1⟩
      have B1 := Lib.hid (bthen B0.out hb1)
      clear hb1 B0
      go_wp2_with fail
      refine (H5.out _ (hg.below B1.out)).mono ?_
      rintro e w2 ⟨rfl, hb2⟩
      have B2 := Lib.hid (bthen B1.out hb2)
      clear hb2 B1
      go_wp2_with fail
      refine (H2.out _ (hg.below B2.out)).mono ?_
      rintro e w3 ⟨rfl, hb3⟩
      have B3 := Lib.hid (bthen B2.out hb3)
      clear hb3 B2
      go_wp2_with fail
      refine (H3.out _ (hg.below B3.out)).mono ?_
      rintro e w4 ⟨rfl, hb4⟩
      have B4 := Lib.hid (bthen B3.out hb4)
      clear hb4 B3
      go_wp2_with fail
      refine (H4.out _ (hg.below B4.out)).mono ?_
      rintro e w5 ⟨rfl, hb5⟩
      have B5 := Lib.hid (bthen B4.out hb5)
      clear hb5 B4
      go_wp2_with fail
      refine (alive9_any _ (hg.below B5.out)).mono ?_
      rintro e w6 ⟨rfl, hb6⟩
      go_wp2_with fail
      go_ret
      exact ⟨rfl, bthen B5.out hb6⟩
    · rw [E5.out q1] at H5
      have q1' : (nameL c == []) = false := by simpa using q1
      rw [q2] at H2
      rw [q3] at H3
      rw [q4] at H4
      rw [E8.out q4] at H8
      clear E5 E6 E7 E8 q1 q2 q3 q4
      generalize (opL l).1 = o1 at *
      generalize (acodeL l).1 = o2 at *
      generalize nameL c = nm at *
      go_enter Tryd.func12, Tryd.ntmps12
      have B0 := Lib.hid (Below.refl w.heap.size w)
      go_wp2_with fail
      refine (H1.out _ (hg.below B0.out)).mono ?_
      rintro e w1 ⟨rfl, hb1⟩
      have B1 := Lib.hid (bthen B0.out hb1)
      clear hb1 B0
      go_wp2_with fail
      refine (H5.out _ (hg.below B1.out)).mono ?_
      rintro e w2 ⟨rfl, hb2⟩
      have B2 := Lib.hid (bthen B1.out hb2)
      clear hb2 B1
      go_wp2_with fail
      refine (H2.out _ (hg.below B2.out)).mono ?_
      rintro e w3 ⟨rfl, hb3⟩
      have B3 := Lib.hid (bthen B2.out hb3)
      clear hb3 B2
      go_wp2_with fail
      refine (H3.out _ (hg.below B3.out)).mono ?_
      rintro e w4 ⟨rfl, hb4⟩
      have B4 := Lib.hid (bthen B3.out hb4)
      clear hb4 B3
      go_wp2_with fail
      refine (H4.out _ (hg.below B4.out)).mono ?_
      rintro e w5 ⟨rfl, hb5⟩
      have B5 := Lib.hid (bthen B4.out hb5)
      clear hb5 B4
      go_wp2_with fail
      refine (H8.out _ (hg.below B5.out)).mono ?_
      rintro e w6 ⟨rfl, hb6⟩
      have B6 := Lib.hid (bthen B5.out hb6)
      clear hb6 B5
      go_wp2_with fail
      refine (alive9_any _ (hg.below B6.out)).mono ?_
      rintro e w7 ⟨rfl, hb7⟩
      go_wp2_with fail
      go_ret
      exact ⟨rfl, bthen B6.out hb7⟩
    · rw [E5.out q1] at H5
      have q1' : (nameL c == []) = false := by simpa using q1
      rw [q2] at H2
      rw [q3] at H3
      rw [E7.out q3] at H7
      rw [q4] at H4
      clear E5 E6 E7 E8 q1 q2 q3 q4
      generalize (opL l).1 = o1 at *
      generalize (acodeL l).1 = o2 at *
      generalize nameL c = nm at *
      go_enter Tryd.func12, Tryd.ntmps12
      have B0 := Lib.hid (Below.refl w.heap.size w)
      go_wp2_with fail
      refine (H1.out _ (hg.below B0.out)).mono ?_
      rintro e w1 ⟨rfl, hb1⟩
      have B1 := Lib.hid (bthen B0.out hb1)
      clear hb1 B0
      go_wp2_with fail
      refine (H5.out _ (hg.below B1.out)).mono ?_
      rintro e w2 ⟨rfl, hb2⟩
      have B2 := Lib.hid (bthen B1.out hb2)
      clear hb2 B1
      go_wp2_with fail
      refine (H2.out _ (hg.below B2.out)).mono ?_
      rintro e w3 ⟨rfl, hb3⟩
      have B3 := Lib.hid (bthen B2.out hb3)
      clear hb3 B2
      go_wp2_with fail
      refine (H3.out _ (hg.below B3.out)).mono ?_
      rintro e w4 ⟨rfl, hb4⟩
      have B4 := Lib.hid (bthen B3.out hb4)
      clear hb4 B3
      go_wp2_with fail
      refine (H4.out _ (hg.below B4.out)).mono ?_
      rintro e w5 ⟨rfl, hb5⟩
      have B5 := Lib.hid (bthen B4.out hb5)
      clear hb5 B4
      go_wp2_with fail
      refine (H7.out _ (hg.below B5.out)).mono ?_
      rintro e w6 ⟨rfl, hb6⟩
      have B6 := Lib.hid (bthen B5.out hb6)
      clear hb6 B5
      go_wp2_with fail
      refine (alive9_any _ (hg.below B6.out)).mono ?_
      rintro e w7 ⟨rfl, hb7⟩
      go_wp2_with fail
      go_ret
      exact ⟨rfl, bthen B6.out hb7⟩
    · rw [E5.out q1] at H5
      have q1' : (nameL c == []) = false := by simpa using q1
      rw [q2] at H2
      rw [q3] at H3
      rw [E7.out q3] at H7
      rw [q4] at H4
      rw [E8.out q4] at H8
      clear E5 E6 E7 E8 q1 q2 q3 q4
      generalize (opL l).1 = o1 at *
      generalize (acodeL l).1 = o2 at *
      generalize nameL c = nm at *
      go_enter Tryd.func12, Tryd.ntmps12
      have B0 := Lib.hid (Below.refl w.heap.size w)
      go_wp2_with fail
      refine (H1.out _ (hg.below B0.out)).mono ?_
      rintro e w1 ⟨rfl, hb1⟩
      have B1 := Lib.hid (bthen B0.out hb1)
      clear hb1 B0
      go_wp2_with fail
      refine (H5.out _ (hg.below B1.out)).mono ?_
      rintro e w2 ⟨rfl, hb2⟩
      have B2 := Lib.hid (bthen B1.out hb2)
      clear hb2 B1
      go_wp2_with fail
      refine (H2.out _ (hg.below B2.out)).mono ?_
      rintro e w3 ⟨rfl, hb3⟩
      have B3 := Lib.hid (bthen B2.out hb3)
      clear hb3 B2
      go_wp2_with fail
      refine (H3.out _ (hg.below B3.out)).mono ?_
      rintro e w4 ⟨rfl, hb4⟩
      have B4 := Lib.hid (bthen B3.out hb4)
      clear hb4 B3
      go_wp2_with fail
      refine (H4.out _ (hg.below B4.out)).mono ?_
      rintro e w5 ⟨rfl, hb5⟩
      have B5 := Lib.hid (bthen B4.out hb5)
      clear hb5 B4
      go_wp2_with fail
      refine (H7.out _ (hg.below B5.out)).mono ?_
      rintro e w6 ⟨rfl, hb6⟩
      have B6 := Lib.hid (bthen B5.out hb6)
      clear hb6 B5
      go_wp2_with fail
      refine (H8.out _ (hg.below B6.out)).mono ?_
      rintro e w7 ⟨rfl, hb7⟩
      have B7 := Lib.hid (bthen B6.out hb7)
      clear hb7 B6
      go_wp2_with fail
      refine (alive9_any _ (hg.below B7.out)).mono ?_
      rintro e w8 ⟨rfl, hb8⟩
      go_wp2_with fail
      go_ret
      exact ⟨rfl, bthen B7.out hb8⟩
    · rw [E5.out q1] at H5
      have q1' : (nameL c == []) = false := by simpa using q1
      rw [E6.out q2] at H6
      have q2' : (argL d == []) = false := by simpa using q2
      rw [q3] at H3
      rw [q4] at H4
      clear E5 E6 E7 E8 q1 q2 q3 q4
      generalize (opL l).1 = o1 at *
      generalize (acodeL l).1 = o2 at *
      generalize nameL c = nm at *
      generalize argL d = am at *
      go_enter Tryd.func12, Tryd.ntmps12
      have B0 := Lib.hid (Below.refl w.heap.size w)
      go_wp2_with fail
      refine (H1.out _ (hg.below B0.out)).mono ?_
      rintro e w1 ⟨rfl, hb1⟩
      have B1 := Lib.hid (bthen B0.out hb1)
      clear hb1 B0
      go_wp2_with fail
      refine (H5.out _ (hg.below B1.out)).mono ?_
      rintro e w2 ⟨rfl, hb2⟩
      have B2 := Lib.hid (bthen B1.out hb2)
      clear hb2 B1
      go_wp2_with fail
      refine (H2.out _ (hg.below B2.out)).mono ?_
      rintro e w3 ⟨rfl, hb3⟩
      have B3 := Lib.hid (bthen B2.out hb3)
      clear hb3 B2
      go_wp2_with fail
      refine (H6.out _ (hg.below B3.out)).mono ?_
      rintro e w4 ⟨rfl, hb4⟩
      have B4 := Lib.hid (bthen B3.out hb4)
      clear hb4 B3
      go_wp2_with fail
      refine (H3.out _ (hg.below B4.out)).mono ?_
      rintro e w5 ⟨rfl, hb5⟩
      have B5 := Lib.hid (bthen B4.out hb5)
      clear hb5 B4
      go_wp2_with fail
      refine (H4.out _ (hg.below B5.out)).mono ?_
      rintro e w6 ⟨rfl, hb6⟩
      have B6 := Lib.hid (bthen B5.out hb6)
      clear hb6 B5
      go_wp2_with fail
      refine (alive9_any _ (hg.below B6.out)).mono ?_
      rintro e w7 ⟨rfl, hb7⟩
      go_wp2_with fail
      go_ret
      exact ⟨rfl, bthen B6.out hb7⟩
    · rw [E5.out q1] at H5
      have q1' : (nameL c == []) = false := by simpa using q1
      rw [E6.out q2] at H6
      have q2' : (argL d == []) = false := by simpa using q2
      rw [q3] at H3
      rw [q4] at H4
      rw [E8.out q4] at H8
      clear E5 E6 E7 E8 q1 q2 q3 q4
      generalize (opL l).1 = o1 at *
      generalize (acodeL l).1 = o2 at *
      generalize nameL c = nm at *
      generalize argL d = am at *
      go_enter Tryd.func12, Tryd.ntmps12
      have B0 := Lib.hid (Below.refl w.heap.size w)
      go_wp2_with fail
      refine (H1.out _ (hg.below B0.out)).mono ?_
      rintro e w1 ⟨rfl, hb1⟩
      have B1 := Lib.hid (bthen B0.out hb1)
      clear hb1 B0
      go_wp2_with fail
      refine (H5.out _ (hg.below B1.out)).mono ?_
      rintro e w2 ⟨rfl, hb2⟩
      have B2 := Lib.hid (bthen B1.out hb2)
      clear hb2 B1
      go_wp2_with fail
      refine (H2.out _ (hg.below B2.out)).mono ?_
      rintro e w3 ⟨rfl, hb3⟩
      have B3 := Lib.hid (bthen B2.out hb3)
      clear hb3 B2
      go_wp2_with fail
      refine (H6.out _ (hg.below B3.out)).mono ?_
      rintro e w4 ⟨rfl, hb4⟩
      have B4 := Lib.hid (bthen B3.out hb4)
      clear hb4 B3
      go_wp2_with fail
      refine (H3.out _ (hg.below B4.out)).mono ?_
      rintro e w5 ⟨rfl, hb5⟩
      have B5 := Lib.hid (bthen B4.out hb5)
      clear hb5 B4
      go_wp2_with fail
      refine (H4.out _ (hg.below B5.out)).mono ?_
      rintro e w6 ⟨rfl, hb6⟩
      have B6 := Lib.hid (bthen B5.out hb6)
      clear hb6 B5
      go_wp2_with fail
      refine (H8.out _ (hg.below B6.out)).mono ?_
      rintro e w7 ⟨rfl, hb7⟩
      have B7 := Lib.hid (bthen B6.out hb7)
      clear hb7 B6
      go_wp2_with fail
      refine (alive9_any _ (hg.below B7.out)).mono ?_
      rintro e w8 ⟨rfl, hb8⟩
      go_wp2_with fail
      go_ret
      exact ⟨rfl, bthen B7.out hb8⟩
    · rw [E5.out q1] at H5
      have q1' : (nameL c == []) = false := by simpa using q1
      rw [E6.out q2] at H6
      have q2' : (argL d == []) = false := by simpa using q2
      rw [q3] at H3
      rw [E7.out q3] at H7
      rw [q4] at H4
      clear E5 E6 E7 E8 q1 q2 q3 q4
      generalize (opL l).1 = o1 at *
      generalize (acodeL l).1 = o2 at *
      generalize nameL c = nm at *
      generalize argL d = am at *
      go_enter Tryd.func12, Tryd.ntmps12
      have B0 := Lib.hid (Below.refl w.heap.size w)
      go_wp2_with fail
      refine (H1.out _ (hg.below B0.out)).mono ?_
      rintro e w1 ⟨rfl, hb1⟩
      have B1 := Lib.hid (bthen B0.out hb1)
      clear hb1 B0
      go_wp2_with fail
      refine (H5.out _ (hg.below B1.out)).mono ?_
      rintro e w2 ⟨rfl, hb2⟩
      have B2 := Lib.hid (bthen B1.out hb2)
      clear hb2 B1
      go_wp2_with fail
      refine (H2.out _ (hg.below B2.out)).mono ?_
      rintro e w3 ⟨rfl, hb3⟩
      have B3 := Lib.hid (bthen B2.out hb3)
      clear hb3 B2
      go_wp2_with fail
      refine (H6.out _ (hg.below B3.out)).mono ?_
      rintro e w4 ⟨rfl, hb4⟩
      have B4 := Lib.hid (bthen B3.out hb4)
      clear hb4 B3
      go_wp2_with fail
      refine (H3.out _ (hg.below B4.out)).mono ?_
      rintro e w5 ⟨rfl, hb5⟩
      have B5 := Lib.hid (bthen B4.out hb5)
      clear hb5 B4
      go_wp2_with fail
      refine (H4.out _ (hg.below B5.out)).mono ?_
      rintro e w6 ⟨rfl, hb6⟩
      have B6 := Lib.hid (bthen B5.out hb6)
      clear hb6 B5
      go_wp2_with fail
      refine (H7.out _ (hg.below B6.out)).mono ?_
      rintro e w7 ⟨rfl, hb7⟩
      have B7 := Lib.hid (bthen B6.out hb7)
      clear hb7 B6
      go_wp2_with fail
      refine (alive9_any _ (hg.below B7.out)).mono ?_
      rintro e w8 ⟨rfl, hb8⟩
      go_wp2_with fail
      go_ret
      exact ⟨rfl, bthen B7.out hb8⟩
    · rw [E5.out q1] at H5
      have q1' : (nameL c == []) = false := by simpa using q1
      rw [E6.out q2] at H6
      have q2' : (argL d == []) = false := by simpa using q2
      rw [q3] at H3
      rw [E7.out q3] at H7
      rw [q4] at H4
      rw [E8.out q4] at H8
      clear E5 E6 E7 E8 q1 q2 q3 q4
      generalize (opL l).1 = o1 at *
      generalize (acodeL l).1 = o2 at *
      generalize nameL c = nm at *
      generalize argL d = am at *
      go_enter Tryd.func12, Tryd.ntmps12
      have B0 := Lib.hid (Below.refl w.heap.size w)
      go_wp2_with fail
      refine (H1.out _ (hg.below B0.out)).mono ?_
      rintro e w1 ⟨rfl, hb1⟩
      have B1 := Lib.hid (bthen B0.out hb1)
      clear hb1 B0
      go_wp2_with fail
      refine (H5.out _ (hg.below B1.out)).mono ?_
      rintro e w2 ⟨rfl, hb2⟩
      have B2 := Lib.hid (bthen B1.out hb2)
      clear hb2 B1
      go_wp2_with fail
      refine (H2.out _ (hg.below B2.out)).mono ?_
      rintro e w3 ⟨rfl, hb3⟩
      have B3 := Lib.hid (bthen B2.out hb3)
      clear hb3 B2
      go_wp2_with fail
      refine (H6.out _ (hg.below B3.out)).mono ?_
      rintro e w4 ⟨rfl, hb4⟩
      have B4 := Lib.hid (bthen B3.out hb4)
      clear hb4 B3
      go_wp2_with fail
      refine (H3.out _ (hg.below B4.out)).mono ?_
      rintro e w5 ⟨rfl, hb5⟩
      have B5 := Lib.hid (bthen B4.out hb5)
      clear hb5 B4
      go_wp2_with fail
      refine (H4.out _ (hg.below B5.out)).mono ?_
      rintro e w6 ⟨rfl, hb6⟩
      have B6 := Lib.hid (bthen B5.out hb6)
      clear hb6 B5
      go_wp2_with fail
      refine (H7.out _ (hg.below B6.out)).mono ?_
      rintro e w7 ⟨rfl, hb7⟩
      have B7 := Lib.hid (bthen B6.out hb7)
      clear hb7 B6
      go_wp2_with fail
      refine (H8.out _ (hg.below B7.out)).mono ?_
      rintro e w8 ⟨rfl, hb8⟩
      have B8 := Lib.hid (bthen B7.out hb8)
      clear hb8 B7
      go_wp2_with fail
      refine (alive9_any _ (hg.below B8.out)).mono ?_
      rintro e w9 ⟨rfl, hb9⟩
      go_wp2_with fail
      go_ret
      exact ⟨rfl, bthen B8.out hb9⟩
end Go.Proofs.YtpmeabikhonaoaaDoor

/- The walks of ExprBack and ExprAlike. -/
import Derived.Test.YtpmeabikhonaoaaDoorLaw5b
import Derived.Test.YtpmeabikhonaoaaDoorLaw5a
import Derived.Test.YtpmeabikhonaoaaDoorRef5d
import Derived.Test.YtpmeabikhonaoaaDoorKb
namespace Go.Proofs.YtpmeabikhonaoaaDoor
open Go.RowKit

theorem SubAt.fitL {w : World} {S : Nat → Prop} {v : Value} {sub : List Ex} (h : SubAt w S v sub) : ∀ d, lightL sub d = true → fitL sub = true := by
  induction h with
  | mk A c sub vs hc hm hz hn hs ih =>
    intro d hl
    rw [lightL_all, List.all_eq_true] at hl
    have key : ∀ e ∈ sub, fitE e = true := by
      intro e he
      obtain ⟨i, hi, rfl⟩ := List.getElem_of_mem he
      have h1 := hl _ he
      have h2 := ih i hi (d - 1)
      have h3 := hn i hi
      generalize sub[i] = e at *
      obtain ⟨o, n, m, s⟩ := e
      rw [lightE_mk] at h1
      simp only [Bool.and_eq_true, decide_eq_true_eq] at h1
      simp only [Ex.op, Ex.n, Ex.name, Ex.sub] at h2 h3
      simp only [fitE, Bool.and_eq_true, decide_eq_true_eq]
      exact ⟨⟨⟨h3.1, by omega⟩, by omega⟩, h2 h1.2⟩
    clear hl ih hs hn hz hm hc
    induction sub with
    | nil => rfl
    | cons e s ih => 
      simp only [Proofs.YtpmeabikhonaoaaDoor.fitL, Bool.and_eq_true]
      exact ⟨key e (by simp), ih (fun x hx => key x (by simp [hx]))⟩
theorem small_fit {w : World} {S : Nat → Prop} {v : Value} {e : Ex} (h : SubAt w S v e.sub) (hok : okE e) (hs : smallB e = true) : fitE e = true := by
  unfold smallB at hs
  simp only [Bool.and_eq_true] at hs
  have hl := hs.1
  obtain ⟨o, n, m, s⟩ := e
  rw [lightE_mk] at hl
  simp only [Bool.and_eq_true, decide_eq_true_eq] at hl
  obtain ⟨h1, _, _⟩ := hok
  simp only [Ex.n, Ex.sub] at h1 h
  simp only [fitE, Bool.and_eq_true, decide_eq_true_eq]
  exact ⟨⟨⟨h1, by omega⟩, by omega⟩, h.fitL _ hl.2⟩
set_option maxHeartbeats 4000000 in
theorem exprBack_walk (x : Ex) (v : Value) (w : World) (hs : SubAt w (· < w.heap.size) v x.sub) (hok : okE x) (hg : GW w) :
    Calls Tryd.prog 4 #[.agg #[.string ⟨x.op.toArray⟩, .int .u16 x.n, .string ⟨x.name.toArray⟩, v]] w fun e w' => e = .returned (.bool true) ∧ Below w.heap.size w w' := by
  have HSM : Hid (∀ W, Below w.heap.size w W → Calls Tryd.prog 13 #[.agg #[.string ⟨x.op.toArray⟩, .int .u16 x.n, .string ⟨x.name.toArray⟩, v]] W fun e w' => e = .returned (.bool (smallB x)) ∧ Below W.heap.size W w') := Lib.hid (fun W hW => small_any x v W hok ((hs.bel hW).more (fun y hy => Nat.lt_of_lt_of_le hy hW.size)))
  have HAL := Lib.hid (fun W (hW : Below w.heap.size w W) => alive5_any W (hg.below hW))
  cases hsm : smallB x with
  | false =>
    rw [hsm] at HSM
    obtain ⟨A, c, rfl, hc, hm2⟩ := hs.form
    clear hs hsm
    go_enter Tryd.func4, Tryd.ntmps4
    go_wp2_with fail
    refine (HSM.out _ ((Below.refl _ _).alloc (Nat.le_refl _) _)).mono ?_
    rintro e w1 ⟨rfl, hb1⟩
    have B1 := Lib.hid (bthen ((Below.refl _ _).alloc (Nat.le_refl _) _) hb1)
    clear hb1
    go_wp2_with fail
    refine (HAL.out _ B1.out).mono ?_
    rintro e w2 ⟨rfl, hb2⟩
    go_wp2_with fail
    go_ret
    exact ⟨rfl, bthen B1.out hb2⟩
  | true =>
    rw [hsm] at HSM
    have hf := small_fit hs hok hsm
    have HSH := Lib.hid (fun W (hW : Below w.heap.size w W) => Show_any x v W hf (hg.below hW) ((hs.bel hW).more (fun y hy => Nat.lt_of_lt_of_le hy hW.size)))
    have HS := Lib.hid hs
    obtain ⟨A, c, rfl, hc, hm2⟩ := hs.form
    have hbw : Below w.heap.size w (w.alloc (.cells #[.string ⟨x.op.toArray⟩, .int .u16 x.n, .string ⟨x.name.toArray⟩, .slice A x.sub.length c] 25)) := (Below.refl _ _).alloc (Nat.le_refl _) _
    clear hs hsm
    have HK : Hid (rightK x = if rightE x 24 then 0 else 2) := Lib.hid rfl
    have HT : Hid (showK x = if rightE x 24 then showE x 1 else []) := Lib.hid rfl
    have HLB := Lib.hid (fun hr hl => line_back x hr hf hl)
    generalize rightK x = rk at *
    generalize showK x = sk at *
    cases hr : rightE x 24 with
    | false =>
      rw [hr] at HK
      have hrk : rk = 2 := HK.out
      subst hrk
      clear hr HK HT HLB
      go_enter Tryd.func4, Tryd.ntmps4
      go_wp2_with fail
      refine (HSM.out _ hbw).mono ?_
      rintro e w1 ⟨rfl, hb1⟩
      have B1 := Lib.hid (bthen hbw hb1)
      obtain ⟨hcc, hff⟩ := bcell hb1
      clear hbw
      go_wp2_with fail
      refine (HSH.out _ B1.out).mono ?_
      rintro e w2 ⟨rfl, hb2⟩
      have B2 := Lib.hid (bthen B1.out hb2)
      clear hcc hff hb1 hb2
      go_wp2_with fail
      refine (HAL.out _ B2.out).mono ?_
      rintro e w3 ⟨rfl, hb3⟩
      go_wp2_with fail
      go_ret
      exact ⟨rfl, bthen B2.out hb3⟩
    | true =>
      rw [hr] at HK HT
      have hrk : rk = 0 := HK.out
      have hsk : sk = showE x 1 := HT.out
      subst hrk
      have HLB' := Lib.hid (fun hl => HLB.out hr hl)
      rw [← hsk] at HLB'
      clear hr HK HT HLB hsk
      by_cases hlen : 200 < sk.length
      · have hlen' : (200 : Int) < (sk.length : Int) := by omega
        clear HLB' hlen
        go_enter Tryd.func4, Tryd.ntmps4
        go_wp2_with fail
        refine (HSM.out _ hbw).mono ?_
        rintro e w1 ⟨rfl, hb1⟩
        have B1 := Lib.hid (bthen hbw hb1)
        obtain ⟨hcc, hff⟩ := bcell hb1
        clear hbw
        go_wp2_with fail
        refine (HSH.out _ B1.out).mono ?_
        rintro e w2 ⟨rfl, hb2⟩
        have B2 := Lib.hid (bthen B1.out hb2)
        clear hcc hff hb1 hb2
        go_wp2_with fail
        refine (HAL.out _ B2.out).mono ?_
        rintro e w3 ⟨rfl, hb3⟩
        go_wp2_with fail
        go_ret
        exact ⟨rfl, bthen B2.out hb3⟩
      · have hlen' : decide ((200 : Int) < (sk.length : Int)) = false := by simp; omega
        obtain ⟨hall, hlk⟩ := HLB'.out (by omega)
        have hcnt := lineL_count sk
        have HA := Lib.hid (fun va W hr => all_any (lineL sk).1 va W hr (by omega) (lineL_small sk))
        rw [hall] at HA
        have HLI := Lib.hid (fun W (hW : Below w.heap.size w W) => line_any sk W (hg.below hW) (by omega))
        generalize lineL sk = L at *
        obtain ⟨ts, lk⟩ := L
        dsimp only at hlk hall HA HLI hcnt
        subst hlk
        have HSS : Hid (∀ vs u W, SubAt W (· < W.heap.size) vs x.sub → SubAt W (· < W.heap.size) u x.sub → Calls Tryd.prog 22 #[.agg #[.string ⟨x.op.toArray⟩, .int .u16 x.n, .string ⟨x.name.toArray⟩, vs], .agg #[.string ⟨x.op.toArray⟩, .int .u16 x.n, .string ⟨x.name.toArray⟩, u]] W fun e w' => e = .returned (.bool true) ∧ Below W.heap.size W w') := Lib.hid (fun vs u W h1 h2 => by
          have := refSame_any x x vs u W h1 h2
          rwa [sameE_refl] at this)
        clear hall HLB' hlen
        go_enter Tryd.func4, Tryd.ntmps4
        go_wp2_with fail
        refine (HSM.out _ hbw).mono ?_
        rintro e w1 ⟨rfl, hb1⟩
        have B1 := Lib.hid (bthen hbw hb1)
        have C1 := Lib.hid hb1
        obtain ⟨hcc, hff⟩ := bcell hb1
        clear hbw hb1
        go_wp2_with fail
        refine (HSH.out _ B1.out).mono ?_
        rintro e w2 ⟨rfl, hb2⟩
        have B2 := Lib.hid (bthen B1.out hb2)
        have C2 := Lib.hid (bthen C1.out hb2)
        clear hcc hff hb2 C1
        go_wp2_with fail
        refine (HLI.out _ B2.out).mono ?_
        rintro e w3 ⟨vt, rfl, ho3, hb3⟩
        have ra := Rd.of_own ho3
        obtain ⟨rA, rc, rfl, hrc⟩ := ra.form
        have B3 := Lib.hid (bthen B2.out hb3)
        have C3 := Lib.hid (bthen C2.out hb3)
        clear ho3 hb3 C2
        go_wp2_with fail
        refine (HA.out _ _ ra).mono ?_
        rintro e w4 ⟨vs, rfl, hsub, hok4, hb4⟩
        obtain ⟨sA, sc, rfl, hsc, hsm⟩ := hsub.form
        have B4 := Lib.hid (bthen B3.out hb4)
        have C4 := bthen C3.out hb4
        have hs2 := hsub.up ((Below.refl w4.heap.size w4).alloc (Nat.le_refl _) (.cells #[.string ⟨x.op.toArray⟩, .int .u16 x.n, .string ⟨x.name.toArray⟩, .slice sA x.sub.length sc] 25))
        have hB5 := B4.out.alloc (B4.out.size) (.cells #[.string ⟨x.op.toArray⟩, .int .u16 x.n, .string ⟨x.name.toArray⟩, .slice sA x.sub.length sc] 25)
        have B5 := Lib.hid hB5
        have hs1 := (HS.out.bel hB5).more (S' := (· < (w4.alloc (.cells #[.string ⟨x.op.toArray⟩, .int .u16 x.n, .string ⟨x.name.toArray⟩, .slice sA x.sub.length sc] 25)).heap.size)) (fun y hy => Nat.lt_of_lt_of_le hy hB5.size)
        have j0 := C4.block w.heap.size (by simp)
        rw [heap_alloc_new] at j0
        have k0 := cell_of_heap (i := 0) j0
        have k1 := cell_of_heap (i := 1) j0
        have k2 := cell_of_heap (i := 2) j0
        have k3 := cell_of_heap (i := 3) j0
        simp at k0 k1 k2 k3
        have hz : w.heap.size < w4.heap.size := by have := C4.size; simp at this; omega
        have HSS' := Lib.hid (HSS.out _ _ _ hs1 hs2)
        clear C4 hb4 ra HA hsub hs1 hs2 hB5 j0 HSS
        go_wp2_with fail
        refine HSS'.out.mono ?_
        rintro e w5 ⟨rfl, hb5⟩
        have B6 := Lib.hid (bthen B5.out hb5)
        clear k0 k1 k2 k3 hb5
        go_wp2_with fail
        refine (HAL.out _ B6.out).mono ?_
        rintro e w6 ⟨rfl, hb6⟩
        go_wp2_with fail
        go_ret
        exact ⟨rfl, bthen B6.out hb6⟩
end Go.Proofs.YtpmeabikhonaoaaDoor

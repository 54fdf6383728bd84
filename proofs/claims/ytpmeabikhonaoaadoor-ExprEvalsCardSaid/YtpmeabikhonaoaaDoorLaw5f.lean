/- The walk of ExprEvals. -/
import Derived.Test.YtpmeabikhonaoaaDoorLaw5c
import Derived.Test.YtpmeabikhonaoaaDoorRef5g
namespace Go.Proofs.YtpmeabikhonaoaaDoor
open Go.RowKit

set_option maxHeartbeats 1000000 in
theorem evals1_any (l : List Sy) (hl : l.length ≤ 1000000) (vl : Value) (bl : Nat) (m : List UInt8) (w : World) (hr : Rd w w.heap.size vl l.length (syRow l)) (hc : w.cell? ⟨bl, 0, none⟩ = some vl) :
    Calls Tryd.prog 16 #[.string ⟨m.toArray⟩, .pointer (some ⟨bl, 0, none⟩)] w fun e w' => e = .returned (.tuple #[.int .u16 (findE l m).1, .int .i64 (findE l m).2]) ∧ Below w.heap.size w w' := by
  have HF := Lib.hid (find5_any l m vl w hr hl)
  obtain ⟨A, c, rfl, _⟩ := hr.form
  clear hr
  generalize findE l m = f at *
  go_enter Tryd.func16, Tryd.ntmps16
  go_wp2_with fail
  refine HF.out.mono ?_
  rintro e w1 ⟨rfl, rfl⟩
  go_wp2_with fail
  go_ret2
  exact ⟨rfl, Below.refl _ _⟩
theorem evals_val (l : List Sy) (hl : l.length ≤ 1000000) (hl2 : ∀ s ∈ l, s.2 ≤ 65535) (vl : Value) (bl : Nat) (w : World) (hr : Rd w w.heap.size vl l.length (syRow l)) (hc : w.cell? ⟨bl, 0, none⟩ = some vl) : ValP w 16 #[.pointer (some ⟨bl, 0, none⟩)] (findE l) :=
  ⟨find_le l hl2, fun _ _ => by kernel_rfl, fun name W _ hW => evals1_any l hl vl bl name W ((hr.below hW).more hW.size) ((hW.cell (World.block_lt_of_cell? _ _ hc)).trans hc)⟩
set_option maxHeartbeats 4000000 in
set_option maxRecDepth 100000 in
theorem exprEvals_walk (x : Ex) (v : Value) (here : Int) (wh : (Lit.int .u16 here).wf = true) (l : List Sy) (vl : Value) (w : World) (hs : SubAt w (· < w.heap.size) v x.sub) (hok : okE x) (hr : Rd w w.heap.size vl l.length (syRow l)) (hn : l.length ≤ maxLen ∧ ∀ s ∈ l, s.2 ≤ 65535) (hg : GW w) :
    Calls Tryd.prog 3 #[.agg #[.string ⟨x.op.toArray⟩, .int .u16 x.n, .string ⟨x.name.toArray⟩, v], .int .u16 here, vl] w fun e w' => e = .returned (.bool true) ∧ Below w.heap.size w w' := by
  have hh0 := bounds_u16 wh
  obtain ⟨here, rfl⟩ := Int.eq_ofNat_of_zero_le hh0.1
  have hh : here ≤ 65535 := by omega
  clear wh hh0
  obtain ⟨hlm, hl2⟩ := hn
  unfold maxLen at hlm
  have HSX : Hid (∀ W, Below w.heap.size w W → SubAt W (· < W.heap.size) v x.sub) := Lib.hid (fun W hW => (hs.bel hW).more (fun y hy => Nat.lt_of_lt_of_le hy hW.size))
  have HRL : Hid (∀ W, Below w.heap.size w W → Rd W W.heap.size vl l.length (syRow l)) := Lib.hid (fun W hW => (hr.below hW).more hW.size)
  have HMX := Lib.hid (fun W (hW : Below w.heap.size w W) => small_any x v W hok (HSX.out W hW))
  have HAL := Lib.hid (fun W (hW : Below w.heap.size w W) => alive5_any W (hg.below hW))
  have HFX := Lib.hid (fun h => small_fit hs hok h)
  obtain ⟨A, c, rfl, hc, hm⟩ := hs.form
  obtain ⟨A', c', rfl, hc'⟩ := hr.form
  have HB0 : Hid (Below w.heap.size w ((w.alloc (.cells #[.string ⟨x.op.toArray⟩, .int .u16 x.n, .string ⟨x.name.toArray⟩, .slice A x.sub.length c] 25)).alloc (.cells #[.slice A' l.length c'] 26))) := Lib.hid (((Below.refl _ _).alloc (Nat.le_refl _) _).alloc (by simp) _)
  clear hs hr
  cases hsm : smallB x with
  | false =>
    rw [hsm] at HMX
    clear hsm
    go_enter Tryd.func3, Tryd.ntmps3
    go_wp2_with fail
    refine (HMX.out _ HB0.out).mono ?_
    rintro e w1 ⟨rfl, hb1⟩
    have B1 := Lib.hid (bthen HB0.out hb1)
    clear hb1
    go_wp2_with fail
    refine (HAL.out _ B1.out).mono ?_
    rintro e w2 ⟨rfl, hb2⟩
    go_wp2_with fail
    go_ret
    exact ⟨rfl, bthen B1.out hb2⟩
  | true =>
    have hf := HFX.out hsm
    rw [hsm] at HMX
    by_cases hl : 100 < l.length
    · have hl' : (100 : Int) < (l.length : Int) := by omega
      clear hsm hl
      go_enter Tryd.func3, Tryd.ntmps3
      go_wp2_with fail
      refine (HMX.out _ HB0.out).mono ?_
      rintro e w1 ⟨rfl, hb1⟩
      have B1 := Lib.hid (bthen HB0.out hb1)
      obtain ⟨hcc, hff⟩ := bcell hb1
      go_wp2_with fail
      refine (HAL.out _ B1.out).mono ?_
      rintro e w2 ⟨rfl, hb2⟩
      clear hcc hff hb1
      go_wp2_with fail
      go_ret
      exact ⟨rfl, bthen B1.out hb2⟩
    · have hl' : decide ((100 : Int) < (l.length : Int)) = false := by simp; omega
      have HE := Lib.hid (fun W (hW : Below w.heap.size w W) bl hcl => Eval_val x _ here hh _ _ (findE l) W (evals_val l (by omega) hl2 (.slice A' l.length c') bl W (HRL.out W hW) hcl) hf (HSX.out W hW))
      have HRE := Lib.hid (fun W (hW : Below w.heap.size w W) => REval_any x _ _ here hh l (by omega) hl2 W hf (HRL.out W hW) (HSX.out W hW))
      generalize evalK here (findE l) x = ev at *
      clear hsm hl
      go_enter Tryd.func3, Tryd.ntmps3
      go_wp2_with fail
      refine (HMX.out _ HB0.out).mono ?_
      rintro e w1 ⟨rfl, hb1⟩
      have B1 := Lib.hid (bthen HB0.out hb1)
      have C1 : Hid (Below (w.heap.size + 2) _ w1) := Lib.hid (hb1.mono (by simp))
      have a0 := box1_at C1.out 0 _ rfl
      have a1 := box1_at C1.out 1 _ rfl
      have a2 := box1_at C1.out 2 _ rfl
      have a3 := box1_at C1.out 3 _ rfl
      have b0 := box2_at C1.out 0 _ rfl
      have z1 : w.heap.size + 1 < w1.heap.size := by have := C1.out.size; simp at this; omega
      have z0 : w.heap.size < w1.heap.size := by omega
      clear hb1
      go_wp2_with fail
      refine (HE.out _ B1.out (w.heap.size + 1) b0).mono ?_
      rintro e w2 ⟨rfl, hb2⟩
      have B2 := Lib.hid (bthen B1.out hb2)
      have C2 : Hid (Below (w.heap.size + 2) _ w2) := Lib.hid (C1.out.trans (hb2.mono (by omega)))
      clear a0 a1 a2 a3 b0 z0 z1 hb2
      have a0 := box1_at C2.out 0 _ rfl
      have a1 := box1_at C2.out 1 _ rfl
      have a2 := box1_at C2.out 2 _ rfl
      have a3 := box1_at C2.out 3 _ rfl
      have b0 := box2_at C2.out 0 _ rfl
      have z1 : w.heap.size + 1 < w2.heap.size := by have := C2.out.size; simp at this; omega
      have z0 : w.heap.size < w2.heap.size := by omega
      go_wp2_with fail
      refine (HRE.out _ B2.out).mono ?_
      rintro e w3 ⟨rfl, hb3⟩
      have B3 := Lib.hid (bthen B2.out hb3)
      clear a0 a1 a2 a3 b0 z0 z1 hb3
      go_wp2_with fail
      refine (HAL.out _ B3.out).mono ?_
      rintro e w4 ⟨rfl, hb4⟩
      go_wp2_with fail
      go_ret
      exact ⟨rfl, bthen B3.out hb4⟩
end Go.Proofs.YtpmeabikhonaoaaDoor

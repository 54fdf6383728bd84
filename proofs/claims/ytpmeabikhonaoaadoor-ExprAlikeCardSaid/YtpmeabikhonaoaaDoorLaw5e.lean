/- The walk of ExprAlike. -/
import Derived.Test.YtpmeabikhonaoaaDoorLaw5c
import Derived.Test.YtpmeabikhonaoaaDoorExpr19
namespace Go.Proofs.YtpmeabikhonaoaaDoor
open Go.RowKit

theorem box8 {w W : World} {c0 c1 c2 c3 d0 d1 d2 d3 : Value} {T : TypeId} (hb : Below (w.heap.size + 2) ((w.alloc (.cells #[c0, c1, c2, c3] T)).alloc (.cells #[d0, d1, d2, d3] T)) W) :
    (W.cell? ⟨w.heap.size, 0, none⟩ = some c0 ∧ W.cell? ⟨w.heap.size, 1, none⟩ = some c1 ∧ W.cell? ⟨w.heap.size, 2, none⟩ = some c2 ∧ W.cell? ⟨w.heap.size, 3, none⟩ = some c3) ∧
    (W.cell? ⟨w.heap.size + 1, 0, none⟩ = some d0 ∧ W.cell? ⟨w.heap.size + 1, 1, none⟩ = some d1 ∧ W.cell? ⟨w.heap.size + 1, 2, none⟩ = some d2 ∧ W.cell? ⟨w.heap.size + 1, 3, none⟩ = some d3) ∧ w.heap.size < W.heap.size ∧ w.heap.size + 1 < W.heap.size := by
  have hz : w.heap.size + 2 ≤ W.heap.size := by have := hb.size; simpa using this
  exact ⟨⟨box1_at hb 0 _ rfl, box1_at hb 1 _ rfl, box1_at hb 2 _ rfl, box1_at hb 3 _ rfl⟩, ⟨box2_at hb 0 _ rfl, box2_at hb 1 _ rfl, box2_at hb 2 _ rfl, box2_at hb 3 _ rfl⟩, by omega, by omega⟩
set_option maxHeartbeats 8000000 in
set_option maxRecDepth 100000 in
theorem exprAlike_walk (x : Ex) (v : Value) (y : Ex) (u : Value) (w : World) (hs : SubAt w (· < w.heap.size) v x.sub) (hok : okE x) (ht : SubAt w (· < w.heap.size) u y.sub) (hok' : okE y) (hg : GW w) :
    Calls Tryd.prog 7 #[.agg #[.string ⟨x.op.toArray⟩, .int .u16 x.n, .string ⟨x.name.toArray⟩, v], .agg #[.string ⟨y.op.toArray⟩, .int .u16 y.n, .string ⟨y.name.toArray⟩, u]] w fun e w' => e = .returned (.bool true) ∧ Below w.heap.size w w' := by
  have HSX : Hid (∀ W, Below w.heap.size w W → SubAt W (· < W.heap.size) v x.sub) := Lib.hid (fun W hW => (hs.bel hW).more (fun y hy => Nat.lt_of_lt_of_le hy hW.size))
  have HSY : Hid (∀ W, Below w.heap.size w W → SubAt W (· < W.heap.size) u y.sub) := Lib.hid (fun W hW => (ht.bel hW).more (fun y hy => Nat.lt_of_lt_of_le hy hW.size))
  have HMX := Lib.hid (fun W (hW : Below w.heap.size w W) => small_any x v W hok (HSX.out W hW))
  have HMY := Lib.hid (fun W (hW : Below w.heap.size w W) => small_any y u W hok' (HSY.out W hW))
  have HAL := Lib.hid (fun W (hW : Below w.heap.size w W) => alive5_any W (hg.below hW))
  have HFX := Lib.hid (fun h => small_fit hs hok h)
  have HFY := Lib.hid (fun h => small_fit ht hok' h)
  have HXY := Lib.hid (fun W (hW : Below w.heap.size w W) => Same_any x y v u W (HSX.out W hW) (HSY.out W hW))
  have HXX := Lib.hid (fun W (hW : Below w.heap.size w W) => Same_any x x v v W (HSX.out W hW) (HSX.out W hW))
  have HYX := Lib.hid (fun W (hW : Below w.heap.size w W) => Same_any y x u v W (HSY.out W hW) (HSX.out W hW))
  rw [sameE_refl] at HXX
  rw [sameE_comm y x] at HYX
  obtain ⟨A, c, rfl, hc, hm⟩ := hs.form
  obtain ⟨A', c', rfl, hc', hm'⟩ := ht.form
  have HB0 : Hid (Below w.heap.size w ((w.alloc (.cells #[.string ⟨x.op.toArray⟩, .int .u16 x.n, .string ⟨x.name.toArray⟩, .slice A x.sub.length c] 25)).alloc (.cells #[.string ⟨y.op.toArray⟩, .int .u16 y.n, .string ⟨y.name.toArray⟩, .slice A' y.sub.length c'] 25))) := Lib.hid (((Below.refl _ _).alloc (Nat.le_refl _) _).alloc (by simp) _)
  clear hs ht
  cases hsm : smallB x with
  | false =>
    rw [hsm] at HMX
    clear hsm
    go_enter Tryd.func7, Tryd.ntmps7
    go_wp2_with fail
    refine (HMX.out _ HB0.out).mono ?_
    rintro e w1 ⟨rfl, hb1⟩
    have B1 := Lib.hid (bthen HB0.out hb1)
    clear hb1
    go_wp2_with fail
    refine (HAL.out _ B1.out).mono ?_
    rintro e w2 ⟨rfl, hb2⟩
    go_wp2_with fail
    go_ret
    exact ⟨rfl, bthen B1.out hb2⟩
  | true =>
  cases hsn : smallB y with
  | false =>
    rw [hsm] at HMX
    rw [hsn] at HMY
    clear hsm hsn
    go_enter Tryd.func7, Tryd.ntmps7
    go_wp2_with fail
    refine (HMX.out _ HB0.out).mono ?_
    rintro e w1 ⟨rfl, hb1⟩
    have B1 := Lib.hid (bthen HB0.out hb1)
    have C1 : Below (w.heap.size + 2) _ w1 := hb1.mono (by simp)
    obtain ⟨⟨a0, a1, a2, a3⟩, ⟨b0, b1, b2, b3⟩, z0, z1⟩ := box8 C1
    clear hb1 C1
    go_wp2_with fail
    refine (HMY.out _ B1.out).mono ?_
    rintro e w2 ⟨rfl, hb2⟩
    have B2 := Lib.hid (bthen B1.out hb2)
    clear hb2 a0 a1 a2 a3 b0 b1 b2 b3 z0 z1
    go_wp2_with fail
    refine (HAL.out _ B2.out).mono ?_
    rintro e w3 ⟨rfl, hb3⟩
    go_wp2_with fail
    go_ret
    exact ⟨rfl, bthen B2.out hb3⟩
  | true =>
    have hf := HFX.out hsm
    have hf' := HFY.out hsn
    have HSH := Lib.hid (fun W (hW : Below w.heap.size w W) => Show_any x _ W hf (hg.below hW) (HSX.out W hW))
    have HSH' := Lib.hid (fun W (hW : Below w.heap.size w W) => Show_any y _ W hf' (hg.below hW) (HSY.out W hW))
    rw [hsm] at HMX
    rw [hsn] at HMY
    have HFACT : Hid ((sameE x y = true ∧ showK x = showK y ∧ rightK x = rightK y) ∨ (sameE x y = false ∧ (rightK x ≠ 0 ∨ rightK y ≠ 0 ∨ (showK x == showK y) = false))) := Lib.hid (by
      cases hxy : sameE x y with
      | true =>
        have := (sameE_iff x y).1 hxy
        subst this
        exact .inl ⟨rfl, rfl, rfl⟩
      | false =>
        refine .inr ⟨rfl, ?_⟩
        cases hr : rightE x 24 with
        | false => exact .inl (by unfold rightK; rw [hr]; simp)
        | true =>
          cases hr' : rightE y 24 with
          | false => exact .inr (.inl (by unfold rightK; rw [hr']; simp))
          | true =>
            refine .inr (.inr ?_)
            rw [beq_eq_false_iff_ne]
            intro h
            unfold showK at h
            rw [hr, hr'] at h
            have := show_inj x y hr hr' hf hf' h
            subst this
            rw [sameE_refl] at hxy
            cases hxy)
    generalize sameE x y = is at *
    generalize showK x = s at *
    generalize showK y = t at *
    generalize rightK x = i at *
    generalize rightK y = j at *
    clear hsm hsn hf hf' HFX HFY HSX HSY
    go_enter Tryd.func7, Tryd.ntmps7
    go_wp2_with fail
    refine (HMX.out _ HB0.out).mono ?_
    rintro e w1 ⟨rfl, hb1⟩
    have B1 := Lib.hid (bthen HB0.out hb1)
    have C1 : Hid (Below (w.heap.size + 2) _ w1) := Lib.hid (hb1.mono (by simp))
    obtain ⟨⟨a0, a1, a2, a3⟩, ⟨b0, b1, b2, b3⟩, z0, z1⟩ := box8 C1.out
    clear hb1
    go_wp2_with fail
    refine (HMY.out _ B1.out).mono ?_
    rintro e w2 ⟨rfl, hb2⟩
    have B2 := Lib.hid (bthen B1.out hb2)
    have C2 := Lib.hid (C1.out.trans (hb2.mono (by have := C1.out.size; simpa using this)))
    clear a0 a1 a2 a3 b0 b1 b2 b3 z0 z1
    obtain ⟨⟨a0, a1, a2, a3⟩, ⟨b0, b1, b2, b3⟩, z0, z1⟩ := box8 C2.out
    clear hb2
    go_wp2_with fail
    refine (HSH.out _ B2.out).mono ?_
    rintro e w3 ⟨rfl, hb3⟩
    have B3 := Lib.hid (bthen B2.out hb3)
    have C3 := Lib.hid (C2.out.trans (hb3.mono (by have := C2.out.size; simpa using this)))
    clear a0 a1 a2 a3 b0 b1 b2 b3 z0 z1
    obtain ⟨⟨a0, a1, a2, a3⟩, ⟨b0, b1, b2, b3⟩, z0, z1⟩ := box8 C3.out
    clear hb3
    go_wp2_with fail
    refine (HSH'.out _ B3.out).mono ?_
    rintro e w4 ⟨rfl, hb4⟩
    have B4 := Lib.hid (bthen B3.out hb4)
    have C4 := Lib.hid (C3.out.trans (hb4.mono (by have := C3.out.size; simpa using this)))
    clear a0 a1 a2 a3 b0 b1 b2 b3 z0 z1
    obtain ⟨⟨a0, a1, a2, a3⟩, ⟨b0, b1, b2, b3⟩, z0, z1⟩ := box8 C4.out
    clear hb4
    go_wp2_with fail
    refine (HXY.out _ B4.out).mono ?_
    rintro e w5 ⟨rfl, hb5⟩
    have B5 := Lib.hid (bthen B4.out hb5)
    have C5 := Lib.hid (C4.out.trans (hb5.mono (by have := C4.out.size; simpa using this)))
    clear a0 a1 a2 a3 b0 b1 b2 b3 z0 z1
    obtain ⟨⟨a0, a1, a2, a3⟩, ⟨b0, b1, b2, b3⟩, z0, z1⟩ := box8 C5.out
    clear hb5
    go_wp2_with fail
    refine (HXX.out _ B5.out).mono ?_
    rintro e w6 ⟨rfl, hb6⟩
    have B6 := Lib.hid (bthen B5.out hb6)
    have C6 := Lib.hid (C5.out.trans (hb6.mono (by have := C5.out.size; simpa using this)))
    clear a0 a1 a2 a3 b0 b1 b2 b3 z0 z1
    obtain ⟨⟨a0, a1, a2, a3⟩, ⟨b0, b1, b2, b3⟩, z0, z1⟩ := box8 C6.out
    clear hb6
    go_wp2_with fail
    refine (HYX.out _ B6.out).mono ?_
    rintro e w7 ⟨rfl, hb7⟩
    have B7 := Lib.hid (bthen B6.out hb7)
    have C7 := Lib.hid (C6.out.trans (hb7.mono (by have := C6.out.size; simpa using this)))
    clear a0 a1 a2 a3 b0 b1 b2 b3 z0 z1
    obtain ⟨⟨a0, a1, a2, a3⟩, ⟨b0, b1, b2, b3⟩, z0, z1⟩ := box8 C7.out
    clear hb7
    clear a0 a1 a2 a3 b0 b1 b2 b3 z0 z1
    rcases HFACT.out with ⟨rfl, rfl, rfl⟩ | ⟨rfl, h⟩
    · by_cases hi : i = 0
      · subst hi
        clear HFACT
        go_wp2_with fail
        refine (HAL.out _ B7.out).mono ?_
        rintro e w8 ⟨rfl, hb8⟩
        go_wp2_with fail
        go_ret
        exact ⟨rfl, bthen B7.out hb8⟩
      · have hi1 : ((i : Int) == 0) = false := by rw [beq_eq_false_iff_ne]; omega
        clear HFACT
        go_wp2_with fail
        refine (HAL.out _ B7.out).mono ?_
        rintro e w8 ⟨rfl, hb8⟩
        go_wp2_with fail
        go_ret
        exact ⟨rfl, bthen B7.out hb8⟩
    · by_cases hi : i = 0
      · subst hi
        by_cases hj : j = 0
        · subst hj
          have hst : (s == t) = false := by simpa using h
          clear HFACT h
          go_wp2_with fail
          refine (HAL.out _ B7.out).mono ?_
          rintro e w8 ⟨rfl, hb8⟩
          go_wp2_with fail
          go_ret
          exact ⟨rfl, bthen B7.out hb8⟩
        · have hj1 : ((j : Int) == 0) = false := by rw [beq_eq_false_iff_ne]; omega
          clear HFACT h
          go_wp2_with fail
          refine (HAL.out _ B7.out).mono ?_
          rintro e w8 ⟨rfl, hb8⟩
          go_wp2_with fail
          go_ret
          exact ⟨rfl, bthen B7.out hb8⟩
      · have hi1 : ((i : Int) == 0) = false := by rw [beq_eq_false_iff_ne]; omega
        clear HFACT h
        go_wp2_with fail
        refine (HAL.out _ B7.out).mono ?_
        rintro e w8 ⟨rfl, hb8⟩
        go_wp2_with fail
        go_ret
        exact ⟨rfl, bthen B7.out hb8⟩
end Go.Proofs.YtpmeabikhonaoaaDoor

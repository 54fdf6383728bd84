/- expr: Eval. -/
import Derived.Test.YtpmeabikhonaoaaDoorExpr20
import Derived.Laws.EntriesVeiled
namespace Go.Proofs.YtpmeabikhonaoaaDoor
open Go.RowKit

theorem eval_name (here : Nat) (val : List UInt8 → Nat × Nat) (m : List UInt8) : evalE here val (.mk sN 0 m []) = val m := by simp [evalE]
theorem eval_here (here : Nat) (val : List UInt8 → Nat × Nat) : evalE here val (.mk sHere 0 [] []) = (here, 0) := by simp [evalE]
theorem eval_one (here : Nat) (val : List UInt8 → Nat × Nat) (o : List UInt8) (ho : o = sNOT ∨ o = sNEG) (a : Ex) : evalE here val (.mk o 0 [] [a]) = oneV o (evalE here val a) := by
  rcases ho with rfl | rfl <;> simp [evalE, oneV]
theorem eval_twoV {o : List UInt8} {r : Nat} (ho : binO o r) (here : Nat) (val : List UInt8 → Nat × Nat) (a b : Ex) : evalE here val (.mk o 0 [] [a, b]) = twoV o (evalE here val a) (evalE here val b) := by
  obtain ⟨_, h1, h2, _, h3, _⟩ := ho.binds
  rw [evalE, if_neg h1, if_neg h3, if_neg h2]
  rfl
theorem of_all (w0 : World) (bh bv bo here : Nat) (hh : here ≤ 65535) (K : FuncId) (caps : Array Value) (val : List UInt8 → Nat × Nat) (hv : ValP w0 K caps val) (x : Ex) : OfH w0 bh bv bo here (.func (.func K) #[] caps) val x := by
  induction x using Ex.ind with
  | h o n m s ih =>
    intro d v w hr hf hw ho hs
    have hform := rightE.form hr
    obtain ⟨A, c, rfl, hc, _⟩ := hs.form
    cases hform with
    | num n d =>
      have e := eval_num here val n
      unfold numE at e
      rw [e]
      exact of_num bh bv bo n A c w
    | name m d =>
      rw [eval_name]
      simp [fitE] at hf
      exact of_name bh bv bo here w0 K caps val hv m (by omega) A c w hw ho
    | here d =>
      rw [eval_here]
      exact of_here bh bv bo here A c _ w ho
    | neg a d hA =>
      rw [eval_one here val sNEG (.inr rfl)]
      simp [fitE, fitL] at hf
      exact of_one w0 bh bv bo here _ val sNEG (.inr rfl) a d hA hf (eval_le here hh val hv.1 a hf) (ih a (by simp)) _ w hw ho hs
    | not a d hA =>
      rw [eval_one here val sNOT (.inl rfl)]
      simp [fitE, fitL] at hf
      exact of_one w0 bh bv bo here _ val sNOT (.inl rfl) a d hA hf (eval_le here hh val hv.1 a hf) (ih a (by simp)) _ w hw ho hs
    | two o r a b d hoo h1 h2 =>
      rw [eval_twoV hoo]
      simp [fitE, fitL] at hf
      exact of_two w0 bh bv bo here _ val o r hoo a b d h1 h2 hf.2.1 hf.2.2 (eval_le here hh val hv.1 a hf.2.1) (eval_le here hh val hv.1 b hf.2.2) (ih a (by simp)) (ih b (by simp)) _ w hw ho hs
set_option maxHeartbeats 1000000 in
theorem und_any (m : List UInt8) (w : World) : Calls Tryd.prog 43 #[.string ⟨m.toArray⟩] w fun e w' => e = .returned (.tuple #[.int .u16 0, .int .i64 3]) ∧ Below w.heap.size w w' := by
  go_enter Tryd.func43, Tryd.ntmps43
  go_wp2_with fail
  go_ret2
  exact ⟨rfl, Below.refl _ _⟩
theorem und_val (w0 : World) : ValP w0 43 #[] und := ⟨fun _ => by simp [und], fun _ _ => by kernel_rfl, fun name W _ _ => und_any name W⟩
theorem alloc3 {w w2 : World} {o1 o2 o3 : Obj} (hb : Below (((w.alloc o1).alloc o2).alloc o3).heap.size (((w.alloc o1).alloc o2).alloc o3) w2) :
    w2.heap[w.heap.size]? = some o1 ∧ w2.heap[w.heap.size + 1]? = some o2 ∧ w2.heap[w.heap.size + 2]? = some o3 := by
  have h1 : (w.alloc o1).heap.size = w.heap.size + 1 := World.size_alloc _ _
  have h2 : ((w.alloc o1).alloc o2).heap.size = w.heap.size + 2 := by rw [World.size_alloc, h1]
  have h3 : (((w.alloc o1).alloc o2).alloc o3).heap.size = w.heap.size + 3 := by rw [World.size_alloc, h2]
  refine ⟨?_, ?_, ?_⟩
  · rw [hb.block w.heap.size (by omega), heap_alloc_old _ _ _ (by omega), heap_alloc_old _ _ _ (by omega)]
    exact heap_alloc_new w o1
  · rw [hb.block (w.heap.size + 1) (by omega), heap_alloc_old _ _ _ (by omega), ← h1]
    exact heap_alloc_new _ o2
  · rw [hb.block (w.heap.size + 2) (by omega), ← h2]
    exact heap_alloc_new _ o3
def evalK (here : Nat) (val : List UInt8 → Nat × Nat) (e : Ex) : Nat × Nat := if rightE e 24 then evalE here val e else (0, 2)
theorem eq_func (K : FuncId) (caps : Array Value) (W : World) : (binOp .eql 33 (.func (.func K) #[] caps) .nilFunc).run Tryd.prog W = .ok (.bool false) W := by kernel_rfl
theorem eq_nilf (W : World) : (binOp .eql 33 .nilFunc .nilFunc).run Tryd.prog W = .ok (.bool true) W := by kernel_rfl
set_option maxHeartbeats 4000000 in
set_option maxRecDepth 100000 in
theorem Eval_val (e : Ex) (v : Value) (here : Nat) (hh : here ≤ 65535) (K : FuncId) (caps : Array Value) (val : List UInt8 → Nat × Nat) (w : World) (hv : ValP w K caps val) (hf : fitE e = true) (hs : SubAt w (· < w.heap.size) v e.sub) :
    Calls Tryd.prog 15 #[.agg #[.string ⟨e.op.toArray⟩, .int .u16 e.n, .string ⟨e.name.toArray⟩, v], .int .u16 here, .func (.func K) #[] caps] w fun r w' => r = .returned (.tuple #[.int .u16 (evalK here val e).1, .int .i64 (evalK here val e).2]) ∧ Below w.heap.size w w' := by
  have HR : Hid (∀ W, Below w.heap.size w W → Calls Tryd.prog 42 #[.agg #[.string ⟨e.op.toArray⟩, .int .u16 e.n, .string ⟨e.name.toArray⟩, v]] W fun r w' => r = .returned (.int .i64 (rightK e)) ∧ Below W.heap.size W w') := Lib.hid (fun W hW => Right_any e v W hf ((hs.bel hW).more (fun x hx => Nat.lt_of_lt_of_le hx hW.size)))
  have HO : Hid (∀ bh bv bo W, rightE e 24 = true → Below w.heap.size w W → OfSt W bh bv bo here (.func (.func K) #[] caps) → Calls Tryd.prog 44 #[.agg #[.string ⟨e.op.toArray⟩, .int .u16 e.n, .string ⟨e.name.toArray⟩, v], .pointer (some ⟨bh, 0, none⟩), .pointer (some ⟨bv, 0, none⟩), .pointer (some ⟨bo, 0, none⟩)] W fun r w' => r = .returned (.tuple #[.int .u16 (evalE here val e).1, .int .i64 (evalE here val e).2]) ∧ Below W.heap.size W w') :=
    Lib.hid (fun bh bv bo W hr hW ho => of_all w bh bv bo here hh K caps val hv e 24 v W hr hf hW ho ((hs.bel hW).more (fun x hx => Nat.lt_of_lt_of_le hx hW.size)))
  have HK : Hid (rightK e = if rightE e 24 then 0 else 2) := Lib.hid rfl
  have HE : Hid (evalK here val e = if rightE e 24 then evalE here val e else (0, 2)) := Lib.hid rfl
  obtain ⟨A, c, rfl, _, _⟩ := hs.form
  generalize rightK e = rk at *
  generalize evalK here val e = res at *
  clear hs hf hv
  have hq := eq_func K caps
  have hbw : Below w.heap.size w (((w.alloc (.cells #[.string ⟨e.op.toArray⟩, .int .u16 e.n, .string ⟨e.name.toArray⟩, .slice A e.sub.length c] 25)).alloc (.cells #[.int .u16 here] 22)).alloc (.cells #[.func (.func K) #[] caps] 33)) := (((Below.refl _ _).alloc (Nat.le_refl _) _).alloc (by simp) _).alloc (by simp; omega) _
  cases hr : rightE e 24 with
  | true =>
    rw [hr] at HK HE
    have HO' := Lib.hid (fun bh bv bo W => HO.out bh bv bo W hr)
    have hrk : rk = 0 := HK.out
    subst hrk
    clear HO hr HK
    generalize evalE here val e = ev at *
    go_enter Tryd.func15, Tryd.ntmps15
    go_wp2_with fail
    refine (HR.out _ hbw).mono ?_
    rintro e0 w2 ⟨rfl, hb2⟩
    have hz : w.heap.size + 3 ≤ w2.heap.size := by have := hb2.size; simp at this; omega
    have hz0 : w.heap.size < w2.heap.size := by omega
    have hz1 : w.heap.size + 1 < w2.heap.size := by omega
    have hz2 : w.heap.size + 2 < w2.heap.size := by omega
    obtain ⟨j0, j1, j2⟩ := alloc3 hb2
    have k0 := cell_of_heap (i := 0) j0
    have k1 := cell_of_heap (i := 1) j0
    have k2 := cell_of_heap (i := 2) j0
    have k3 := cell_of_heap (i := 3) j0
    have k4 := cell_of_heap (i := 0) j1
    have k5 := cell_of_heap (i := 0) j2
    simp at k0 k1 k2 k3 k4 k5
    clear j0 j1 j2
    have hb3 := Lib.hid (bthen hbw hb2)
    clear hbw hb2 HR
    go_wp2_with fail
    refine (HO'.out (w.heap.size + 1) (w.heap.size + 1 + 1) w2.heap.size _ (hb3.out.alloc hb3.out.size _) ?_).mono ?_
    · refine ⟨?_, ?_, ?_⟩
      · rw [World.cell?_alloc_lt _ _ _ hz1]; exact k4
      · rw [World.cell?_alloc_lt _ _ _ hz2]; exact k5
      · exact new_at w2 _ _ 0 _ rfl
    rintro e0 w3 ⟨rfl, hb4⟩
    have hb5 := bthen (hb3.out.alloc hb3.out.size _) hb4
    clear hb4 HO' k0 k1 k2 k3 k4 k5
    go_wp2_with fail
    go_ret2
    rw [HE.out]
    exact ⟨rfl, hb5⟩
  | false =>
    rw [hr] at HK HE
    have hrk : rk = 2 := HK.out
    subst hrk
    clear HO hr HK
    go_enter Tryd.func15, Tryd.ntmps15
    go_wp2_with fail
    refine (HR.out _ hbw).mono ?_
    rintro e0 w2 ⟨rfl, hb2⟩
    have hb3 := bthen hbw hb2
    clear hbw hb2 HR
    go_wp2_with fail
    go_ret2
    rw [HE.out]
    exact ⟨rfl, hb3⟩
set_option maxHeartbeats 4000000 in
set_option maxRecDepth 100000 in
theorem Eval_nil (e : Ex) (v : Value) (here : Nat) (hh : here ≤ 65535) (w : World) (hf : fitE e = true) (hs : SubAt w (· < w.heap.size) v e.sub) :
    Calls Tryd.prog 15 #[.agg #[.string ⟨e.op.toArray⟩, .int .u16 e.n, .string ⟨e.name.toArray⟩, v], .int .u16 here, .nilFunc] w fun r w' => r = .returned (.tuple #[.int .u16 (evalK here und e).1, .int .i64 (evalK here und e).2]) ∧ Below w.heap.size w w' := by
  have HR : Hid (∀ W, Below w.heap.size w W → Calls Tryd.prog 42 #[.agg #[.string ⟨e.op.toArray⟩, .int .u16 e.n, .string ⟨e.name.toArray⟩, v]] W fun r w' => r = .returned (.int .i64 (rightK e)) ∧ Below W.heap.size W w') := Lib.hid (fun W hW => Right_any e v W hf ((hs.bel hW).more (fun x hx => Nat.lt_of_lt_of_le hx hW.size)))
  have HO : Hid (∀ bh bv bo W, rightE e 24 = true → Below w.heap.size w W → OfSt W bh bv bo here (.func (.func 43) #[] #[]) → Calls Tryd.prog 44 #[.agg #[.string ⟨e.op.toArray⟩, .int .u16 e.n, .string ⟨e.name.toArray⟩, v], .pointer (some ⟨bh, 0, none⟩), .pointer (some ⟨bv, 0, none⟩), .pointer (some ⟨bo, 0, none⟩)] W fun r w' => r = .returned (.tuple #[.int .u16 (evalE here und e).1, .int .i64 (evalE here und e).2]) ∧ Below W.heap.size W w') :=
    Lib.hid (fun bh bv bo W hr hW ho => of_all w bh bv bo here hh _ _ und (und_val w) e 24 v W hr hf hW ho ((hs.bel hW).more (fun x hx => Nat.lt_of_lt_of_le hx hW.size)))
  have HK : Hid (rightK e = if rightE e 24 then 0 else 2) := Lib.hid rfl
  have HE : Hid (evalK here und e = if rightE e 24 then evalE here und e else (0, 2)) := Lib.hid rfl
  obtain ⟨A, c, rfl, _, _⟩ := hs.form
  generalize rightK e = rk at *
  generalize evalK here und e = res at *
  clear hs hf
  have hq := eq_nilf
  have hbw : Below w.heap.size w (((w.alloc (.cells #[.string ⟨e.op.toArray⟩, .int .u16 e.n, .string ⟨e.name.toArray⟩, .slice A e.sub.length c] 25)).alloc (.cells #[.int .u16 here] 22)).alloc (.cells #[.nilFunc] 33)) := (((Below.refl _ _).alloc (Nat.le_refl _) _).alloc (by simp) _).alloc (by simp; omega) _
  cases hr : rightE e 24 with
  | true =>
    rw [hr] at HK HE
    have HO' := Lib.hid (fun bh bv bo W => HO.out bh bv bo W hr)
    have hrk : rk = 0 := HK.out
    subst hrk
    clear HO hr HK
    generalize evalE here und e = ev at *
    go_enter Tryd.func15, Tryd.ntmps15
    go_wp2_with fail
    refine (HR.out _ hbw).mono ?_
    rintro e0 w2 ⟨rfl, hb2⟩
    have hz : w.heap.size + 3 ≤ w2.heap.size := by have := hb2.size; simp at this; omega
    have hz0 : w.heap.size < w2.heap.size := by omega
    have hz1 : w.heap.size + 1 < w2.heap.size := by omega
    have hz2 : w.heap.size + 2 < w2.heap.size := by omega
    obtain ⟨j0, j1, j2⟩ := alloc3 hb2
    have k0 := cell_of_heap (i := 0) j0
    have k1 := cell_of_heap (i := 1) j0
    have k2 := cell_of_heap (i := 2) j0
    have k3 := cell_of_heap (i := 3) j0
    have k4 := cell_of_heap (i := 0) j1
    have k5 := cell_of_heap (i := 0) j2
    have k6 := frozen_of_heap (i := 0) j2
    simp at k0 k1 k2 k3 k4 k5 k6
    have J2 := Lib.hid j2
    clear j0 j1 j2
    have hb3 := Lib.hid (bthen hbw hb2)
    clear hbw hb2 HR
    go_wp2_with fail
    refine (HO'.out (w.heap.size + 1) (w.heap.size + 1 + 1) w2.heap.size _ ((hb3.out.setCell (p := ⟨w.heap.size + 1 + 1, 0, none⟩) (by simp; omega) _).alloc (by simp [World.setCell]; omega) _) ?_).mono ?_
    · refine ⟨?_, ?_, ?_⟩
      · rw [World.cell?_alloc_lt _ _ _ (by simp [World.setCell]; omega), setCell_other _ (by simp)]
        exact k4
      · rw [World.cell?_alloc_lt _ _ _ (by simp [World.setCell]; omega)]
        have j3 := heap_set (i := 0) (.func (.func 43) #[] #[]) J2.out
        exact cell_of_heap j3
      · have := new_at (w2.setCell ⟨w.heap.size + 1 + 1, 0, none⟩ (.func (.func 43) #[] #[])) [.func (.func 44) #[] #[.pointer (some ⟨w.heap.size + 1, 0, none⟩), .pointer (some ⟨w.heap.size + 1 + 1, 0, none⟩), .pointer (some ⟨w2.heap.size, 0, none⟩)]] 65 0 _ rfl
        simpa [World.setCell] using this
    rintro e0 w3 ⟨rfl, hb4⟩
    have hb5 := bthen ((hb3.out.setCell (p := ⟨w.heap.size + 1 + 1, 0, none⟩) (by simp; omega) _).alloc (by simp [World.setCell]; omega) _) hb4
    clear hb4 HO' k0 k1 k2 k3 k4 k5
    go_wp2_with fail
    go_ret2
    rw [HE.out]
    exact ⟨rfl, hb5⟩
  | false =>
    rw [hr] at HK HE
    have hrk : rk = 2 := HK.out
    subst hrk
    clear HO hr HK
    go_enter Tryd.func15, Tryd.ntmps15
    go_wp2_with fail
    refine (HR.out _ hbw).mono ?_
    rintro e0 w2 ⟨rfl, hb2⟩
    have hb3 := bthen hbw hb2
    clear hbw hb2 HR
    go_wp2_with fail
    go_ret2
    rw [HE.out]
    exact ⟨rfl, hb3⟩
end Go.Proofs.YtpmeabikhonaoaaDoor

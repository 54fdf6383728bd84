/- expr: Eval. -/
import Derived.Test.YtpmeabikhonaoaaDoorExpr13
import Derived.Test.YtpmeabikhonaoaaDoorExpr12
import Derived.Test.YtpmeabikhonaoaaDoorKb
namespace Go.Proofs.YtpmeabikhonaoaaDoor
open Go.RowKit

/-- The cells that Eval's closure has caught. -/
def OfSt (w : World) (bh bv bo : Nat) (here : Nat) (f : Value) : Prop :=
  w.cell? ⟨bh, 0, none⟩ = some (.int .u16 here) ∧ w.cell? ⟨bv, 0, none⟩ = some f ∧
  w.cell? ⟨bo, 0, none⟩ = some (.func (.func 44) #[] #[.pointer (some ⟨bh, 0, none⟩), .pointer (some ⟨bv, 0, none⟩), .pointer (some ⟨bo, 0, none⟩)])
theorem OfSt.keep {w w' : World} {bh bv bo here : Nat} {f : Value} (h : OfSt w bh bv bo here f) (hk : ∀ p : Addr, p.block < w.heap.size → w'.cell? p = w.cell? p) : OfSt w' bh bv bo here f :=
  ⟨(hk _ (World.block_lt_of_cell? _ _ h.1)).trans h.1, (hk _ (World.block_lt_of_cell? _ _ h.2.1)).trans h.2.1, (hk _ (World.block_lt_of_cell? _ _ h.2.2)).trans h.2.2⟩
/-- What a function value tells of any name. -/
def ValP (w0 : World) (K : FuncId) (caps : Array Value) (val : List UInt8 → Nat × Nat) : Prop :=
  (∀ name, (val name).1 ≤ 65535) ∧ (∀ args W, (callFunc K args).run Tryd.prog W = .ok (.enter K args) W) ∧ ∀ (name : List UInt8) (W : World), name.length ≤ 1000 → Below w0.heap.size w0 W → Calls Tryd.prog K (#[.string ⟨name.toArray⟩] ++ caps) W fun r w' => r = .returned (.tuple #[.int .u16 (val name).1, .int .i64 (val name).2]) ∧ Below W.heap.size W w'
def OfH (w0 : World) (bh bv bo here : Nat) (f : Value) (val : List UInt8 → Nat × Nat) (x : Ex) : Prop := ∀ (d : Nat) (v : Value) (w : World), rightE x d = true → fitE x = true → Below w0.heap.size w0 w → OfSt w bh bv bo here f → SubAt w (· < w.heap.size) v x.sub →
  Calls Tryd.prog 44 #[.agg #[.string ⟨x.op.toArray⟩, .int .u16 x.n, .string ⟨x.name.toArray⟩, v], .pointer (some ⟨bh, 0, none⟩), .pointer (some ⟨bv, 0, none⟩), .pointer (some ⟨bo, 0, none⟩)] w fun e w' => e = .returned (.tuple #[.int .u16 (evalE here val x).1, .int .i64 (evalE here val x).2]) ∧ Below w.heap.size w w'
theorem eval_le (here : Nat) (hh : here ≤ 65535) (val : List UInt8 → Nat × Nat) (hv : ∀ m, (val m).1 ≤ 65535) (x : Ex) : fitE x = true → (evalE here val x).1 ≤ 65535 := by
  induction x using Ex.ind with
  | h o n m s ih =>
    intro hf
    simp [fitE] at hf
    unfold evalE
    split
    · exact hf.1.1.1
    · split
      · exact hh
      · split
        · exact hv m
        · match s, ih, hf.2 with
          | [], _, _ => simp
          | [a], ih, hf => 
            simp [fitL] at hf
            have := ih a (by simp) hf
            dsimp only
            split
            · simp
            · split <;> simp <;> omega
          | [a, b], ih, hf =>
            simp [fitL] at hf
            have h1 := ih a (by simp) hf.1
            have h2 := ih b (by simp) hf.2
            dsimp only
            split
            · simp
            · split
              · simp
              · exact (two_ok o _ _ h1 h2).1
          | a :: b :: c :: r, _, _ => simp
section
variable (bh bv bo here : Nat)
set_option maxHeartbeats 1000000 in
theorem of_num (n : Nat) (A : Option Addr) (c : Nat) (w : World) :
    Calls Tryd.prog 44 #[.agg #[.string ⟨#[35]⟩, .int .u16 n, .string ⟨#[]⟩, .slice A 0 c], .pointer (some ⟨bh, 0, none⟩), .pointer (some ⟨bv, 0, none⟩), .pointer (some ⟨bo, 0, none⟩)] w fun e w' => e = .returned (.tuple #[.int .u16 n, .int .i64 0]) ∧ Below w.heap.size w w' := by
  go_enter Tryd.func44, Tryd.ntmps44
  go_wp2_with fail
  go_ret2
  exact ⟨rfl, (Below.refl _ _).alloc (Nat.le_refl _) _⟩
set_option maxHeartbeats 1000000 in
theorem of_here (A : Option Addr) (c : Nat) (f : Value) (w : World) (ho : OfSt w bh bv bo here f) :
    Calls Tryd.prog 44 #[.agg #[.string ⟨#[36]⟩, .int .u16 0, .string ⟨#[]⟩, .slice A 0 c], .pointer (some ⟨bh, 0, none⟩), .pointer (some ⟨bv, 0, none⟩), .pointer (some ⟨bo, 0, none⟩)] w fun e w' => e = .returned (.tuple #[.int .u16 here, .int .i64 0]) ∧ Below w.heap.size w w' := by
  obtain ⟨c1, c2, c3⟩ := ho
  have hl := World.block_lt_of_cell? _ _ c1
  clear c2 c3
  go_enter Tryd.func44, Tryd.ntmps44
  go_wp2_with fail
  go_ret2
  exact ⟨rfl, (Below.refl _ _).alloc (Nat.le_refl _) _⟩
set_option maxHeartbeats 1000000 in
set_option maxRecDepth 100000 in
theorem of_name (w0 : World) (K : FuncId) (caps : Array Value) (val : List UInt8 → Nat × Nat) (hv : ValP w0 K caps val) (m : List UInt8) (hm : m.length ≤ 1000) (A : Option Addr) (c : Nat) (w : World) (hw : Below w0.heap.size w0 w) (ho : OfSt w bh bv bo here (.func (.func K) #[] caps)) :
    Calls Tryd.prog 44 #[.agg #[.string ⟨#[110]⟩, .int .u16 0, .string ⟨m.toArray⟩, .slice A 0 c], .pointer (some ⟨bh, 0, none⟩), .pointer (some ⟨bv, 0, none⟩), .pointer (some ⟨bo, 0, none⟩)] w fun e w' => e = .returned (.tuple #[.int .u16 (val m).1, .int .i64 (val m).2]) ∧ Below w.heap.size w w' := by
  obtain ⟨c1, c2, c3⟩ := ho
  have hl := World.block_lt_of_cell? _ _ c2
  have HV := Lib.hid (fun W hW => hv.2.2 m W hm hW)
  have heg := hv.2.1
  have HW := Lib.hid hw
  have hsz := hw.size
  clear c1 c3 hv hw
  generalize val m = vm at *
  go_enter Tryd.func44, Tryd.ntmps44
  go_wp2_with fail
  refine (HV.out _ (HW.out.alloc hsz _)).mono ?_
  rintro e w1 ⟨rfl, hb1⟩
  go_wp2_with fail
  go_ret2
  exact ⟨rfl, ((Below.refl _ _).alloc (Nat.le_refl _) _).trans (hb1.mono (by simp))⟩
end
theorem xor_max (x : Nat) (hx : x ≤ 65535) : 65535 ^^^ x = 65535 - x := by
  have h : ((BitVec.allOnes 16) ^^^ (BitVec.ofNat 16 x)).toNat = 65535 ^^^ x := by
    rw [BitVec.toNat_xor, BitVec.toNat_ofNat, Nat.mod_eq_of_lt (by omega)]; rfl
  rw [← h, BitVec.allOnes_xor, BitVec.toNat_not, BitVec.toNat_ofNat, Nat.mod_eq_of_lt (by omega)]
theorem not16 (x : Nat) (hx : x ≤ 65535) : bits BinOp.xor IntKind.u16 IntKind.u16.max (x : Int) = ((65535 - x : Nat) : Int) := by
  have := xor16 65535 x (by omega) hx
  rw [xor_max x hx] at this
  exact this
/-- The value of one part, turned. -/
def oneV (o : List UInt8) (x : Nat × Nat) : Nat × Nat := if x.2 ≠ 0 then (0, x.2) else if o = sNOT then (65535 - x.1, 0) else ((65536 - x.1) % 65536, 0)
set_option maxHeartbeats 4000000 in
set_option maxRecDepth 100000 in
theorem of_one (w0 : World) (bh bv bo here : Nat) (f : Value) (val : List UInt8 → Nat × Nat) (o : List UInt8) (hoo : o = sNOT ∨ o = sNEG) (a : Ex) (d : Nat) (hr : rightE a d = true) (hf : fitE a = true) (hle : (evalE here val a).1 ≤ 65535) (ih : OfH w0 bh bv bo here f val a)
    (v : Value) (w : World) (hw : Below w0.heap.size w0 w) (ho : OfSt w bh bv bo here f) (hs : SubAt w (· < w.heap.size) v [a]) :
    Calls Tryd.prog 44 #[.agg #[.string ⟨o.toArray⟩, .int .u16 0, .string ⟨#[]⟩, v], .pointer (some ⟨bh, 0, none⟩), .pointer (some ⟨bv, 0, none⟩), .pointer (some ⟨bo, 0, none⟩)] w fun e w' => e = .returned (.tuple #[.int .u16 (oneV o (evalE here val a)).1, .int .i64 (oneV o (evalE here val a)).2]) ∧ Below w.heap.size w w' := by
  obtain ⟨A, c, rfl, hc, hm2⟩ := hs.form
  obtain ⟨g, q, va, hA, hgl, a0, a1, a2, a3, hsa, hna, _, _⟩ := hs.get 0 (by simp)
  subst hA
  obtain ⟨aA, ac, rfl, _, _⟩ := hsa.form
  simp only [List.getElem_cons_zero, Nat.zero_mul, Nat.add_zero, Nat.zero_add, List.length_cons, List.length_nil] at a0 a1 a2 a3 hsa hna hc hm2 ⊢
  have HI : Hid (∀ o1, Calls Tryd.prog 44 #[.agg #[.string ⟨a.op.toArray⟩, .int .u16 a.n, .string ⟨a.name.toArray⟩, .slice aA a.sub.length ac], .pointer (some ⟨bh, 0, none⟩), .pointer (some ⟨bv, 0, none⟩), .pointer (some ⟨bo, 0, none⟩)] (w.alloc o1).drew fun e w' => e = .returned (.tuple #[.int .u16 (evalE here val a).1, .int .i64 (evalE here val a).2]) ∧ Below (w.alloc o1).drew.heap.size (w.alloc o1).drew w') :=
    Lib.hid (fun o1 => ih d _ _ hr hf ((hw.alloc hw.size _).drew) (ho.keep (fun p hp => World.cell?_alloc_lt _ _ _ hp)) (hsa.keep (fun p hp => World.cell?_alloc_lt _ _ _ hp) (fun x (hx : x < w.heap.size) => by simp; omega)))
  obtain ⟨c1, c2, c3⟩ := ho
  have hl := World.block_lt_of_cell? _ _ c3
  have HV : Hid (oneV o (evalE here val a) = if (evalE here val a).2 ≠ 0 then (0, (evalE here val a).2) else if o = sNOT then (65535 - (evalE here val a).1, 0) else ((65536 - (evalE here val a).1) % 65536, 0)) := Lib.hid rfl
  generalize oneV o (evalE here val a) = res at *
  generalize evalE here val a = x at *
  obtain ⟨x, k⟩ := x
  dsimp only at *
  clear c1 c2 hs hsa ih hr hf hw
  have d1 : (o == [35]) = false := by rcases hoo with rfl | rfl <;> rfl
  have d2 : (o == [36]) = false := by rcases hoo with rfl | rfl <;> rfl
  have d3 : (o == [110]) = false := by rcases hoo with rfl | rfl <;> rfl
  go_enter Tryd.func44, Tryd.ntmps44
  go_wp2_with fail
  go_region_with (first | (go_at_call 44; (with_reducible refine (HI.out _).mono ?_); rintro e1 w2 ⟨rfl, hb2⟩))
  all_goals (
    obtain ⟨hcc, hff⟩ := bcell hb2
    have hbw : Below w.heap.size w w2 := ((Below.refl w.heap.size w).alloc (Nat.le_refl _) _).drew.trans (hb2.mono (by simp))
    have hz : w.heap.size < w2.heap.size := by have := hb2.size; simp at this; omega
    by_cases hk : k = 0
    · subst hk
      rw [if_neg (by simp)] at HV
      rcases hoo with rfl | rfl
      · rw [if_pos rfl] at HV
        go_simp
        go_wp2_with fail
        go_ret2
        rw [HV.out]
        exact ⟨ret_2int (not16 x hle) rfl, hbw⟩
      · rw [if_neg (by decide)] at HV
        go_simp
        go_wp2_with fail
        go_ret2
        rw [HV.out]
        exact ⟨ret_2int (by rw [wrap16]; show _ = (((65536 - x) % 65536 : Nat) : Int); omega) rfl, hbw⟩
    · rw [if_pos hk] at HV
      have hk1 : ((k : Int) == 0) = false := by rw [beq_eq_false_iff_ne]; omega
      go_simp
      go_wp2_with fail
      go_ret2
      rw [HV.out]
      exact ⟨rfl, hbw⟩)
/-- The value of two parts. -/
def twoV (o : List UInt8) (x y : Nat × Nat) : Nat × Nat := if x.2 ≠ 0 then (0, x.2) else if y.2 ≠ 0 then (0, y.2) else twoE o x.1 y.1
set_option maxHeartbeats 8000000 in
set_option maxRecDepth 100000 in
theorem of_two (w0 : World) (bh bv bo here : Nat) (f : Value) (val : List UInt8 → Nat × Nat) (o : List UInt8) (r : Nat) (hoo : binO o r) (a b : Ex) (d : Nat) (hr : rightE a d = true) (hr' : rightE b d = true) (hf : fitE a = true) (hf' : fitE b = true) (hle : (evalE here val a).1 ≤ 65535) (hle' : (evalE here val b).1 ≤ 65535) (ih : OfH w0 bh bv bo here f val a) (ih' : OfH w0 bh bv bo here f val b)
    (v : Value) (w : World) (hw : Below w0.heap.size w0 w) (ho : OfSt w bh bv bo here f) (hs : SubAt w (· < w.heap.size) v [a, b]) :
    Calls Tryd.prog 44 #[.agg #[.string ⟨o.toArray⟩, .int .u16 0, .string ⟨#[]⟩, v], .pointer (some ⟨bh, 0, none⟩), .pointer (some ⟨bv, 0, none⟩), .pointer (some ⟨bo, 0, none⟩)] w fun e w' => e = .returned (.tuple #[.int .u16 (twoV o (evalE here val a) (evalE here val b)).1, .int .i64 (twoV o (evalE here val a) (evalE here val b)).2]) ∧ Below w.heap.size w w' := by
  obtain ⟨A, c, rfl, hc, hm2⟩ := hs.form
  obtain ⟨g, q, va, hA, hgl, a0, a1, a2, a3, hsa, hna, _, _⟩ := hs.get 0 (by simp)
  obtain ⟨g', q', vb, hA', hgl', b0, b1, b2, b3, hsb, hnb, _, _⟩ := hs.get 1 (by simp)
  subst hA
  injection hA' with hA'
  injection hA' with hA' hA'' _
  subst hA' hA''
  obtain ⟨aA, ac, rfl, _, _⟩ := hsa.form
  obtain ⟨bA, bc, rfl, _, _⟩ := hsb.form
  simp only [List.getElem_cons_zero, List.getElem_cons_succ, Nat.zero_mul, Nat.add_zero, Nat.one_mul, Nat.zero_add, List.length_cons, List.length_nil] at a0 a1 a2 a3 b0 b1 b2 b3 hsa hsb hna hnb hc hm2 ⊢
  have HI : Hid (∀ o1, Calls Tryd.prog 44 #[.agg #[.string ⟨a.op.toArray⟩, .int .u16 a.n, .string ⟨a.name.toArray⟩, .slice aA a.sub.length ac], .pointer (some ⟨bh, 0, none⟩), .pointer (some ⟨bv, 0, none⟩), .pointer (some ⟨bo, 0, none⟩)] (w.alloc o1).drew fun e w' => e = .returned (.tuple #[.int .u16 (evalE here val a).1, .int .i64 (evalE here val a).2]) ∧ Below (w.alloc o1).drew.heap.size (w.alloc o1).drew w') :=
    Lib.hid (fun o1 => ih d _ _ hr hf ((hw.alloc hw.size _).drew) (ho.keep (fun p hp => World.cell?_alloc_lt _ _ _ hp)) (hsa.keep (fun p hp => World.cell?_alloc_lt _ _ _ hp) (fun x (hx : x < w.heap.size) => by simp; omega)))
  have HI' : Hid (∀ W, Below w.heap.size w W → Calls Tryd.prog 44 #[.agg #[.string ⟨b.op.toArray⟩, .int .u16 b.n, .string ⟨b.name.toArray⟩, .slice bA b.sub.length bc], .pointer (some ⟨bh, 0, none⟩), .pointer (some ⟨bv, 0, none⟩), .pointer (some ⟨bo, 0, none⟩)] W.drew fun e w' => e = .returned (.tuple #[.int .u16 (evalE here val b).1, .int .i64 (evalE here val b).2]) ∧ Below W.drew.heap.size W.drew w') :=
    Lib.hid (fun W hW => ih' d _ _ hr' hf' ((hw.trans (hW.mono hw.size)).drew) (ho.keep (fun p hp => hW.cell hp)) (hsb.keep (fun p hp => hW.cell hp) (fun x (hx : x < w.heap.size) => Nat.lt_of_lt_of_le hx hW.size)))
  obtain ⟨c1, c2, c3⟩ := ho
  have hl := World.block_lt_of_cell? _ _ c3
  have HV : Hid (twoV o (evalE here val a) (evalE here val b) = if (evalE here val a).2 ≠ 0 then (0, (evalE here val a).2) else if (evalE here val b).2 ≠ 0 then (0, (evalE here val b).2) else twoE o (evalE here val a).1 (evalE here val b).1) := Lib.hid rfl
  generalize twoV o (evalE here val a) (evalE here val b) = res at *
  generalize evalE here val a = x at *
  generalize evalE here val b = y at *
  obtain ⟨x, k⟩ := x
  obtain ⟨y, j⟩ := y
  dsimp only at *
  have HT := Lib.hid (fun W => two_any o x y hle hle' W)
  obtain ⟨_, n1, n2, n3, n4, n5⟩ := hoo.binds
  have d1 : (o == [35]) = false := by simpa using n1
  have d2 : (o == [36]) = false := by simpa using n4
  have d3 : (o == [110]) = false := by simpa using n2
  have d4 : (o == [78, 79, 84]) = false := by simpa using n5
  have d5 : (o == [78, 69, 71]) = false := by simpa using n3
  clear c1 c2 hs hsa hsb ih hr hf hw ih' hr' hf' n1 n2 n3 n4 n5 hoo
  generalize twoE o x y = t at *
  go_enter Tryd.func44, Tryd.ntmps44
  go_wp2_with fail
  go_region_with (first | (go_at_call 44; (with_reducible refine (HI.out _).mono ?_); rintro e1 w2 ⟨rfl, hb2⟩))
  all_goals (
    have hbw : Below w.heap.size w w2 := ((Below.refl w.heap.size w).alloc (Nat.le_refl _) _).drew.trans (hb2.mono (by simp))
    have hz : w.heap.size < w2.heap.size := by have := hb2.size; simp at this; omega
    have hhb : w2.heap[w.heap.size]? = some (.cells #[.string ⟨o.toArray⟩, .int .u16 0, .string ⟨#[]⟩, .slice (some ⟨g, q, none⟩) 2 c] 25 (0, 0)) := (hb2.block w.heap.size (by simp)).trans (heap_alloc_new _ _)
    have e0 : w2.cell? ⟨w.heap.size, 0, none⟩ = some (.string ⟨o.toArray⟩) := cell_of_heap hhb
    have e3 : w2.cell? ⟨w.heap.size, 3, none⟩ = some (.slice (some ⟨g, q, none⟩) 2 c) := cell_of_heap hhb
    have f0 := (hbw.cell (p := ⟨g, q + 4, none⟩) hgl).trans b0
    have f1 := (hbw.cell (p := ⟨g, q + 4 + 1, none⟩) hgl).trans b1
    have f2 := (hbw.cell (p := ⟨g, q + 4 + 2, none⟩) hgl).trans b2
    have f3 := (hbw.cell (p := ⟨g, q + 4 + 3, none⟩) hgl).trans b3
    have g3 := (hbw.cell (p := ⟨bo, 0, none⟩) hl).trans c3
    have HBW := Lib.hid hbw
    have HI2 := Lib.hid (HI'.out w2 hbw)
    clear hb2 hhb a0 a1 a2 a3 b0 b1 b2 b3 c3 HI HI' hbw
    by_cases hk : k = 0
    · subst hk
      rw [if_neg (by simp)] at HV
      go_simp
      go_wp2_with fail
      go_region_with (first | (go_at_call 44; (with_reducible refine HI2.out.mono ?_); rintro e1 w3 ⟨rfl, hb3⟩))
      all_goals (
        have hb4 : Below w.heap.size w w3 := HBW.out.drew.trans (hb3.mono HBW.out.size)
        have i0 := (hb3.cell (p := ⟨w.heap.size, 0, none⟩) hz).trans e0
        have hz3 : w.heap.size < w3.heap.size := Nat.lt_of_lt_of_le hz hb3.size
        clear hb3 e0 e3 f0 f1 f2 f3 g3 HI2
        by_cases hj : j = 0
        · subst hj
          rw [if_neg (by simp)] at HV
          go_simp
          go_wp2_with fail
          refine (HT.out _).mono ?_
          rintro e4 w4 ⟨rfl, rfl⟩
          go_wp2_with fail
          go_ret2
          rw [HV.out]
          exact ⟨rfl, hb4⟩
        · rw [if_pos hj] at HV
          have hj1 : ((j : Int) == 0) = false := by rw [beq_eq_false_iff_ne]; omega
          go_simp
          go_wp2_with fail
          go_ret2
          rw [HV.out]
          exact ⟨rfl, hb4⟩)
    · rw [if_pos hk] at HV
      have hk1 : ((k : Int) == 0) = false := by rw [beq_eq_false_iff_ne]; omega
      go_simp
      go_wp2_with fail
      go_ret2
      rw [HV.out]
      exact ⟨rfl, HBW.out⟩)
end Go.Proofs.YtpmeabikhonaoaaDoor

/- ref05: eval, Eval. -/
import Derived.Test.YtpmeabikhonaoaaDoorRef5f
import Derived.Test.YtpmeabikhonaoaaDoorRef5c
import Derived.Test.YtpmeabikhonaoaaDoorExpr21
namespace Go.Proofs.YtpmeabikhonaoaaDoor
open Go.RowKit

/-- eval's contract for a part. -/
def REvalH (here : Nat) (l : List Sy) (x : Ex) : Prop := ∀ (d : Nat) (v vl : Value) (w : World), rightE x d = true → fitE x = true → Rd w w.heap.size vl l.length (syRow l) → SubAt w (· < w.heap.size) v x.sub →
  Calls Tryd.prog 47 #[.agg #[.string ⟨x.op.toArray⟩, .int .u16 x.n, .string ⟨x.name.toArray⟩, v], .int .u16 here, vl] w fun e w' => e = .returned (.tuple #[.int .u16 (evalE here (findE l) x).1, .int .i64 (evalE here (findE l) x).2]) ∧ Below w.heap.size w w'
set_option maxHeartbeats 1000000 in
theorem reval_num (n here : Nat) (A : Option Addr) (c : Nat) (vl : Value) (hvl : ∃ A' n' c', vl = .slice A' n' c') (w : World) :
    Calls Tryd.prog 47 #[.agg #[.string ⟨#[35]⟩, .int .u16 n, .string ⟨#[]⟩, .slice A 0 c], .int .u16 here, vl] w fun e w' => e = .returned (.tuple #[.int .u16 n, .int .i64 0]) ∧ Below w.heap.size w w' := by
  obtain ⟨A', n', c', rfl⟩ := hvl
  go_enter Tryd.func47, Tryd.ntmps47
  go_wp2_with fail
  go_ret2
  exact ⟨rfl, (Below.refl _ _).alloc (Nat.le_refl _) _⟩
set_option maxHeartbeats 1000000 in
theorem reval_here (here : Nat) (A : Option Addr) (c : Nat) (vl : Value) (hvl : ∃ A' n' c', vl = .slice A' n' c') (w : World) :
    Calls Tryd.prog 47 #[.agg #[.string ⟨#[36]⟩, .int .u16 0, .string ⟨#[]⟩, .slice A 0 c], .int .u16 here, vl] w fun e w' => e = .returned (.tuple #[.int .u16 here, .int .i64 0]) ∧ Below w.heap.size w w' := by
  obtain ⟨A', n', c', rfl⟩ := hvl
  go_enter Tryd.func47, Tryd.ntmps47
  go_wp2_with fail
  go_ret2
  exact ⟨rfl, (Below.refl _ _).alloc (Nat.le_refl _) _⟩
set_option maxHeartbeats 1000000 in
theorem reval_name (m : List UInt8) (here : Nat) (l : List Sy) (hl : l.length ≤ 1000000) (A : Option Addr) (c : Nat) (vl : Value) (w : World) (hr : Rd w w.heap.size vl l.length (syRow l)) :
    Calls Tryd.prog 47 #[.agg #[.string ⟨#[110]⟩, .int .u16 0, .string ⟨m.toArray⟩, .slice A 0 c], .int .u16 here, vl] w fun e w' => e = .returned (.tuple #[.int .u16 (findE l m).1, .int .i64 (findE l m).2]) ∧ Below w.heap.size w w' := by
  have HF := Lib.hid (fun o => find5_any l m vl (w.alloc o) ((hr.keep (fun p hp => World.cell?_alloc_lt _ _ _ hp)).more (by simp)) hl)
  obtain ⟨A', c', rfl, _⟩ := hr.form
  clear hr
  generalize findE l m = f at *
  go_enter Tryd.func47, Tryd.ntmps47
  go_wp2_with fail
  refine (HF.out _).mono ?_
  rintro e w1 ⟨rfl, rfl⟩
  go_wp2_with fail
  go_ret2
  exact ⟨rfl, (Below.refl _ _).alloc (Nat.le_refl _) _⟩
set_option maxHeartbeats 2000000 in
theorem reval_one (here : Nat) (l : List Sy) (o : List UInt8) (hoo : o = sNOT ∨ o = sNEG) (a : Ex) (d : Nat) (hr : rightE a d = true) (hf : fitE a = true) (hle : (evalE here (findE l) a).1 ≤ 65535) (ih : REvalH here l a)
    (v vl : Value) (w : World) (hrd : Rd w w.heap.size vl l.length (syRow l)) (hs : SubAt w (· < w.heap.size) v [a]) :
    Calls Tryd.prog 47 #[.agg #[.string ⟨o.toArray⟩, .int .u16 0, .string ⟨#[]⟩, v], .int .u16 here, vl] w fun e w' => e = .returned (.tuple #[.int .u16 (oneV o (evalE here (findE l) a)).1, .int .i64 (oneV o (evalE here (findE l) a)).2]) ∧ Below w.heap.size w w' := by
  obtain ⟨A, c, rfl, hc, hm2⟩ := hs.form
  obtain ⟨g, q, va, hA, hgl, a0, a1, a2, a3, hsa, hna, _, _⟩ := hs.get 0 (by simp)
  subst hA
  obtain ⟨aA, ac, rfl, _, _⟩ := hsa.form
  simp only [List.getElem_cons_zero, Nat.zero_mul, Nat.add_zero, Nat.zero_add, List.length_cons, List.length_nil] at a0 a1 a2 a3 hsa hna hc hm2 ⊢
  have HI := Lib.hid (fun o1 => ih d _ vl (w.alloc o1) hr hf ((hrd.keep (fun p hp => World.cell?_alloc_lt _ _ _ hp)).more (by simp)) (hsa.keep (fun p hp => World.cell?_alloc_lt _ _ _ hp) (fun x (hx : x < w.heap.size) => by simp; omega)))
  obtain ⟨A', c', rfl, _⟩ := hrd.form
  have HV : Hid (oneV o (evalE here (findE l) a) = if (evalE here (findE l) a).2 ≠ 0 then (0, (evalE here (findE l) a).2) else if o = sNOT then (65535 - (evalE here (findE l) a).1, 0) else ((65536 - (evalE here (findE l) a).1) % 65536, 0)) := Lib.hid rfl
  generalize oneV o (evalE here (findE l) a) = res at *
  generalize evalE here (findE l) a = x at *
  obtain ⟨x, k⟩ := x
  dsimp only at *
  clear hs hsa ih hr hf hrd
  have d1 : (o == [35]) = false := by rcases hoo with rfl | rfl <;> rfl
  have d2 : (o == [36]) = false := by rcases hoo with rfl | rfl <;> rfl
  have d3 : (o == [110]) = false := by rcases hoo with rfl | rfl <;> rfl
  have hmk := mask16 (65536 - (x : Int))
  go_enter Tryd.func47, Tryd.ntmps47
  go_wp2_with fail
  refine (HI.out _).mono ?_
  rintro e1 w2 ⟨rfl, hb2⟩
  obtain ⟨hcc, hff⟩ := bcell hb2
  have hbw : Below w.heap.size w w2 := ((Below.refl w.heap.size w).alloc (Nat.le_refl _) _).trans (hb2.mono (by simp))
  have hz : w.heap.size < w2.heap.size := by have := hb2.size; simp at this; omega
  by_cases hk : k = 0
  · subst hk
    rw [if_neg (by simp)] at HV
    rcases hoo with rfl | rfl
    · rw [if_pos rfl] at HV
      go_wp2_with fail
      go_ret2
      rw [HV.out]
      exact ⟨ret_2int (by (try rw [wrap16]); (try dsimp only); omega) rfl, hbw⟩
    · rw [if_neg (by decide)] at HV
      go_wp2_with fail
      go_ret2
      rw [HV.out]
      exact ⟨ret_2int (by (try rw [wrap16]); (try dsimp only); omega) rfl, hbw⟩
  · rw [if_pos hk] at HV
    have hk1 : ((k : Int) == 0) = false := by rw [beq_eq_false_iff_ne]; omega
    go_wp2_with fail
    go_ret2
    rw [HV.out]
    exact ⟨rfl, hbw⟩
set_option maxHeartbeats 4000000 in
theorem reval_two (here : Nat) (l : List Sy) (o : List UInt8) (r : Nat) (hoo : binO o r) (a b : Ex) (d : Nat) (hr : rightE a d = true) (hr' : rightE b d = true) (hf : fitE a = true) (hf' : fitE b = true) (hle : (evalE here (findE l) a).1 ≤ 65535) (hle' : (evalE here (findE l) b).1 ≤ 65535) (ih : REvalH here l a) (ih' : REvalH here l b)
    (v vl : Value) (w : World) (hrd : Rd w w.heap.size vl l.length (syRow l)) (hs : SubAt w (· < w.heap.size) v [a, b]) :
    Calls Tryd.prog 47 #[.agg #[.string ⟨o.toArray⟩, .int .u16 0, .string ⟨#[]⟩, v], .int .u16 here, vl] w fun e w' => e = .returned (.tuple #[.int .u16 (twoV o (evalE here (findE l) a) (evalE here (findE l) b)).1, .int .i64 (twoV o (evalE here (findE l) a) (evalE here (findE l) b)).2]) ∧ Below w.heap.size w w' := by
  obtain ⟨A, c, rfl, hc, hm2⟩ := hs.form
  obtain ⟨g, q, va, hA, hgl, a0, a1, a2, a3, hsa, hna, _, _⟩ := hs.get 0 (by simp)
  obtain ⟨g', q', vb, hA', hgl', b0, b1, b2, b3, hsb, hnb, _, _⟩ := hs.get 1 (by simp)
  subst hA
  injection hA' with hA'
  injection hA' with hA' hA'' _
  subst hA' hA''
  obtain ⟨aA, ac, rfl, _, _⟩ := hsa.form
  obtain ⟨bA, bc, rfl, _, _⟩ := hsb.form
  simp only [List.getElem_cons_zero, List.getElem_cons_succ, Nat.zero_mul, Nat.add_zero, Nat.one_mul, Nat.zero_add, List.length_cons, List.length_nil] at a0 a1 a2 a3 b0 b1 b2 b3 hsa hsb hna hnb hc hm2 ⊢
  have HI := Lib.hid (fun W (hW : Below w.heap.size w W) => ih d _ vl W hr hf ((hrd.below hW).more hW.size) ((hsa.bel hW).more (fun x hx => Nat.lt_of_lt_of_le hx hW.size)))
  have HI' := Lib.hid (fun W (hW : Below w.heap.size w W) => ih' d _ vl W hr' hf' ((hrd.below hW).more hW.size) ((hsb.bel hW).more (fun x hx => Nat.lt_of_lt_of_le hx hW.size)))
  obtain ⟨A', c', rfl, _⟩ := hrd.form
  have HV : Hid (twoV o (evalE here (findE l) a) (evalE here (findE l) b) = if (evalE here (findE l) a).2 ≠ 0 then (0, (evalE here (findE l) a).2) else if (evalE here (findE l) b).2 ≠ 0 then (0, (evalE here (findE l) b).2) else twoE o (evalE here (findE l) a).1 (evalE here (findE l) b).1) := Lib.hid rfl
  generalize twoV o (evalE here (findE l) a) (evalE here (findE l) b) = res at *
  generalize evalE here (findE l) a = x at *
  generalize evalE here (findE l) b = y at *
  obtain ⟨x, k⟩ := x
  obtain ⟨y, j⟩ := y
  dsimp only at *
  have HT := Lib.hid (fun W => refTwo_any o x y hle hle' W)
  obtain ⟨_, n1, n2, n3, n4, n5⟩ := hoo.binds
  have d1 : (o == [35]) = false := by simpa using n1
  have d2 : (o == [36]) = false := by simpa using n4
  have d3 : (o == [110]) = false := by simpa using n2
  have d4 : (o == [78, 79, 84]) = false := by simpa using n5
  have d5 : (o == [78, 69, 71]) = false := by simpa using n3
  clear hs hsa hsb ih hr hf ih' hr' hf' n1 n2 n3 n4 n5 hoo hrd
  generalize twoE o x y = t at *
  go_enter Tryd.func47, Tryd.ntmps47
  go_wp2_with fail
  refine (HI.out _ ((Below.refl _ _).alloc (Nat.le_refl _) _)).mono ?_
  rintro e1 w2 ⟨rfl, hb2⟩
  have hbw : Below w.heap.size w w2 := ((Below.refl w.heap.size w).alloc (Nat.le_refl _) _).trans (hb2.mono (by simp))
  have hz : w.heap.size < w2.heap.size := by have := hb2.size; simp at this; omega
  have hhb : w2.heap[w.heap.size]? = some (.cells #[.string ⟨o.toArray⟩, .int .u16 0, .string ⟨#[]⟩, .slice (some ⟨g, q, none⟩) 2 c] 25 (0, 0)) := (hb2.block w.heap.size (by simp)).trans (heap_alloc_new _ _)
  have e0 : w2.cell? ⟨w.heap.size, 0, none⟩ = some (.string ⟨o.toArray⟩) := cell_of_heap hhb
  have e3 : w2.cell? ⟨w.heap.size, 3, none⟩ = some (.slice (some ⟨g, q, none⟩) 2 c) := cell_of_heap hhb
  have f0 := (hbw.cell (p := ⟨g, q + 4, none⟩) hgl).trans b0
  have f1 := (hbw.cell (p := ⟨g, q + 4 + 1, none⟩) hgl).trans b1
  have f2 := (hbw.cell (p := ⟨g, q + 4 + 2, none⟩) hgl).trans b2
  have f3 := (hbw.cell (p := ⟨g, q + 4 + 3, none⟩) hgl).trans b3
  have HBW := Lib.hid hbw
  have HI2 := Lib.hid (HI'.out w2 hbw)
  clear hb2 hhb a0 a1 a2 a3 b0 b1 b2 b3 HI HI' hbw
  by_cases hk : k = 0
  · subst hk
    rw [if_neg (by simp)] at HV
    go_wp2_with fail
    refine HI2.out.mono ?_
    rintro e1 w3 ⟨rfl, hb3⟩
    have hb4 : Below w.heap.size w w3 := bthen HBW.out hb3
    have i0 := (hb3.cell (p := ⟨w.heap.size, 0, none⟩) hz).trans e0
    have hz3 : w.heap.size < w3.heap.size := Nat.lt_of_lt_of_le hz hb3.size
    clear hb3 e0 e3 f0 f1 f2 f3 HI2
    by_cases hj : j = 0
    · subst hj
      rw [if_neg (by simp)] at HV
      go_wp2_with fail
      refine (HT.out _).mono ?_
      rintro e4 w4 ⟨rfl, rfl⟩
      go_wp2_with fail
      go_ret2
      rw [HV.out]
      exact ⟨rfl, hb4⟩
    · rw [if_pos hj] at HV
      have hj1 : ((j : Int) == 0) = false := by rw [beq_eq_false_iff_ne]; omega
      go_wp2_with fail
      go_ret2
      rw [HV.out]
      exact ⟨rfl, hb4⟩
  · rw [if_pos hk] at HV
    have hk1 : ((k : Int) == 0) = false := by rw [beq_eq_false_iff_ne]; omega
    go_wp2_with fail
    go_ret2
    rw [HV.out]
    exact ⟨rfl, HBW.out⟩
theorem find_le (l : List Sy) (hl : ∀ s ∈ l, s.2 ≤ 65535) (m : List UInt8) : (findE l m).1 ≤ 65535 := by
  unfold findE
  split
  · rename_i s h
    exact hl s (List.mem_of_find?_eq_some h)
  · simp
theorem reval_any (here : Nat) (hh : here ≤ 65535) (l : List Sy) (hl : l.length ≤ 1000000) (hl2 : ∀ s ∈ l, s.2 ≤ 65535) (x : Ex) : REvalH here l x := by
  induction x using Ex.ind with
  | h o n m s ih =>
    intro d v vl w hr hf hrd hs
    have hform := rightE.form hr
    obtain ⟨A, c, rfl, hc, _⟩ := hs.form
    have hvl : ∃ A' n' c', vl = .slice A' n' c' := by obtain ⟨A', c', rfl, _⟩ := hrd.form; exact ⟨_, _, _, rfl⟩
    cases hform with
    | num n d =>
      have e := eval_num here (findE l) n
      unfold numE at e
      rw [e]
      exact reval_num n here A c vl hvl w
    | name m d =>
      rw [eval_name]
      exact reval_name m here l hl A c vl w hrd
    | here d =>
      rw [eval_here]
      exact reval_here here A c vl hvl w
    | neg a d hA =>
      rw [eval_one here (findE l) sNEG (.inr rfl)]
      simp [fitE, fitL] at hf
      exact reval_one here l sNEG (.inr rfl) a d hA hf (eval_le here hh _ (find_le l hl2) a hf) (ih a (by simp)) _ vl w hrd hs
    | not a d hA =>
      rw [eval_one here (findE l) sNOT (.inl rfl)]
      simp [fitE, fitL] at hf
      exact reval_one here l sNOT (.inl rfl) a d hA hf (eval_le here hh _ (find_le l hl2) a hf) (ih a (by simp)) _ vl w hrd hs
    | two o r a b d hoo h1 h2 =>
      rw [eval_twoV hoo]
      simp [fitE, fitL] at hf
      exact reval_two here l o r hoo a b d h1 h2 hf.2.1 hf.2.2 (eval_le here hh _ (find_le l hl2) a hf.2.1) (eval_le here hh _ (find_le l hl2) b hf.2.2) (ih a (by simp)) (ih b (by simp)) _ vl w hrd hs
set_option maxHeartbeats 2000000 in
theorem REval_any (e : Ex) (v vl : Value) (here : Nat) (hh : here ≤ 65535) (l : List Sy) (hl : l.length ≤ 1000000) (hl2 : ∀ s ∈ l, s.2 ≤ 65535) (w : World) (hf : fitE e = true) (hrd : Rd w w.heap.size vl l.length (syRow l)) (hs : SubAt w (· < w.heap.size) v e.sub) :
    Calls Tryd.prog 18 #[.agg #[.string ⟨e.op.toArray⟩, .int .u16 e.n, .string ⟨e.name.toArray⟩, v], .int .u16 here, vl] w fun r w' => r = .returned (.tuple #[.int .u16 (evalK here (findE l) e).1, .int .i64 (evalK here (findE l) e).2]) ∧ Below w.heap.size w w' := by
  have HR : Hid (∀ W, Below w.heap.size w W → Calls Tryd.prog 46 #[.agg #[.string ⟨e.op.toArray⟩, .int .u16 e.n, .string ⟨e.name.toArray⟩, v]] W fun r w' => r = .returned (.int .i64 ((if rightE e 24 then 0 else 2 : Nat) : Int)) ∧ Below W.heap.size W w') := Lib.hid (fun W hW => RRight_any e v W hf ((hs.bel hW).more (fun x hx => Nat.lt_of_lt_of_le hx hW.size)))
  have HO : Hid (∀ W, rightE e 24 = true → Below w.heap.size w W → Calls Tryd.prog 47 #[.agg #[.string ⟨e.op.toArray⟩, .int .u16 e.n, .string ⟨e.name.toArray⟩, v], .int .u16 here, vl] W fun r w' => r = .returned (.tuple #[.int .u16 (evalE here (findE l) e).1, .int .i64 (evalE here (findE l) e).2]) ∧ Below W.heap.size W w') :=
    Lib.hid (fun W hr hW => reval_any here hh l hl hl2 e 24 v vl W hr hf ((hrd.below hW).more hW.size) ((hs.bel hW).more (fun x hx => Nat.lt_of_lt_of_le hx hW.size)))
  have HE : Hid (evalK here (findE l) e = if rightE e 24 then evalE here (findE l) e else (0, 2)) := Lib.hid rfl
  obtain ⟨A, c, rfl, _, _⟩ := hs.form
  obtain ⟨A', c', rfl, _⟩ := hrd.form
  generalize evalK here (findE l) e = res at *
  clear hs hf hrd
  have hbw : Below w.heap.size w (w.alloc (.cells #[.string ⟨e.op.toArray⟩, .int .u16 e.n, .string ⟨e.name.toArray⟩, .slice A e.sub.length c] 25)) := (Below.refl _ _).alloc (Nat.le_refl _) _
  cases hr : rightE e 24 with
  | true =>
    rw [hr] at HR HE
    have HO' := Lib.hid (fun W => HO.out W hr)
    clear HO hr
    generalize evalE here (findE l) e = ev at *
    go_enter Tryd.func18, Tryd.ntmps18
    go_wp2_with fail
    refine (HR.out _ hbw).mono ?_
    rintro e0 w2 ⟨rfl, hb2⟩
    obtain ⟨hcc, hff⟩ := bcell hb2
    have hb3 := Lib.hid (bthen hbw hb2)
    clear hbw HR
    go_wp2_with fail
    refine (HO'.out _ hb3.out).mono ?_
    rintro e0 w3 ⟨rfl, hb4⟩
    clear hcc hff
    go_wp2_with fail
    go_ret2
    rw [HE.out]
    exact ⟨rfl, bthen hb3.out hb4⟩
  | false =>
    rw [hr] at HR HE
    clear HO hr
    go_enter Tryd.func18, Tryd.ntmps18
    go_wp2_with fail
    refine (HR.out _ hbw).mono ?_
    rintro e0 w2 ⟨rfl, hb2⟩
    have hb3 := bthen hbw hb2
    clear hbw hb2 HR
    go_wp2_with fail
    go_ret2
    rw [HE.out]
    exact ⟨rfl, hb3⟩
end Go.Proofs.YtpmeabikhonaoaaDoor

/- ref05: right (no name), Right. -/
import Derived.Test.YtpmeabikhonaoaaDoorRef5e
namespace Go.Proofs.YtpmeabikhonaoaaDoor
open Go.RowKit

def RRightH (x : Ex) : Prop := ∀ (d : Nat) (v : Value) (w : World), 1 ≤ d → d ≤ 100 → fitE x = true → SubAt w (· < w.heap.size) v x.sub →
  Calls Tryd.prog 69 #[.agg #[.string ⟨x.op.toArray⟩, .int .u16 x.n, .string ⟨x.name.toArray⟩, v], .int .i64 d] w fun e w' => e = .returned (.bool (rightE x (25 - d))) ∧ Below w.heap.size w w'
set_option maxHeartbeats 4000000 in
set_option maxRecDepth 100000 in
theorem rright_other (o : List UInt8) (n : Nat) (m : List UInt8) (s : List Ex) (hf : fitL s = true) (ih : ∀ x ∈ s, RRightH x) (ho : o ≠ sN) (d : Nat) (hd0 : 1 ≤ d) (hd : d ≤ 100) (v : Value) (w : World) (hs : SubAt w (· < w.heap.size) v s) :
    Calls Tryd.prog 69 #[.agg #[.string ⟨o.toArray⟩, .int .u16 n, .string ⟨m.toArray⟩, v], .int .i64 d] w fun e w' => e = .returned (.bool (rightE (.mk o n m s) (25 - d))) ∧ Below w.heap.size w w' := by
  have ho' : (o == [110]) = false := by simpa using ho
  have HB := Lib.hid (fun W => rank_any o W)
  have HR := rightE_mk o n m s (25 - d)
  rw [headE_other o n m s.length ho, rightL_all] at HR
  obtain ⟨A, c, rfl, hc, hm2⟩ := hs.form
  unfold maxLen at hm2
  have HS := Lib.hid hs
  have HI := Lib.hid ih
  have HF := Lib.hid (fitL_mem s hf)
  have HR' := Lib.hid HR
  clear HR hs ih hf
  generalize rightE (.mk o n m s) (25 - d) = res at *
  generalize bindsE o = br at *
  obtain ⟨rank, parts⟩ := br
  dsimp only at HB HR'
  by_cases h0 : 24 < d
  · have HRES : Hid (res = false) := Lib.hid (by rw [HR'.out, show (25 - d == 0) = true by simp; omega]; rfl)
    have h0' : (24 : Int) < (d : Int) := by omega
    go_enter Tryd.func69, Tryd.ntmps69
    go_wp2_with fail
    refine (HB.out _).mono ?_
    rintro e w1 ⟨rfl, rfl⟩
    go_wp2_with fail
    go_ret
    rw [HRES.out]
    exact ⟨rfl, (Below.refl _ _).alloc (Nat.le_refl _) _⟩
  have h0' : decide ((24 : Int) < (d : Int)) = false := by simp; omega
  have hd24 : (d : Int) ≤ 24 := by omega
  have h0b : (25 - d == 0) = false := by simp; omega
  rw [h0b] at HR'
  clear h0b
  by_cases h1 : rank = 0
  · have HRES : Hid (res = false) := Lib.hid (by rw [HR'.out, h1]; rfl)
    subst h1
    go_enter Tryd.func69, Tryd.ntmps69
    go_wp2_with fail
    refine (HB.out _).mono ?_
    rintro e w1 ⟨rfl, rfl⟩
    go_wp2_with fail
    go_ret
    rw [HRES.out]
    exact ⟨rfl, (Below.refl _ _).alloc (Nat.le_refl _) _⟩
  have h1' : ((rank : Int) == 0) = false := by rw [beq_eq_false_iff_ne]; omega
  have h1b : (rank == 0) = false := by simpa using h1
  rw [h1b] at HR'
  clear h1b
  rcases Classical.em (¬ (s.length = parts)) with h2 | h2
  · have HRES : Hid (res = false) := Lib.hid (by rw [HR'.out, show (s.length == parts) = false by simpa using h2]; simp)
    have h2' : ((s.length : Int) == (parts : Int)) = false := by rw [beq_eq_false_iff_ne]; omega
    have h2'' : ((s.length : Int) != (parts : Int)) = true := by rw [bne_iff_ne]; omega
    clear h2
    go_enter Tryd.func69, Tryd.ntmps69
    go_wp2_with fail
    refine (HB.out _).mono ?_
    rintro e w1 ⟨rfl, rfl⟩
    go_wp2_with fail
    go_ret
    rw [HRES.out]
    exact ⟨rfl, (Below.refl _ _).alloc (Nat.le_refl _) _⟩
  replace h2 := Classical.not_not.1 h2
  subst h2
  have h2' : ((s.length : Int) == (s.length : Int)) = true := by simp
  have h2'' : ((s.length : Int) != (s.length : Int)) = false := by simp
  by_cases h3 : o ≠ sNum ∧ n ≠ 0
  · have h3b : (n == 0 || o == sNum) = false := by simp; exact ⟨h3.2, h3.1⟩
    have HRES : Hid (res = false) := Lib.hid (by rw [HR'.out, h3b]; simp)
    have h3' : (o == [35]) = false := by simpa using h3.1
    have h3n : ((n : Int) != 0) = true := by rw [bne_iff_ne]; omega
    have h3n' : ((n : Int) == 0) = false := by rw [beq_eq_false_iff_ne]; omega
    clear h3 h3b
    go_enter Tryd.func69, Tryd.ntmps69
    go_wp2_with fail
    refine (HB.out _).mono ?_
    rintro e w1 ⟨rfl, rfl⟩
    go_wp2_with fail
    go_ret
    rw [HRES.out]
    exact ⟨rfl, (Below.refl _ _).alloc (Nat.le_refl _) _⟩
  have h3b : (n == 0 || o == sNum) = true := by
    rw [Bool.or_eq_true, beq_iff_eq, beq_iff_eq]
    by_cases hn : n = 0
    · exact .inl hn
    · exact .inr (Classical.byContradiction fun h => h3 ⟨h, hn⟩)
  rw [h3b] at HR'
  clear h3b
  have h3c : (o == [35]) = true ∨ ((o == [35]) = false ∧ n = 0) := by
    by_cases hon : o = sNum
    · exact .inl (by simpa using hon)
    · refine .inr ⟨by simpa using hon, Classical.byContradiction fun h => h3 ⟨hon, h⟩⟩
  clear h3
  rcases Classical.em (¬ (m = [])) with h4 | h4
  · have HRES : Hid (res = false) := Lib.hid (by rw [HR'.out, show (m == []) = false by simpa using h4]; simp)
    have h4' : (m == []) = false := by simpa using h4
    have h4'' : m.isEmpty = false := by simpa using h4
    clear h4
    rcases h3c with h3c | ⟨h3c, rfl⟩
    all_goals (
      go_enter Tryd.func69, Tryd.ntmps69
      go_wp2_with fail
      refine (HB.out _).mono ?_
      rintro e w1 ⟨rfl, rfl⟩
      go_wp2_with fail
      go_ret
      rw [HRES.out]
      exact ⟨rfl, (Below.refl _ _).alloc (Nat.le_refl _) _⟩)
  replace h4 := Classical.not_not.1 h4
  subst h4
  have HR2 : Hid (res = s.all (fun e => rightE e (25 - d - 1))) := Lib.hid (by rw [HR'.out]; simp)
  clear HR'
  rcases h3c with h3c | ⟨h3c, rfl⟩
  all_goals (
    go_enter Tryd.func69, Tryd.ntmps69
    go_wp2_with fail
    refine (HB.out _).mono ?_
    rintro e w1 ⟨rfl, rfl⟩
    go_wp2_with fail
    go_loopw [7] (fun i wr => ∃ k : Nat, k ≤ s.length ∧ i = .int .i64 k ∧ (s.take k).all (fun e => rightE e (25 - d - 1)) = true ∧ Below (w.heap.size + 1) (w.alloc (.cells #[.string ⟨o.toArray⟩, .int .u16 _, .string ⟨#[]⟩, .slice A s.length c] 25)) wr) (fun i _ => s.length - (intOf i).toNat)
    case atStart => exact ⟨0, Nat.zero_le _, rfl, rfl, Below.refl _ _⟩
    case round =>
      obtain ⟨k, hk, rfl, hall, hb⟩ := hrel
      have hz : w.heap.size < wr.heap.size := by have := hb.size; simp at this; omega
      have e3 := box_at hb 3 _ rfl
      have hbw : Below w.heap.size w wr := ((Below.refl _ _).alloc (Nat.le_refl _) _).trans (hb.mono (by omega))
      have HALL := Lib.hid hall
      have HBB := Lib.hid hb
      clear hall hb
      by_cases hlt : k < s.length
      · obtain ⟨g, q, vk, rfl, hg, c0, c1, c2, c3, hsub, hn, hoo⟩ := HS.out.get k hlt
        obtain ⟨vA, vc, rfl, _, _⟩ := hsub.form
        have d0 := (hbw.cell (p := ⟨g, q + k * 4, none⟩) hg).trans c0
        have d1 := (hbw.cell (p := ⟨g, q + k * 4 + 1, none⟩) hg).trans c1
        have d2 := (hbw.cell (p := ⟨g, q + k * 4 + 2, none⟩) hg).trans c2
        have d3 := (hbw.cell (p := ⟨g, q + k * 4 + 3, none⟩) hg).trans c3
        have HC : Hid (Calls Tryd.prog 69 #[.agg #[.string ⟨s[k].op.toArray⟩, .int .u16 s[k].n, .string ⟨s[k].name.toArray⟩, .slice vA s[k].sub.length vc], .int .i64 ((d : Int) + 1)] wr fun e w' => e = .returned (.bool (rightE s[k] (25 - d - 1))) ∧ Below wr.heap.size wr w') := Lib.hid (by
          have := HI.out s[k] (List.getElem_mem hlt) (d + 1) _ wr (by omega) (by omega) (HF.out s[k] (List.getElem_mem hlt)) ((hsub.bel hbw).more (fun x hx => Nat.lt_of_lt_of_le hx hbw.size))
          rwa [show ((d + 1 : Nat) : Int) = (d : Int) + 1 by omega, show 25 - (d + 1) = 25 - d - 1 by omega] at this)
        have HT : Hid ((s.take (k + 1)).all (fun e => rightE e (25 - d - 1)) = ((s.take k).all (fun e => rightE e (25 - d - 1)) && rightE s[k] (25 - d - 1))) := Lib.hid (by rw [List.take_succ_eq_append_getElem hlt, List.all_append]; simp)
        have HN : Hid (rightE s[k] (25 - d - 1) = false → res = false) := Lib.hid (fun h => by rw [HR2.out, List.all_eq_false]; exact ⟨s[k], List.getElem_mem hlt, by simp [h]⟩)
        generalize s[k] = ek at *
        have HBW := Lib.hid hbw
        clear c0 c1 c2 c3 hsub hbw
        cases hre : rightE ek (25 - d - 1) with
        | true =>
          rw [hre] at HC HT
          clear hre
          go_wp2_with fail
          refine HC.out.mono ?_
          rintro e0 w5 ⟨rfl, hb5⟩
          go_wp2_with fail
          go_roundw
          case rel => exact ⟨k + 1, by omega, by go_num, by rw [HT.out, HALL.out]; rfl, HBB.out.trans (hb5.mono hz)⟩
          case measure => simp [intOf]; omega
        | false =>
          rw [hre] at HC
          have hrl := HN.out hre
          clear hre HN
          subst hrl
          go_wp2_with fail
          refine HC.out.mono ?_
          rintro e0 w5 ⟨rfl, hb5⟩
          go_wp2_with fail
          go_ret
          exact ⟨rfl, bthen HBW.out hb5⟩
      · obtain rfl : k = s.length := by omega
        have hrl : res = true := by rw [HR2.out]; have := HALL.out; rwa [List.take_length] at this
        subst hrl
        have HBW := Lib.hid hbw
        clear hbw
        go_wp2_with fail
        go_ret
        exact ⟨rfl, HBW.out⟩)
theorem rright_any (x : Ex) : RRightH x := by
  induction x using Ex.ind with
  | h o n m s ih =>
    intro d v w hd0 hd hf hs
    simp only [fitE, Bool.and_eq_true, decide_eq_true_eq] at hf
    by_cases ho : o = sN
    · subst ho
      exact rright_name n m s d hd0 (by omega) v w hs (by omega)
    · exact rright_other o n m s hf.2 ih ho d hd0 hd v w hs
set_option maxHeartbeats 1000000 in
theorem RRight_any (e : Ex) (v : Value) (w : World) (hf : fitE e = true) (hs : SubAt w (· < w.heap.size) v e.sub) :
    Calls Tryd.prog 46 #[.agg #[.string ⟨e.op.toArray⟩, .int .u16 e.n, .string ⟨e.name.toArray⟩, v]] w fun r w' => r = .returned (.int .i64 ((if rightE e 24 then 0 else 2 : Nat) : Int)) ∧ Below w.heap.size w w' := by
  have HC : Hid (∀ o, Calls Tryd.prog 69 #[.agg #[.string ⟨e.op.toArray⟩, .int .u16 e.n, .string ⟨e.name.toArray⟩, v], .int .i64 1] (w.alloc o) fun r w' => r = .returned (.bool (rightE e 24)) ∧ Below (w.alloc o).heap.size (w.alloc o) w') := Lib.hid (fun o => rright_any e 1 v (w.alloc o) (by omega) (by omega) hf (hs.keep (fun p hp => World.cell?_alloc_lt _ _ _ hp) (fun g (hg : g < w.heap.size) => by simp; omega)))
  obtain ⟨A, c, rfl, _, _⟩ := hs.form
  clear hs hf
  cases hr : rightE e 24 with
  | true =>
    rw [hr] at HC
    go_enter Tryd.func46, Tryd.ntmps46
    go_wp2_with fail
    refine (HC.out _).mono ?_
    rintro e0 w2 ⟨rfl, hb2⟩
    go_wp2_with fail
    go_ret
    exact ⟨rfl, ((Below.refl _ _).alloc (Nat.le_refl _) _).trans (hb2.mono (by simp))⟩
  | false =>
    rw [hr] at HC
    go_enter Tryd.func46, Tryd.ntmps46
    go_wp2_with fail
    refine (HC.out _).mono ?_
    rintro e0 w2 ⟨rfl, hb2⟩
    go_wp2_with fail
    go_ret
    exact ⟨rfl, ((Below.refl _ _).alloc (Nat.le_refl _) _).trans (hb2.mono (by simp))⟩
end Go.Proofs.YtpmeabikhonaoaaDoor

/- expr: right, Right. -/
import Derived.Test.YtpmeabikhonaoaaDoorExpr9
import Derived.Test.YtpmeabikhonaoaaDoorKa
namespace Go.Proofs.YtpmeabikhonaoaaDoor
open Go.RowKit

theorem rightL_all (s : List Ex) (d : Nat) : rightL s d = s.all (fun e => rightE e d) := by
  induction s with
  | nil => rfl
  | cons e s ih => simp [rightL, ih]
theorem fitL_mem (s : List Ex) (h : fitL s = true) : ∀ e ∈ s, fitE e = true := by
  induction s with
  | nil => simp
  | cons a s ih =>
    simp only [fitL, Bool.and_eq_true] at h
    intro e he
    rcases List.mem_cons.1 he with rfl | he
    · exact h.1
    · exact ih h.2 e he
/-- right's contract for the parts. -/
def RightH (sub : List Ex) (d : Nat) : Prop := ∀ x ∈ sub, ∀ (v : Value) (w : World), SubAt w (· < w.heap.size) v x.sub →
  Calls Tryd.prog 68 #[.agg #[.string ⟨x.op.toArray⟩, .int .u16 x.n, .string ⟨x.name.toArray⟩, v], .int .i64 d] w fun e w' => e = .returned (.bool (rightE x d)) ∧ Below w.heap.size w w'
set_option maxHeartbeats 2000000 in
theorem rclo_any (sub : List Ex) (d : Nat) (hd : d ≤ 1000) (hR : RightH sub d) (x : Ex) (hx : x ∈ sub) (v : Value) (bm : Nat) (w : World) (hs : SubAt w (· < w.heap.size) v x.sub) (hm : w.cell? ⟨bm, 0, none⟩ = some (.int .i64 ((d + 1 : Nat) : Int))) :
    Calls Tryd.prog 102 #[.agg #[.string ⟨x.op.toArray⟩, .int .u16 x.n, .string ⟨x.name.toArray⟩, v], .pointer (some ⟨bm, 0, none⟩)] w fun e w' => e = .returned (.bool (!rightE x d)) ∧ Below w.heap.size w w' := by
  obtain ⟨A, c, rfl, _, _⟩ := hs.form
  have hlt := World.block_lt_of_cell? _ _ hm
  have HC := Lib.hid (fun o => hR x hx _ (w.alloc o) (hs.keep (fun p hp => World.cell?_alloc_lt _ _ _ hp) (fun g (hg : g < w.heap.size) => by simp; omega)))
  have hd' : ((d + 1 : Nat) : Int) - 1 = (d : Int) := by omega
  have hb1 : ((d + 1 : Nat) : Int) ≤ 1001 := by omega
  have hb2 : (1 : Int) ≤ ((d + 1 : Nat) : Int) := by omega
  generalize ((d + 1 : Nat) : Int) = z at *
  generalize rightE x d = rb at *
  clear hR hs
  go_enter Tryd.func102, Tryd.ntmps102
  go_wp2_with fail
  refine (HC.out _).mono ?_
  rintro e w2 ⟨rfl, hb2⟩
  go_wp2_with fail
  go_ret
  exact ⟨rfl, ((Below.refl _ _).alloc (Nat.le_refl _) _).trans (hb2.mono (by simp))⟩
set_option maxHeartbeats 2000000 in
theorem ridx_any (sub : List Ex) (d : Nat) (hd : d ≤ 1000) (hR : RightH sub d) (v : Value) (bm : Nat) (w : World) (hs : SubAt w (· < w.heap.size) v sub) (hm : w.cell? ⟨bm, 0, none⟩ = some (.int .i64 ((d + 1 : Nat) : Int))) :
    Calls Tryd.prog 134 #[v, .func (.func 102) #[] #[.pointer (some ⟨bm, 0, none⟩)]] w fun e w' => (∃ z : Int, e = .returned (.int .i64 z) ∧ decide (0 ≤ z) = !rightL sub d) ∧ Below w.heap.size w w' := by
  obtain ⟨A, c, rfl, hc, hm2⟩ := hs.form
  unfold maxLen at hm2
  have hltm := World.block_lt_of_cell? _ _ hm
  have HS := Lib.hid hs
  have HM := Lib.hid hm
  have HRL := Lib.hid (rightL_all sub d)
  generalize rightL sub d = rl at *
  have HR := Lib.hid hR
  clear hs hR hm
  go_enter Tryd.func134, Tryd.ntmps134
  go_wp2_with fail
  go_loopw [8] (fun i wr => ∃ k : Nat, k ≤ sub.length ∧ i = .int .i64 k ∧ (sub.take k).all (fun e => rightE e d) = true ∧ Below w.heap.size w wr) (fun i _ => sub.length - (intOf i).toNat)
  case atStart => exact ⟨0, Nat.zero_le _, rfl, rfl, Below.refl _ _⟩
  case round =>
    obtain ⟨k, hk, rfl, hall, hb⟩ := hrel
    have hsz := hb.size
    have HALL := Lib.hid hall
    clear hall
    by_cases hlt : k < sub.length
    · obtain ⟨g, q, vk, rfl, hg, c0, c1, c2, c3, hsub, hn, _, _⟩ := HS.out.get k hlt
      obtain ⟨vA, vc, rfl, _, _⟩ := hsub.form
      have d0 := (hb.cell (p := ⟨g, q + k * 4, none⟩) hg).trans c0
      have d1 := (hb.cell (p := ⟨g, q + k * 4 + 1, none⟩) hg).trans c1
      have d2 := (hb.cell (p := ⟨g, q + k * 4 + 2, none⟩) hg).trans c2
      have d3 := (hb.cell (p := ⟨g, q + k * 4 + 3, none⟩) hg).trans c3
      have hsk := (hsub.bel hb).more (S' := (· < wr.heap.size)) (fun x hx => Nat.lt_of_lt_of_le hx hsz)
      have hmr := (hb.cell (p := ⟨bm, 0, none⟩) hltm).trans HM.out
      have HC := Lib.hid (rclo_any sub d hd HR.out sub[k] (List.getElem_mem hlt) _ bm wr hsk hmr)
      have HT : Hid ((sub.take (k + 1)).all (fun e => rightE e d) = ((sub.take k).all (fun e => rightE e d) && rightE sub[k] d)) := Lib.hid (by rw [List.take_succ_eq_append_getElem hlt, List.all_append]; simp)
      have HN : Hid (rightE sub[k] d = false → rl = false) := Lib.hid (fun h => by rw [HRL.out, List.all_eq_false]; exact ⟨sub[k], List.getElem_mem hlt, by simp [h]⟩)
      generalize sub[k] = ek at *
      clear c0 c1 c2 c3 hsub hsk hmr
      cases hre : rightE ek d with
      | true =>
        rw [hre] at HC HT
        clear hre
        go_wp2_with fail
        refine HC.out.mono ?_
        rintro e0 w5 ⟨rfl, hb5⟩
        go_wp2_with fail
        go_roundw
        case rel => exact ⟨k + 1, by omega, by go_num, by rw [HT.out, HALL.out]; rfl, bthen hb hb5⟩
        case measure => simp [intOf]; omega
      | false =>
        rw [hre] at HC
        have hrl := HN.out hre
        clear hre HN
        subst hrl
        go_wp2_with fail
        refine HC.out.mono ?_
        rintro e0 w5 ⟨rfl, hb5⟩
        go_wp2_with fail
        go_ret
        exact ⟨⟨_, rfl, by simp⟩, bthen hb hb5⟩
    · obtain rfl : k = sub.length := by omega
      have hrl : rl = true := by rw [HRL.out]; have := HALL.out; rwa [List.take_length] at this
      subst hrl
      go_wp2_with fail
      go_ret
      exact ⟨⟨_, rfl, by simp⟩, hb⟩
set_option maxHeartbeats 2000000 in
theorem rcont_any (sub : List Ex) (d : Nat) (hd : d ≤ 1000) (hR : RightH sub d) (v : Value) (bm : Nat) (w : World) (hs : SubAt w (· < w.heap.size) v sub) (hm : w.cell? ⟨bm, 0, none⟩ = some (.int .i64 ((d + 1 : Nat) : Int))) :
    Calls Tryd.prog 101 #[v, .func (.func 102) #[] #[.pointer (some ⟨bm, 0, none⟩)]] w fun e w' => e = .returned (.bool (!rightL sub d)) ∧ Below w.heap.size w w' := by
  have HI := Lib.hid (ridx_any sub d hd hR v bm w hs hm)
  obtain ⟨A, c, rfl, hc, hm2⟩ := hs.form
  generalize rightL sub d = rl at *
  clear hR hs hm
  go_enter Tryd.func101, Tryd.ntmps101
  go_wp2_with fail
  refine HI.out.mono ?_
  rintro e w2 ⟨⟨z, rfl, hz⟩, hb2⟩
  have HZ := Lib.hid hz
  clear hz
  go_wp2_with fail
  go_ret
  exact ⟨ret_bool HZ.out, hb2⟩
end Go.Proofs.YtpmeabikhonaoaaDoor

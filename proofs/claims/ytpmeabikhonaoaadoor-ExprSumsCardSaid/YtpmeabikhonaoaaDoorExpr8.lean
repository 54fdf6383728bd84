/- expr: Parse. -/
import Derived.Test.YtpmeabikhonaoaaDoorExpr7
import Derived.RegionTactic
import Derived.BigRegion
namespace Go.Proofs.YtpmeabikhonaoaaDoor
open Go.RowKit

theorem pP_deep : ∀ f, (∀ r s, deepE (pP f r s).1 ≤ f * f + 1) ∧ (∀ r e s, deepE (lP f r e s).1 ≤ max (deepE e) (f * f + 1) + f) := by
  intro f
  induction f with
  | zero => exact ⟨fun r s => by simp [pP, ex0, deepE, deepL], fun r e s => by simp [lP]; omega⟩
  | succ f ih =>
    have hsq : (f + 1) * (f + 1) = f * f + 2 * f + 1 := by rw [Nat.mul_add, Nat.add_mul]; omega
    have h1 : ∀ e : Ex, ∀ o, deepE (.mk o 0 [] [e]) = deepE e + 1 := fun e o => by simp [deepE, deepL]
    have hw : ∀ r s, deepE (wIn (pP f r) s).1 ≤ f * f + 1 := by
      intro r s
      unfold wIn
      dsimp only
      split
      · simp [ex0, deepE, deepL]
      · exact ih.1 r _
    have hx0 : deepE ex0 = 1 := by simp [ex0, deepE, deepL]
    have hm0 : ∀ o n m, deepE (.mk o n m []) = 1 := fun o n m => by simp [deepE, deepL]
    refine ⟨fun r s => ?_, fun r e s => ?_⟩
    · rw [pP_succ]
      split
      · split
        · show deepE (.mk sNOT 0 [] [(wIn (pP f 3) s.skip).1]) ≤ _
          rw [h1]; have := hw 3 s.skip; cases f <;> omega
        · have := ih.1 4 s; omega
      · split
        · split
          · show deepE (.mk sNEG 0 [] [(wIn (pP f 6) s.skip).1]) ≤ _
            rw [h1]; have := hw 6 s.skip; cases f <;> omega
          · have := ih.1 7 s; omega
        · split
          · unfold atomP
            have := hw 1 s.skip
            split
            · show deepE ex0 ≤ _; omega
            · split
              · split
                · show deepE ex0 ≤ _; omega
                · show deepE (.mk _ _ _ []) ≤ _; rw [hm0]; omega
              · split
                · show deepE (.mk _ _ _ []) ≤ _; rw [hm0]; omega
                · split
                  · split
                    · show deepE (.mk _ _ _ []) ≤ _; rw [hm0]; omega
                    · show deepE ex0 ≤ _; omega
                  · split
                    · split
                      · show deepE (.mk _ _ _ []) ≤ _; rw [hm0]; omega
                      · split
                        · dsimp only
                          split
                          · show deepE (wIn (pP f 1) s.skip).1 ≤ _; omega
                          · show deepE ex0 ≤ _; omega
                        · show deepE ex0 ≤ _; omega
                    · show deepE ex0 ≤ _; omega
          · have a := ih.1 (r + 1) s
            have c := ih.2 r (pP f (r + 1) s).1 (pP f (r + 1) s).2
            omega
    · rw [lP_succ]
      split
      · split
        · show deepE e ≤ _; omega
        · rename_i o _
          have a := ih.1 (r + 1) s.skip
          have c := ih.2 r (.mk o 0 [] [e, (pP f (r + 1) s.skip).1]) (pP f (r + 1) s.skip).2
          have d : deepE (.mk o 0 [] [e, (pP f (r + 1) s.skip).1]) = max (deepE e) (deepE (pP f (r + 1) s.skip).1) + 1 := by simp [deepE, deepL]
          rw [d] at c
          omega
      · show deepE e ≤ _; omega
/-- What Parse leaves. -/
def ParseP (w : World) (res : Ex × Nat × Nat) (e : Ending) (w' : World) : Prop :=
  ∃ vs, e = .returned (.tuple #[.agg #[.string ⟨res.1.op.toArray⟩, .int .u16 res.1.n, .string ⟨res.1.name.toArray⟩, vs], .int .i64 res.2.1, .int .i64 res.2.2]) ∧ SubAt w' (fun g => w.heap.size ≤ g ∧ g < w'.heap.size) vs res.1.sub ∧ okE res.1 ∧ Below w.heap.size w w'
theorem below_grown {w w' w0 : World} {b : Nat} (h0 : Below w.heap.size w w0) (hg : w0.grownBy w' (some b)) (hb : w.heap.size ≤ b) : Below w.heap.size w w' :=
  h0.grown hg h0.size (fun g h => by injection h with h; omega)
set_option maxHeartbeats 4000000 in
set_option maxRecDepth 100000 in
theorem parse5_any (ts : List Tok) (v : Value) (w : World) (hr : Rd w w.heap.size v ts.length (tokRow ts)) (hl : ts.length ≤ 1000) (ht : ∀ t ∈ ts, t.2.2 ≤ 65535 ∧ t.2.1.length ≤ 1000) :
    Calls Tryd.prog 50 #[v] w (ParseP w (parseE ts)) := by
  obtain ⟨A, c, rfl, hc⟩ := hr.form
  have hp : ∀ o1, PSt ((w.alloc o1).alloc (.cells #[.slice A ts.length c, .int .i64 0, .int .i64 0] 103)) (w.heap.size + 1) ⟨ts, 0, 0⟩ := fun o1 =>
    ⟨_, heap_last (by simp) _, ((hr.keep (fun p hp => by rw [World.cell?_alloc_lt _ _ _ (by simp; omega), World.cell?_alloc_lt _ _ _ hp])).more (by omega)), ht⟩
  have HP := Lib.hid hp
  have hB := bin_all (w.heap.size + 1) (8 * ts.length + 7) 1 ts.length (by omega) (by omega) (by omega) (by omega) ⟨ts, 0, 0⟩
  have hdp := (pP_deep (8 * ts.length + 7)).1 1 ⟨ts, 0, 0⟩
  have hdb : (8 * ts.length + 7) * (8 * ts.length + 7) + 1 ≤ 1000000000 := by
    have : (8 * ts.length + 7) * (8 * ts.length + 7) ≤ 8007 * 8007 := Nat.mul_le_mul (by omega) (by omega)
    omega
  have hiv := ((pP_inv (8 * ts.length + 7)).1 1 ⟨ts, 0, 0⟩).1
  have HE : Hid (parseE ts = if (pP (8 * ts.length + 7) 1 ⟨ts, 0, 0⟩).2.k ≠ 0 then (ex0, 0, (pP (8 * ts.length + 7) 1 ⟨ts, 0, 0⟩).2.k) else if 24 < deepE (pP (8 * ts.length + 7) 1 ⟨ts, 0, 0⟩).1 then (ex0, 0, 11) else ((pP (8 * ts.length + 7) 1 ⟨ts, 0, 0⟩).1, ts.length - (pP (8 * ts.length + 7) 1 ⟨ts, 0, 0⟩).2.ts.length, 0)) := Lib.hid rfl
  generalize parseE ts = out at *
  generalize pP (8 * ts.length + 7) 1 ⟨ts, 0, 0⟩ = res at *
  obtain ⟨re, rs⟩ := res
  dsimp only at hiv hdp HE
  have hdr : deepE re ≤ 1000000000 := by omega
  have HB : Hid (∀ W, PSt W (w.heap.size + 1) ⟨ts, 0, 0⟩ → Calls Tryd.prog 84 #[.pointer (some ⟨w.heap.size + 1, 0, none⟩), .int .i64 1] W (PPost (w.heap.size + 1) W (re, rs))) := Lib.hid (fun W hW => hB W hW (Nat.le_refl _) (by show 0 ≤ 48; omega))
  clear hr ht hp hB hdp hdb
  go_enter Tryd.func50, Tryd.ntmps50
  go_wp2_with fail
  refine (HB.out _ (HP.out _)).mono ?_
  rintro e w2 ⟨vs, rfl, hsub, hok, hps2, hgr2⟩
  obtain ⟨sA, sc, rfl, hsc, hsm⟩ := hsub.form
  have hsz2 : w.heap.size + 2 ≤ w2.heap.size := by have := hgr2.size; simpa using this
  have hh2 : w2.heap[w.heap.size]? = some (.cells #[.string ⟨#[]⟩, .int .u16 0, .string ⟨#[]⟩, .slice none 0 0] 25 (0, 0)) := (hgr2.block w.heap.size (by simp; omega) (by simp)).trans ((heap_alloc_old _ _ _ (by simp)).trans (heap_last rfl _))
  have hbel : Below w.heap.size w w2 := below_grown (((Below.refl _ _).alloc (Nat.le_refl _) _).alloc (by simp) _) hgr2 (by omega)
  have hsub2 := hsub.more (S' := fun g => w.heap.size + 2 ≤ g ∧ g < w2.heap.size) (fun g hg => by simpa using hg)
  obtain ⟨pA, pc, p0, p1, p2, f0, f1, f2, hc2, hrd⟩ := hps2.cells
  have hltb := hps2.lt
  obtain ⟨⟨k0, k1, k2, k3⟩, g0, g1, g2, g3⟩ := four hh2
  have HSUB := Lib.hid hsub2
  have HH2 := Lib.hid hh2
  have HPS2 := Lib.hid hps2
  dsimp only at *
  clear hsub hsub2 hps2 hgr2 hh2 hrd HB HP p2 f2
  have hH : w.heap.size < w2.heap.size := by omega
  have hHb : w.heap.size ≠ w.heap.size + 1 := by omega
  by_cases hk : rs.k = 0
  · rw [if_neg (by simp [hk])] at HE
    rw [hk] at p1
    have HD := Lib.hid (deep_any re (.slice sA re.sub.length sc) (w2.alloc (.cells #[.string ⟨re.op.toArray⟩, .int .u16 re.n, .string ⟨re.name.toArray⟩, .slice sA re.sub.length sc] 25)) (HSUB.out.alloc' _ (fun g hg => hg.2) (fun g hg => by simp; omega)) hdr)
    generalize deepE re = dp at *
    go_wp2_with fail
    refine HD.out.mono ?_
    rintro e w4 ⟨rfl, hb4⟩
    have hsz4 : w2.heap.size + 1 ≤ w4.heap.size := by have := hb4.size; simpa using this
    obtain ⟨qA, qc, P0, P1, _, _, F1, _, _, _⟩ := ((HPS2.out.alloc (.cells #[.string ⟨re.op.toArray⟩, .int .u16 re.n, .string ⟨re.name.toArray⟩, .slice sA re.sub.length sc] 25)).below hb4).cells
    rw [hk] at P1
    have hh4 : w4.heap[w.heap.size]? = some (.cells #[.string ⟨#[]⟩, .int .u16 0, .string ⟨#[]⟩, .slice none 0 0] 25 (0, 0)) := (hb4.block w.heap.size (by simp; omega)).trans ((heap_alloc_old _ _ _ hH).trans HH2.out)
    have he4 : w4.heap[w2.heap.size]? = some (.cells #[.string ⟨re.op.toArray⟩, .int .u16 re.n, .string ⟨re.name.toArray⟩, .slice sA re.sub.length sc] 25 (0, 0)) := (hb4.block w2.heap.size (by simp)).trans (heap_last rfl _)
    obtain ⟨⟨K0, K1, K2, K3⟩, G0, G1, G2, G3⟩ := four hh4
    obtain ⟨⟨E0, E1, E2, E3⟩, _⟩ := four he4
    have hbel4 : Below w.heap.size w w4 := (hbel.alloc (by omega) _).trans (hb4.mono (by simp; omega))
    have HSUB4 : Hid (SubAt w4 (fun g => w.heap.size + 2 ≤ g ∧ g < w2.heap.size) (.slice sA re.sub.length sc) re.sub) := Lib.hid ((HSUB.out.alloc' _ (fun g hg => hg.2) (fun g hg => hg)).keep (fun p hp => hb4.cell (by simp; omega)) (fun _ h => h))
    have hH4 : w.heap.size < w4.heap.size := by omega
    have hB4 : w.heap.size + 1 < w4.heap.size := by omega
    clear hb4 hh4 he4 p0 p1 f0 f1 k0 k1 k2 k3 g0 g1 g2 g3 HSUB HD hbel
    by_cases hd : 24 < dp
    · rw [if_pos hd] at HE
      have hd' : (24 : Int) < (dp : Int) := by omega
      go_wp2_with fail
      go_region
      all_goals (
        go_wp2_with fail
        rw [HE.out]
        refine bodyPost_ret (v := .tuple #[.agg #[.string ⟨#[]⟩, .int .u16 0, .string ⟨#[]⟩, .slice none 0 0], .int .i64 0, .int .i64 11]) (by simp [results, Tryd.results50, go_sem, K0, K1, K2, K3]) rfl ⟨.slice none 0 0, rfl, SubAt.nil _ _, ok0, ?_⟩
        exact (((((hbel4.setCell (by simp) _).setCell (Nat.le_refl _) _).setCell (Nat.le_refl _) _).setCell (Nat.le_refl _) _).setCell (Nat.le_refl _) _).drew)
    · rw [if_neg hd] at HE
      have hd' : decide ((24 : Int) < (dp : Int)) = false := by simp; omega
      have hd2 : decide (24 < dp) = false := by simp; omega
      have hlen1 : (rs.ts.length : Int) ≤ (ts.length : Int) := by omega
      have hlen2 : (ts.length : Int) ≤ 1000 := by omega
      go_wp2_with fail
      have hsubl : IntKind.i64.wrap ((ts.length : Int) - (rs.ts.length : Int)) = (ts.length : Int) - (rs.ts.length : Int) := IntWalk.i64_in _ (by omega)
      go_region
      all_goals (
        go_wp2_with fail
        rw [HE.out]
        refine bodyPost_ret (v := .tuple #[.agg #[.string ⟨re.op.toArray⟩, .int .u16 re.n, .string ⟨re.name.toArray⟩, .slice sA re.sub.length sc], .int .i64 ((ts.length - rs.ts.length : Nat) : Int), .int .i64 0]) (by simp [results, Tryd.results50, go_sem, K0, K1, K2, K3]; omega) rfl ⟨_, rfl, ?_, hok, ?_⟩
        · exact (HSUB4.out.four (k := w.heap.size) (S' := fun g => w.heap.size ≤ g ∧ g < w4.heap.size) (by omega) (fun g hg => by omega) _ _ _ _).keep (fun _ _ => rfl) (fun g hg => by simp; omega)
        · exact ((((hbel4.setCell (Nat.le_refl _) _).setCell (Nat.le_refl _) _).setCell (Nat.le_refl _) _).setCell (Nat.le_refl _) _).drew)
  · rw [if_pos hk] at HE
    have hk1 : ((rs.k : Int) == 0) = false := by rw [beq_eq_false_iff_ne]; omega
    go_wp2_with fail
    go_region
    all_goals (
      go_wp2_with fail
      rw [HE.out]
      refine bodyPost_ret (v := .tuple #[.agg #[.string ⟨#[]⟩, .int .u16 0, .string ⟨#[]⟩, .slice none 0 0], .int .i64 0, .int .i64 rs.k]) (by simp [results, Tryd.results50, go_sem, k0, k1, k2, k3, hH]) rfl ⟨.slice none 0 0, rfl, SubAt.nil _ _, ok0, ?_⟩
      exact (((((hbel.setCell (Nat.le_refl _) _).setCell (Nat.le_refl _) _).setCell (Nat.le_refl _) _).setCell (Nat.le_refl _) _).alloc (by simp; omega) _).drew)
end Go.Proofs.YtpmeabikhonaoaaDoor

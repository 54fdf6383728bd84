/- expr: All. -/
import Derived.Test.YtpmeabikhonaoaaDoorExpr8
namespace Go.Proofs.YtpmeabikhonaoaaDoor
open Go.RowKit

/-- What All leaves. -/
def AllP (w : World) (res : Ex × Nat) (e : Ending) (w' : World) : Prop :=
  ∃ vs, e = .returned (.tuple #[.agg #[.string ⟨res.1.op.toArray⟩, .int .u16 res.1.n, .string ⟨res.1.name.toArray⟩, vs], .int .i64 res.2]) ∧ SubAt w' (fun g => w.heap.size ≤ g ∧ g < w'.heap.size) vs res.1.sub ∧ okE res.1 ∧ Below w.heap.size w w'
theorem parse_len (ts : List Tok) : (parseE ts).2.1 ≤ ts.length := by
  unfold parseE
  dsimp only
  split
  · simp
  · split <;> simp
set_option maxHeartbeats 4000000 in
set_option maxRecDepth 100000 in
theorem all_any (ts : List Tok) (v : Value) (w : World) (hr : Rd w w.heap.size v ts.length (tokRow ts)) (hl : ts.length ≤ 1000) (ht : ∀ t ∈ ts, t.2.2 ≤ 65535 ∧ t.2.1.length ≤ 1000) :
    Calls Tryd.prog 21 #[v] w (AllP w (allE ts)) := by
  have HP := Lib.hid (fun o => parse5_any ts v (w.alloc o) ((hr.keep (fun p hp => World.cell?_alloc_lt _ _ _ hp)).more (by simp)) hl ht)
  obtain ⟨A, c, rfl, hc⟩ := hr.form
  have HE : Hid (allE ts = if (parseE ts).2.2 ≠ 0 then (ex0, (parseE ts).2.2) else if (parseE ts).2.1 < ts.length then (ex0, 2) else ((parseE ts).1, 0)) := Lib.hid rfl
  have hpl := parse_len ts
  generalize allE ts = out at *
  generalize parseE ts = res at *
  obtain ⟨re, rn, rk⟩ := res
  dsimp only at HE hpl
  clear hr ht
  go_enter Tryd.func21, Tryd.ntmps21
  go_wp2_with fail
  refine (HP.out _).mono ?_
  rintro e w2 ⟨vs, rfl, hsub, hok, hb2⟩
  obtain ⟨sA, sc, rfl, hsc, hsm⟩ := hsub.form
  have hsz2 : w.heap.size + 1 ≤ w2.heap.size := by have := hb2.size; simpa using this
  have hh2 : w2.heap[w.heap.size]? = some (.cells #[.string ⟨#[]⟩, .int .u16 0, .string ⟨#[]⟩, .slice none 0 0] 25 (0, 0)) := (hb2.block w.heap.size (by simp)).trans (heap_last rfl _)
  obtain ⟨⟨k0, k1, k2, k3⟩, g0, g1, g2, g3⟩ := four hh2
  have hbel : Below w.heap.size w w2 := ((Below.refl _ _).alloc (Nat.le_refl _) _).trans (hb2.mono (by simp))
  have HSUB : Hid (SubAt w2 (fun g => w.heap.size + 1 ≤ g ∧ g < w2.heap.size) (.slice sA re.sub.length sc) re.sub) := Lib.hid (hsub.more (fun g hg => by simpa using hg))
  have hH : w.heap.size < w2.heap.size := by omega
  clear hsub hb2 hh2 HP
  dsimp only at *
  by_cases hk : rk = 0
  · subst hk
    rw [if_neg (by simp)] at HE
    by_cases hn : rn < ts.length
    · rw [if_pos hn] at HE
      have hn' : (rn : Int) < (ts.length : Int) := by omega
      go_wp2_with fail
      rw [HE.out]
      refine bodyPost_ret (v := .tuple #[.agg #[.string ⟨#[]⟩, .int .u16 0, .string ⟨#[]⟩, .slice none 0 0], .int .i64 2]) (by simp [results, Tryd.results21, go_sem, k0, k1, k2, k3, hH]) rfl ⟨.slice none 0 0, rfl, SubAt.nil _ _, ok0, ?_⟩
      exact ((((hbel.setCell (Nat.le_refl _) _).setCell (Nat.le_refl _) _).setCell (Nat.le_refl _) _).setCell (Nat.le_refl _) _).alloc (by simp; omega) _
    · rw [if_neg hn] at HE
      have hn' : decide (rn < ts.length) = false := by simp; omega
      go_wp2_with fail
      rw [HE.out]
      refine bodyPost_ret (v := .tuple #[.agg #[.string ⟨re.op.toArray⟩, .int .u16 re.n, .string ⟨re.name.toArray⟩, .slice sA re.sub.length sc], .int .i64 0]) (by simp [results, Tryd.results21, go_sem, k0, k1, k2, k3, hH]) rfl ⟨_, rfl, ?_, hok, ?_⟩
      · exact (HSUB.out.four (k := w.heap.size) (S' := fun g => w.heap.size + 1 ≤ g ∧ g < w2.heap.size) (by omega) (fun g hg => hg) _ _ _ _).alloc' _ (fun g hg => by simp; omega) (fun g hg => by simp; omega)
      · exact ((((hbel.setCell (Nat.le_refl _) _).setCell (Nat.le_refl _) _).setCell (Nat.le_refl _) _).setCell (Nat.le_refl _) _).alloc (by simp; omega) _
  · rw [if_pos hk] at HE
    have hk1 : ((rk : Int) == 0) = false := by rw [beq_eq_false_iff_ne]; omega
    go_wp2_with fail
    rw [HE.out]
    refine bodyPost_ret (v := .tuple #[.agg #[.string ⟨#[]⟩, .int .u16 0, .string ⟨#[]⟩, .slice none 0 0], .int .i64 rk]) (by simp [results, Tryd.results21, go_sem, k0, k1, k2, k3, hH]) rfl ⟨.slice none 0 0, rfl, SubAt.nil _ _, ok0, ?_⟩
    exact ((((hbel.setCell (Nat.le_refl _) _).setCell (Nat.le_refl _) _).setCell (Nat.le_refl _) _).setCell (Nat.le_refl _) _).alloc (by simp; omega) _
end Go.Proofs.YtpmeabikhonaoaaDoor

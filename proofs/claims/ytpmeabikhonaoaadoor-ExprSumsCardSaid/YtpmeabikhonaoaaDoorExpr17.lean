/- expr: Show. -/
import Derived.Test.YtpmeabikhonaoaaDoorExpr16
namespace Go.Proofs.YtpmeabikhonaoaaDoor
open Go.RowKit

def showK (e : Ex) : List UInt8 := if rightE e 24 then showE e 1 else []
set_option maxHeartbeats 1000000 in
theorem Show_any (e : Ex) (v : Value) (w : World) (hf : fitE e = true) (hg : GW w) (hs : SubAt w (· < w.heap.size) v e.sub) :
    Calls Tryd.prog 19 #[.agg #[.string ⟨e.op.toArray⟩, .int .u16 e.n, .string ⟨e.name.toArray⟩, v]] w fun r w' => r = .returned (.tuple #[.string ⟨(showK e).toArray⟩, .int .i64 (rightK e)]) ∧ Below w.heap.size w w' := by
  have HC := Lib.hid (fun o => Right_any e v (w.alloc o) hf (hs.keep (fun p hp => World.cell?_alloc_lt _ _ _ hp) (fun g (hg : g < w.heap.size) => by simp; omega)))
  have HS : Hid (∀ W, rightE e 24 = true → Below w.heap.size w W → Calls Tryd.prog 48 #[.agg #[.string ⟨e.op.toArray⟩, .int .u16 e.n, .string ⟨e.name.toArray⟩, v], .int .i64 1] W fun r w' => r = .returned (.string ⟨(showE e 1).toArray⟩) ∧ Below W.heap.size W w') := Lib.hid (fun W hr hW => show_all e 24 1 v W (by omega) hr hf (by omega) (hg.below hW) ((hs.bel hW).more (fun x hx => Nat.lt_of_lt_of_le hx hW.size)))
  obtain ⟨A, c, rfl, _, _⟩ := hs.form
  have HK : Hid (rightK e = if rightE e 24 then 0 else 2) := Lib.hid rfl
  have HT : Hid (showK e = if rightE e 24 then showE e 1 else []) := Lib.hid rfl
  generalize rightK e = rk at *
  generalize showK e = sk at *
  clear hs hf
  cases hr : rightE e 24 with
  | true =>
    rw [hr] at HK HT
    have hrk : rk = 0 := HK.out
    subst hrk
    have HS' := Lib.hid (fun W hW => HS.out W hr hW)
    clear HS hr HK
    generalize showE e 1 = se at *
    go_enter Tryd.func19, Tryd.ntmps19
    go_wp2_with fail
    refine (HC.out _).mono ?_
    rintro e0 w2 ⟨rfl, hb2⟩
    have hbw : Below w.heap.size w w2 := ((Below.refl _ _).alloc (Nat.le_refl _) _).trans (hb2.mono (by simp))
    obtain ⟨hcc, hff⟩ := bcell hb2
    go_wp2_with fail
    refine (HS'.out _ hbw).mono ?_
    rintro e0 w3 ⟨rfl, hb3⟩
    clear hcc hff
    go_wp2_with fail
    go_ret2
    rw [HT.out]
    exact ⟨rfl, bthen hbw hb3⟩
  | false =>
    rw [hr] at HK HT
    have hrk : rk = 2 := HK.out
    subst hrk
    clear HS hr HK
    go_enter Tryd.func19, Tryd.ntmps19
    go_wp2_with fail
    refine (HC.out _).mono ?_
    rintro e0 w2 ⟨rfl, hb2⟩
    have hbw : Below w.heap.size w w2 := ((Below.refl _ _).alloc (Nat.le_refl _) _).trans (hb2.mono (by simp))
    go_wp2_with fail
    go_ret2
    rw [HT.out]
    exact ⟨rfl, hbw⟩
end Go.Proofs.YtpmeabikhonaoaaDoor

/- expr: right, Right (the walk). -/
import Derived.Test.YtpmeabikhonaoaaDoorExpr10
import Derived.Deep.RegionHeld3
import Derived.Deep.QuietTactic
import Derived.BigQuiet
namespace Go.Proofs.YtpmeabikhonaoaaDoor
open Go.RowKit

theorem drewN_cell (w : World) (p : Addr) : ∀ n, (w.drewN n).cell? p = w.cell? p
  | 0 => rfl
  | n + 1 => drewN_cell w.drew p n
theorem SubAt.empty (w : World) (S : Nat → Prop) (A : Option Addr) (c : Nat) : SubAt w S (.slice A 0 c) [] :=
  .mk A c [] (fun _ => .slice none 0 0) (by simp) (by simp) (fun h => absurd h (by simp)) (fun i hi => absurd hi (by simp)) (fun i hi => absurd hi (by simp))
theorem rightE_mk (o : List UInt8) (n : Nat) (m : List UInt8) (s : List Ex) (most : Nat) : rightE (.mk o n m s) most = (!(most == 0) && headE o n m s.length && rightL s (most - 1)) := by simp [rightE]
theorem headE_other (o : List UInt8) (n : Nat) (m : List UInt8) (k : Nat) (h : o ≠ sN) : headE o n m k = (!((bindsE o).1 == 0) && k == (bindsE o).2 && (n == 0 || o == sNum) && m == []) := by unfold headE; rw [if_neg h]
theorem headE_name (n : Nat) (m : List UInt8) (k : Nat) : headE sN n m k = (k == 0 && n == 0 && (nameB m && upper m == m && !wordE m)) := by
  unfold headE
  rw [if_pos rfl, show bindsE sN = (7, 0) from rfl]
  simp [show (sN == sNum) = false from rfl]
set_option maxHeartbeats 4000000 in
set_option maxRecDepth 100000 in
theorem right_other (o : List UInt8) (n : Nat) (m : List UInt8) (s : List Ex) (most : Nat) (v : Value) (w : World) (hs : SubAt w (· < w.heap.size) v s) (hmo : most ≤ 1000) (hRH : RightH s (most - 1)) (ho : o ≠ sN) :
    Calls Tryd.prog 68 #[.agg #[.string ⟨o.toArray⟩, .int .u16 n, .string ⟨m.toArray⟩, v], .int .i64 most] w fun e w' => e = .returned (.bool (rightE (.mk o n m s) most)) ∧ Below w.heap.size w w' := by
  have ho' : (o == [110]) = false := by simpa using ho
  have HB := Lib.hid (fun W => binds_any o W)
  have HH := headE_other o n m s.length ho
  have HR := rightE_mk o n m s most
  rw [HH] at HR
  clear HH
  obtain ⟨A, c, rfl, hc, hm2⟩ := hs.form
  unfold maxLen at hm2
  have hsc : ∀ (o1 o2 : Obj), SubAt ((w.alloc o1).alloc o2) (· < ((w.alloc o1).alloc o2).heap.size) (.slice A s.length c) s := fun o1 o2 => (hs.keep (fun p hp => by rw [World.cell?_alloc_lt _ _ _ (by simp; omega), World.cell?_alloc_lt _ _ _ hp]) (fun g (hg : g < w.heap.size) => by simp; omega))
  have HSC := Lib.hid hsc
  clear hs hsc
  generalize bindsE o = br at *
  obtain ⟨rank, parts⟩ := br
  dsimp only at HR HB
  have HR' := Lib.hid HR
  clear HR
  generalize rightE (.mk o n m s) most = res at *
  by_cases h0 : most = 0
  · have HRES : Hid (res = false) := Lib.hid (by rw [HR'.out, h0]; rfl)
    subst h0
    go_enter Tryd.func68, Tryd.ntmps68
    go_wp2_with fail
    refine (HB.out _).mono ?_
    rintro e w1 ⟨rfl, rfl⟩
    go_wp2_with fail
    go_quiet (fail)
    go_wp2_with fail
    go_ret
    rw [HRES.out]
    exact ⟨rfl, below_dn (((Below.refl _ _).alloc (Nat.le_refl _) _).alloc (by simp) _) _⟩
  have h0' : ((most : Int) == 0) = false := by rw [beq_eq_false_iff_ne]; omega
  have h0b : (most == 0) = false := by rw [beq_eq_false_iff_ne]; exact h0
  rw [h0b] at HR'
  by_cases h1 : rank = 0
  · have HRES : Hid (res = false) := Lib.hid (by rw [HR'.out, h1]; rfl)
    subst h1
    clear h0 h0b
    go_enter Tryd.func68, Tryd.ntmps68
    go_wp2_with fail
    refine (HB.out _).mono ?_
    rintro e w1 ⟨rfl, rfl⟩
    go_wp2_with fail
    go_quiet (fail)
    go_wp2_with fail
    go_ret
    rw [HRES.out]
    exact ⟨rfl, below_dn (((Below.refl _ _).alloc (Nat.le_refl _) _).alloc (by simp) _) _⟩
  have h1' : ((rank : Int) == 0) = false := by rw [beq_eq_false_iff_ne]; omega
  have h1b : (rank == 0) = false := by rw [beq_eq_false_iff_ne]; exact h1
  rw [h1b] at HR'
  by_cases h2 : s.length = parts
  · subst h2
    have h2' : ((s.length : Int) != (s.length : Int)) = false := by simp
    have h2b : (s.length == s.length) = true := by simp
    rw [h2b] at HR'
    have hmd : most - 1 + 1 = most := by omega
    have HCON : Hid (∀ (q : Nat) (o1 : Obj), Calls Tryd.prog 101 #[.slice A s.length c, .func (.func 102) #[] #[.pointer (some ⟨w.heap.size + 1, 0, none⟩)]] (((w.alloc o1).alloc (.cells #[.int .i64 (most : Int)] 3)).drewN q) fun e w' => e = .returned (.bool (!rightL s (most - 1))) ∧ Below (((w.alloc o1).alloc (.cells #[.int .i64 (most : Int)] 3)).drewN q).heap.size (((w.alloc o1).alloc (.cells #[.int .i64 (most : Int)] 3)).drewN q) w') := Lib.hid (fun q o1 =>
      rcont_any s (most - 1) (by omega) hRH _ (w.heap.size + 1) _ ((HSC.out o1 _).keep (fun p _ => by rw [drewN_cell]) (fun g hg => by simpa using hg)) (by rw [drewN_cell, hmd]; exact cell_of_heap (heap_last (by simp) _)))
    by_cases h3 : n = 0
    · subst h3
      by_cases h4 : m = []
      · have HRES : Hid (res = rightL s (most - 1)) := Lib.hid (by rw [HR'.out, h4]; simp)
        subst h4
        clear h0 h1 h0b h1b h2b
        go_enter Tryd.func68, Tryd.ntmps68
        go_wp2_with fail
        refine (HB.out _).mono ?_
        rintro e w1 ⟨rfl, rfl⟩
        go_wp2_with fail
        go_quiet (fail)
        go_wp2_with fail
        refine (HCON.out _ _).mono ?_
        rintro e w2 ⟨rfl, hb2⟩
        go_wp2_with fail
        go_ret
        rw [HRES.out]
        exact ⟨by simp, (below_dn (((Below.refl _ _).alloc (Nat.le_refl _) _).alloc (by simp) _) _).trans (hb2.mono (by simp; omega))⟩
      · have HRES : Hid (res = false) := Lib.hid (by rw [HR'.out, show (m == []) = false by simpa using h4]; simp)
        have h4a : (m == []) = false := by simpa using h4
        have h4b : m.isEmpty = false := by simpa using h4
        clear h0 h1 h0b h1b h4 h2b
        go_enter Tryd.func68, Tryd.ntmps68
        go_wp2_with fail
        refine (HB.out _).mono ?_
        rintro e w1 ⟨rfl, rfl⟩
        go_wp2_with fail
        go_quiet (fail)
        go_wp2_with fail
        go_ret
        rw [HRES.out]
        exact ⟨rfl, below_dn (((Below.refl _ _).alloc (Nat.le_refl _) _).alloc (by simp) _) _⟩
    have h3b : (n == 0) = false := by simpa using h3
    have h3c : ((n : Int) != 0) = true := by rw [bne_iff_ne]; omega
    by_cases h5 : o = sNum
    · subst h5
      clear h3
      by_cases h4 : m = []
      · have HRES : Hid (res = rightL s (most - 1)) := Lib.hid (by rw [HR'.out, h4]; simp)
        subst h4
        clear h0 h1 h0b h1b h2b
        go_enter Tryd.func68, Tryd.ntmps68
        go_wp2_with fail
        refine (HB.out _).mono ?_
        rintro e w1 ⟨rfl, rfl⟩
        go_wp2_with fail
        go_quiet (fail)
        go_wp2_with fail
        refine (HCON.out _ _).mono ?_
        rintro e w2 ⟨rfl, hb2⟩
        go_wp2_with fail
        go_ret
        rw [HRES.out]
        exact ⟨by simp, (below_dn (((Below.refl _ _).alloc (Nat.le_refl _) _).alloc (by simp) _) _).trans (hb2.mono (by simp; omega))⟩
      · have HRES : Hid (res = false) := Lib.hid (by rw [HR'.out, show (m == []) = false by simpa using h4]; simp)
        have h4a : (m == []) = false := by simpa using h4
        have h4b : m.isEmpty = false := by simpa using h4
        clear h0 h1 h0b h1b h4 h2b
        go_enter Tryd.func68, Tryd.ntmps68
        go_wp2_with fail
        refine (HB.out _).mono ?_
        rintro e w1 ⟨rfl, rfl⟩
        go_wp2_with fail
        go_quiet (fail)
        go_wp2_with fail
        go_ret
        rw [HRES.out]
        exact ⟨rfl, below_dn (((Below.refl _ _).alloc (Nat.le_refl _) _).alloc (by simp) _) _⟩
    · have HRES : Hid (res = false) := Lib.hid (by rw [HR'.out, h3b, show (o == sNum) = false by simpa using h5]; rfl)
      have h5a : (o == [35]) = false := by simpa using h5
      clear h0 h1 h0b h1b h2b h3 h5 h3b
      go_enter Tryd.func68, Tryd.ntmps68
      go_wp2_with fail
      refine (HB.out _).mono ?_
      rintro e w1 ⟨rfl, rfl⟩
      go_wp2_with fail
      go_quiet (fail)
      go_wp2_with fail
      go_ret
      rw [HRES.out]
      exact ⟨rfl, below_dn (((Below.refl _ _).alloc (Nat.le_refl _) _).alloc (by simp) _) _⟩
  · have HRES : Hid (res = false) := Lib.hid (by rw [HR'.out, show (s.length == parts) = false by simpa using h2]; rfl)
    have h2' : ((s.length : Int) != (parts : Int)) = true := by rw [bne_iff_ne]; omega
    clear h0 h1 h0b h1b h2
    go_enter Tryd.func68, Tryd.ntmps68
    go_wp2_with fail
    refine (HB.out _).mono ?_
    rintro e w1 ⟨rfl, rfl⟩
    go_wp2_with fail
    go_quiet (fail)
    go_wp2_with fail
    go_ret
    rw [HRES.out]
    exact ⟨rfl, below_dn (((Below.refl _ _).alloc (Nat.le_refl _) _).alloc (by simp) _) _⟩

end Go.Proofs.YtpmeabikhonaoaaDoor

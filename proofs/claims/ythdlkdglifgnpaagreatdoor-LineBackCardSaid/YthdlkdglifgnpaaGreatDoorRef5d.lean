/- ref05: Same. -/
import Derived.Test.YthdlkdglifgnpaaGreatDoorLaw5a
import Derived.StillTailTactics
namespace Go.Proofs.YthdlkdglifgnpaaGreatDoor
open Go.RowKit

def RSameH (x : Ex) : Prop := ∀ (y : Ex) (v u : Value) (w : World), SubAt w (· < w.heap.size) v x.sub → SubAt w (· < w.heap.size) u y.sub →
  Calls Tryz.prog 43 #[.agg #[.string ⟨x.op.toArray⟩, .int .u16 x.n, .string ⟨x.name.toArray⟩, v], .agg #[.string ⟨y.op.toArray⟩, .int .u16 y.n, .string ⟨y.name.toArray⟩, u]] w fun e w' => e = .returned (.bool (sameE x y)) ∧ Below w.heap.size w w'
/-- Two boxes, kept. -/
theorem box2_at {w wr : World} {o : Obj} {cs : Array Value} {T : TypeId} (hb : Below (w.heap.size + 2) ((w.alloc o).alloc (.cells cs T)) wr) (i : Nat) (u : Value) (hu : cs[i]? = some u) : wr.cell? ⟨w.heap.size + 1, i, none⟩ = some u := by
  have h := heap_alloc_new (w.alloc o) (.cells cs T)
  rw [World.size_alloc] at h
  rw [hb.cell (p := ⟨w.heap.size + 1, i, none⟩) (by simp), cell_of_heap h]
  exact hu
theorem box1_at {w wr : World} {o : Obj} {cs : Array Value} {T : TypeId} (hb : Below (w.heap.size + 2) ((w.alloc (.cells cs T)).alloc o) wr) (i : Nat) (u : Value) (hu : cs[i]? = some u) : wr.cell? ⟨w.heap.size, i, none⟩ = some u := by
  rw [hb.cell (p := ⟨w.heap.size, i, none⟩) (by simp), World.cell?_alloc_lt _ _ _ (by simp), cell_of_heap (heap_alloc_new w _)]
  exact hu
set_option maxHeartbeats 4000000 in
set_option maxRecDepth 100000 in
theorem refSame_any (x : Ex) : RSameH x := by
  induction x using Ex.ind with
  | h o n m s ih =>
    intro y v u w hs ht
    have HR := sameE_mk o n m s y
    obtain ⟨A, c, rfl, hc, hm⟩ := hs.form
    obtain ⟨A', c', rfl, hc', hm'⟩ := ht.form
    unfold maxLen at hm hm'
    have HS := Lib.hid hs
    have HT := Lib.hid ht
    have HI := Lib.hid ih
    have HR' := Lib.hid HR
    clear hs ht ih HR
    generalize sameE (.mk o n m s) y = res at *
    obtain ⟨yo, yn, ym, t⟩ := y
    simp only [Ex.op, Ex.n, Ex.name, Ex.sub] at *
    by_cases h1 : o = yo
    · subst h1
      by_cases h2 : n = yn
      · subst h2
        by_cases h3 : m = ym
        · subst h3
          have HR2 : Hid (res = sameL s t) := Lib.hid (by rw [HR'.out]; simp)
          clear HR'
          by_cases hl : s.length = t.length
          · have hne : ((s.length : Int) == (t.length : Int)) = true := by rw [hl]; simp
            have hne2 : ((s.length : Int) != (t.length : Int)) = false := by rw [hl]; simp
            have HL := Lib.hid hl
            have HEND : Hid (s.take s.length = t.take s.length → res = true) := Lib.hid (fun h => by rw [HR2.out]; exact sameL_end s t hl h)
            clear hl
            go_enter Tryz.func43, Tryz.ntmps43
            go_wp2_with fail
            go_loopw [5] (fun i wr => ∃ k : Nat, k ≤ s.length ∧ i = .int .i64 k ∧ s.take k = t.take k ∧ Below (w.heap.size + 2) ((w.alloc (.cells #[.string ⟨o.toArray⟩, .int .u16 n, .string ⟨m.toArray⟩, .slice A s.length c] 57)).alloc (.cells #[.string ⟨o.toArray⟩, .int .u16 n, .string ⟨m.toArray⟩, .slice A' t.length c'] 57)) wr) (fun i _ => s.length - (intOf i).toNat)
            case atStart => exact ⟨0, Nat.zero_le _, rfl, rfl, Below.refl _ _⟩
            case round =>
              obtain ⟨k, hk, rfl, heq, hb⟩ := hrel
              have hz : w.heap.size + 1 < wr.heap.size := by have := hb.size; simp at this; omega
              have hz0 : w.heap.size < wr.heap.size := by omega
              have e3 := box1_at hb 3 _ rfl
              have f3 := box2_at hb 3 _ rfl
              have hbw : Below w.heap.size w wr := (((Below.refl _ _).alloc (Nat.le_refl _) _).alloc (by simp) _).trans (hb.mono (by omega))
              have HE := Lib.hid heq
              have HB := Lib.hid hb
              clear heq hb
              by_cases hlt : k < s.length
              · have hlt2 : k < t.length := by have := HL.out; omega
                obtain ⟨g, q, vk, rfl, hg, c0, c1, c2, c3, hsub, hn, _, _⟩ := HS.out.get k hlt
                obtain ⟨vA, vc, rfl, _, _⟩ := hsub.form
                obtain ⟨g', q', vk', rfl, hg', c0', c1', c2', c3', hsub', hn', _, _⟩ := HT.out.get k hlt2
                obtain ⟨vA', vc', rfl, _, _⟩ := hsub'.form
                have d0 := (hbw.cell (p := ⟨g, q + k * 4, none⟩) hg).trans c0
                have d1 := (hbw.cell (p := ⟨g, q + k * 4 + 1, none⟩) hg).trans c1
                have d2 := (hbw.cell (p := ⟨g, q + k * 4 + 2, none⟩) hg).trans c2
                have d3 := (hbw.cell (p := ⟨g, q + k * 4 + 3, none⟩) hg).trans c3
                have d0' := (hbw.cell (p := ⟨g', q' + k * 4, none⟩) hg').trans c0'
                have d1' := (hbw.cell (p := ⟨g', q' + k * 4 + 1, none⟩) hg').trans c1'
                have d2' := (hbw.cell (p := ⟨g', q' + k * 4 + 2, none⟩) hg').trans c2'
                have d3' := (hbw.cell (p := ⟨g', q' + k * 4 + 3, none⟩) hg').trans c3'
                have HC := Lib.hid (HI.out s[k] (List.getElem_mem hlt) t[k] _ _ wr.drew (((hsub.bel hbw).more (S' := (· < wr.heap.size)) (fun x hx => Nat.lt_of_lt_of_le hx hbw.size)).keep (w' := wr.drew) (fun p _ => rfl) (fun _ h => h)) (((hsub'.bel hbw).more (S' := (· < wr.heap.size)) (fun x hx => Nat.lt_of_lt_of_le hx hbw.size)).keep (w' := wr.drew) (fun p _ => rfl) (fun _ h => h)))
                have HF : Hid (sameE s[k] t[k] = false → res = false) := Lib.hid (fun h => by rw [HR2.out]; exact sameL_at s t k hlt hlt2 h)
                have HT2 : Hid (sameE s[k] t[k] = true → s.take (k + 1) = t.take (k + 1)) := Lib.hid (fun h => by rw [List.take_succ_eq_append_getElem hlt, List.take_succ_eq_append_getElem hlt2, HE.out, (sameE_iff _ _).1 h])
                generalize s[k] = x at *
                generalize t[k] = y at *
                have HBW := Lib.hid hbw
                clear c0 c1 c2 c3 c0' c1' c2' c3' hsub hsub' hbw
                cases hxy : sameE x y with
                | true =>
                  have HT3 := Lib.hid (HT2.out hxy)
                  rw [hxy] at HC
                  clear hxy HT2 HF
                  go_wp2_with fail
                  go_still_tail 10, (by kernel_rfl)
                  change wpList _ _ _ _ _ wr.drew
                  go_wp2_with fail
                  refine HC.out.mono ?_
                  rintro e0 w5 ⟨rfl, hb5⟩
                  go_wp2_with fail
                  go_roundw
                  case rel => exact ⟨k + 1, by omega, by go_num, HT3.out, HB.out.drew.trans (hb5.mono hz)⟩
                  case measure => simp [intOf]; omega
                | false =>
                  have hres := HF.out hxy
                  subst hres
                  rw [hxy] at HC
                  clear hxy HT2 HF
                  go_wp2_with fail
                  go_still_tail 10, (by kernel_rfl)
                  change wpList _ _ _ _ _ wr.drew
                  go_wp2_with fail
                  refine HC.out.mono ?_
                  rintro e0 w5 ⟨rfl, hb5⟩
                  go_wp2_with fail
                  go_ret
                  exact ⟨rfl, HBW.out.drew.trans (hb5.mono (Nat.le_of_lt hz0))⟩
              · obtain rfl : k = s.length := by omega
                have hres := HEND.out HE.out
                subst hres
                have HBW := Lib.hid hbw
                clear hbw
                go_wp2_with fail
                go_ret
                exact ⟨rfl, HBW.out⟩
          · have hres : res = false := by rw [HR2.out]; exact sameL_len s t hl
            have hne : ((s.length : Int) == (t.length : Int)) = false := by rw [beq_eq_false_iff_ne]; omega
            have hne2 : ((s.length : Int) != (t.length : Int)) = true := by rw [bne_iff_ne]; omega
            subst hres
            clear HS HT hl HR2 HI
            generalize s.length = l1 at *
            generalize t.length = l2 at *
            go_enter Tryz.func43, Tryz.ntmps43
            go_wp2_with fail
            go_ret
            exact ⟨rfl, ((Below.refl _ _).alloc (Nat.le_refl _) _).alloc (by simp) _⟩
        · have d3 : (m == ym) = false := by simpa using h3
          have HR2 : Hid (res = false) := Lib.hid (by rw [HR'.out, d3]; simp)
          go_enter Tryz.func43, Tryz.ntmps43
          go_wp2_with fail
          go_ret
          rw [HR2.out]
          exact ⟨rfl, ((Below.refl _ _).alloc (Nat.le_refl _) _).alloc (by simp) _⟩
      · have d2 : ((n : Int) == (yn : Int)) = false := by rw [beq_eq_false_iff_ne]; omega
        have d2' : (n == yn) = false := by rw [beq_eq_false_iff_ne]; omega
        have HR2 : Hid (res = false) := Lib.hid (by rw [HR'.out, d2']; simp)
        clear d2'
        go_enter Tryz.func43, Tryz.ntmps43
        go_wp2_with fail
        go_ret
        rw [HR2.out]
        exact ⟨rfl, ((Below.refl _ _).alloc (Nat.le_refl _) _).alloc (by simp) _⟩
    · have d1 : (o == yo) = false := by simpa using h1
      have HR2 : Hid (res = false) := Lib.hid (by rw [HR'.out, d1]; simp)
      go_enter Tryz.func43, Tryz.ntmps43
      go_wp2_with fail
      go_ret
      rw [HR2.out]
      exact ⟨rfl, ((Below.refl _ _).alloc (Nat.le_refl _) _).alloc (by simp) _⟩
end Go.Proofs.YthdlkdglifgnpaaGreatDoor

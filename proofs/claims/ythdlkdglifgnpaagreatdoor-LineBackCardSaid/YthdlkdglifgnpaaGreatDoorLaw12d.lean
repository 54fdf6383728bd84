/- LineAgain: the walk. -/
import Derived.Test.YthdlkdglifgnpaaGreatDoorLaw12a
import Derived.Test.YthdlkdglifgnpaaGreatDoorLaw12c
namespace Go.Proofs.YthdlkdglifgnpaaGreatDoor
open Go.RowKit

theorem endS_law (d : Int) (s : St) : ((endS d s).2 ≠ 0 → (endS d s).1 = st0) ∧ ((endS d s).2 = 0 → rightS d (endS d s).1 = 0) := by
  unfold endS
  by_cases h : rightS d s = 0
  · simp [h]
  · simp [h]
theorem body_law (d : Int) (lab : List UInt8) (colon : Bool) (r : List Tok) : ((bodyS d lab colon r).2 ≠ 0 → (bodyS d lab colon r).1 = st0) ∧ ((bodyS d lab colon r).2 = 0 → rightS d (bodyS d lab colon r).1 = 0) := by
  unfold bodyS
  by_cases h1 : r = []
  · rw [if_pos h1]; exact endS_law d _
  · rw [if_neg h1]
    by_cases h2 : nameT r 0 = false
    · rw [if_pos h2]; exact ⟨fun _ => rfl, fun h => by simp at h⟩
    · rw [if_neg h2]
      by_cases h3 : 32 < (cutL [44] (r.drop 1)).length
      · rw [if_pos h3]; exact ⟨fun _ => rfl, fun h => by simp at h⟩
      · rw [if_neg h3]
        by_cases h4 : (argsL d (r.getD 0 tok0).2.1 (cutL [44] (r.drop 1)) []).2 ≠ 0
        · rw [if_pos h4]; exact ⟨fun _ => rfl, fun h => absurd h h4⟩
        · rw [if_neg h4]; exact endS_law d _
theorem parse_law (d : Int) (s : List UInt8) : ((parseS d s).2 ≠ 0 → (parseS d s).1 = st0) ∧ ((parseS d s).2 = 0 → rightS d (parseS d s).1 = 0) := by
  unfold parseS
  by_cases h1 : knownB d = false
  · rw [if_pos h1]; exact ⟨fun _ => rfl, fun h => by simp at h⟩
  · rw [if_neg h1]
    by_cases h2 : (lineL s).2 ≠ 0
    · rw [if_pos h2]; exact ⟨fun _ => rfl, fun h => absurd h h2⟩
    · rw [if_neg h2]; exact body_law d _ _ _
theorem show_right (d : Int) (a : St) (h : rightS d a = 0) : showS d a = if 200 < (textS d a).length then ([], 11) else (textS d a, 0) := by
  unfold showS
  rw [if_neg (by simp [h])]
/-- A statement that lies in a new box. -/
theorem ArAt.boxed {w w' : World} {base : Nat} {v : Value} {l : List Ar} (h : ArAt w (fun g => base ≤ g ∧ g < w.heap.size) v l) (o : Obj) (hb : Below (w.alloc o).heap.size (w.alloc o) w') : ArAt w' (· < w'.heap.size) v l :=
  h.keep (fun p hp => (hb.cell (p := p) (by have := hp.2; simp; omega)).trans (World.cell?_alloc_lt _ _ _ hp.2)) (fun g hg => by have := hg.2; have := hb.size; simp at this; omega)
set_option maxHeartbeats 4000000 in
set_option maxRecDepth 100000 in
theorem lineAgain_walk (d : Int) (s : List UInt8) (w : World) (hg : GWL w) (hls : s.length ≤ 9223372036854775807) :
    Calls Tryz.prog 3 #[.int .i64 d, .string ⟨s.toArray⟩] w fun e w' => e = .returned (.bool true) ∧ Below w.heap.size w w' := by
  have HAl := Lib.hid (fun W (hW : GWL W) => alive12_any W hW)
  by_cases h1 : 1000 < s.length
  · have e1 : (1000 : Int) < (s.length : Int) := by omega
    clear h1
    go_enter Tryz.func3, Tryz.ntmps3
    go_wp2_with fail
    refine (HAl.out _ hg).mono ?_
    rintro e w1 ⟨rfl, hb1⟩
    go_wp2_with fail
    go_ret
    exact ⟨rfl, hb1⟩
  · have e1 : decide ((1000 : Int) < (s.length : Int)) = false := by simp; omega
    have HP := Lib.hid (parse12_any d s w hg (by omega))
    have HLW := Lib.hid (parse_law d s)
    have HF := Lib.hid (parse_fitS d s)
    generalize parseS d s = res at *
    obtain ⟨a, k⟩ := res
    simp only at *
    clear h1 hls
    by_cases hk : k = 0
    · subst hk
      have hr := HLW.out.2 rfl
      have HS := Lib.hid (fun v W (hW : GWL W) hs => show12_any d a v W hW HF.out hs)
      have HRi := Lib.hid (fun v W (hW : GWL W) hs => Right12_any d a v W hW HF.out hs)
      have HSm := Lib.hid (fun v u W hs ht => refSame12_eq a v u W hs ht)
      rw [show_right d a hr] at HS
      rw [hr] at HRi
      by_cases h2 : 200 < (textS d a).length
      · rw [if_pos h2] at HS
        clear h2 hr HLW
        go_enter Tryz.func3, Tryz.ntmps3
        go_wp2_with fail
        refine HP.out.mono ?_
        rintro e w1 ⟨v1, rfl, ha1, hb1⟩
        obtain ⟨A1, c1, rfl, _, _⟩ := ha1.form
        have B1 := Lib.hid (fun o => hb1.alloc hb1.size o)
        have S1 := Lib.hid (fun o => ha1.boxed o (Below.refl _ (w1.alloc o)))
        clear ha1 hb1
        go_wp2_with fail
        refine (HS.out _ _ (hg.below (B1.out _)) (S1.out _)).mono ?_
        rintro e w2 ⟨rfl, hb2⟩
        have B2 := Lib.hid (bthen (B1.out _) hb2)
        clear hb2
        go_wp2_with fail
        refine (HAl.out _ (hg.below B2.out)).mono ?_
        rintro e w3 ⟨rfl, hb3⟩
        go_wp2_with fail
        go_ret
        exact ⟨rfl, bthen B2.out hb3⟩
      · rw [if_neg h2] at HS
        have HP2 := Lib.hid (fun W (hW : GWL W) => parse12_any d (textS d a) W hW (by omega))
        rw [parse_text d a hr (fun x hx => (HF.out.2.2 x hx).2.2) (by omega)] at HP2
        generalize textS d a = t at *
        clear h2 hr HLW
        have n1 : (t == t) = true := by simp
        go_enter Tryz.func3, Tryz.ntmps3
        go_wp2_with fail
        refine HP.out.mono ?_
        rintro e w1 ⟨v1, rfl, ha1, hb1⟩
        obtain ⟨A1, c1, rfl, _, _⟩ := ha1.form
        have B1 := Lib.hid (fun o => hb1.alloc hb1.size o)
        have S1 := Lib.hid (fun o W (hW : Below (w1.alloc o).heap.size (w1.alloc o) W) => ha1.boxed o hW)
        clear ha1 hb1
        go_wp2_with fail
        refine (HS.out _ _ (hg.below (B1.out _)) (S1.out _ _ (Below.refl _ _))).mono ?_
        rintro e w2 ⟨rfl, hb2⟩
        have BB2 := Lib.hid hb2
        have C2 := Lib.hid ((hb2.block w1.heap.size (by simp)).trans (heap_alloc_new w1 _))
        have B2 := Lib.hid (bthen (B1.out _) hb2)
        have hw12 : w1.heap.size < w2.heap.size := lt_of_heap C2.out
        clear hb2
        go_wp2_with fail
        refine (HP2.out _ (hg.below B2.out)).mono ?_
        rintro e w3 ⟨v3, rfl, ha3, hb3⟩
        obtain ⟨A3, c3, rfl, _, _⟩ := ha3.form
        have B3 := Lib.hid (fun o => (bthen B2.out hb3).alloc (bthen B2.out hb3).size o)
        have S3 := Lib.hid (fun o W (hW : Below (w3.alloc o).heap.size (w3.alloc o) W) => ha3.boxed o hW)
        have BB3 := Lib.hid (fun o => bthen BB2.out (hb3.alloc hb3.size o))
        have C3 := Lib.hid ((hb3.block w1.heap.size hw12).trans C2.out)
        have hw13 : w1.heap.size < w3.heap.size := lt_of_heap C3.out
        clear ha3 hb3 C2
        go_wp2_with fail
        refine (HS.out _ _ (hg.below (B3.out _)) (S3.out _ _ (Below.refl _ _))).mono ?_
        rintro e w4 ⟨rfl, hb4⟩
        have C4 := Lib.hid ((hb4.block w1.heap.size (by simp; omega)).trans ((((Below.refl w3.heap.size w3).alloc (Nat.le_refl _) _).block _ hw13).trans C3.out))
        have C5 := Lib.hid ((hb4.block w3.heap.size (by simp)).trans (heap_alloc_new w3 _))
        have B4 := Lib.hid (bthen (B3.out _) hb4)
        have S1a := Lib.hid (S1.out _ _ (bthen (BB3.out _) hb4))
        have S3a := Lib.hid (S3.out _ _ hb4)
        obtain ⟨⟨x0, x1, x2, x3⟩, _, _, _, _⟩ := four C4.out
        obtain ⟨⟨y0, y1, y2, y3⟩, _, _, _, _⟩ := four C5.out
        clear hb4
        go_wp2_with fail
        refine (HSm.out _ _ w4 S1a.out S3a.out).mono ?_
        rintro e w5 ⟨rfl, hb5⟩
        have B5 := Lib.hid (bthen B4.out hb5)
        have S1b := Lib.hid (S1a.out.at hb5 hb5.size)
        have C6 := Lib.hid ((hb5.block _ (lt_of_heap C4.out)).trans C4.out)
        obtain ⟨⟨z0, z1, z2, z3⟩, _, _, _, _⟩ := four C6.out
        clear hb5
        go_wp2_with fail
        refine (HRi.out _ w5 (hg.below B5.out) S1b.out).mono ?_
        rintro e w6 ⟨rfl, hb6⟩
        have B6 := Lib.hid (bthen B5.out hb6)
        clear hb6
        go_wp2_with fail
        refine (HAl.out _ (hg.below B6.out)).mono ?_
        rintro e w7 ⟨rfl, hb7⟩
        go_wp2_with fail
        go_ret
        exact ⟨rfl, bthen B6.out hb7⟩
    · obtain rfl : a = st0 := HLW.out.1 hk
      have e2 : ((k : Int) != 0) = true := by rw [bne_iff_ne]; omega
      have HSm := Lib.hid (fun v u W hs ht => refSame12_eq st0 v u W hs ht)
      clear HLW hk
      go_enter Tryz.func3, Tryz.ntmps3
      go_wp2_with fail
      refine HP.out.mono ?_
      rintro e w1 ⟨v1, rfl, ha1, hb1⟩
      obtain ⟨A1, c1, rfl, _, _⟩ := ha1.form
      have B1 := Lib.hid (fun o => hb1.alloc hb1.size o)
      have S1 := Lib.hid (fun o => ha1.boxed o (Below.refl _ (w1.alloc o)))
      clear ha1 hb1
      go_wp2_with fail
      refine (HSm.out _ _ _ (S1.out _) (ArAt.nil _ _)).mono ?_
      rintro e w2 ⟨rfl, hb2⟩
      have B2 := Lib.hid (bthen (B1.out _) hb2)
      clear hb2
      go_wp2_with fail
      refine (HAl.out _ (hg.below B2.out)).mono ?_
      rintro e w3 ⟨rfl, hb3⟩
      go_wp2_with fail
      go_ret
      exact ⟨rfl, bthen B2.out hb3⟩
end Go.Proofs.YthdlkdglifgnpaaGreatDoor

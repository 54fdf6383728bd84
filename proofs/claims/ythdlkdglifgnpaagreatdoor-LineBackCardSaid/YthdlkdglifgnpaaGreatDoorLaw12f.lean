/- LineBack: the walk. -/
import Derived.Test.YthdlkdglifgnpaaGreatDoorLaw12d
import Derived.Test.YthdlkdglifgnpaaGreatDoorLaw12e
namespace Go.Proofs.YthdlkdglifgnpaaGreatDoor
open Go.RowKit

theorem SubAt.fitL12 {w : World} {S : Nat → Prop} {v : Value} {sub : List Ex} (h : SubAt w S v sub) : ∀ d, lightL sub d = true → fitL sub = true := by
  induction h with
  | mk A c sub vs hc hm hz hn hs ih =>
    intro d hl
    rw [lightL_all, List.all_eq_true] at hl
    have key : ∀ e ∈ sub, fitE e = true := by
      intro e he
      obtain ⟨i, hi, rfl⟩ := List.getElem_of_mem he
      have h1 := hl _ he
      have h2 := ih i hi (d - 1)
      have h3 := hn i hi
      generalize sub[i] = e at *
      obtain ⟨o, n, m, s⟩ := e
      rw [lightE_mk] at h1
      simp only [Bool.and_eq_true, decide_eq_true_eq] at h1
      simp only [Ex.op, Ex.n, Ex.name, Ex.sub] at h2 h3
      simp only [fitE, Bool.and_eq_true, decide_eq_true_eq]
      exact ⟨⟨⟨h3.1, by omega⟩, by omega⟩, h2 h1.2⟩
    clear hl ih hs hn hz hm hc
    induction sub with
    | nil => rfl
    | cons e s ih => 
      simp only [Proofs.YthdlkdglifgnpaaGreatDoor.fitL, Bool.and_eq_true]
      exact ⟨key e (by simp), ih (fun x hx => key x (by simp [hx]))⟩
theorem lightE_fit {w : World} {S : Nat → Prop} {v : Value} {e : Ex} {d : Nat} (h : SubAt w S v e.sub) (hok : okE e) (hl : lightE e d = true) : fitE e = true := by
  obtain ⟨o, n, m, s⟩ := e
  rw [lightE_mk] at hl
  simp only [Bool.and_eq_true, decide_eq_true_eq] at hl
  simp only [fitE, Bool.and_eq_true, decide_eq_true_eq]
  exact ⟨⟨⟨hok.1, by omega⟩, by omega⟩, h.fitL12 _ hl.2⟩
theorem light12_fit {w : World} {S : Nat → Prop} {v : Value} {s : St} (h : ArAt w S v s.args) (hok : okS s) (hl : light12 s = true) : fitS s := by
  unfold light12 at hl
  simp only [Bool.and_eq_true, decide_eq_true_eq, List.all_eq_true] at hl
  obtain ⟨⟨⟨h1, h2⟩, h3⟩, h4⟩ := hl
  refine ⟨by omega, by omega, fun a ha => ?_⟩
  have h5 := h4 a ha
  have h6 := hok.2.2 a ha
  obtain ⟨A, c, vs, _, _, _, _, hsub⟩ := h
  obtain ⟨i, hi, rfl⟩ := List.getElem_of_mem ha
  unfold lightA at h5
  simp only [Bool.and_eq_true, decide_eq_true_eq] at h5
  exact ⟨by omega, by omega, lightE_fit (hsub i hi) h6.2.2 h5.1.2⟩
set_option maxHeartbeats 4000000 in
set_option maxRecDepth 100000 in
theorem lineBack_walk (d : Int) (s : St) (v : Value) (w : World) (hg : GWL w) (hs : ArAt w (· < w.heap.size) v s.args) (hok : okS s) :
    Calls Tryz.prog 4 #[.int .i64 d, stV s v] w fun e w' => e = .returned (.bool true) ∧ Below w.heap.size w w' := by
  have HAl := Lib.hid (fun W (hW : GWL W) => alive12_any W hW)
  have HL := Lib.hid (fun o => light12_any s v (w.alloc o) hok (hs.at ((Below.refl _ _).alloc (Nat.le_refl _) o) (by simp)))
  have HFT := Lib.hid (fun h => light12_fit hs hok h)
  have HST := Lib.hid (fun o W (hW : Below (w.alloc o).heap.size (w.alloc o) W) => (hs.at ((Below.refl _ _).alloc (Nat.le_refl _) o) (B' := (w.alloc o).heap.size) (by simp)).at hW hW.size)
  obtain ⟨A, c, rfl, hc, hm⟩ := hs.form
  have B0 := Lib.hid (fun o => (Below.refl w.heap.size w).alloc (Nat.le_refl _) o)
  unfold stV
  clear hs hok hc hm
  cases hli : light12 s with
  | false =>
    rw [hli] at HL
    clear hli HFT
    go_enter Tryz.func4, Tryz.ntmps4
    go_wp2_with fail
    refine (HL.out _).mono ?_
    rintro e w1 ⟨rfl, hb1⟩
    have B1 := Lib.hid (bthen (B0.out _) hb1)
    clear hb1
    go_wp2_with fail
    refine (HAl.out _ (hg.below B1.out)).mono ?_
    rintro e w2 ⟨rfl, hb2⟩
    go_wp2_with fail
    go_ret
    exact ⟨rfl, bthen B1.out hb2⟩
  | true =>
    rw [hli] at HL
    have hf := HFT.out hli
    have HS := Lib.hid (fun v W (hW : GWL W) hs => show12_any d s v W hW hf hs)
    have HSm := Lib.hid (fun v u W hs ht => refSame12_eq s v u W hs ht)
    have HSn := Lib.hid (fun v u W hs ht => Same12_any s s v u W hs ht)
    rw [(sameS_iff s s).2 rfl] at HSn
    by_cases hr : rightS d s = 0
    · rw [show_right d s hr] at HS
      by_cases h2 : 200 < (textS d s).length
      · rw [if_pos h2] at HS
        clear h2 hr hli hf HFT
        go_enter Tryz.func4, Tryz.ntmps4
        go_wp2_with fail
        refine (HL.out _).mono ?_
        rintro e w1 ⟨rfl, hb1⟩
        have B1 := Lib.hid (bthen (B0.out _) hb1)
        have S1 := Lib.hid (HST.out _ _ hb1)
        have C1 := Lib.hid ((hb1.block w.heap.size (by simp)).trans (heap_alloc_new w _))
        obtain ⟨⟨x0, x1, x2, x3⟩, _, _, _, _⟩ := four C1.out
        clear hb1
        go_wp2_with fail
        refine (HS.out _ _ (hg.below B1.out) S1.out).mono ?_
        rintro e w2 ⟨rfl, hb2⟩
        have B2 := Lib.hid (bthen B1.out hb2)
        clear hb2
        go_wp2_with fail
        refine (HAl.out _ (hg.below B2.out)).mono ?_
        rintro e w3 ⟨rfl, hb3⟩
        go_wp2_with fail
        go_ret
        exact ⟨rfl, bthen B2.out hb3⟩
      · rw [if_neg h2] at HS
        have HP2 := Lib.hid (fun W (hW : GWL W) => parse12_any d (textS d s) W hW (by omega))
        rw [parse_text d s hr (fun x hx => (hf.2.2 x hx).2.2) (by omega)] at HP2
        generalize textS d s = t at *
        clear h2 hr hli hf HFT
        go_enter Tryz.func4, Tryz.ntmps4
        go_wp2_with fail
        refine (HL.out _).mono ?_
        rintro e w1 ⟨rfl, hb1⟩
        have B1 := Lib.hid (bthen (B0.out _) hb1)
        have BB1 := Lib.hid hb1
        have S1 := Lib.hid (HST.out _ _ hb1)
        have C1 := Lib.hid ((hb1.block w.heap.size (by simp)).trans (heap_alloc_new w _))
        obtain ⟨⟨x0, x1, x2, x3⟩, _, _, _, _⟩ := four C1.out
        clear hb1
        go_wp2_with fail
        refine (HS.out _ _ (hg.below B1.out) S1.out).mono ?_
        rintro e w2 ⟨rfl, hb2⟩
        have B2 := Lib.hid (bthen B1.out hb2)
        have S2 := Lib.hid (S1.out.at hb2 hb2.size)
        have C2 := Lib.hid ((hb2.block _ (lt_of_heap C1.out)).trans C1.out)
        have hw2 : w.heap.size < w2.heap.size := lt_of_heap C2.out
        clear hb2 x0 x1 x2 x3
        go_wp2_with fail
        refine (HP2.out _ (hg.below B2.out)).mono ?_
        rintro e w3 ⟨v3, rfl, ha3, hb3⟩
        obtain ⟨A3, c3, rfl, _, _⟩ := ha3.form
        have B3 := Lib.hid (fun o => (bthen B2.out hb3).alloc (bthen B2.out hb3).size o)
        have S3 := Lib.hid (fun o W (hW : Below (w3.alloc o).heap.size (w3.alloc o) W) => ha3.boxed o hW)
        have S3s := Lib.hid (fun o => S2.out.at (hb3.alloc hb3.size o) (B' := (w3.alloc o).heap.size) (by have := hb3.size; simp; omega))
        have C3 := Lib.hid ((hb3.block _ hw2).trans C2.out)
        obtain ⟨⟨x0, x1, x2, x3⟩, _, _, _, _⟩ := four C3.out
        have hw3 : w.heap.size < w3.heap.size := lt_of_heap C3.out
        clear ha3 hb3
        go_wp2_with fail
        refine (HSm.out _ _ _ (S3.out _ _ (Below.refl _ _)) (S3s.out _)).mono ?_
        rintro e w4 ⟨rfl, hb4⟩
        have B4 := Lib.hid (bthen (B3.out _) hb4)
        have C4 := Lib.hid ((hb4.block w.heap.size (by simp; omega)).trans ((((Below.refl w3.heap.size w3).alloc (Nat.le_refl _) _).block _ hw3).trans C3.out))
        have C5 := Lib.hid ((hb4.block w3.heap.size (by simp)).trans (heap_alloc_new w3 _))
        have S4 := Lib.hid (S3.out _ _ hb4)
        have S4s := Lib.hid ((S3s.out _).at hb4 hb4.size)
        clear x0 x1 x2 x3
        obtain ⟨⟨x0, x1, x2, x3⟩, _, _, _, _⟩ := four C4.out
        obtain ⟨⟨y0, y1, y2, y3⟩, _, _, _, _⟩ := four C5.out
        clear hb4
        go_wp2_with fail
        refine (HSn.out _ _ w4 S4.out S4s.out).mono ?_
        rintro e w5 ⟨rfl, hb5⟩
        have B5 := Lib.hid (bthen B4.out hb5)
        clear hb5
        go_wp2_with fail
        refine (HAl.out _ (hg.below B5.out)).mono ?_
        rintro e w6 ⟨rfl, hb6⟩
        go_wp2_with fail
        go_ret
        exact ⟨rfl, bthen B5.out hb6⟩
    · have hsh : showS d s = ([], rightS d s) := by unfold showS; rw [if_pos hr]
      rw [hsh] at HS
      generalize rightS d s = k at *
      have e2 : ((k : Int) != 0) = true := by rw [bne_iff_ne]; omega
      clear hsh hr hli hf HFT
      go_enter Tryz.func4, Tryz.ntmps4
      go_wp2_with fail
      refine (HL.out _).mono ?_
      rintro e w1 ⟨rfl, hb1⟩
      have B1 := Lib.hid (bthen (B0.out _) hb1)
      have S1 := Lib.hid (HST.out _ _ hb1)
      have C1 := Lib.hid ((hb1.block w.heap.size (by simp)).trans (heap_alloc_new w _))
      obtain ⟨⟨x0, x1, x2, x3⟩, _, _, _, _⟩ := four C1.out
      clear hb1
      go_wp2_with fail
      refine (HS.out _ _ (hg.below B1.out) S1.out).mono ?_
      rintro e w2 ⟨rfl, hb2⟩
      have B2 := Lib.hid (bthen B1.out hb2)
      clear hb2
      go_wp2_with fail
      refine (HAl.out _ (hg.below B2.out)).mono ?_
      rintro e w3 ⟨rfl, hb3⟩
      go_wp2_with fail
      go_ret
      exact ⟨rfl, bthen B2.out hb3⟩
end Go.Proofs.YthdlkdglifgnpaaGreatDoor

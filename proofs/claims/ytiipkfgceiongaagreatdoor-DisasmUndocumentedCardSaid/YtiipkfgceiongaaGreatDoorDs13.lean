/- disasm: Stmts and Text of the 8080's and Zilog's dialect. -/
import Derived.Test.YtiipkfgceiongaaGreatDoorDs11
import Derived.Test.YtiipkfgceiongaaGreatDoorUg
import Derived.Test.YtiipkfgceiongaaGreatDoorUe
import Derived.Test.YtiipkfgceiongaaGreatDoorLn33
import Derived.Test.YtiipkfgceiongaaGreatDoorUa
namespace Go.Proofs.YtiipkfgceiongaaGreatDoor
open Go.RowKit

theorem Stmts80_any (f86 : Nat → List UInt8 → St × Nat × Int) (d n : Int) (b : List UInt8) (v : Value) (w : World) (hg : GWL w) (hr : RdB w w.heap.size v b) (hl : b.length ≤ 1000000) (hd : d ≠ 2) :
    Calls Tryz.prog 13 #[.int .i64 d, .int .i64 n, v] w (StmtsP w (stmtsD f86 d n b).1 (stmtsD f86 d n b).2) := by
  unfold stmtsD
  by_cases h1 : d < 0 ∨ 2 < d ∨ n < 0
  · rw [if_pos h1]
    exact Stmts_bad d n b v w hr hl h1
  · rw [if_neg h1]
    by_cases h2 : 65536 < b.length ∨ 65536 - (b.length : Int) < n
    · rw [if_pos h2]
      exact Stmts_over d n b v w hr hl (by omega) (by omega) (by omega) h2
    · rw [if_neg h2]
      by_cases h3 : b = []
      · rw [if_pos h3]
        subst h3
        exact Stmts_none d n v w hr (by omega) (by omega) (by omega) (by simp at h2; omega)
      · rw [if_neg h3]
        obtain ⟨m, rfl⟩ : ∃ m : Nat, n = m := ⟨n.toNat, by omega⟩
        have hf : firstD f86 d = fun _ b => first80D d b := by funext pl b; unfold firstD; rw [if_neg hd]
        rw [hf]
        exact Stmts80_main d m b v w hg hr hl (by omega) (by omega) h3 (by omega) _ rfl
theorem numA_fit (n : Nat) (h : n ≤ 65535) : fitA (numA n) := ⟨by simp [numA], by simp [numA], by simp [numA, numE, fitE, fitL]; omega⟩
theorem operandD_fit (s : List UInt8) (n : Nat) (hs : s.length ≤ 1000) (h : n ≤ 65535) : fitA (operandD s n) := by
  unfold operandD
  split
  · exact numA_fit n h
  · split
    · exact numA_fit n h
    · exact ⟨hs, by simp [wordA], by simp [wordA, ex0, fitE, fitL]⟩
theorem names_fit : ∀ k : Fin 256, (name80 k.val).length ≤ 1000 ∧ (zname k.val).length ≤ 1000 ∧ (∀ a ∈ args80 k.val, a.length ≤ 1000) ∧ (∀ a ∈ zargs k.val, a.length ≤ 1000) := by decide +kernel
theorem st80_fit (d : Int) (op n : Nat) (ho : op < 256) (hn : n ≤ 65535) : fitS (st80 d op n) := by
  obtain ⟨h1, h2, h3, h4⟩ := names_fit ⟨op, ho⟩
  simp only at h1 h2 h3 h4
  have hnm : (nm80 d op).length ≤ 1000 := by unfold nm80; split <;> assumption
  have har : ∀ a ∈ ar80 d op, a.length ≤ 1000 := by unfold ar80; split <;> assumption
  unfold st80
  split
  · refine ⟨by simp, hnm, fun a ha => ?_⟩
    obtain rfl := List.mem_singleton.1 ha
    exact numA_fit _ (by unfold rst80; split <;> omega)
  · refine ⟨by simp, hnm, fun a ha => ?_⟩
    obtain ⟨x, hx, rfl⟩ := List.mem_map.1 ha
    exact operandD_fit x n (har x hx) hn
theorem first80_fit (d : Int) (b : List UInt8) : fitS (first80D d b).1 := by
  have hb := byteN_lt b
  unfold first80D
  split
  · refine ⟨by simp [dbD], by simp [dbD], fun a ha => ?_⟩
    obtain rfl := List.mem_singleton.1 ha
    exact numA_fit _ (by have := hb 0; omega)
  · have h0 := hb 0
    have h1 := hb 1
    have h2 := hb 2
    refine st80_fit d _ _ ?_ ?_
    · unfold read80
      split
      · simp
      · split
        · simp
        · split
          · simp
          · exact h0
    · unfold read80
      split
      · simp
      · split
        · simp
        · split
          · simp
          · simp only
            unfold n80
            split
            · omega
            · split <;> omega
theorem finD_fit (m : List Int) (p : Pc) (h : fitS p.s) : fitS (finD m p) := by
  unfold finD
  refine ⟨?_, h.2.1, ?_⟩
  · simp only
    split
    · simp [labelD]
    · exact h.1
  · simp only
    split
    · intro a ha
      rcases List.mem_append.1 ha with ha | ha
      · exact h.2.2 a (List.dropLast_subset _ ha)
      · obtain rfl := List.mem_singleton.1 ha
        exact ⟨by simp [nameA], by simp [nameA], by simp [nameA, labelD, fitE, fitL]⟩
    · exact h.2.2
theorem stmts80_fit (f86 : Nat → List UInt8 → St × Nat × Int) (d n : Int) (b : List UInt8) (hd : d ≠ 2) : (∀ s ∈ (stmtsD f86 d n b).1, fitS s) ∧ (stmtsD f86 d n b).1.length ≤ 65537 := by
  unfold stmtsD
  split
  · simp
  · split
    · simp
    · split
      · simp
      · rename_i h1 h2 h3
        have hf : firstD f86 d = fun _ b => first80D d b := by funext pl b; unfold firstD; rw [if_neg hd]
        rw [hf]
        have hl := sweep_len (fun _ b => first80D d b) b.length n.toNat b
        have hp := List.length_pos_iff.2 h3
        refine ⟨fun s hs => ?_, by simp; omega⟩
        simp only at hs
        rcases List.mem_cons.1 hs with rfl | hs
        · refine ⟨by simp [orgS], by simp [orgS], fun a ha => ?_⟩
          obtain rfl := List.mem_singleton.1 ha
          exact numA_fit _ (by omega)
        · obtain ⟨p, hp, rfl⟩ := List.mem_map.1 hs
          exact finD_fit _ p (sweep_all (fun _ b => first80D d b) (fun p => fitS p.s) (fun pl b _ => first80_fit d b) b.length n.toNat b p hp)
theorem showS_len (d : Int) (s : St) : (showS d s).1.length ≤ 200 := by
  unfold showS
  split
  · simp
  · split
    · simp
    · simp only; omega
theorem textsD_snoc (d : Int) (l : List St) (s : St) : textsD d (l ++ [s]) = textsD d l ++ (showS d s).1 ++ [10] := by simp [textsD]
theorem textsD_len (d : Int) (l : List St) : (textsD d l).length ≤ 201 * l.length := by
  induction l with
  | nil => simp [textsD]
  | cons s l ih =>
    have h := showS_len d s
    unfold textsD at *
    simp only [List.map_cons, List.flatten_cons, List.length_append, List.length_cons, List.length_nil] at *
    omega
theorem isb_below {B b : Nat} {bs : List Value} {w w' : World} {T e : TypeId} (h : Lib.IsBuilder T e B b bs w) (hb : Below w.heap.size w w') : Lib.IsBuilder T e B b bs w' := by
  rcases h with h | h
  · obtain ⟨h1, v, h2, h3, h4⟩ := h
    exact .inl ⟨h1, v, (hb.block b (lt_of_heap h2)).trans h2, own_below h3 hb, h4⟩
  · obtain ⟨h1, v, h2, h3, h4⟩ := h
    exact .inr ⟨h1, v, (hb.block b (lt_of_heap h2)).trans h2, own_below h3 hb, h4⟩
set_option maxHeartbeats 4000000 in
set_option maxRecDepth 100000 in
theorem Text80_any (f86 : Nat → List UInt8 → St × Nat × Int) (d n : Int) (b : List UInt8) (v : Value) (w : World) (hg : GWL w) (hr : RdB w w.heap.size v b) (hl : b.length ≤ 1000000) (hd : d ≠ 2) :
    Calls Tryz.prog 16 #[.int .i64 d, .int .i64 n, v] w fun e w' => e = .returned (.tuple #[.string ⟨(textD f86 d n b).1.toArray⟩, .int .i64 (textD f86 d n b).2]) ∧ Below w.heap.size w w' := by
  have HS := Lib.hid (Stmts80_any f86 d n b v w hg hr hl hd)
  have HFIT := Lib.hid (stmts80_fit f86 d n b hd).1
  have hlen := (stmts80_fit f86 d n b hd).2
  unfold textD
  obtain ⟨A, c, rfl, hc⟩ := hr.form
  clear hr
  generalize stmtsD f86 d n b = res at *
  obtain ⟨l, k⟩ := res
  simp only at *
  by_cases hk : k = 0
  · subst hk
    rw [if_neg (by simp)]
    go_enter Tryz.func16, Tryz.ntmps16
    go_wp2_with fail
    refine HS.out.mono ?_
    rintro e w1 ⟨lv, rfl, hst, hb1⟩
    obtain ⟨lA, lc, rfl, hlc, hlm⟩ := hst.form
    have ST := Lib.hid hst
    have HB1 := Lib.hid hb1
    have hz1 := hb1.size
    have I0 := Lib.hid (Lib.fresh_isBuilder 79 5 w1)
    clear hst hb1 HS
    go_wp2_with fail
    go_loopw [27] (fun i wr => ∃ k : Nat, k ≤ l.length ∧ i = .int .i64 k ∧ Lib.IsBuilder 79 5 w1.heap.size w1.heap.size (Lib.byteCells (textsD d (l.take k))) wr ∧ Below w1.heap.size w1 wr ∧ w1.heap.size < wr.heap.size) (fun i _ => l.length - (intOf i).toNat)
    case atStart => exact ⟨0, Nat.zero_le _, rfl, I0.out, (Below.refl _ _).alloc (Nat.le_refl _) _, by simp⟩
    case round =>
      obtain ⟨k, hk, rfl, hi, hb, hzr⟩ := hrel
      have HI := Lib.hid hi
      have HB := Lib.hid hb
      clear hi hb
      by_cases hlt : k < l.length
      · obtain ⟨G, o, vk, hA, hgl, c0, c1, c2, c3, hsub⟩ := (ST.out.keep (w' := wr) (fun p hp => HB.out.cell hp.2) (fun g hg => hg)).get k hlt
        subst hA
        obtain ⟨sA, sc, rfl, hsc, hsm⟩ := hsub.form
        have hG := hgl.2
        have BO := Lib.hid (fun o => (Below.refl wr.heap.size wr).alloc (Nat.le_refl _) o)
        have HW := Lib.hid (fun o => isb_below HI.out (BO.out o))
        have HSH := Lib.hid (fun o => show12_any d l[k] (.slice sA l[k].args.length sc) (wr.alloc o) (hg.below (bthen (bthen HB1.out HB.out) (BO.out o))) (HFIT.out _ (List.getElem_mem hlt)) (hsub.keep (fun p hp => (BO.out o).cell (Nat.lt_trans hp.2 hzr)) (fun g hg => by simp; omega)))
        have hsl := showS_len d l[k]
        have htl := textsD_len d (l.take k)
        have HTK := Lib.hid (show textsD d (l.take (k + 1)) = textsD d (l.take k) ++ (showS d l[k]).1 ++ [10] by rw [List.take_succ_eq_append_getElem hlt, textsD_snoc])
        have hkl : (l.take k).length = k := by simp; omega
        rw [hkl] at htl
        generalize textsD d (l.take k) = tx at *
        generalize showS d l[k] = sh at *
        generalize l[k] = s at *
        obtain ⟨lab, colon, op, args⟩ := s
        obtain ⟨st, ks⟩ := sh
        unfold stV at HSH
        simp only at *
        clear hsub hsc hsm hgl
        go_wp2_with fail
        refine (HSH.out _).mono ?_
        rintro e w5 ⟨rfl, hb5⟩
        have H5 := Lib.hid (isb_below (HW.out _) hb5)
        have B5 := Lib.hid (bthen (HB.out.alloc HB.out.size _) hb5)
        have hz5 := hb5.size
        clear hb5
        go_wp2_with fail
        refine (bwrite_str _ _ tx st _ H5.out (by omega) (by simp at hz5; omega)).mono ?_
        rintro e w6 ⟨rfl, h6, hb6⟩
        have B6 := Lib.hid (B5.out.trans hb6)
        have H6 := Lib.hid h6
        have hz6 := hb6.size
        clear h6 hb6
        have HB7 := Lib.hid (bwrite_byte _ _ (tx ++ st) 10 _ H6.out (by simp; omega) (by simp at hz5; omega))
        go_wp2_with fail
        refine HB7.out.mono ?_
        rintro e w7 ⟨rfl, h7, hb7⟩
        have H7 := Lib.hid h7
        have B7 := Lib.hid (B6.out.trans hb7)
        have hz7 := hb7.size
        clear h7 hb7
        go_wp2_with fail
        go_roundw
        case rel => exact ⟨k + 1, by omega, by go_num, by rw [HTK.out]; exact H7.out, B7.out, by simp at hz5; omega⟩
        case measure => simp [intOf]; omega
      · obtain rfl : k = l.length := by omega
        rw [List.take_length] at HI
        have HX := Lib.hid (Tryz.Builder_String_any _ _ _ _ HI.out HB.out.size)
        go_wp2_with fail
        refine HX.out.mono ?_
        rintro e w9 ⟨rfl, hb9⟩
        go_wp2_with fail
        go_ret2
        exact ⟨rfl, HB1.out.trans ((HB.out.trans hb9).mono HB1.out.size)⟩
  · rw [if_pos hk]
    have e1 : ((k : Int) == 0) = false := by rw [beq_eq_false_iff_ne]; omega
    go_enter Tryz.func16, Tryz.ntmps16
    go_wp2_with fail
    refine HS.out.mono ?_
    rintro e w1 ⟨lv, rfl, hst, hb1⟩
    obtain ⟨lA, lc, rfl, hlc, hlm⟩ := hst.form
    go_wp2_with fail
    go_ret2
    exact ⟨rfl, hb1⟩
end Go.Proofs.YtiipkfgceiongaaGreatDoor

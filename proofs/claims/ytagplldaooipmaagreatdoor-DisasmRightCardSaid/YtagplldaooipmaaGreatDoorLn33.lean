/- Ln33. -/
import Derived.Test.YtagplldaooipmaaGreatDoorLn32
namespace Go.Proofs.YtagplldaooipmaaGreatDoor
open Go.RowKit
theorem inter_len (c : UInt8) (M : Nat) : ∀ l : List (List UInt8), (∀ x ∈ l, x.length ≤ M) → ([c].intercalate l).length ≤ (M + 1) * l.length := by
  intro l
  induction l with
  | nil => intro _; simp [List.intercalate]
  | cons a r ih =>
    intro h
    cases r with
    | nil =>
      rw [inter_one]
      have := h a (by simp)
      simp; omega
    | cons b r =>
      rw [inter_cons]
      have h1 := ih (fun x hx => h x (by simp [hx]))
      have h2 := h a (by simp)
      simp only [List.length_append, List.length_cons, Nat.mul_add, Nat.add_mul, Nat.mul_one, Nat.one_mul] at *
      omega
theorem filt3 (a b c : List UInt8) : (if c = [] then (if b = [] then (if a = [] then ([] : List (List UInt8)) else [] ++ [a]) else (if a = [] then ([] : List (List UInt8)) else [] ++ [a]) ++ [b]) else (if b = [] then (if a = [] then ([] : List (List UInt8)) else [] ++ [a]) else (if a = [] then ([] : List (List UInt8)) else [] ++ [a]) ++ [b]) ++ [c]) = [a, b, c].filter (fun x => !x.isEmpty) := by
  by_cases ha : a = [] <;> by_cases hb : b = [] <;> by_cases hc : c = [] <;> simp [ha, hb, hc]
theorem labS_len (s : St) : (labS s).length ≤ s.label.length + 1 := by unfold labS; split <;> simp
set_option maxHeartbeats 4000000 in
set_option maxRecDepth 100000 in
theorem show12_any (d : Int) (s : St) (v : Value) (w : World) (hg : GWL w) (hf : fitS s) (hs : ArAt w (· < w.heap.size) v s.args) :
    Calls Tryz.prog 23 #[.int .i64 d, stV s v] w fun e w' => e = .returned (.tuple #[.string ⟨(showS d s).1.toArray⟩, .int .i64 (showS d s).2]) ∧ Below w.heap.size w w' := by
  have HR := Lib.hid (fun W (hW : Below w.heap.size w W) => Right12_any d s v W (hg.below hW) hf (hs.at hW hW.size))
  have HS := Lib.hid (fun W (hW : Below w.heap.size w W) => hs.at hW hW.size)
  have HRES : Hid (showS d s = if rightS d s ≠ 0 then ([], rightS d s) else if 200 < (textS d s).length then ([], 11) else (textS d s, 0)) := Lib.hid rfl
  have HFA := Lib.hid hf.2.2
  have HLen : Hid (rightS d s = 0 → s.args.length ≤ 32) := Lib.hid (fun h => (rightS.form h).few)
  have hll := hf.1
  have hol := hf.2.1
  obtain ⟨A, c, rfl, hc, hm⟩ := hs.form
  have HT : Hid (textS d s = [32].intercalate ([labS s, s.op, [44].intercalate (s.args.map (showA d))].filter (fun x => !x.isEmpty))) := Lib.hid rfl
  have HL : Hid (labS s = if s.colon then s.label ++ [58] else s.label) := Lib.hid rfl
  have hlb := labS_len s
  generalize showS d s = res at *
  generalize textS d s = txt at *
  generalize rightS d s = rs at *
  generalize labS s = lb at *
  obtain ⟨lab, colon, op, args⟩ := s
  unfold stV
  simp only at *
  have B0 := Lib.hid (fun o => (Below.refl w.heap.size w).alloc (Nat.le_refl _) o)
  clear hs hf
  by_cases hr : rs = 0
  · subst hr
    have HR2 := Lib.hid ((if_neg (by simp)).symm.trans HRES.out.symm)
    have hn := HLen.out rfl
    clear HRES HLen hm
    go_enter Tryz.func23, Tryz.ntmps23
    go_wp2_with fail
    refine (HR.out _ (B0.out _)).mono ?_
    rintro e w2 ⟨rfl, hb2⟩
    have B2 := Lib.hid (bthen (B0.out _) hb2)
    have C2 := Lib.hid ((hb2.block w.heap.size (by simp)).trans (heap_alloc_new w _))
    obtain ⟨⟨k0, k1, k2, k3⟩, _, _, _, _⟩ := four C2.out
    have hH : w.heap.size < w2.heap.size := lt_of_heap C2.out
    have n1 : ¬ 9223372036854775807 < lab.length + 1 := by omega
    have W3 := Lib.hid (show WordsAt (w2.alloc (.cells #[.slice none 0 0] 81)) w2.heap.size (w2.heap.size + 1) [] from ⟨_, heap_alloc_new w2 _, ⟨rfl, .inl ⟨rfl, rfl⟩⟩⟩)
    have B3 := Lib.hid (B2.out.alloc B2.out.size (.cells #[.slice none 0 0] 81))
    have C3 := Lib.hid (((((Below.refl w2.heap.size w2).alloc (Nat.le_refl _) (.cells #[.slice none 0 0] 81))).block _ hH).trans C2.out)
    clear hb2 B2 C2
    cases colon with
    | true =>
      go_wp2_with fail
      go_loopw [8, 30] (fun v8 i wr => ∃ k : Nat, k ≤ args.length ∧ i = .int .i64 k ∧ wr.ownsRow (w2.heap.size + 1) 9 1 v8 k (((args.take k).map (showA d)).map strV) ∧ Below (w2.heap.size + 1) (w2.alloc (.cells #[.slice none 0 0] 81)) wr) (fun _ i _ => args.length - (intOf i).toNat)
      case atStart => exact ⟨0, Nat.zero_le _, rfl, ⟨by simp, .inl ⟨rfl, rfl⟩⟩, Below.refl _ _⟩
      case round =>
        obtain ⟨k, hk, rfl, ho8, hb8⟩ := hrel
        have O8 := Lib.hid ho8
        have B8 := Lib.hid hb8
        have BW := Lib.hid (B3.out.trans (hb8.mono (by omega)))
        have hsz : w2.heap.size + 1 ≤ wr.heap.size := by have := hb8.size; simpa using this
        obtain ⟨A8, c8, rfl, hc8, hm8, _⟩ := own_slice ho8 (by omega)
        clear ho8 hb8
        by_cases hlt : k < args.length
        · obtain ⟨g, o, vk, hA, hgl, c0, c1, c2, c3, c4, c5, c6, c7, hsub⟩ := (HS.out wr BW.out).get k hlt
          subst hA
          obtain ⟨sA, sc, rfl, hsc, hsm⟩ := hsub.form
          have HA := Lib.hid (fun o => ashow_any d args[k] _ (wr.alloc o) (hg.below (BW.out.alloc BW.out.size o)) (HFA.out _ (List.getElem_mem hlt)) (hsub.at ((Below.refl _ _).alloc (Nat.le_refl _) o) (by simp)))
          have HTK := Lib.hid (show ((args.take (k + 1)).map (showA d)).map strV = ((args.take k).map (showA d)).map strV ++ [strV (showA d args[k])] by rw [List.take_succ_eq_append_getElem hlt, List.map_append, List.map_append]; rfl)
          generalize showA d args[k] = st at *
          generalize args[k] = a at *
          clear hsub hsm hsc
          go_wp2_with fail
          refine (HA.out _).mono ?_
          rintro e w5 ⟨rfl, hb5⟩
          have B5 := Lib.hid (bthen ((Below.refl wr.heap.size wr).alloc (Nat.le_refl _) _) hb5)
          have O5 := Lib.hid (own_but (b := w2.heap.size) O8.out (by omega) ((But.refl _ _ _).bel B5.out))
          have O6 := Lib.hid (O5.out.alloc (.cells #[.string ⟨st.toArray⟩] 9))
          have N6 := Lib.hid (Rd.new w5 [.string ⟨st.toArray⟩] 9)
          have h5 : w2.heap.size + 1 ≤ w5.heap.size := Nat.le_trans hsz B5.out.size
          have B6 := Lib.hid ((B8.out.trans (B5.out.mono hsz)).alloc h5 (.cells #[.string ⟨st.toArray⟩] 9))
          clear hb5 c0 c1 c2 c3 c4 c5 c6 c7 HA
          go_wp2_with (at_builtin; refine wpList_append_to _ rfl (.tmp 34) (.tmp 38) 81 rfl (w2.heap.size + 1) 9 _ 1 16 Tryz.underlying81 info_str rfl (by omega) O6.out rfl N6.out rfl rfl (fun u hu => by simp at hu; subst hu; rfl) (by omega) (by omega) (by simp; omega) ?_; intro v9 w9 hown9 hbel9 hg9 hv9; have O9 := Lib.hid hown9; have B9 := Lib.hid (B6.out.trans hbel9); clear hown9 hbel9 hg9 hv9)
          go_roundw
          case rel => exact ⟨k + 1, by omega, by go_num, by rw [HTK.out]; exact O9.out, B9.out⟩
          case measure => simp [intOf]; omega
        · obtain rfl : k = args.length := by omega
          rw [List.take_length] at O8
          have hH2 : w.heap.size < wr.heap.size := Nat.lt_of_lt_of_le hH (Nat.le_trans (Nat.le_succ _) hsz)
          have C8 := Lib.hid ((B8.out.block w.heap.size (by omega)).trans C3.out)
          have W8 : Hid (WordsAt wr w2.heap.size wr.heap.size []) := Lib.hid (by
            obtain ⟨v0, q1, q2⟩ := W3.out
            have hv0 : v0 = .slice none 0 0 := by
              have := heap_alloc_new w2 (.cells #[.slice none 0 0] 81)
              rw [this] at q1
              injection q1 with q1
              injection q1 with q1
              simpa using q1.symm
            exact ⟨v0, (B8.out.block _ (Nat.lt_succ_self _)).trans q1, ⟨rfl, .inl ⟨hv0, rfl⟩⟩⟩)
          have HJA := Lib.hid (fun W (hW : But wr.heap.size w2.heap.size wr W) => join_wide (args.map (showA d)) [44] _ W (by rw [List.length_map]; exact Rd.of_own (own_but O8.out (by omega) hW)) (by simp; omega) (Nat.le_trans (inter_len 44 600000010 _ (fun x hx => by obtain ⟨a, ha, rfl⟩ := List.mem_map.1 hx; exact showA_len d a (HFA.out a ha))) (by simp; omega)))
          have hjl : ([44].intercalate (args.map (showA d))).length ≤ 20000000000 := Nat.le_trans (inter_len 44 600000010 _ (fun x hx => by obtain ⟨a, ha, rfl⟩ := List.mem_map.1 hx; exact showA_len d a (HFA.out a ha))) (by simp; omega)
          generalize [44].intercalate (args.map (showA d)) = jn at *
          generalize args.map (showA d) = sh at *
          clear W3 HS HFA
          go_wp2_with fail
          refine (addw_any (lab ++ [58]) w2.heap.size wr.heap.size [] wr (by simp) (by omega) (Nat.le_refl _) W8.out).mono ?_
          rintro e w4 ⟨rfl, hw4, hb4, hbt4⟩
          have W4 := Lib.hid hw4
          have B4 := Lib.hid (BW.out.trans (hb4.mono (Nat.le_of_lt hH)))
          have BT4 := Lib.hid hbt4
          have C4 := Lib.hid ((hbt4.2 _ hH2 (by omega)).trans C8.out)
          have l1 : (if (lab ++ [58]) = [] then ([] : List (List UInt8)) else [] ++ [lab ++ [58]]).length ≤ 1 := by split <;> simp
          obtain ⟨⟨y0, y1, y2, y3⟩, _, _, _, _⟩ := four C4.out
          have hs4 : wr.heap.size ≤ w4.heap.size := hbt4.1
          generalize hw1 : (if (lab ++ [58]) = [] then ([] : List (List UInt8)) else [] ++ [lab ++ [58]]) = ws1 at *
          have E1 := Lib.hid hw1
          clear hw1
          clear hw4 hb4 hbt4 W8
          go_wp2_with fail
          refine (addw_any op w2.heap.size wr.heap.size ws1 w4 (by omega) (by omega) hs4 W4.out).mono ?_
          rintro e w6 ⟨rfl, hw6, hb6, hbt6⟩
          have W6 := Lib.hid hw6
          have B6 := Lib.hid (B4.out.trans (hb6.mono (Nat.le_of_lt hH)))
          have BT6 : Hid (But wr.heap.size w2.heap.size wr w6) := Lib.hid ⟨Nat.le_trans hs4 hbt6.1, fun q h1 h2 => (hbt6.2 q h1 h2).trans (BT4.out.2 q h1 h2)⟩
          have l2 : (if op = [] then ws1 else ws1 ++ [op]).length ≤ 2 := by split <;> (try simp) <;> omega
          generalize hw2 : (if op = [] then ws1 else ws1 ++ [op]) = ws2 at *
          have E2 := Lib.hid hw2
          clear hw2
          clear hw6 hb6 hbt6 W4 y0 y1 y2 y3
          go_wp2_with fail
          refine (HJA.out w6 BT6.out).mono ?_
          rintro e w7 ⟨rfl, hb7⟩
          have W7 := Lib.hid (W6.out.bel hb7)
          have B7 := Lib.hid (bthen B6.out hb7)
          have hs7 : wr.heap.size ≤ w7.heap.size := Nat.le_trans BT6.out.1 hb7.size
          clear hb7 W6
          go_wp2_with fail
          refine (addw_any jn w2.heap.size wr.heap.size ws2 w7 (by omega) (by omega) hs7 W7.out).mono ?_
          rintro e w10 ⟨rfl, hw10, hb10, hbt10⟩
          have B10 := Lib.hid (B7.out.trans (hb10.mono (Nat.le_of_lt hH)))
          obtain ⟨vw, q1, q2⟩ := hw10
          have l3 : (if jn = [] then ws2 else ws2 ++ [jn]).length ≤ 3 := by split <;> (try simp) <;> omega
          generalize hw3 : (if jn = [] then ws2 else ws2 ++ [jn]) = ws3 at *
          have E3 : Hid (ws3 = [lab ++ [58], op, jn].filter (fun x => !x.isEmpty)) := Lib.hid (by rw [← hw3, ← E2.out, ← E1.out]; exact filt3 _ _ _)
          have HM3 : ∀ x ∈ ws3, x.length ≤ 20000000000 := by
            rw [E3.out]
            intro x hx
            have hx := (List.mem_filter.1 hx).1
            simp only [List.mem_cons, List.not_mem_nil, or_false] at hx
            rcases hx with rfl | rfl | rfl
            · simp; omega
            · omega
            · exact hjl
          have HJ3 := Lib.hid (join_wide ws3 [32] vw w10 (Rd.of_own q2) (by omega) (Nat.le_trans (inter_len 32 20000000000 ws3 HM3) (by omega)))
          have HTX : Hid ([32].intercalate ws3 = txt) := Lib.hid (by rw [E3.out, HT.out]; rw [HL.out]; simp)
          rw [HTX.out] at HJ3
          obtain ⟨vA, vc, rfl, _, _, _⟩ := own_slice q2 (by omega)
          have k10 := cell_of_heap (i := 0) q1
          simp at k10
          clear q1 q2 hw3 HM3 E1 E2 E3 HTX HJA O8
          go_wp2_with fail
          refine HJ3.out.mono ?_
          rintro e w11 ⟨rfl, hb11⟩
          have B11 := Lib.hid (bthen B10.out hb11)
          clear hb11 HJ3
          by_cases h200 : 200 < txt.length
          · obtain rfl : res = ([], 11) := HR2.out.symm.trans (if_pos h200)
            have h200' : (200 : Int) < (txt.length : Int) := by omega
            clear HR2
            go_wp2_with fail
            go_ret2
            exact ⟨rfl, B11.out⟩
          · obtain rfl : res = (txt, 0) := HR2.out.symm.trans (if_neg h200)
            have h200' : decide ((200 : Int) < (txt.length : Int)) = false := by simp; omega
            clear HR2
            go_wp2_with fail
            go_ret2
            exact ⟨rfl, B11.out⟩
    | false =>
      go_wp2_with fail
      go_loopw [8, 30] (fun v8 i wr => ∃ k : Nat, k ≤ args.length ∧ i = .int .i64 k ∧ wr.ownsRow (w2.heap.size + 1) 9 1 v8 k (((args.take k).map (showA d)).map strV) ∧ Below (w2.heap.size + 1) (w2.alloc (.cells #[.slice none 0 0] 81)) wr) (fun _ i _ => args.length - (intOf i).toNat)
      case atStart => exact ⟨0, Nat.zero_le _, rfl, ⟨by simp, .inl ⟨rfl, rfl⟩⟩, Below.refl _ _⟩
      case round =>
        obtain ⟨k, hk, rfl, ho8, hb8⟩ := hrel
        have O8 := Lib.hid ho8
        have B8 := Lib.hid hb8
        have BW := Lib.hid (B3.out.trans (hb8.mono (by omega)))
        have hsz : w2.heap.size + 1 ≤ wr.heap.size := by have := hb8.size; simpa using this
        obtain ⟨A8, c8, rfl, hc8, hm8, _⟩ := own_slice ho8 (by omega)
        clear ho8 hb8
        by_cases hlt : k < args.length
        · obtain ⟨g, o, vk, hA, hgl, c0, c1, c2, c3, c4, c5, c6, c7, hsub⟩ := (HS.out wr BW.out).get k hlt
          subst hA
          obtain ⟨sA, sc, rfl, hsc, hsm⟩ := hsub.form
          have HA := Lib.hid (fun o => ashow_any d args[k] _ (wr.alloc o) (hg.below (BW.out.alloc BW.out.size o)) (HFA.out _ (List.getElem_mem hlt)) (hsub.at ((Below.refl _ _).alloc (Nat.le_refl _) o) (by simp)))
          have HTK := Lib.hid (show ((args.take (k + 1)).map (showA d)).map strV = ((args.take k).map (showA d)).map strV ++ [strV (showA d args[k])] by rw [List.take_succ_eq_append_getElem hlt, List.map_append, List.map_append]; rfl)
          generalize showA d args[k] = st at *
          generalize args[k] = a at *
          clear hsub hsm hsc
          go_wp2_with fail
          refine (HA.out _).mono ?_
          rintro e w5 ⟨rfl, hb5⟩
          have B5 := Lib.hid (bthen ((Below.refl wr.heap.size wr).alloc (Nat.le_refl _) _) hb5)
          have O5 := Lib.hid (own_but (b := w2.heap.size) O8.out (by omega) ((But.refl _ _ _).bel B5.out))
          have O6 := Lib.hid (O5.out.alloc (.cells #[.string ⟨st.toArray⟩] 9))
          have N6 := Lib.hid (Rd.new w5 [.string ⟨st.toArray⟩] 9)
          have h5 : w2.heap.size + 1 ≤ w5.heap.size := Nat.le_trans hsz B5.out.size
          have B6 := Lib.hid ((B8.out.trans (B5.out.mono hsz)).alloc h5 (.cells #[.string ⟨st.toArray⟩] 9))
          clear hb5 c0 c1 c2 c3 c4 c5 c6 c7 HA
          go_wp2_with (at_builtin; refine wpList_append_to _ rfl (.tmp 34) (.tmp 38) 81 rfl (w2.heap.size + 1) 9 _ 1 16 Tryz.underlying81 info_str rfl (by omega) O6.out rfl N6.out rfl rfl (fun u hu => by simp at hu; subst hu; rfl) (by omega) (by omega) (by simp; omega) ?_; intro v9 w9 hown9 hbel9 hg9 hv9; have O9 := Lib.hid hown9; have B9 := Lib.hid (B6.out.trans hbel9); clear hown9 hbel9 hg9 hv9)
          go_roundw
          case rel => exact ⟨k + 1, by omega, by go_num, by rw [HTK.out]; exact O9.out, B9.out⟩
          case measure => simp [intOf]; omega
        · obtain rfl : k = args.length := by omega
          rw [List.take_length] at O8
          have hH2 : w.heap.size < wr.heap.size := Nat.lt_of_lt_of_le hH (Nat.le_trans (Nat.le_succ _) hsz)
          have C8 := Lib.hid ((B8.out.block w.heap.size (by omega)).trans C3.out)
          have W8 : Hid (WordsAt wr w2.heap.size wr.heap.size []) := Lib.hid (by
            obtain ⟨v0, q1, q2⟩ := W3.out
            have hv0 : v0 = .slice none 0 0 := by
              have := heap_alloc_new w2 (.cells #[.slice none 0 0] 81)
              rw [this] at q1
              injection q1 with q1
              injection q1 with q1
              simpa using q1.symm
            exact ⟨v0, (B8.out.block _ (Nat.lt_succ_self _)).trans q1, ⟨rfl, .inl ⟨hv0, rfl⟩⟩⟩)
          have HJA := Lib.hid (fun W (hW : But wr.heap.size w2.heap.size wr W) => join_wide (args.map (showA d)) [44] _ W (by rw [List.length_map]; exact Rd.of_own (own_but O8.out (by omega) hW)) (by simp; omega) (Nat.le_trans (inter_len 44 600000010 _ (fun x hx => by obtain ⟨a, ha, rfl⟩ := List.mem_map.1 hx; exact showA_len d a (HFA.out a ha))) (by simp; omega)))
          have hjl : ([44].intercalate (args.map (showA d))).length ≤ 20000000000 := Nat.le_trans (inter_len 44 600000010 _ (fun x hx => by obtain ⟨a, ha, rfl⟩ := List.mem_map.1 hx; exact showA_len d a (HFA.out a ha))) (by simp; omega)
          generalize [44].intercalate (args.map (showA d)) = jn at *
          generalize args.map (showA d) = sh at *
          clear W3 HS HFA
          go_wp2_with fail
          refine (addw_any (lab) w2.heap.size wr.heap.size [] wr (by simp) (by omega) (Nat.le_refl _) W8.out).mono ?_
          rintro e w4 ⟨rfl, hw4, hb4, hbt4⟩
          have W4 := Lib.hid hw4
          have B4 := Lib.hid (BW.out.trans (hb4.mono (Nat.le_of_lt hH)))
          have BT4 := Lib.hid hbt4
          have C4 := Lib.hid ((hbt4.2 _ hH2 (by omega)).trans C8.out)
          have l1 : (if (lab) = [] then ([] : List (List UInt8)) else [] ++ [lab]).length ≤ 1 := by split <;> simp
          obtain ⟨⟨y0, y1, y2, y3⟩, _, _, _, _⟩ := four C4.out
          have hs4 : wr.heap.size ≤ w4.heap.size := hbt4.1
          generalize hw1 : (if (lab) = [] then ([] : List (List UInt8)) else [] ++ [lab]) = ws1 at *
          have E1 := Lib.hid hw1
          clear hw1
          clear hw4 hb4 hbt4 W8
          go_wp2_with fail
          refine (addw_any op w2.heap.size wr.heap.size ws1 w4 (by omega) (by omega) hs4 W4.out).mono ?_
          rintro e w6 ⟨rfl, hw6, hb6, hbt6⟩
          have W6 := Lib.hid hw6
          have B6 := Lib.hid (B4.out.trans (hb6.mono (Nat.le_of_lt hH)))
          have BT6 : Hid (But wr.heap.size w2.heap.size wr w6) := Lib.hid ⟨Nat.le_trans hs4 hbt6.1, fun q h1 h2 => (hbt6.2 q h1 h2).trans (BT4.out.2 q h1 h2)⟩
          have l2 : (if op = [] then ws1 else ws1 ++ [op]).length ≤ 2 := by split <;> (try simp) <;> omega
          generalize hw2 : (if op = [] then ws1 else ws1 ++ [op]) = ws2 at *
          have E2 := Lib.hid hw2
          clear hw2
          clear hw6 hb6 hbt6 W4 y0 y1 y2 y3
          go_wp2_with fail
          refine (HJA.out w6 BT6.out).mono ?_
          rintro e w7 ⟨rfl, hb7⟩
          have W7 := Lib.hid (W6.out.bel hb7)
          have B7 := Lib.hid (bthen B6.out hb7)
          have hs7 : wr.heap.size ≤ w7.heap.size := Nat.le_trans BT6.out.1 hb7.size
          clear hb7 W6
          go_wp2_with fail
          refine (addw_any jn w2.heap.size wr.heap.size ws2 w7 (by omega) (by omega) hs7 W7.out).mono ?_
          rintro e w10 ⟨rfl, hw10, hb10, hbt10⟩
          have B10 := Lib.hid (B7.out.trans (hb10.mono (Nat.le_of_lt hH)))
          obtain ⟨vw, q1, q2⟩ := hw10
          have l3 : (if jn = [] then ws2 else ws2 ++ [jn]).length ≤ 3 := by split <;> (try simp) <;> omega
          generalize hw3 : (if jn = [] then ws2 else ws2 ++ [jn]) = ws3 at *
          have E3 : Hid (ws3 = [lab, op, jn].filter (fun x => !x.isEmpty)) := Lib.hid (by rw [← hw3, ← E2.out, ← E1.out]; exact filt3 _ _ _)
          have HM3 : ∀ x ∈ ws3, x.length ≤ 20000000000 := by
            rw [E3.out]
            intro x hx
            have hx := (List.mem_filter.1 hx).1
            simp only [List.mem_cons, List.not_mem_nil, or_false] at hx
            rcases hx with rfl | rfl | rfl
            · simp; omega
            · omega
            · exact hjl
          have HJ3 := Lib.hid (join_wide ws3 [32] vw w10 (Rd.of_own q2) (by omega) (Nat.le_trans (inter_len 32 20000000000 ws3 HM3) (by omega)))
          have HTX : Hid ([32].intercalate ws3 = txt) := Lib.hid (by rw [E3.out, HT.out]; rw [HL.out]; simp)
          rw [HTX.out] at HJ3
          obtain ⟨vA, vc, rfl, _, _, _⟩ := own_slice q2 (by omega)
          have k10 := cell_of_heap (i := 0) q1
          simp at k10
          clear q1 q2 hw3 HM3 E1 E2 E3 HTX HJA O8
          go_wp2_with fail
          refine HJ3.out.mono ?_
          rintro e w11 ⟨rfl, hb11⟩
          have B11 := Lib.hid (bthen B10.out hb11)
          clear hb11 HJ3
          by_cases h200 : 200 < txt.length
          · obtain rfl : res = ([], 11) := HR2.out.symm.trans (if_pos h200)
            have h200' : (200 : Int) < (txt.length : Int) := by omega
            clear HR2
            go_wp2_with fail
            go_ret2
            exact ⟨rfl, B11.out⟩
          · obtain rfl : res = (txt, 0) := HR2.out.symm.trans (if_neg h200)
            have h200' : decide ((200 : Int) < (txt.length : Int)) = false := by simp; omega
            clear HR2
            go_wp2_with fail
            go_ret2
            exact ⟨rfl, B11.out⟩
  · have e1 : ((rs : Int) != 0) = true := by rw [bne_iff_ne]; omega
    have HR2 := Lib.hid (HRES.out.trans (if_pos hr))
    clear HRES hr HLen
    go_enter Tryz.func23, Tryz.ntmps23
    go_wp2_with fail
    refine (HR.out _ (B0.out _)).mono ?_
    rintro e w2 ⟨rfl, hb2⟩
    have B2 := Lib.hid (bthen (B0.out _) hb2)
    clear hb2
    go_wp2_with fail
    go_ret2
    rw [HR2.out]
    exact ⟨rfl, B2.out⟩
end Go.Proofs.YtagplldaooipmaaGreatDoor

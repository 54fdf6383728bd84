/- Ln32. -/
import Derived.Test.YtagplldaooipmaaGreatDoorLn30
import Derived.Test.YtagplldaooipmaaGreatDoorKd
import Derived.Test.YtagplldaooipmaaGreatDoorKh
namespace Go.Proofs.YtagplldaooipmaaGreatDoor
open Go.RowKit
theorem join_wide (xs : List (List UInt8)) (sep : List UInt8) (v : Value) (w : World) (hr : Rd w w.heap.size v xs.length (xs.map strV)) (hl : xs.length ≤ 1000000) (hlen : (sep.intercalate xs).length ≤ 100000000000000) :
    Calls Tryz.prog 44 #[v, .string ⟨sep.toArray⟩] w fun e w' => e = .returned (.string ⟨(sep.intercalate xs).toArray⟩) ∧ Below w.heap.size w w' := by
  obtain ⟨A, c, rfl, hc, h3⟩ := hr
  by_cases h0 : xs = []
  · subst h0
    refine (Tryz.strings_Join_none A c ⟨sep.toArray⟩ w).mono ?_
    rintro e w1 ⟨rfl, rfl⟩
    exact ⟨rfl, Below.refl _ _⟩
  · have h0' : 0 < xs.length := List.length_pos_iff.mpr h0
    obtain ⟨g, o, rfl, hg, hcells⟩ := h3 h0'
    have e1 : (xs.map fun t => (⟨t.toArray⟩ : ByteArray)).map (·.data.toList) = xs := by rw [List.map_map]; exact List.map_id xs
    have hj := Tryz.strings_Join g o c (xs.map fun t => ⟨t.toArray⟩) ⟨sep.toArray⟩ w (fun j x hx => by
      refine hcells j (.string x) ?_
      rw [List.getElem?_map] at hx ⊢
      cases hq : xs[j]? with
      | none => rw [hq] at hx; simp at hx
      | some y => rw [hq] at hx; simp at hx; simp [strV, hx]) hg (by simp; omega) (by simpa using hc) (by
      rw [e1]
      show (sep.intercalate xs).length ≤ _
      omega)
    rw [e1, List.length_map] at hj
    exact hj
theorem showK_len (e : Ex) (hf : fitE e = true) : (showK e).length ≤ 600000000 := by
  unfold showK
  split
  · exact show_len9 e 24 (by omega) (by assumption) hf 1
  · simp
theorem showA_len (d : Int) (a : Ar) (hf : fitA a) : (showA d a).length ≤ 600000010 := by
  obtain ⟨h1, h2, h3⟩ := hf
  have h4 := showK_len a.e h3
  have h5 : (quoteL a.t).length ≤ 1000000 := by have := (dbl_length a.t).2; unfold quoteL; simp; omega
  unfold showK at h4
  unfold showA
  split
  · omega
  · split
    · omega
    · split
      · simp; omega
      · split
        · simp; omega
        · omega
set_option maxHeartbeats 2000000 in
theorem ashow_any (d : Int) (a : Ar) (v : Value) (w : World) (hg : GWL w) (hf : fitA a) (hs : SubAt w (· < w.heap.size) v a.e.sub) :
    Calls Tryz.prog 43 #[.int .i64 d, arV a v] w fun e w' => e = .returned (.string ⟨(showA d a).toArray⟩) ∧ Below w.heap.size w w' := by
  have HQ := Lib.hid (fun W (hW : GW W) => quote_any a.t W hW (Nat.le_trans hf.2.1 (by omega)))
  have HE := Lib.hid (fun W (hW : Below w.heap.size w W) => Show_any a.e v W hf.2.2 (hg.below hW).2 (hs.at hW hW.size))
  have HR : Hid (showA d a = if a.w ≠ [] then a.w else if a.is then quoteL a.t else if a.mem = true ∧ d = 2 then [91] ++ showK a.e ++ [93] else if a.mem = true then [40] ++ showK a.e ++ [41] else showK a.e) := Lib.hid rfl
  have hkl := showK_len a.e hf.2.2
  obtain ⟨A, c, rfl, hc, hm⟩ := hs.form
  have B0 := Lib.hid (fun o => (Below.refl w.heap.size w).alloc (Nat.le_refl _) o)
  have G0 := Lib.hid (fun o => (hg.below (B0.out o)).2)
  generalize showA d a = res at *
  generalize showK a.e = sk at *
  generalize rightK a.e = rk at *
  obtain ⟨aw, at1, ais, amem, ⟨eo, en, em, es⟩⟩ := a
  unfold arV
  simp only [Ex.op, Ex.n, Ex.name, Ex.sub] at *
  generalize es.length = sl at *
  generalize quoteL at1 = qt at *
  have n1 : ¬ 9223372036854775807 < 1 + sk.length := by omega
  have n2 : ¬ 9223372036854775807 < sk.length + 1 + 1 := by omega
  have n3 : ¬ 9223372036854775807 < 1 + sk.length + 1 := by omega
  clear hs hf hg hc hm
  by_cases h1 : aw = []
  · subst h1
    cases ais with
    | true =>
      have HR' := Lib.hid (HR.out.trans ((if_neg (by simp)).trans (if_pos rfl)))
      clear HR
      go_enter Tryz.func43, Tryz.ntmps43
      go_wp2_with fail
      refine (HQ.out _ (G0.out _)).mono ?_
      rintro e w2 ⟨rfl, hb2⟩
      go_wp2_with fail
      go_ret
      rw [HR'.out]
      exact ⟨rfl, bthen (B0.out _) hb2⟩
    | false =>
      have HR2 := Lib.hid (HR.out.trans ((if_neg (by simp)).trans (if_neg (by simp))))
      clear HR
      cases amem with
      | false =>
        have HR' := Lib.hid (HR2.out.trans ((if_neg (by simp)).trans (if_neg (by simp))))
        clear HR2
        go_enter Tryz.func43, Tryz.ntmps43
        go_wp2_with fail
        refine (HE.out _ (B0.out _)).mono ?_
        rintro e w2 ⟨rfl, hb2⟩
        obtain ⟨hcc, hff⟩ := bcell hb2
        have B2 := Lib.hid (bthen (B0.out _) hb2)
        clear hb2
        go_wp2_with fail
        go_ret
        rw [HR'.out]
        exact ⟨rfl, B2.out⟩
      | true =>
        by_cases h2 : d = 2
        · subst h2
          have HR' := Lib.hid (HR2.out.trans (if_pos (by simp)))
          clear HR2
          go_enter Tryz.func43, Tryz.ntmps43
          go_wp2_with fail
          refine (HE.out _ (B0.out _)).mono ?_
          rintro e w2 ⟨rfl, hb2⟩
          obtain ⟨hcc, hff⟩ := bcell hb2
          have B2 := Lib.hid (bthen (B0.out _) hb2)
          clear hb2
          go_wp2_with fail
          go_ret
          rw [HR'.out]
          exact ⟨rfl, B2.out⟩
        · have HR' := Lib.hid (HR2.out.trans ((if_neg (by simp [h2])).trans (if_pos rfl)))
          have e2 : (d == 2) = false := by simpa using h2
          clear HR2 h2
          go_enter Tryz.func43, Tryz.ntmps43
          go_wp2_with fail
          refine (HE.out _ (B0.out _)).mono ?_
          rintro e w2 ⟨rfl, hb2⟩
          obtain ⟨hcc, hff⟩ := bcell hb2
          have B2 := Lib.hid (bthen (B0.out _) hb2)
          clear hb2
          go_wp2_with fail
          go_ret
          rw [HR'.out]
          exact ⟨rfl, B2.out⟩
  · have HR' := Lib.hid (HR.out.trans (if_pos h1))
    have e1 : (!aw.isEmpty) = true := by simpa using h1
    clear HR h1
    go_enter Tryz.func43, Tryz.ntmps43
    go_wp2_with fail
    go_ret
    rw [HR'.out]
    exact ⟨rfl, B0.out _⟩
def WordsAt (w : World) (b B : Nat) (l : List (List UInt8)) : Prop := ∃ v, w.heap[b]? = some (.cells #[v] 81 (0, 0)) ∧ w.ownsRow B 9 1 v l.length (l.map strV)
theorem WordsAt.bel {w w' : World} {b B : Nat} {l : List (List UInt8)} (h : WordsAt w b B l) (hb : Below w.heap.size w w') : WordsAt w' b B l := by
  obtain ⟨v, h1, h2⟩ := h
  refine ⟨v, (hb.block _ (lt_of_heap h1)).trans h1, h2.1, ?_⟩
  rcases h2.2 with h3 | ⟨g, cap, cur, e, h4, h5, h6⟩
  · exact .inl h3
  · exact .inr ⟨g, cap, cur, e, h4, (hb.block g (lt_of_heap h5)).trans h5, h6⟩
theorem own_but {w w' : World} {base b n size : Nat} {e : TypeId} {v : Value} {xs : List Value} (h : w.ownsRow base e size v n xs) (hlt : b < base) (hb : But w.heap.size b w w') : w'.ownsRow base e size v n xs := by
  refine ⟨h.1, ?_⟩
  rcases h.2 with h3 | ⟨g, cap, cur, e, h4, h5, h6⟩
  · exact .inl h3
  · exact .inr ⟨g, cap, cur, e, h4, (hb.2 g (lt_of_heap h5) (by omega)).trans h5, h6⟩
set_option maxHeartbeats 2000000 in
theorem addw_any (x : List UInt8) (b B : Nat) (l : List (List UInt8)) (w : World) (hl : l.length ≤ 100) (hbB : b < B) (hB : B ≤ w.heap.size) (h : WordsAt w b B l) :
    Calls Tryz.prog 42 #[.string ⟨x.toArray⟩, .pointer (some ⟨b, 0, none⟩)] w fun e w' => e = .returned (.tuple #[]) ∧ WordsAt w' b B (if x = [] then l else l ++ [x]) ∧ Below b w w' ∧ But B b w w' := by
  obtain ⟨v, h1, h2⟩ := h
  have H1 := Lib.hid h1
  have H2 := Lib.hid h2
  obtain ⟨A, c, rfl, hc, hm, _⟩ := own_slice h2 (by omega)
  have hb := lt_of_heap h1
  have k0 := cell_of_heap (i := 0) h1
  have f0 := frozen_of_heap (i := 0) h1
  simp at k0 f0
  clear h1 h2
  by_cases hx : x = []
  · subst hx
    go_enter Tryz.func42, Tryz.ntmps42
    go_wp2_with fail
    go_end0
    exact ⟨rfl, ⟨_, H1.out, H2.out⟩, Below.refl _ _, But.refl _ _ _⟩
  · rw [if_neg hx]
    have e1 : (!x.isEmpty) = true := by simpa using hx
    have HO := Lib.hid (H2.out.alloc (.cells #[.string ⟨x.toArray⟩] 9))
    have HN := Lib.hid (Rd.new w [.string ⟨x.toArray⟩] 9)
    have HC := Lib.hid ((((Below.refl w.heap.size w).alloc (Nat.le_refl _) (.cells #[.string ⟨x.toArray⟩] 9)).block _ hb).trans H1.out)
    clear hx hm
    go_enter Tryz.func42, Tryz.ntmps42
    go_wp2_with (at_builtin; refine wpList_append_to _ rfl (.tmp 5) (.tmp 7) 81 rfl B 9 _ 1 16 Tryz.underlying81 info_str rfl (by omega) HO.out rfl HN.out rfl rfl (fun u hu => by simp at hu; subst hu; rfl) (by omega) (by omega) (by simp; omega) ?_; intro v9 w9 hown9 hbel9 hg9 hv9; obtain ⟨A9, c9, rfl, hc9, hm9, _⟩ := own_slice hown9 (by omega); have H9 := Lib.hid hown9; have B9 := Lib.hid hbel9; have C9 := Lib.hid ((hbel9.block _ hbB).trans HC.out); have k9 := cell_of_heap (i := 0) C9.out; have f9 := frozen_of_heap (i := 0) C9.out; simp at k9 f9; clear hown9 hbel9 hg9 hv9 k0 f0)
    go_end0
    have hB9 : Below B w w9 := ((Below.refl B w).alloc hB _).trans B9.out
    refine ⟨rfl, ⟨_, heap_set (i := 0) _ C9.out, ?_⟩, (hB9.mono (Nat.le_of_lt hbB)).setCell (Nat.le_refl _) _, ((But.refl B b w).bel hB9).set 0 _⟩
    have := ownsRow_setCell_below H9.out (a := ⟨b, 0, none⟩) hbB (.slice A9 (l.length + 1) c9)
    simpa [strV] using this
end Go.Proofs.YtagplldaooipmaaGreatDoor

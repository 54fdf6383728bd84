/- token.Show. -/
import Derived.Test.YtnpphfhjpflgiaaDoorPureTok2
import Derived.Test.YtnpphfhjpflgiaaDoorShow
namespace Go.Proofs.YtnpphfhjpflgiaaDoor
open Go.RowKit

def wordV (t : Tok) : Value := .string ⟨(wordT t).toArray⟩
theorem info_str : (Tryd.prog.info? 9).map (fun i => (i.zero, i.size, i.bytes)) = some (some (.string ⟨#[]⟩), 1, 16) := by kernel_rfl

theorem one_str (b : ByteArray) : ∀ u ∈ [Value.string b], u.oneCell' = true := by intro u hu; simp at hu; subst hu; rfl
theorem showT_join (ts : List Tok) : Lib.join (ts.map wordT) [32] = showT ts := by
  induction ts with
  | nil => rfl
  | cons t ts ih =>
    cases ts with
    | nil => simp [Lib.join, showT]
    | cons u us =>
      simp only [List.map_cons, Lib.join_cons, showT] at ih ⊢
      rw [← ih]
      simp [Lib.joinTail]
theorem showT_length (ts : List Tok) (h : ∀ t ∈ ts, t.2.2 ≤ 65535 ∧ t.2.1.length ≤ 1000) : (showT ts).length ≤ 2009 * ts.length := by
  induction ts with
  | nil => simp [showT]
  | cons t ts ih =>
    have h1 := wordT_length t (h t (by simp)).1
    have h2 := (h t (by simp)).2
    have ih := ih (fun u hu => h u (by simp [hu]))
    cases ts with
    | nil => simp only [showT, List.length_cons, List.length_nil]; omega
    | cons u us => simp only [showT, List.length_append, List.length_cons] at ih ⊢; omega

set_option maxHeartbeats 1000000 in
theorem tshow_any (ts : List Tok) (v : Value) (w : World) (hg : GW w) (hr : Rd w w.heap.size v ts.length (tokRow ts)) (hl : ts.length ≤ 100000) (hn : ∀ t ∈ ts, t.2.2 ≤ 65535 ∧ t.2.1.length ≤ 1000) :
    Calls Tryd.prog 27 #[v] w fun e w' => e = .returned (.string ⟨(showT ts).toArray⟩) ∧ Below w.heap.size w w' := by
  obtain ⟨A, c, rfl, hc⟩ := hr.form
  have HR := Lib.hid hr
  clear hr
  have HN := Lib.hid hn
  clear hn
  go_enter Tryd.func27, Tryd.ntmps27
  go_wp2_with fail
  go_loopw [3, 8] (fun v i wr => ∃ k : Nat, k ≤ ts.length ∧ i = .int .i64 k ∧ wr.ownsRow w.heap.size 9 1 v k ((ts.map wordV).take k) ∧ Below w.heap.size w wr) (fun _ i _ => ts.length - (intOf i).toNat)
  case atStart => exact ⟨0, Nat.zero_le _, rfl, World.ownsRow_nil _ _ _ _, Below.refl _ _⟩
  case round =>
    obtain ⟨k, hk, rfl, hown, hb⟩ := hrel
    have hsz := hb.size
    by_cases hlt : k < ts.length
    · obtain ⟨g, o, rfl, hg', c1, c2, c3⟩ := HR.out.tok k hlt
      have hnk := HN.out ts[k] (List.getElem_mem _)
      have hrow : (ts.map wordV).take (k + 1) = (ts.map wordV).take k ++ [wordV ts[k]] := by rw [List.take_succ_eq_append_getElem (by simpa using hlt)]; simp
      generalize ts[k] = t at *
      have d1 := (hb.cell (p := ⟨g, o + k * 3, none⟩) hg').trans c1
      have d2 := (hb.cell (p := ⟨g, o + k * 3 + 1, none⟩) hg').trans c2
      have d3 := (hb.cell (p := ⟨g, o + k * 3 + 2, none⟩) hg').trans c3
      clear c1 c2 c3
      have HW := Lib.hid hrow
      clear hrow
      obtain ⟨tk, tS, tn⟩ := t
      have hg2 := hg.below (hb.alloc hsz (.cells #[.int .i64 tk, .string ⟨tS.toArray⟩, .int .u16 tn] 41))
      by_cases h2 : tk = 2
      · subst h2
        have HV := Lib.hid (show wordV (2, tS, tn) = .string ⟨(showN tn).toArray⟩ from rfl)
        go_wp2_with fail
        refine (show_any tn _ hnk.1).mono ?_
        rintro e w1 ⟨rfl, hb1⟩
        have hb2 := bthen (hb.alloc hsz _) hb1
        have hown2 := (hown.alloc (.cells #[.int .i64 2, .string ⟨tS.toArray⟩, .int .u16 tn] 41)).kept (only_of_below hb1 none) (by cases u3.ownBlock <;> simp)
        go_wp2_with (at_builtin; refine wpList_append_at w1 w1.heap.size rfl rfl _ _ 59 rfl w.heap.size 9 _ 1 16 Tryd.underlying59 info_str rfl (by decide) hown2 rfl [.string ⟨(showN tn).toArray⟩] 9 rfl rfl (one_str _) (by omega) (by omega) hb2.size ?_)
        intro v' w2 hown3 hb3
        have hb4 := hb2.trans hb3
        have H3 : Hid (w2.ownsRow w.heap.size 9 1 v' (k + 1) ((ts.map wordV).take (k + 1))) := Lib.hid (by rw [HW.out, HV.out]; exact hown3)
        clear hown hown2 hown3 hb3 hb2 hb
        go_wp2_with fail
        go_roundw
        case rel => exact ⟨k + 1, by omega, by go_num, H3.out, hb4⟩
        case measure => simp [intOf]; omega
      by_cases h3 : tk = 3
      · subst h3
        have HV := Lib.hid (show wordV (3, tS, tn) = .string ⟨(quoteL tS).toArray⟩ from rfl)
        go_wp2_with fail
        refine (quote_any tS _ hg2 (by have := hnk.2; omega)).mono ?_
        rintro e w1 ⟨rfl, hb1⟩
        have hb2 := bthen (hb.alloc hsz _) hb1
        have hown2 := (hown.alloc (.cells #[.int .i64 3, .string ⟨tS.toArray⟩, .int .u16 tn] 41)).kept (only_of_below hb1 none) (by cases u3.ownBlock <;> simp)
        go_wp2_with (at_builtin; refine wpList_append_at w1 w1.heap.size rfl rfl _ _ 59 rfl w.heap.size 9 _ 1 16 Tryd.underlying59 info_str rfl (by decide) hown2 rfl [.string ⟨(quoteL tS).toArray⟩] 9 rfl rfl (one_str _) (by omega) (by omega) hb2.size ?_)
        intro v' w2 hown3 hb3
        have hb4 := hb2.trans hb3
        have H3 : Hid (w2.ownsRow w.heap.size 9 1 v' (k + 1) ((ts.map wordV).take (k + 1))) := Lib.hid (by rw [HW.out, HV.out]; exact hown3)
        clear hown hown2 hown3 hb3 hb2 hb
        go_wp2_with fail
        go_roundw
        case rel => exact ⟨k + 1, by omega, by go_num, H3.out, hb4⟩
        case measure => simp [intOf]; omega
      · have HV := Lib.hid (show wordV (tk, tS, tn) = .string ⟨tS.toArray⟩ by unfold wordV wordT; rw [if_neg h2, if_neg h3])
        have e2 : (tk == 2) = false := by simp [h2]
        have e3 : (tk == 3) = false := by simp [h3]
        clear h2 h3
        have hb2 := hb.alloc hsz (.cells #[.int .i64 tk, .string ⟨tS.toArray⟩, .int .u16 tn] 41)
        have hown2 := hown.alloc (.cells #[.int .i64 tk, .string ⟨tS.toArray⟩, .int .u16 tn] 41)
        go_wp2_with (at_builtin; refine wpList_append_at (wr.alloc (.cells #[.int .i64 tk, .string ⟨tS.toArray⟩, .int .u16 tn] 41)) (wr.heap.size + 1) (by simp) rfl _ _ 59 rfl w.heap.size 9 _ 1 16 Tryd.underlying59 info_str rfl (by decide) hown2 rfl [.string ⟨tS.toArray⟩] 9 rfl rfl (one_str _) (by omega) (by omega) hb2.size ?_)
        intro v' w2 hown3 hb3
        have hb4 := hb2.trans hb3
        have H3 : Hid (w2.ownsRow w.heap.size 9 1 v' (k + 1) ((ts.map wordV).take (k + 1))) := Lib.hid (by rw [HW.out, HV.out]; exact hown3)
        clear hown hown2 hown3 hb3 hb2 hb
        go_wp2_with fail
        go_roundw
        case rel => exact ⟨k + 1, by omega, by go_num, H3.out, hb4⟩
        case measure => simp [intOf]; omega
    · obtain rfl : k = ts.length := by omega
      rw [show (ts.map wordV).take ts.length = ts.map wordV by rw [← List.length_map (f := wordV), List.take_length]] at hown
      have HS := Lib.hid (showT_join ts)
      have hlen := showT_length ts HN.out
      by_cases h0 : ts = []
      · subst h0
        rcases Joins.ownsRow_forms hown with ⟨rfl, _⟩ | ⟨g, cap, rfl⟩
        · go_wp2_with fail
          refine (Tryd.strings_Join_none none 0 ⟨#[32]⟩ _).mono ?_
          rintro e w1 ⟨rfl, rfl⟩
          go_wp2_with fail
          go_ret
          exact ⟨rfl, hb⟩
        · go_wp2_with fail
          refine (Tryd.strings_Join_none _ cap ⟨#[32]⟩ _).mono ?_
          rintro e w1 ⟨rfl, rfl⟩
          go_wp2_with fail
          go_ret
          exact ⟨rfl, hb⟩
      · have h0' : 0 < ts.length := List.length_pos_iff.mpr h0
        obtain ⟨g, cap, rfl⟩ := Joins.ownsRow_form hown h0'
        obtain ⟨B, c', hv, hc', h3⟩ := Rd.of_own hown
        injection hv with hv1 hv2 hv3
        subst hv1 hv3
        obtain ⟨g', o', hv4, hlt', hcells⟩ := h3 h0'
        injection hv4 with hv4
        injection hv4 with hv4 hv5
        subst hv4 hv5
        have hj := Tryd.strings_Join g 0 cap (ts.map fun t => ⟨(wordT t).toArray⟩) ⟨#[32]⟩ wr (fun j x hx => by
          refine hcells j (.string x) ?_
          rw [List.getElem?_map] at hx ⊢
          cases hq : ts[j]? with
          | none => rw [hq] at hx; simp at hx
          | some y => rw [hq] at hx; simp at hx; simp [wordV, hx]) hlt' (by simp at hl ⊢; omega) (by simpa using hc') (by
          have e1 : (ts.map fun t => (⟨(wordT t).toArray⟩ : ByteArray)).map (·.data.toList) = ts.map wordT := by simp
          rw [e1]
          show (Lib.join _ [32]).length ≤ _
          rw [HS.out]; omega)
        have e1 : (ts.map fun t => (⟨(wordT t).toArray⟩ : ByteArray)).map (·.data.toList) = ts.map wordT := by simp
        rw [e1, show (⟨#[32]⟩ : ByteArray).data.toList = [32] from rfl, HS.out, List.length_map] at hj
        go_wp2_with fail
        refine hj.mono ?_
        rintro e w1 ⟨rfl, hb1⟩
        go_wp2_with fail
        go_ret
        exact ⟨rfl, bthen hb hb1⟩
end Go.Proofs.YtnpphfhjpflgiaaDoor

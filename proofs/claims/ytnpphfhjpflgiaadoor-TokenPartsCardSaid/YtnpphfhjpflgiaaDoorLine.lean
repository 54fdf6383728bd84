/- token.Line. -/
import Derived.Test.YtnpphfhjpflgiaaDoorRefLine
import Derived.Test.YtnpphfhjpflgiaaDoorBase3
namespace Go.Proofs.YtnpphfhjpflgiaaDoor
open Go.RowKit

theorem info_tok : (Tryd.prog.info? 41).map (fun i => (i.zero, i.size, i.bytes)) = some (some (.agg #[.int .i64 0, .string ⟨#[]⟩, .int .u16 0]), 3, 32) := by kernel_rfl

theorem cells_new2 (w : World) (o : Obj) (cs : List Value) (T : TypeId) : ∀ (j : Nat) (u : Value), cs[j]? = some u → ((w.alloc o).alloc (.cells cs.toArray T)).drew.cell? (Addr.add ⟨w.heap.size + 1, 0, none⟩ j) = some u := by
  intro j u h
  have h1 := cells_new (w.alloc o) cs T j u h
  have h2 : (w.alloc o).heap.size = w.heap.size + 1 := by simp
  rw [h2] at h1
  exact h1

set_option maxHeartbeats 1000000 in
theorem line_any (l : List UInt8) (w : World) (hg : GW w) (hl : l.length ≤ 1000000) :
    Calls Tryd.prog 18 #[.string ⟨l.toArray⟩] w fun e w' => ∃ v, e = .returned (.tuple #[v, .int .i64 (lineL l).2]) ∧ w'.ownsRow w.heap.size 41 3 v (lineL l).1.length (tokRow (lineL l).1) ∧ Below w.heap.size w w' := by
  have HL : Hid (lineL l = if 200 < l.length then ([], 11) else lineF (l.length + 1) l []) := Lib.hid rfl
  generalize lineL l = res at *
  by_cases h200 : 200 < l.length
  · have h200' : (200 : Int) < (l.length : Int) := by omega
    have hf := Lib.hid (HL.out.trans (if_pos h200))
    go_enter Tryd.func18, Tryd.ntmps18
    go_wp2_with fail
    go_step3
    go_wp2_with fail
    rw [Exit.noGoto_ret]
    go_ret2
    rw [hf.out]
    exact ⟨_, rfl, World.ownsRow_nil _ _ _ _, Below.refl _ _⟩
  have h200' : (l.length : Int) ≤ 200 := by omega
  have d200 : decide ((200 : Int) < (l.length : Int)) = false := by simp; omega
  have HF := Lib.hid (HL.out.trans (if_neg h200))
  clear HL
  go_enter Tryd.func18, Tryd.ntmps18
  go_wp2_with fail
  go_step3
  go_wp2_with fail
  go_step3
  go_wp2_with fail
  go_loopw [0, 2] (fun s v wr => ∃ (f : Nat) (t : List UInt8) (ts : List Tok), s = .string ⟨t.toArray⟩ ∧ t.length < f ∧ t.length ≤ 200 ∧ ts.length + t.length ≤ 200 ∧ res = lineF f t ts ∧ wr.ownsRow w.heap.size 41 3 v ts.length (tokRow ts) ∧ Below w.heap.size w wr) (fun s _ _ => match s with | .string b => b.size | _ => 0)
  case atStart => exact ⟨l.length + 1, l, [], rfl, by omega, by omega, by simp; omega, HF.out, World.ownsRow_nil _ _ _ _, Below.refl _ _⟩
  case round =>
    clear HF
    obtain ⟨f, t, ts, rfl, hf1, hf2, hf3, hres, hown, hb⟩ := hrel
    have HR := Lib.hid hres
    clear hres
    have hsz := hb.size
    match t, f with
    | [], f =>
      have hfin := Lib.hid (HR.out.trans (lineF_nil f ts))
      go_wp2_with fail
      rw [Exit.noGoto_ret]
      go_ret2
      rw [hfin.out]
      exact ⟨_, rfl, hown, hb⟩
    | c :: r, f + 1 =>
      by_cases h32 : c = 32
      · subst h32
        have hfin := Lib.hid (HR.out.trans (lineF_space f 32 r ts (.inl rfl)))
        go_wp2_with fail
        go_roundw
        case rel => exact ⟨f, r, ts, rfl, by simp at hf1; omega, by simp at hf2; omega, by simp at hf3; omega, hfin.out, hown, hb⟩
        case measure => simp [ByteArray.size]
      by_cases h9 : c = 9
      · subst h9
        have hfin := Lib.hid (HR.out.trans (lineF_space f 9 r ts (.inr rfl)))
        go_wp2_with fail
        go_roundw
        case rel => exact ⟨f, r, ts, rfl, by simp at hf1; omega, by simp at hf2; omega, by simp at hf3; omega, hfin.out, hown, hb⟩
        case measure => simp [ByteArray.size]
      by_cases h59 : c = 59
      · subst h59
        have hfin := Lib.hid (HR.out.trans (lineF_note f 59 r ts rfl))
        go_wp2_with fail
        rw [Exit.noGoto_ret]
        go_ret2
        rw [hfin.out]
        exact ⟨_, rfl, hown, hb⟩
      have hlt := lineF_tok f c r ts h32 h9 h59
      have e1 : ((c.toNat : Int) == 32) = false := ne_byte (n := 32) (by omega) h32
      have e2 : ((c.toNat : Int) == 9) = false := ne_byte (n := 9) (by omega) h9
      have e3 : ((c.toNat : Int) == 59) = false := ne_byte (n := 59) (by omega) h59
      have HT := Lib.hid (HR.out.trans hlt)
      have hlen := firstT_len (c :: r) (by simp)
      clear hlt h32 h9 h59
      go_wp2_with fail
      refine (first_any (c :: r) _ (hg.below hb) (by simp) (by simp at hf2 ⊢; omega)).mono ?_
      rintro e w1 ⟨rfl, hb1⟩
      rw [tokV_eq]
      generalize firstT (c :: r) = ft at *
      obtain ⟨tk, n, k⟩ := ft
      by_cases hk : k = 0
      · subst hk
        obtain ⟨hn1, hn2⟩ := hlen rfl
        have HT2 := Lib.hid (HT.out.trans (if_pos rfl))
        clear HT hlen
        have hb2 := hb.trans (hb1.mono hsz)
        have hsz2 := hb2.size
        have hown2 : w1.ownsRow w.heap.size 41 3 u2 ts.length (tokRow ts) := hown.kept (only_of_below hb1 none) (by cases u2.ownBlock <;> simp)
        replace hn1 : 1 ≤ n := hn1
        replace hn2 : n ≤ (c :: r).length := hn2
        have hnl : (n : Int) ≤ (r.length : Int) + 1 := by simp at hn2; omega
        have hdl : ((c :: r).drop n).length + n = (c :: r).length := by rw [List.length_drop]; omega
        clear hown hb hb1
        go_wp2_with fail
        go_region_law (first | (refine step_append_at _ (by rfl) _ _ _ (by rfl) w.heap.size 41 _ 3 32 Tryd.underlying31 info_tok rfl (by decide) (((hown2.alloc _).alloc _).drew) (by rfl) ⟨w1.heap.size + 1, 0, none⟩ (tokCells tk) (by rfl) (by rfl) (cells_new2 w1 _ (tokCells tk) _) (tokCells_one _) (by omega) (by omega) (by simp; omega) ?_; intro v' w2 hown3 hb3 hgr3))
        have hb4 := ((hb2.alloc hsz2 _).alloc (by simp; omega) _).drew.trans hb3
        have H3 : Hid (w2.ownsRow w.heap.size 41 3 v' (ts ++ [tk]).length (tokRow (ts ++ [tk]))) := Lib.hid (by rw [List.length_append, tokRow_snoc]; exact hown3)
        clear hown2 hown3 hb3 hb2
        go_simp
        refine ⟨?_, ?measure⟩
        apply Exists.intro
        apply Exists.intro
        apply Exists.intro
        (repeat apply Exists.intro)
        refine ⟨?rel, rfl⟩
        case rel => exact ⟨f, (c :: r).drop n, ts ++ [tk], rfl, by omega, by omega, by simp at hdl hf3 ⊢; omega, HT2.out, H3.out, hb4⟩
        case measure => show ((c :: r).drop n).length < (c :: r).length; omega
      · have hfin := Lib.hid (HT.out.trans (if_neg hk))
        have hk' : ((k : Int) != 0) = true := by rw [bne_iff_ne]; omega
        have hb2 := hb.trans (hb1.mono hsz)
        clear hlen hown HT
        go_wp2_with fail
        rw [Exit.noGoto_ret]
        go_ret2
        rw [hfin.out]
        exact ⟨_, rfl, World.ownsRow_nil _ _ _ _, hb2.alloc hb2.size _⟩
end Go.Proofs.YtnpphfhjpflgiaaDoor

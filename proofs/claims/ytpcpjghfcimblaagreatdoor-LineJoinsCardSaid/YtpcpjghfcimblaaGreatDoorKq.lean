/- Several texts in one: Ln14, Ln15, Ln16. -/
import Derived.Test.YtpcpjghfcimblaaGreatDoorKo
import Derived.Test.YtpcpjghfcimblaaGreatDoorKj
import Derived.Test.YtpcpjghfcimblaaGreatDoorKl
import Derived.Test.YtpcpjghfcimblaaGreatDoorKf
namespace Go.Proofs.YtpcpjghfcimblaaGreatDoor
open Go.RowKit

theorem getD_get (ts : List Tok) (i : Nat) (h : i < ts.length) : ts.getD i tok0 = ts[i] := by simp [h]
set_option maxHeartbeats 1000000 in
theorem tname_any (ts : List Tok) (i : Int) (hi : 0 ≤ i) (v : Value) (w : World) (hr : Rd w w.heap.size v ts.length (tokRow ts)) :
    Calls Tryz.prog 46 #[v, .int .i64 i] w fun e w' => e = .returned (.bool (nameT ts i.toNat)) ∧ w = w' := by
  obtain ⟨A, c, rfl, hc⟩ := hr.form
  obtain ⟨k, rfl⟩ := Int.eq_ofNat_of_zero_le hi
  rw [Int.toNat_natCast]
  by_cases hlt : k < ts.length
  · obtain ⟨g, o, rfl, hg, c0, c1, c2⟩ := hr.tok k hlt
    have HN : Hid (nameT ts k = decide (ts[k].1 = 1)) := Lib.hid (by unfold nameT; rw [getD_get ts k hlt]; simp [hlt])
    have hlt' : (k : Int) < (ts.length : Int) := by omega
    generalize nameT ts k = res at *
    generalize ts[k] = t at *
    obtain ⟨tk, tS, tn⟩ := t
    simp only at *
    by_cases h1 : tk = 1
    · subst h1
      have HB := Lib.hid (show res = true by rw [HN.out]; rfl)
      clear hr HN
      go_enter Tryz.func46, Tryz.ntmps46
      go_wp2_with fail
      go_ret
      rw [HB.out]
      exact ⟨rfl, rfl⟩
    · have HB := Lib.hid (show res = false by rw [HN.out]; simp [h1])
      have e1 : (tk == 1) = false := by simpa using h1
      clear hr HN h1
      go_enter Tryz.func46, Tryz.ntmps46
      go_wp2_with fail
      go_ret
      rw [HB.out]
      exact ⟨rfl, rfl⟩
  · have HN := Lib.hid (show nameT ts k = false by unfold nameT; simp [hlt])
    have hd : decide ((k : Int) < (ts.length : Int)) = false := by simp; omega
    have hd2 : decide (k < ts.length) = false := by simpa using hlt
    generalize nameT ts k = res at *
    clear hr hlt
    go_enter Tryz.func46, Tryz.ntmps46
    go_wp2_with fail
    go_ret
    rw [HN.out]
    exact ⟨rfl, rfl⟩
set_option maxHeartbeats 1000000 in
theorem tmark_any (ts : List Tok) (i : Int) (hi : 0 ≤ i) (s : List UInt8) (v : Value) (w : World) (hr : Rd w w.heap.size v ts.length (tokRow ts)) :
    Calls Tryz.prog 47 #[v, .int .i64 i, .string ⟨s.toArray⟩] w fun e w' => e = .returned (.bool (markT ts i.toNat s)) ∧ w = w' := by
  obtain ⟨A, c, rfl, hc⟩ := hr.form
  obtain ⟨k, rfl⟩ := Int.eq_ofNat_of_zero_le hi
  rw [Int.toNat_natCast]
  have hd0 : decide (0 ≤ (k : Int)) = true := by simp
  by_cases hlt : k < ts.length
  · obtain ⟨g, o, rfl, hg, c0, c1, c2⟩ := hr.tok k hlt
    have HN : Hid (markT ts k s = (decide (ts[k].1 = 4) && decide (ts[k].2.1 = s))) := Lib.hid (by unfold markT; rw [getD_get ts k hlt]; simp [hlt])
    have hlt' : (k : Int) < (ts.length : Int) := by omega
    generalize markT ts k s = res at *
    generalize ts[k] = t at *
    obtain ⟨tk, tS, tn⟩ := t
    simp only at *
    by_cases h1 : tk = 4
    · subst h1
      by_cases h2 : tS = s
      · subst h2
        have HB := Lib.hid (show res = true by rw [HN.out]; simp)
        clear hr HN
        go_enter Tryz.func47, Tryz.ntmps47
        go_wp2_with fail
        go_ret
        rw [HB.out]
        exact ⟨rfl, rfl⟩
      · have HB := Lib.hid (show res = false by rw [HN.out]; simp [h2])
        have e1 : (tS == s) = false := by simpa using h2
        clear hr HN h2
        go_enter Tryz.func47, Tryz.ntmps47
        go_wp2_with fail
        go_ret
        rw [HB.out]
        exact ⟨rfl, rfl⟩
    · have HB := Lib.hid (show res = false by rw [HN.out]; simp [h1])
      have e1 : (tk == 4) = false := by simpa using h1
      clear hr HN h1
      go_enter Tryz.func47, Tryz.ntmps47
      go_wp2_with fail
      go_ret
      rw [HB.out]
      exact ⟨rfl, rfl⟩
  · have HN := Lib.hid (show markT ts k s = false by unfold markT; simp [hlt])
    have hd : decide ((k : Int) < (ts.length : Int)) = false := by simp; omega
    have hd2 : decide (k < ts.length) = false := by simpa using hlt
    generalize markT ts k s = res at *
    clear hr hlt
    go_enter Tryz.func47, Tryz.ntmps47
    go_wp2_with fail
    go_ret
    rw [HN.out]
    exact ⟨rfl, rfl⟩
theorem pd_bound (o c : List UInt8) (t : Tok) (n : Int) : n - 1 ≤ pd o c t n ∧ pd o c t n ≤ n + 1 := by
  unfold pd
  split
  · omega
  · split <;> omega
theorem drop_two (ts : List Tok) (k : Nat) (h : k + 1 < ts.length) : ts.drop k = ts[k] :: ts[k + 1] :: ts.drop (k + 2) := by
  rw [List.drop_eq_getElem_cons (by omega), List.drop_eq_getElem_cons h]
theorem pair_step (o c : List UInt8) (ts : List Tok) (k : Nat) (n : Int) (h : k + 1 < ts.length) : pairF o c (ts.drop k) n = if pd o c ts[k] n = 0 then false else pairF o c (ts.drop (k + 1)) (pd o c ts[k] n) := by
  rw [drop_two ts k h, show ts.drop (k + 1) = ts[k + 1] :: ts.drop (k + 2) from List.drop_eq_getElem_cons h]
  rfl
theorem pair_last (o c : List UInt8) (ts : List Tok) (n : Int) (h : 1 ≤ ts.length) : pairF o c (ts.drop (ts.length - 1)) n = true := by
  have e : ts.drop (ts.length - 1) = [ts[ts.length - 1]] := by
    rw [List.drop_eq_getElem_cons (by omega), List.drop_of_length_le (by omega)]
  rw [e]
  rfl
theorem markT_get (ts : List Tok) (k : Nat) (h : k < ts.length) (s : List UInt8) : markT ts k s = (decide (ts[k].1 = 4) && decide (ts[k].2.1 = s)) := by
  unfold markT
  rw [getD_get ts k h]
  simp [h]
theorem pd_mark (o c : List UInt8) (ts : List Tok) (k : Nat) (h : k < ts.length) (n : Int) : pd o c ts[k] n = if markT ts k o = true then n + 1 else if markT ts k c = true then n - 1 else n := by
  rw [markT_get ts k h, markT_get ts k h]
  unfold pd
  simp
set_option maxHeartbeats 2000000 in
set_option maxRecDepth 100000 in
theorem pair_any (ts : List Tok) (o c : List UInt8) (v : Value) (w : World) (hr : Rd w w.heap.size v ts.length (tokRow ts)) (hl : ts.length ≤ 1000) :
    Calls Tryz.prog 83 #[v, .string ⟨o.toArray⟩, .string ⟨c.toArray⟩] w fun e w' => e = .returned (.bool (pairT ts o c)) ∧ w = w' := by
  have HM := Lib.hid (fun i hi s => tmark_any ts i hi s v w hr)
  obtain ⟨A, cp, rfl, hc⟩ := hr.form
  have HP : Hid (pairT ts o c = (decide (2 ≤ ts.length) && markT ts 0 o && markT ts (ts.length - 1) c && pairF o c ts 0)) := Lib.hid rfl
  generalize pairT ts o c = res at *
  clear hr
  by_cases h2 : 2 ≤ ts.length
  · have hlx : ((ts.length : Int) - 1).toNat = ts.length - 1 := by omega
    have M0 := Lib.hid (HM.out 0 (by omega) o)
    have M1 := Lib.hid (HM.out ((ts.length : Int) - 1) (by omega) c)
    rw [hlx] at M1
    rw [show (0 : Int).toNat = 0 from rfl] at M0
    cases hm0 : markT ts 0 o with
    | false =>
      have HB := Lib.hid (show res = false by rw [HP.out, hm0]; simp)
      rw [hm0] at M0
      clear hm0 HP HM hlx
      go_enter Tryz.func83, Tryz.ntmps83
      go_wp2_with fail
      refine M0.out.mono ?_
      rintro e w' ⟨rfl, rfl⟩
      go_wp2_with fail
      go_ret
      rw [HB.out]
      exact ⟨rfl, rfl⟩
    | true =>
      rw [hm0] at M0
      cases hm1 : markT ts (ts.length - 1) c with
      | false =>
        have HB := Lib.hid (show res = false by rw [HP.out, hm1]; simp)
        rw [hm1] at M1
        clear hm0 hm1 HP HM hlx
        go_enter Tryz.func83, Tryz.ntmps83
        go_wp2_with fail
        refine M0.out.mono ?_
        rintro e w' ⟨rfl, rfl⟩
        go_wp2_with fail
        refine M1.out.mono ?_
        rintro e w' ⟨rfl, rfl⟩
        go_wp2_with fail
        go_ret
        rw [HB.out]
        exact ⟨rfl, rfl⟩
      | true =>
        have HB := Lib.hid (show res = pairF o c (ts.drop 0) 0 by rw [HP.out, hm0, hm1]; simp [h2])
        rw [hm1] at M1
        clear hm0 hm1 HP hlx
        go_enter Tryz.func83, Tryz.ntmps83
        go_wp2_with fail
        refine M0.out.mono ?_
        rintro e w' ⟨rfl, rfl⟩
        go_wp2_with fail
        refine M1.out.mono ?_
        rintro e w' ⟨rfl, rfl⟩
        go_wp2_with fail
        go_loop [7, 33] (fun dp i => ∃ (k : Nat) (n : Int), k + 1 ≤ ts.length ∧ i = .int .i64 k ∧ dp = .int .i64 n ∧ -(k : Int) ≤ n ∧ n ≤ (k : Int) ∧ res = pairF o c (ts.drop k) n) (fun _ i => ts.length - (intOf i).toNat)
        case atStart => exact ⟨0, 0, by omega, rfl, rfl, by omega, by omega, HB.out⟩
        case round =>
          obtain ⟨k, n, hk, rfl, rfl, hn1, hn2, hres⟩ := hrel
          have HRES := Lib.hid hres
          clear hres
          by_cases hlt : k + 1 < ts.length
          · have hlt' : (k : Int) < (ts.length : Int) - 1 := by omega
            have hst := HRES.out.trans (pair_step o c ts k n hlt)
            have hpd := pd_mark o c ts k (by omega) n
            have hbd := pd_bound o c ts[k] n
            have K0 := Lib.hid (HM.out (k : Int) (by omega) o)
            have K1 := Lib.hid (HM.out (k : Int) (by omega) c)
            rw [Int.toNat_natCast] at K0 K1
            generalize markT ts k o = m0 at *
            generalize markT ts k c = m1 at *
            generalize pd o c ts[k] n = p at *
            have HST := Lib.hid hst
            have HPD := Lib.hid hpd
            clear hst hpd
            have fin : ∀ q : Int, p = q → (q = 0 → res = false) ∧ (q ≠ 0 → res = pairF o c (ts.drop (k + 1)) q) := fun q hq => by
              subst hq
              exact ⟨fun h => by rw [HST.out, if_pos h], fun h => by rw [HST.out, if_neg h]⟩
            have HF := Lib.hid fin
            clear fin
            cases m0 with
            | true =>
              have hp : p = n + 1 := by have := HPD.out; simpa using this
              have hf := HF.out _ hp
              by_cases hz : n + 1 = 0
              · have HZ := Lib.hid (hf.1 hz)
                obtain rfl : n = -1 := by omega
                clear hp hf
                go_wp2_with fail
                refine K0.out.mono ?_
                rintro e w' ⟨rfl, rfl⟩
                go_wp2_with fail
                go_ret
                rw [HZ.out]
                exact ⟨rfl, rfl⟩
              · have HZ := Lib.hid (hf.2 hz)
                have e0 : (n + 1 == 0) = false := by simpa using hz
                clear hp hf hz
                go_wp2_with fail
                refine K0.out.mono ?_
                rintro e w' ⟨rfl, rfl⟩
                go_wp2_with fail
                go_round
                case rel => exact ⟨k + 1, n + 1, by omega, by go_num, rfl, by omega, by omega, HZ.out⟩
                case measure => simp [intOf]; omega
            | false =>
              cases m1 with
              | true =>
                have hp : p = n - 1 := by have := HPD.out; simpa using this
                have hf := HF.out _ hp
                by_cases hz : n - 1 = 0
                · have HZ := Lib.hid (hf.1 hz)
                  obtain rfl : n = 1 := by omega
                  clear hp hf
                  go_wp2_with fail
                  refine K0.out.mono ?_
                  rintro e w' ⟨rfl, rfl⟩
                  go_wp2_with fail
                  refine K1.out.mono ?_
                  rintro e w' ⟨rfl, rfl⟩
                  go_wp2_with fail
                  go_ret
                  rw [HZ.out]
                  exact ⟨rfl, rfl⟩
                · have HZ := Lib.hid (hf.2 hz)
                  have e0 : (n - 1 == 0) = false := by simpa using hz
                  clear hp hf hz
                  go_wp2_with fail
                  refine K0.out.mono ?_
                  rintro e w' ⟨rfl, rfl⟩
                  go_wp2_with fail
                  refine K1.out.mono ?_
                  rintro e w' ⟨rfl, rfl⟩
                  go_wp2_with fail
                  go_round
                  case rel => exact ⟨k + 1, n - 1, by omega, by go_num, rfl, by omega, by omega, HZ.out⟩
                  case measure => simp [intOf]; omega
              | false =>
                have hp : p = n := by have := HPD.out; simpa using this
                have hf := HF.out _ hp
                by_cases hz : n = 0
                · have HZ := Lib.hid (hf.1 hz)
                  subst hz
                  clear hp hf
                  go_wp2_with fail
                  refine K0.out.mono ?_
                  rintro e w' ⟨rfl, rfl⟩
                  go_wp2_with fail
                  refine K1.out.mono ?_
                  rintro e w' ⟨rfl, rfl⟩
                  go_wp2_with fail
                  go_ret
                  rw [HZ.out]
                  exact ⟨rfl, rfl⟩
                · have HZ := Lib.hid (hf.2 hz)
                  have e0 : (n == 0) = false := by simpa using hz
                  clear hp hf hz
                  go_wp2_with fail
                  refine K0.out.mono ?_
                  rintro e w' ⟨rfl, rfl⟩
                  go_wp2_with fail
                  refine K1.out.mono ?_
                  rintro e w' ⟨rfl, rfl⟩
                  go_wp2_with fail
                  go_round
                  case rel => exact ⟨k + 1, n, by omega, by go_num, rfl, by omega, by omega, HZ.out⟩
                  case measure => simp [intOf]; omega
          · have hnl : ¬ (k : Int) < (ts.length : Int) - 1 := by omega
            obtain rfl : k = ts.length - 1 := by omega
            have hr2 := HRES.out.trans (pair_last o c ts n (by omega))
            subst hr2
            go_wp2_with fail
            go_ret
            exact ⟨rfl, rfl⟩
  · have HB := Lib.hid (show res = false by rw [HP.out]; simp [h2])
    have hd : decide ((ts.length : Int) < 2) = true := by simp; omega
    have hd' : (ts.length : Int) < 2 := by omega
    clear HP HM
    go_enter Tryz.func83, Tryz.ntmps83
    go_wp2_with fail
    go_ret
    rw [HB.out]
    exact ⟨rfl, rfl⟩
end Go.Proofs.YtpcpjghfcimblaaGreatDoor
/- line: operand. -/
namespace Go.Proofs.YtpcpjghfcimblaaGreatDoor
open Go.RowKit

def OperP (w : World) (res : Ar × Nat) (e : Ending) (w' : World) : Prop :=
  ∃ v, e = .returned (.tuple #[arV res.1 v, .int .i64 res.2]) ∧ SubAt w' (fun g => w.heap.size ≤ g ∧ g < w'.heap.size) v res.1.e.sub ∧ Below w.heap.size w w'
/-- What an operand's reader boxes. -/
abbrev rdBox (v : Value) (d : Int) : Obj := .cells #[v, .int .i64 d] 92
abbrev arBox : Obj := .cells #[.string ⟨#[]⟩, .string ⟨#[]⟩, .bool false, .bool false, .string ⟨#[]⟩, .int .u16 0, .string ⟨#[]⟩, .slice none 0 0] 46
theorem SubAt.set {w : World} {S : Nat → Prop} {v : Value} {s : List Ex} {b : Nat} (h : SubAt w S v s) (hS : ∀ g, S g → g ≠ b) (i : Nat) (u : Value) : SubAt (w.setCell ⟨b, i, none⟩ u) S v s :=
  h.keep (fun p hp => World.cell?_of_block (Below.heap_setCell w ⟨b, i, none⟩ u p.block (hS _ hp))) (fun _ h => h)
set_option maxHeartbeats 2000000 in
set_option maxRecDepth 100000 in
theorem oper_nil (d : Int) (op : List UInt8) (v : Value) (w : World) (hr : Rd w w.heap.size v 0 []) :
    Calls Tryz.prog 49 #[.agg #[v, .int .i64 d], .string ⟨op.toArray⟩] w (OperP w (ar0, 2)) := by
  obtain ⟨A, c, rfl, hc⟩ := hr.form
  clear hr
  go_enter Tryz.func49, Tryz.ntmps49
  go_wp2_with fail
  exact bodyPost_ret (v := .tuple #[.agg #[.string ⟨#[]⟩, .string ⟨#[]⟩, .bool false, .bool false, .string ⟨#[]⟩, .int .u16 0, .string ⟨#[]⟩, .slice none 0 0], .int .i64 2]) (by simp [results, Tryz.results49, go_sem]) rfl ⟨_, rfl, SubAt.nil _ _, ((Below.refl _ _).alloc (Nat.le_refl _) _).alloc (by simp) _⟩
set_option maxHeartbeats 2000000 in
set_option maxRecDepth 100000 in
theorem oper_text (d : Int) (t : List UInt8) (n : Nat) (v : Value) (w : World) (hr : Rd w w.heap.size v 1 (tokRow [(3, t, n)])) :
    Calls Tryz.prog 49 #[.agg #[v, .int .i64 d], .string ⟨#[68, 66]⟩] w (OperP w (⟨[], t, true, false, ex0⟩, 0)) := by
  obtain ⟨A, c, rfl, hc⟩ := hr.form
  obtain ⟨g, o, rfl, hg, c0, c1, c2⟩ := hr.tok (ts := [(3, t, n)]) 0 (by simp)
  simp at c0 c1 c2
  clear hr
  go_enter Tryz.func49, Tryz.ntmps49
  go_wp2_with fail
  exact bodyPost_ret (v := .tuple #[.agg #[.string ⟨#[]⟩, .string ⟨t.toArray⟩, .bool true, .bool false, .string ⟨#[]⟩, .int .u16 0, .string ⟨#[]⟩, .slice none 0 0], .int .i64 0]) (by simp [results, Tryz.results49, go_sem]) rfl ⟨_, rfl, SubAt.nil _ _, ((Below.refl _ _).alloc (Nat.le_refl _) _).alloc (by simp) _⟩
theorem eight {w : World} {b : Nat} {x0 x1 x2 x3 x4 x5 x6 x7 : Value} {t : TypeId} (h : w.heap[b]? = some (.cells #[x0, x1, x2, x3, x4, x5, x6, x7] t (0, 0))) :
    (w.cell? ⟨b, 0, none⟩ = some x0 ∧ w.cell? ⟨b, 1, none⟩ = some x1 ∧ w.cell? ⟨b, 2, none⟩ = some x2 ∧ w.cell? ⟨b, 3, none⟩ = some x3 ∧ w.cell? ⟨b, 4, none⟩ = some x4 ∧ w.cell? ⟨b, 5, none⟩ = some x5 ∧ w.cell? ⟨b, 6, none⟩ = some x6 ∧ w.cell? ⟨b, 7, none⟩ = some x7) ∧
    w.frozen? ⟨b, 0, none⟩ = false ∧ w.frozen? ⟨b, 1, none⟩ = false ∧ w.frozen? ⟨b, 2, none⟩ = false ∧ w.frozen? ⟨b, 3, none⟩ = false ∧ w.frozen? ⟨b, 4, none⟩ = false ∧ w.frozen? ⟨b, 5, none⟩ = false ∧ w.frozen? ⟨b, 6, none⟩ = false ∧ w.frozen? ⟨b, 7, none⟩ = false := by
  refine ⟨cells8 h, ?_, ?_, ?_, ?_, ?_, ?_, ?_, ?_⟩ <;> (rw [frozen_of_heap h]; rfl)
theorem bset8 {w w' : World} {b N : Nat} (h : Below N w w') (hb : N ≤ b) (u0 u1 u2 u3 u4 u5 u6 u7 : Value) : Below N w ((((((((w'.setCell ⟨b, 0, none⟩ u0).setCell ⟨b, 1, none⟩ u1).setCell ⟨b, 2, none⟩ u2).setCell ⟨b, 3, none⟩ u3).setCell ⟨b, 4, none⟩ u4).setCell ⟨b, 5, none⟩ u5).setCell ⟨b, 6, none⟩ u6).setCell ⟨b, 7, none⟩ u7) :=
  (((((((h.setCell hb _).setCell hb _).setCell hb _).setCell hb _).setCell hb _).setCell hb _).setCell hb _).setCell hb _
set_option maxHeartbeats 4000000 in
set_option maxRecDepth 100000 in
theorem oper_word (d : Int) (op : List UInt8) (m : List UInt8) (n : Nat) (v : Value) (w : World) (hg : GWL w) (hwd : wordB d m = true) (hr : Rd w w.heap.size v 1 (tokRow [(1, m, n)])) :
    Calls Tryz.prog 49 #[.agg #[v, .int .i64 d], .string ⟨op.toArray⟩] w (OperP w (⟨m, [], false, false, ex0⟩, 0)) := by
  have HN := Lib.hid (fun W (hW : Below w.heap.size w W) => tname_any [(1, m, n)] 0 (by omega) v W ((hr.below hW).more hW.size))
  have HW := Lib.hid (fun W (hW : GWL W) => word12_any d m W hW)
  rw [hwd] at HW
  rw [show nameT [(1, m, n)] (0 : Int).toNat = true from rfl] at HN
  obtain ⟨A, c, rfl, hc⟩ := hr.form
  obtain ⟨g, o, rfl, hgl, c0, c1, c2⟩ := hr.tok (ts := [(1, m, n)]) 0 (by simp)
  simp at c0 c1 c2
  have B0 := Lib.hid (((Below.refl w.heap.size w).alloc (Nat.le_refl _) (rdBox (.slice (some ⟨g, o, none⟩) 1 c) d)).alloc (by simp) arBox)
  have G0 := Lib.hid (hg.below B0.out)
  clear hr hwd
  go_enter Tryz.func49, Tryz.ntmps49
  go_wp2_with fail
  first | (go_region_with (first | (go_at_call 46; refine (HN.out _ ?_).mono ?_; exact B0.out.drew; rintro e1 w2 ⟨rfl, rfl⟩) | (go_at_call 74; refine (HW.out _ ?_).mono ?_; exact G0.out.below (Below.refl _ _).drew; rintro e1 w3 ⟨rfl, hb3⟩))) | fail
  all_goals (
    obtain ⟨C0, C1, B1⟩ := boxes ((Below.refl _ _).drew.trans hb3)
    obtain ⟨⟨k0, k1, k2, k3, k4, k5, k6, k7⟩, g0, g1, g2, g3, g4, g5, g6, g7⟩ := eight C1
    have HB1 := Lib.hid B1
    have c1' := (B1.cell (p := ⟨g, o + 1, none⟩) hgl).trans c1
    clear C0 C1 B1 hb3 c1
    go_wp2_with fail
    exact bodyPost_ret (v := .tuple #[.agg #[.string ⟨m.toArray⟩, .string ⟨#[]⟩, .bool false, .bool false, .string ⟨#[]⟩, .int .u16 0, .string ⟨#[]⟩, .slice none 0 0], .int .i64 0]) (by simp [results, Tryz.results49, go_sem, k0, k1, k2, k3, k4, k5, k6, k7]) rfl ⟨_, rfl, SubAt.nil _ _, bset8 HB1.out (by omega) _ _ _ _ _ _ _ _⟩)
end Go.Proofs.YtpcpjghfcimblaaGreatDoor
/- line: operand, an expression. -/
namespace Go.Proofs.YtpcpjghfcimblaaGreatDoor
open Go.RowKit

theorem SubAt.set8 {w : World} {S : Nat → Prop} {v : Value} {s : List Ex} {b : Nat} (h : SubAt w S v s) (hS : ∀ g, S g → g ≠ b) (u0 u1 u2 u3 u4 u5 u6 u7 : Value) : SubAt ((((((((w.setCell ⟨b, 0, none⟩ u0).setCell ⟨b, 1, none⟩ u1).setCell ⟨b, 2, none⟩ u2).setCell ⟨b, 3, none⟩ u3).setCell ⟨b, 4, none⟩ u4).setCell ⟨b, 5, none⟩ u5).setCell ⟨b, 6, none⟩ u6).setCell ⟨b, 7, none⟩ u7) S v s :=
  (((((((h.set hS _ _).set hS _ _).set hS _ _).set hS _ _).set hS _ _).set hS _ _).set hS _ _).set hS _ _
theorem SubAt.newer {w : World} {S S' : Nat → Prop} {v : Value} {s : List Ex} (h : SubAt w S v s) (hl : ∀ g, S g → g < w.heap.size) (hS : ∀ g, S g → S' g) (o : Obj) : SubAt (w.alloc o) S' v s := h.keep (fun _ hp => World.cell?_alloc_lt _ _ _ (hl _ hp)) hS
end Go.Proofs.YtpcpjghfcimblaaGreatDoor

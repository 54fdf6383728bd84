/- Several texts in one: Cut1, Cut, PureCut. -/
import Derived.Test.YtpcpjghfcimblaaGreatDoorKa
namespace Go.Proofs.YtpcpjghfcimblaaGreatDoor
open Go.RowKit

def isT (t : Tok) (ls : List (List UInt8)) : Bool := decide (t.1 = 4) && decide (t.2.1 ∈ ls)

set_option maxHeartbeats 1000000 in
theorem cutIs_any (t : Tok) (ls : List (List UInt8)) (g n h : Nat) (w : World) (hn : n = ls.length) (hl : ls.length ≤ 1000)
    (hc : ∀ j (hj : j < ls.length), w.cell? ⟨g, j, none⟩ = some (.string ⟨ls[j].toArray⟩))
    (h0 : w.cell? ⟨h, 0, none⟩ = some (.int .i64 t.1)) (h1 : w.cell? ⟨h, 1, none⟩ = some (.string ⟨t.2.1.toArray⟩)) :
    Calls Tryz.prog 82 #[.slice (some ⟨g, 0, none⟩) n n, .pointer (some ⟨h, 0, none⟩)] w fun e w' => e = .returned (.bool (isT t ls)) ∧ w' = w := by
  subst hn
  have HC := Lib.hid hc
  clear hc
  obtain ⟨tk, tS, tn⟩ := t
  simp only at h0 h1
  go_enter Tryz.func82, Tryz.ntmps82
  go_wp2_with fail
  go_loop [8] (fun i => ∃ k : Nat, k ≤ ls.length ∧ i = .int .i64 k ∧ (tk = 4 → tS ∉ ls.take k)) (fun i => ls.length - (intOf i).toNat)
  case atStart => exact ⟨0, Nat.zero_le _, rfl, by simp⟩
  case round =>
    obtain ⟨k, hk, rfl, hno⟩ := hrel
    have HNO := Lib.hid hno
    clear hno
    by_cases hlt : k < ls.length
    · have c1 := HC.out k hlt
      have hrow : ls.take (k + 1) = ls.take k ++ [ls[k]] := List.take_succ_eq_append_getElem hlt
      have hmem : ls[k] ∈ ls := List.getElem_mem _
      have HM := Lib.hid hmem
      clear hmem
      generalize ls[k] = s at *
      by_cases h4 : tk = 4
      · subst h4
        by_cases hs : tS = s
        · have HI : Hid (isT (4, tS, tn) ls = true) := Lib.hid (by unfold isT; simp [hs, HM.out])
          clear hrow
          subst hs
          go_wp2_with fail
          go_ret
          rw [HI.out]
          exact ⟨rfl, rfl⟩
        · have HN : Hid ((4 : Int) = 4 → tS ∉ ls.take (k + 1)) := Lib.hid (fun _ => by rw [hrow]; simp only [List.mem_append, List.mem_singleton, not_or]; exact ⟨HNO.out rfl, hs⟩)
          have hsb : (tS == s) = false := by simp [hs]
          clear hrow
          go_wp2_with fail
          go_round
          case rel => exact ⟨k + 1, by omega, by go_num, fun _ => HN.out rfl⟩
          case measure => simp [intOf]; omega
      · have e4 : (tk == 4) = false := by simp [h4]
        clear hrow
        go_wp2_with fail
        go_round
        case rel => exact ⟨k + 1, by omega, by go_num, fun e => absurd e h4⟩
        case measure => simp [intOf]; omega
    · obtain rfl : k = ls.length := by omega
      have HI : Hid (isT (tk, tS, tn) ls = false) := Lib.hid (by
        have := HNO.out
        rw [List.take_length] at this
        unfold isT
        by_cases h4 : tk = 4
        · simp [this h4]
        · simp [h4])
      go_wp2_with fail
      go_ret
      rw [HI.out]
      exact ⟨rfl, rfl⟩
end Go.Proofs.YtpcpjghfcimblaaGreatDoor
/- token.Cut. -/
namespace Go.Proofs.YtpcpjghfcimblaaGreatDoor
open Go.RowKit

/-- The parts between marks. -/
def cutF (sep : List UInt8) : List Tok → Nat → List Tok → List (List Tok) → List (List Tok)
  | [], _, cur, acc => acc ++ [cur]
  | t :: r, d, cur, acc =>
    let d1 := if isT t [[41], [93]] then d - 1 else d
    let d2 := if isT t [[40], [91]] then d1 + 1 else d1
    if isT t [sep] && d1 == 0 then cutF sep r d2 [] (acc ++ [cur]) else cutF sep r d2 (cur ++ [t]) acc
def cutL (sep : List UInt8) (ts : List Tok) : List (List Tok) := if ts = [] then [] else cutF sep ts 0 [] []

theorem cutF_cons (sep : List UInt8) (t : Tok) (r : List Tok) (d : Nat) (cur : List Tok) (acc : List (List Tok)) (a1 a2 a3 : Bool) (h1 : isT t [[41], [93]] = a1) (h2 : isT t [sep] = a2) (h3 : isT t [[40], [91]] = a3) (d1 : Nat) (hd : d1 = if a1 then d - 1 else d) :
    cutF sep (t :: r) d cur acc = if a2 && d1 == 0 then cutF sep r (if a3 then d1 + 1 else d1) [] (acc ++ [cur]) else cutF sep r (if a3 then d1 + 1 else d1) (cur ++ [t]) acc := by
  subst hd h1 h2 h3
  rfl

/-- Slices that hold the parts, each in a block of its own, below B. -/
def Parts (w : World) (B : Nat) (vs : List Value) (ps : List (List Tok)) : Prop :=
  vs.length = ps.length ∧ ∀ (i : Nat) (v : Value) (p : List Tok), vs[i]? = some v → ps[i]? = some p → (∃ base, w.ownsRow base 94 3 v p.length (tokRow p)) ∧ ∀ g, v.ownBlock = some g → g < B
theorem Parts.keep {w w' : World} {B B' : Nat} {vs : List Value} {ps : List (List Tok)} {row : Option Nat} (h : Parts w B vs ps) (hg : w.grownBy w' row) (hB : B ≤ B') (hr : ∀ b v n x, w.ownsRow b 94 3 v n x → (∀ g, v.ownBlock = some g → g < B) → v.ownBlock = none ∨ v.ownBlock ≠ row) : Parts w' B' vs ps := by
  refine ⟨h.1, fun i v p hv hp => ?_⟩
  obtain ⟨⟨base, h1⟩, h2⟩ := h.2 i v p hv hp
  exact ⟨⟨base, h1.kept hg (hr base v _ _ h1 h2)⟩, fun g hgg => Nat.lt_of_lt_of_le (h2 g hgg) hB⟩
theorem Parts.snoc {w : World} {B b : Nat} {vs : List Value} {ps : List (List Tok)} {v : Value} {p : List Tok} (h : Parts w B vs ps) (hv : w.ownsRow b 94 3 v p.length (tokRow p)) (hB : ∀ g, v.ownBlock = some g → g < B) : Parts w B (vs ++ [v]) (ps ++ [p]) := by
  refine ⟨by simp [h.1], fun i v' p' hv' hp' => ?_⟩
  rcases Nat.lt_trichotomy i vs.length with hi | hi | hi
  · rw [List.getElem?_append_left hi] at hv'
    rw [List.getElem?_append_left (by rw [← h.1]; exact hi)] at hp'
    exact h.2 i v' p' hv' hp'
  · subst hi
    rw [List.getElem?_append_right (Nat.le_refl _), Nat.sub_self] at hv'
    rw [List.getElem?_append_right (by rw [← h.1]; exact Nat.le_refl _), h.1, Nat.sub_self] at hp'
    simp at hv' hp'
    subst hv' hp'
    exact ⟨⟨b, hv⟩, hB⟩
  · rw [List.getElem?_eq_none (by simp; omega)] at hv'
    simp at hv'
theorem Parts.nil (w : World) (B : Nat) : Parts w B [] [] := ⟨rfl, fun i v p h => by simp at h⟩
theorem Parts.below {w w' : World} {B : Nat} {vs : List Value} {ps : List (List Tok)} (h : Parts w B vs ps) (hb : Below w.heap.size w w') : Parts w' B vs ps :=
  h.keep (only_of_below hb none) (Nat.le_refl _) (fun _ v _ _ _ _ => by cases v.ownBlock <;> simp)
theorem Parts.alloc {w : World} {B : Nat} {vs : List Value} {ps : List (List Tok)} (h : Parts w B vs ps) (o : Obj) : Parts (w.alloc o) B vs ps := h.below ((Below.refl _ _).alloc (Nat.le_refl _) o)

theorem info_toks : (Tryz.prog.info? 87).map (fun i => (i.zero, i.size, i.bytes)) = some (some (.slice none 0 0), 1, 24) := by kernel_rfl
theorem max_pred (d : Nat) : max ((d : Int) - 1) 0 = ((d - 1 : Nat) : Int) := by omega

set_option maxHeartbeats 4000000 in
set_option maxRecDepth 100000 in
theorem cut_any (sep : List UInt8) (ts : List Tok) (v : Value) (w : World) (hr : Rd w w.heap.size v ts.length (tokRow ts)) (hl : ts.length ≤ 1000) :
    Calls Tryz.prog 48 #[v, .string ⟨sep.toArray⟩] w fun e w' => ∃ v' vs, e = .returned v' ∧ w'.ownsRow w.heap.size 87 1 v' (cutL sep ts).length vs ∧ Parts w' w'.heap.size vs (cutL sep ts) ∧ Below w.heap.size w w' := by
  obtain ⟨A, c, rfl, hc⟩ := hr.form
  have HR := Lib.hid hr
  clear hr
  have HC : Hid (cutL sep ts = if ts = [] then [] else cutF sep ts 0 [] []) := Lib.hid rfl
  generalize cutL sep ts = res at *
  by_cases h0 : ts = []
  · have hres := HC.out.trans (if_pos h0)
    subst h0 hres
    clear HC
    go_enter Tryz.func48, Tryz.ntmps48
    go_wp2_with fail
    go_ret
    exact ⟨_, [], rfl, World.ownsRow_nil _ _ _ _, Parts.nil _ _, Below.refl _ _⟩
  have HF := Lib.hid (HC.out.trans (if_neg h0))
  have hpos : ts.length ≠ 0 := fun h => h0 (List.eq_nil_of_length_eq_zero h)
  have hpos' : ((ts.length : Int) == 0) = false := by rw [beq_eq_false_iff_ne]; omega
  clear HC
  go_enter Tryz.func48, Tryz.ntmps48
  go_wp2_with fail
  go_loopw [4, 5, 6, 15] (fun vo vp dp i wr => ∃ (k d : Nat) (cur : List Tok) (acc : List (List Tok)) (vs : List Value) (B : Nat), k ≤ ts.length ∧ i = .int .i64 k ∧ dp = .int .i64 d ∧ d ≤ k ∧ acc.length ≤ k ∧ cur.length ≤ k ∧ res = cutF sep (ts.drop k) d cur acc ∧ w.heap.size ≤ B ∧ B ≤ wr.heap.size ∧
      wr.ownsRow w.heap.size 87 1 vo acc.length vs ∧ Parts wr B vs acc ∧ wr.ownsRow B 94 3 vp cur.length (tokRow cur) ∧ Below w.heap.size w wr) (fun _ _ _ i _ => ts.length - (intOf i).toNat)
  case atStart => exact ⟨0, 0, [], [], [], w.heap.size, Nat.zero_le _, rfl, rfl, Nat.le_refl _, Nat.le_refl _, Nat.le_refl _, HF.out, Nat.le_refl _, Nat.le_refl _, World.ownsRow_nil _ _ _ _, Parts.nil _ _, World.ownsRow_nil _ _ _ _, Below.refl _ _⟩
  case round =>
    clear HF
    obtain ⟨k, d, cur, acc, vs, B, hk, rfl, rfl, hdk, hak, hck, hres, hB1, hB2, ho, hp, hq, hb⟩ := hrel
    have hsz := hb.size
    have HX := Lib.hid hres
    clear hres
    by_cases hlt : k < ts.length
    · obtain ⟨g, o, rfl, hg', c1, c2, c3⟩ := HR.out.tok k hlt
      have hdrop : ts.drop k = ts[k] :: ts.drop (k + 1) := List.drop_eq_getElem_cons hlt
      rw [hdrop] at HX
      generalize ts[k] = t at *
      have d1 := (hb.cell (p := ⟨g, o + k * 3, none⟩) hg').trans c1
      have d2 := (hb.cell (p := ⟨g, o + k * 3 + 1, none⟩) hg').trans c2
      have d3 := (hb.cell (p := ⟨g, o + k * 3 + 2, none⟩) hg').trans c3
      clear c1 c2 c3 hdrop
      obtain ⟨a1, h1⟩ : ∃ b, isT t [[41], [93]] = b := ⟨_, rfl⟩
      obtain ⟨a2, h2⟩ : ∃ b, isT t [sep] = b := ⟨_, rfl⟩
      obtain ⟨a3, h3⟩ : ∃ b, isT t [[40], [91]] = b := ⟨_, rfl⟩
      obtain ⟨dn, hdn⟩ : ∃ n, n = if a1 then d - 1 else d := ⟨_, rfl⟩
      have HZ := Lib.hid (HX.out.trans (cutF_cons sep t _ d cur acc a1 a2 a3 h1 h2 h3 dn hdn))
      have hdn2 : dn ≤ k := by rw [hdn]; split <;> omega
      clear HX
      have ho_ne : some wr.heap.size ≠ u4.ownBlock := fun h => absurd (ho.lt _ h.symm).2 (by omega)
      have hq_ne : some wr.heap.size ≠ u5.ownBlock := fun h => absurd (hq.lt _ h.symm).2 (by omega)
      go_wp2_with fail
      refine (cutIs_any t [[41], [93]] (wr.heap.size + 1) 2 wr.heap.size _ rfl (by simp) (by have := strs_new (wr.alloc (.cells (tokCells t).toArray 94)) [[41], [93]] 9; rwa [show (wr.alloc (.cells (tokCells t).toArray 94)).heap.size = wr.heap.size + 1 by simp] at this) (new_keep (new_at wr (tokCells t) _ 0 _ rfl)) (new_keep (new_at wr (tokCells t) _ 1 _ rfl))).mono ?_
      rintro e w1 ⟨rfl, hw1⟩
      have hb1 : Below w.heap.size w w1 := by rw [hw1]; exact (hb.alloc hsz _).alloc (by simp; omega) _
      have ho1 := hw1 ▸ (ho.alloc (.cells (tokCells t).toArray 94)).alloc (.cells #[.string ⟨#[41]⟩, .string ⟨#[93]⟩] 9)
      have hp1 := hw1 ▸ (hp.alloc (.cells (tokCells t).toArray 94)).alloc (.cells #[.string ⟨#[41]⟩, .string ⟨#[93]⟩] 9)
      have hq1 := hw1 ▸ (hq.alloc (.cells (tokCells t).toArray 94)).alloc (.cells #[.string ⟨#[41]⟩, .string ⟨#[93]⟩] 9)
      have hBs1 : B ≤ w1.heap.size := by rw [hw1]; simp; omega
      have hH1 : wr.heap.size < w1.heap.size := by rw [hw1]; simp; omega
      have R0 : w1.cell? ⟨wr.heap.size, 0, none⟩ = some (.int .i64 t.1) := by rw [hw1]; exact new_keep (new_at wr (tokCells t) _ 0 _ rfl)
      have R1 : w1.cell? ⟨wr.heap.size, 1, none⟩ = some (.string ⟨t.2.1.toArray⟩) := by rw [hw1]; exact new_keep (new_at wr (tokCells t) _ 1 _ rfl)
      have R2 : w1.cell? ⟨wr.heap.size, 2, none⟩ = some (.int .u16 t.2.2) := by rw [hw1]; exact new_keep (new_at wr (tokCells t) _ 2 _ rfl)
      clear hw1 ho hp hq d1 d2 d3
      rw [h1]
      have hmx := max_pred d
      cases a1
      all_goals (
        first | (have hdd : dn = d := hdn; clear hdn; subst hdd) | (have hdd : dn = d - 1 := hdn; clear hdn; rw [← hdd] at hmx; clear hdd)
        go_wp2_with fail
        refine (cutIs_any t [sep] w1.heap.size 1 wr.heap.size _ rfl (by simp) (strs_new w1 [sep] _) (new_keep R0) (new_keep R1)).mono ?_
        rintro e w2 ⟨rfl, hw2⟩
        have hb2 : Below w.heap.size w w2 := by rw [hw2]; exact hb1.alloc hb1.size _
        have ho2 := hw2 ▸ ho1.alloc (.cells #[.string ⟨sep.toArray⟩] 9)
        have hp2 := hw2 ▸ hp1.alloc (.cells #[.string ⟨sep.toArray⟩] 9)
        have hq2 := hw2 ▸ hq1.alloc (.cells #[.string ⟨sep.toArray⟩] 9)
        have hBs2 : B ≤ w2.heap.size := by rw [hw2]; simp; omega
        have hH2 : wr.heap.size < w2.heap.size := by rw [hw2]; simp; omega
        have S0 : w2.cell? ⟨wr.heap.size, 0, none⟩ = some (.int .i64 t.1) := by rw [hw2]; exact new_keep R0
        have S1 : w2.cell? ⟨wr.heap.size, 1, none⟩ = some (.string ⟨t.2.1.toArray⟩) := by rw [hw2]; exact new_keep R1
        have S2 : w2.cell? ⟨wr.heap.size, 2, none⟩ = some (.int .u16 t.2.2) := by rw [hw2]; exact new_keep R2
        clear hw2 ho1 hp1 hq1 R0 R1 R2 hb1 hH1 hBs1
        rw [h2]
        by_cases hcut : (a2 && dn == 0) = true
        · have hdz : dn = 0 := by simp at hcut; exact hcut.2
          have ha2 : a2 = true := by simp at hcut; exact hcut.1
          have hdz' : ((dn : Int) == 0) = true := by rw [hdz]; rfl
          have HY0 := Lib.hid (HZ.out.trans (if_pos hcut))
          clear HZ hcut
          rw [ha2]
          have hone := own_one hq2
          obtain ⟨pA, pc, hpv, _⟩ := (Rd.of_own hq2).form
          subst hpv
          go_wp2_with (at_builtin; refine wpList_append_rd (w2.alloc (.cells #[.slice pA cur.length pc] 87)) (by rfl) _ _ 95 rfl w.heap.size 87 _ 1 24 Tryz.underlying95 info_toks rfl (by decide) (ho2.alloc _) rfl (Rd.new w2 [.slice pA cur.length pc] _) rfl rfl hone (by omega) (by omega) (by simp; omega) ?_)
          intro v3 w3 ho3 hb3' hgr3
          have hb3 := (hb2.alloc hb2.size _).trans hb3'
          have hsz3 : w2.heap.size < w3.heap.size := by have := hgr3.size; simp at this; omega
          have hpart := (hq2.alloc (.cells #[.slice pA cur.length pc] 87)).kept hgr3 (own_apart hq2 ho2 (by decide))
          have hp3 : Parts w3 w3.heap.size (vs ++ [.slice pA cur.length pc]) (acc ++ [cur]) :=
            ((hp2.alloc _).keep hgr3 (by omega) (fun b v n x hv _ => own_apart hv (ho2.alloc _) (by decide))).snoc hpart (fun g hg => (hpart.lt g hg).2)
          have T0 := hgr3.cell (new_keep S0) ho_ne
          have T1 := hgr3.cell (new_keep S1) ho_ne
          obtain ⟨cur3, hcur3⟩ : ∃ x : List Tok, x = [] := ⟨_, rfl⟩
          obtain ⟨acc3, hacc3⟩ : ∃ x, x = acc ++ [cur] := ⟨_, rfl⟩
          obtain ⟨vs3, hvs3⟩ : ∃ x, x = vs ++ [Value.slice pA cur.length pc] := ⟨_, rfl⟩
          obtain ⟨B3, hB3⟩ : ∃ x, x = w3.heap.size := ⟨_, rfl⟩
          have hq3 : w3.ownsRow B3 94 3 (.slice none 0 0) cur3.length (tokRow cur3) := by rw [hcur3]; exact World.ownsRow_nil _ _ _ _
          have HY := Lib.hid (HY0.out)
          rw [← hcur3, ← hacc3] at HY
          rw [← hacc3, ← hvs3, ← hB3] at hp3
          have ho3' : w3.ownsRow w.heap.size 87 1 v3 acc3.length vs3 := by rw [hacc3, hvs3, List.length_append]; exact ho3
          replace ho3 := ho3'
          have hl1 : acc3.length ≤ k + 1 := by rw [hacc3]; simp; omega
          have hl2 : cur3.length ≤ k + 1 := by rw [hcur3]; simp
          have hB31 : w.heap.size ≤ B3 := by have := hb2.size; omega
          have hB32 : B3 ≤ w3.heap.size := by omega
          clear hcur3 hacc3 hvs3 hB3 ho3' ho2 hp2 hq2 hpart hgr3 hb3' HY0 S0 S1 S2 hone
          go_wp2_with fail
          refine (cutIs_any t [[40], [91]] w3.heap.size 2 wr.heap.size _ rfl (by simp) (strs_new w3 [[40], [91]] _) (new_keep T0) (new_keep T1)).mono ?_
          rintro e w4 ⟨rfl, hw4⟩
          have hb4 : Below w.heap.size w w4 := by rw [hw4]; exact hb3.alloc hb3.size _
          have ho4 := hw4 ▸ ho3.alloc (.cells #[.string ⟨#[40]⟩, .string ⟨#[91]⟩] 9)
          have hp4 := hw4 ▸ hp3.alloc (.cells #[.string ⟨#[40]⟩, .string ⟨#[91]⟩] 9)
          have hq4 := hw4 ▸ hq3.alloc (.cells #[.string ⟨#[40]⟩, .string ⟨#[91]⟩] 9)
          have hB4 : B3 ≤ w4.heap.size := by rw [hw4]; simp; omega
          clear hw4 ho3 hp3 hq3
          rw [h3]
          cases a3
          · go_wp2_with fail
            go_roundw
            case rel => exact ⟨k + 1, dn, cur3, acc3, vs3, B3, by omega, by go_num, (by first | rfl | (rw [hdz]; rfl)), by omega, by omega, by omega, HY.out, hB31, hB4, ho4, hp4, hq4, hb4⟩
            case measure => simp [intOf]; omega
          · go_wp2_with fail
            go_roundw
            case rel => exact ⟨k + 1, dn + 1, cur3, acc3, vs3, B3, by omega, by go_num, by go_num, by omega, by omega, by omega, HY.out, hB31, hB4, ho4, hp4, hq4, hb4⟩
            case measure => simp [intOf]; omega
        · have HY0 := Lib.hid (HZ.out.trans (if_neg hcut))
          have hsplit : a2 = false ∨ (a2 = true ∧ ((dn : Int) == 0) = false) := by
            cases a2
            · exact .inl rfl
            · right
              refine ⟨rfl, ?_⟩
              simp at hcut
              rw [beq_eq_false_iff_ne]; omega
          clear HZ hcut
          rcases hsplit with ha2 | ⟨ha2, hdz'⟩
          all_goals (
            rw [ha2]
            go_wp2_with (at_builtin; refine wpList_append_rd (w2.alloc (.cells (tokCells t).toArray 94)) (by rfl) _ _ 87 rfl B 94 _ 3 32 Tryz.underlying87 info_tok rfl (by decide) (hq2.alloc _) rfl (Rd.new w2 (tokCells t) _) rfl rfl (tokCells_one _) (by omega) (by omega) (by simp; omega) ?_)
            intro v3 w3 hq3' hb3' hgr3
            have hb3 : Below w.heap.size w w3 := (hb2.alloc hb2.size _).trans (hb3'.mono hB1)
            have hsz3 : w2.heap.size < w3.heap.size := by have := hgr3.size; simp at this; omega
            have ho3 := (ho2.alloc (.cells (tokCells t).toArray 94)).kept hgr3 (own_apart ho2 hq2 (by decide))
            have hp3 : Parts w3 B vs acc := (hp2.alloc _).keep hgr3 (Nat.le_refl _) (fun b v n x hv hlt => by
              cases hob : v.ownBlock with
              | none => exact .inl rfl
              | some g =>
                right
                intro h
                have h1 := hlt g hob
                have h2 := (hq2.lt g h.symm).1
                omega)
            have T0 := hgr3.cell (new_keep S0) hq_ne
            have T1 := hgr3.cell (new_keep S1) hq_ne
            obtain ⟨cur3, hcur3⟩ : ∃ x, x = cur ++ [t] := ⟨_, rfl⟩
            have hq3 : w3.ownsRow B 94 3 v3 cur3.length (tokRow cur3) := by rw [hcur3, tokRow_snoc, List.length_append]; exact hq3'
            have HY := Lib.hid (HY0.out)
            rw [← hcur3] at HY
            have hl2 : cur3.length ≤ k + 1 := by rw [hcur3]; simp; omega
            clear hcur3 hq3' ho2 hp2 hq2 hgr3 hb3' HY0 S0 S1 S2
            go_wp2_with fail
            refine (cutIs_any t [[40], [91]] w3.heap.size 2 wr.heap.size _ rfl (by simp) (strs_new w3 [[40], [91]] _) (new_keep T0) (new_keep T1)).mono ?_
            rintro e w4 ⟨rfl, hw4⟩
            have hb4 : Below w.heap.size w w4 := by rw [hw4]; exact hb3.alloc hb3.size _
            have ho4 := hw4 ▸ ho3.alloc (.cells #[.string ⟨#[40]⟩, .string ⟨#[91]⟩] 9)
            have hp4 := hw4 ▸ hp3.alloc (.cells #[.string ⟨#[40]⟩, .string ⟨#[91]⟩] 9)
            have hq4 := hw4 ▸ hq3.alloc (.cells #[.string ⟨#[40]⟩, .string ⟨#[91]⟩] 9)
            have hB4 : B ≤ w4.heap.size := by rw [hw4]; simp; omega
            clear hw4 ho3 hp3 hq3
            rw [h3]
            cases a3
            · go_wp2_with fail
              go_roundw
              case rel => exact ⟨k + 1, dn, cur3, acc, vs, B, by omega, by go_num, (by first | rfl | (rw [hdz]; rfl)), by omega, by omega, by omega, HY.out, hB1, hB4, ho4, hp4, hq4, hb4⟩
              case measure => simp [intOf]; omega
            · go_wp2_with fail
              go_roundw
              case rel => exact ⟨k + 1, dn + 1, cur3, acc, vs, B, by omega, by go_num, by go_num, by omega, by omega, by omega, HY.out, hB1, hB4, ho4, hp4, hq4, hb4⟩
              case measure => simp [intOf]; omega)
        )
    · obtain rfl : k = ts.length := by omega
      rw [List.drop_length] at HX
      have hres : res = acc ++ [cur] := HX.out
      clear HX
      have hone := own_one hq
      obtain ⟨pA, pc, rfl, _⟩ := (Rd.of_own hq).form
      go_wp2_with (at_builtin; refine wpList_append_rd (wr.alloc (.cells #[.slice pA cur.length pc] 87)) (by rfl) _ _ 95 rfl w.heap.size 87 _ 1 24 Tryz.underlying95 info_toks rfl (by decide) (ho.alloc _) rfl (Rd.new wr [.slice pA cur.length pc] _) rfl rfl hone (by omega) (by omega) (by simp; omega) ?_)
      intro v3 w3 ho3 hb3 hgr3
      have hp3 : Parts w3 w3.heap.size (vs ++ [.slice pA cur.length pc]) (acc ++ [cur]) := by
        have hg2 := hgr3
        have hsz3 : B ≤ w3.heap.size := by have := hgr3.size; simp at this; omega
        refine ((hp.alloc _).keep hgr3 hsz3 (fun b v n x hv _ => own_apart hv (ho.alloc _) (by decide))).snoc ((hq.alloc _).kept hgr3 (own_apart hq ho (by decide))) ?_
        intro g hg
        exact ((hq.alloc (.cells #[.slice pA cur.length pc] 87)).kept hgr3 (own_apart hq ho (by decide))).lt g hg |>.2
      have hb4 := (hb.alloc hsz _).trans hb3
      subst hres
      clear ho hp hq hgr3 hb3
      go_wp2_with fail
      go_ret
      exact ⟨_, _, rfl, by rw [List.length_append]; exact ho3, hp3, hb4⟩
end Go.Proofs.YtpcpjghfcimblaaGreatDoor
/- The parts between marks, in plain Lean. -/
namespace Go.Proofs.YtpcpjghfcimblaaGreatDoor

def d1F (t : Tok) (d : Nat) : Nat := if isT t [[41], [93]] then d - 1 else d
def d2F (t : Tok) (d : Nat) : Nat := if isT t [[40], [91]] then d1F t d + 1 else d1F t d
theorem cutF_eq (sep : List UInt8) (t : Tok) (r : List Tok) (d : Nat) (cur : List Tok) (acc : List (List Tok)) : cutF sep (t :: r) d cur acc = if (isT t [sep] && d1F t d == 0) = true then cutF sep r (d2F t d) [] (acc ++ [cur]) else cutF sep r (d2F t d) (cur ++ [t]) acc := rfl

/-- The parts, with the mark between. -/
def joinP (c : Tok) : List (List Tok) → List Tok
  | [] => []
  | [p] => p
  | p :: q :: r => p ++ c :: joinP c (q :: r)
theorem joinP_snoc (c : Tok) (ps : List (List Tok)) (p : List Tok) (h : ps ≠ []) : joinP c (ps ++ [p]) = joinP c ps ++ c :: p := by
  induction ps with
  | nil => exact absurd rfl h
  | cons a ps ih =>
    cases ps with
    | nil => rfl
    | cons b ps => show a ++ c :: joinP c (b :: ps ++ [p]) = (a ++ c :: joinP c (b :: ps)) ++ c :: p; rw [ih (by simp)]; simp
/-- All tokens come, the mark where one was cut. -/
theorem cutF_join (sep : List UInt8) (c : Tok) (ts : List Tok) : ∀ (d : Nat) (cur : List Tok) (acc : List (List Tok)), (∀ t ∈ ts, isT t [sep] = true → t = c) → joinP c (cutF sep ts d cur acc) = joinP c (acc ++ [cur]) ++ ts := by
  induction ts with
  | nil => intro d cur acc _; simp [cutF]
  | cons t r ih =>
    intro d cur acc h
    have h' : ∀ u ∈ r, isT u [sep] = true → u = c := fun u hu => h u (by simp [hu])
    rw [cutF_eq]
    by_cases hc : (isT t [sep] && d1F t d == 0) = true
    · rw [if_pos hc]
      simp at hc
      rw [ih _ _ _ h', joinP_snoc _ _ _ (by simp), h t (by simp) hc.1]
      simp
    · rw [if_neg hc, ih _ _ _ h']
      cases acc with
      | nil => simp [joinP]
      | cons a acc => rw [joinP_snoc c (a :: acc) (cur ++ [t]) (by simp), joinP_snoc c (a :: acc) cur (by simp)]; simp
theorem cutL_join (sep : List UInt8) (c : Tok) (ts : List Tok) (h : ∀ t ∈ ts, isT t [sep] = true → t = c) : joinP c (cutL sep ts) = ts := by
  unfold cutL
  split
  · rename_i h0; rw [h0]; rfl
  · rw [cutF_join sep c ts 0 [] [] h]; simp [joinP]

/-- How deep behind tokens that are not cut; none: one is cut. -/
def deepT (sep : List UInt8) : List Tok → Nat → Option Nat
  | [], d => some d
  | t :: r, d => if (isT t [sep] && d1F t d == 0) = true then none else deepT sep r (d2F t d)
theorem deepT_eq (sep : List UInt8) (t : Tok) (r : List Tok) (d : Nat) : deepT sep (t :: r) d = if (isT t [sep] && d1F t d == 0) = true then none else deepT sep r (d2F t d) := rfl
theorem deepT_snoc (sep : List UInt8) (ts : List Tok) (t : Tok) : ∀ (d e : Nat), deepT sep ts d = some e → deepT sep (ts ++ [t]) d = deepT sep [t] e := by
  induction ts with
  | nil => intro d e h; simp [deepT] at h; subst h; rfl
  | cons u r ih =>
    intro d e h
    rw [List.cons_append, deepT_eq]
    rw [deepT_eq] at h
    by_cases hc : (isT u [sep] && d1F u d == 0) = true
    · rw [if_pos hc] at h; simp at h
    · rw [if_neg hc] at h ⊢
      exact ih _ _ h
theorem cutF_one (sep : List UInt8) (ts : List Tok) : ∀ (d : Nat) (cur : List Tok) (acc : List (List Tok)), deepT sep ts d ≠ none → cutF sep ts d cur acc = acc ++ [cur ++ ts] := by
  induction ts with
  | nil => intro d cur acc _; simp [cutF]
  | cons t r ih =>
    intro d cur acc h
    rw [deepT_eq] at h
    rw [cutF_eq]
    by_cases hc : (isT t [sep] && d1F t d == 0) = true
    · rw [if_pos hc] at h; simp at h
    · rw [if_neg hc] at h
      rw [if_neg hc, ih _ _ _ h]; simp
/-- No part is cut again. -/
theorem cutF_parts (sep : List UInt8) (hs : sep ≠ [40] ∧ sep ≠ [91]) (ts : List Tok) : ∀ (d : Nat) (cur : List Tok) (acc : List (List Tok)), deepT sep cur 0 = some d → (∀ p ∈ acc, deepT sep p 0 ≠ none) → ∀ p ∈ cutF sep ts d cur acc, deepT sep p 0 ≠ none := by
  induction ts with
  | nil =>
    intro d cur acc hd ha p hp
    simp [cutF] at hp
    rcases hp with hp | rfl
    · exact ha p hp
    · rw [hd]; simp
  | cons t r ih =>
    intro d cur acc hd ha
    rw [cutF_eq]
    by_cases hc : (isT t [sep] && d1F t d == 0) = true
    · rw [if_pos hc]
      simp at hc
      have h0 : d2F t d = 0 := by
        have hno : isT t [[40], [91]] = false := by
          have h1 := hc.1
          unfold isT at h1 ⊢
          simp at h1 ⊢
          intro h4
          rw [h1.2]
          exact ⟨hs.1, hs.2⟩
        unfold d2F
        rw [hno]
        simpa using hc.2
      rw [h0]
      refine ih 0 [] _ rfl ?_
      intro p hp
      rcases List.mem_append.mp hp with hp | hp
      · exact ha p hp
      · simp at hp; subst hp; rw [hd]; simp
    · rw [if_neg hc]
      refine ih _ _ _ ?_ ha
      rw [deepT_snoc sep cur t 0 d hd, deepT_eq, if_neg hc]
      rfl
theorem cutL_again (ts p : List Tok) (hp : p ∈ cutL [44] ts) (h0 : p ≠ []) : (cutL [44] p).length = 1 := by
  have h1 : deepT [44] p 0 ≠ none := by
    unfold cutL at hp
    split at hp
    · simp at hp
    · exact cutF_parts [44] (by decide) ts 0 [] [] rfl (by simp) p hp
  unfold cutL
  rw [if_neg h0, cutF_one _ _ _ _ _ h1]; rfl
theorem cutF_length (sep : List UInt8) (ts : List Tok) : ∀ (d : Nat) (cur : List Tok) (acc : List (List Tok)), acc.length + 1 ≤ (cutF sep ts d cur acc).length ∧ (cutF sep ts d cur acc).length ≤ acc.length + 1 + ts.length := by
  induction ts with
  | nil => intro d cur acc; simp [cutF]
  | cons t r ih =>
    intro d cur acc
    rw [cutF_eq]
    by_cases hc : (isT t [sep] && d1F t d == 0) = true
    · rw [if_pos hc]; have := ih (d2F t d) [] (acc ++ [cur]); simp at this ⊢; omega
    · rw [if_neg hc]; have := ih (d2F t d) (cur ++ [t]) acc; simp at this ⊢; omega
end Go.Proofs.YtpcpjghfcimblaaGreatDoor

/- The walk of TokenParts. -/
import Derived.Test.YtnpphfhjpflgiaaDoorLight
namespace Go.Proofs.YtnpphfhjpflgiaaDoor
open Go.RowKit

def comma : Tok := (4, [44], 0)
theorem cutF_size (sep : List UInt8) (c : Tok) (ts : List Tok) : ∀ (d : Nat) (cur : List Tok) (acc : List (List Tok)), (joinP c (cutF sep ts d cur acc)).length = (joinP c (acc ++ [cur])).length + ts.length := by
  induction ts with
  | nil => intro d cur acc; simp [cutF]
  | cons t r ih =>
    intro d cur acc
    rw [cutF_eq]
    by_cases hc : (isT t [sep] && d1F t d == 0) = true
    · rw [if_pos hc, ih, joinP_snoc _ _ _ (by simp)]
      simp; omega
    · rw [if_neg hc, ih]
      cases acc with
      | nil => simp [joinP]; omega
      | cons a acc => rw [joinP_snoc c (a :: acc) (cur ++ [t]) (by simp), joinP_snoc c (a :: acc) cur (by simp)]; simp; omega
theorem cutL_size (sep : List UInt8) (c : Tok) (ts : List Tok) : (joinP c (cutL sep ts)).length = ts.length := by
  unfold cutL
  split
  · rename_i h; rw [h]; rfl
  · rw [cutF_size]; simp [joinP]
theorem joinP_take (c : Tok) (ps : List (List Tok)) (k : Nat) : (joinP c (ps.take k)).length ≤ (joinP c ps).length := by
  induction ps generalizing k with
  | nil => simp
  | cons p ps ih =>
    cases k with
    | zero => simp [joinP]
    | succ k =>
      cases ps with
      | nil => simp
      | cons q qs =>
        cases k with
        | zero => simp [joinP]
        | succ k =>
          have := ih (k + 1)
          simp only [List.take_succ_cons, joinP, List.length_append, List.length_cons] at this ⊢
          omega
/-- What is laid behind k parts. -/
theorem joinP_step (c : Tok) (ps : List (List Tok)) (k : Nat) (hk : k < ps.length) : joinP c (ps.take (k + 1)) = if k = 0 then ps[k] else joinP c (ps.take k) ++ c :: ps[k] := by
  rw [List.take_succ_eq_append_getElem hk]
  split
  · rename_i h; subst h; rfl
  · rw [joinP_snoc _ _ _ (by intro h; rcases List.take_eq_nil_iff.mp h with h | h; (· contradiction); (· rw [h] at hk; simp at hk))]
theorem part_short (c : Tok) (ps : List (List Tok)) (k : Nat) (hk : k < ps.length) : ps[k].length ≤ (joinP c ps).length := by
  have h1 := joinP_take c ps (k + 1)
  rw [joinP_step c ps k hk] at h1
  split at h1
  · exact h1
  · simp at h1; omega

theorem Parts.at_ {w : World} {B : Nat} {vs : List Value} {ps : List (List Tok)} (h : Parts w B vs ps) (k : Nat) (hk : k < ps.length) : ∃ v, vs[k]? = some v ∧ Rd w w.heap.size v ps[k].length (tokRow ps[k]) := by
  have hk' : k < vs.length := by rw [h.1]; exact hk
  obtain ⟨⟨b, h1⟩, _⟩ := h.2 k vs[k] ps[k] (List.getElem?_eq_getElem hk') (List.getElem?_eq_getElem hk)
  exact ⟨_, List.getElem?_eq_getElem hk', Rd.of_own h1⟩

set_option maxHeartbeats 4000000 in
set_option maxRecDepth 100000 in
theorem tokenParts_walk (ts : List Tok) (v : Value) (w : World) (hr : Rd w w.heap.size v ts.length (tokRow ts)) (hg : GW w) :
    Calls Tryd.prog 8 #[v] w fun e w' => e = .returned (.bool true) ∧ Below w.heap.size w w' := by
  cases hlight : lightB ts with
  | false =>
    have hL := light_any ts v w hr
    rw [hlight] at hL
    go_enter Tryd.func8, Tryd.ntmps8
    go_wp2_with fail
    refine hL.mono ?_
    rintro e w1 ⟨rfl, rfl⟩
    go_wp2_with fail
    refine (alive4_any _ hg).mono ?_
    rintro e w2 ⟨rfl, hb⟩
    go_wp2_with fail
    go_ret
    exact ⟨rfl, hb⟩
  | true =>
    have hL := light_any ts v w hr
    rw [hlight] at hL
    have hlen : ts.length ≤ 100 := by unfold lightB at hlight; simp at hlight; exact hlight.1
    clear hlight
    obtain ⟨A, c, rfl, hc⟩ := hr.form
    have HR := Lib.hid hr
    clear hr
    go_enter Tryd.func8, Tryd.ntmps8
    go_wp2_with fail
    refine hL.mono ?_
    rintro e w1 ⟨rfl, rfl⟩
    clear hL
    go_wp2_with fail
    refine (own_any ts _ _ HR.out (by omega)).mono ?_
    rintro e w2 ⟨va, rfl, ho2, hb2⟩
    have ra := Rd.of_own ho2
    clear ho2
    go_wp2_with fail
    refine (cut_any [44] ts va _ ra (by omega)).mono ?_
    rintro e w3 ⟨vp, vs, rfl, ho3, hp3, hb3⟩
    have B3 := bthen hb2 hb3
    have hPl : (cutL [44] ts).length ≤ 101 := by
      unfold cutL
      split
      · simp
      · have := (cutF_length [44] ts 0 [] []).2; simp at this; omega
    have HJ := Lib.hid (cutL_size [44] comma ts)
    have HAG := Lib.hid (fun p hp h0 => cutL_again ts p hp h0)
    have HEQ := Lib.hid (cutL_join [44] comma ts)
    have HNIL : Hid (ts = [] → cutL [44] ts = []) := Lib.hid (fun h => by rw [h]; rfl)
    generalize cutL [44] ts = P at *
    have RO := Lib.hid (Rd.of_own ho3)
    have HP := Lib.hid hp3
    clear ho3 hp3 ra
    obtain ⟨oA, oc, rfl, hoc⟩ := RO.out.form
    have RL := Lib.hid ((HR.out.below B3).more B3.size)
    go_wp2_with fail
    go_loopw [4, 5] (fun vm i wr => ∃ k : Nat, k ≤ P.length ∧ i = .int .i64 k ∧ wr.ownsRow w3.heap.size 46 3 vm (joinP comma (P.take k)).length (tokRow (joinP comma (P.take k))) ∧ Below w3.heap.size w3 wr) (fun _ i _ => P.length - (intOf i).toNat)
    case atStart => exact ⟨0, Nat.zero_le _, rfl, World.ownsRow_nil _ _ _ _, Below.refl _ _⟩
    case round =>
      obtain ⟨k, hk, rfl, ho, hb⟩ := hrel
      have hsz := hb.size
      have hML := joinP_take comma P k
      rw [HJ.out] at hML
      by_cases hlt : k < P.length
      · obtain ⟨vk, hvk, rk⟩ := HP.out.at_ k hlt
        have hpl := part_short comma P k hlt
        rw [HJ.out] at hpl
        have HST := Lib.hid (joinP_step comma P k hlt)
        have hM0 : k = 0 → joinP comma (P.take k) = [] := by rintro rfl; rfl
        have HA1 := Lib.hid (HAG.out P[k] (List.getElem_mem hlt))
        have rkr := (rk.below hb).more hsz
        have hrk3 := rk
        obtain ⟨oA', oc', hoa, _, hcells⟩ := RO.out
        injection hoa with hoa _ hoc2
        subst hoa hoc2
        obtain ⟨g, o, hoA, hgl, hcl⟩ := hcells (by omega)
        subst hoA
        have ck := hcl k vk hvk
        have ckr := (hb.cell (p := ⟨g, o + k, none⟩) hgl).trans ck
        generalize P[k] = pk at *
        generalize joinP comma (P.take k) = M at *
        obtain ⟨kA, kc, rfl, hkc⟩ := rkr.form
        clear hcells hcl rk
        have rk3 : Rd w3 w3.heap.size (.slice kA pk.length kc) pk.length (tokRow pk) := hrk3
        by_cases hk0 : k = 0
        · have HMj : Hid (pk = M ++ pk) := Lib.hid (by rw [hM0 hk0]; rfl)
          have HS0 := Lib.hid (HST.out.trans (if_pos hk0))
          have hd0 : decide ((0 : Int) < (k : Int)) = false := by simp; omega
          have hd1 : decide (0 < k) = false := by simp; omega
          have hnm : M.length + pk.length ≤ 1000000000 := by omega
          clear hM0 hk0
          go_wp2_with fail
          have hom := ho
          have hbm := hb
          have rkm := rkr
          obtain ⟨vm, hvm⟩ : ∃ x, x = u4 := ⟨_, rfl⟩
          subst hvm
          clear ho rkr
          refine (back_any pk _ _ rkm (by omega)).mono ?_
          rintro e w5 ⟨vb, rfl, ho5, hb5⟩
          have rb5 := Rd.of_own ho5
          have hb35 := bthen hbm hb5
          have hom5 := hom.kept (only_of_below hb5 none) (by cases vm.ownBlock <;> simp)
          have rk5 := (rkm.below hb5).more hb5.size
          have ck5 := (hb35.cell (p := ⟨g, o + k, none⟩) hgl).trans ck
          clear ho5 rkm hom
          go_wp2_with (at_builtin; refine wpList_append_rd w5 (by rfl) _ _ 34 rfl w3.heap.size 46 _ 3 32 Tryd.underlying34 info_rtok rfl (by decide) hom5 rfl rb5 rfl (tokRow_length _) (tokRow_one _) hnm (by omega) hb35.size ?_)
          intro v6 w6 ho6 hb6 hgr6
          have hb36 : Below w3.heap.size w3 w6 := hb35.trans hb6
          have rk6 := (rk3.below hb36).more hb36.size
          have ck6 := (hb36.cell (p := ⟨g, o + k, none⟩) hgl).trans ck
          have H6 : Hid (w6.ownsRow w3.heap.size 46 3 v6 (joinP comma (P.take (k + 1))).length (tokRow (joinP comma (P.take (k + 1))))) := Lib.hid (by rw [HS0.out]; rw [HMj.out, tokRow_append, List.length_append]; first | exact ho6 | (rw [List.length_append]; exact ho6))
          clear ho6 hgr6 hom5 rb5 rk5 ck5 hb5 hb6
          by_cases hp0 : pk = []
          · subst hp0
            go_wp2_with fail
            exact ⟨⟨k + 1, by omega, by go_num, H6.out, hb36⟩, by simp [intOf]; omega⟩
          · have hp1 : (0 : Int) < (pk.length : Int) := by have := List.length_pos_iff.mpr hp0; omega
            have hA1 := Lib.hid (HA1.out hp0)
            go_wp2_with fail
            refine (cut_any [44] pk _ _ rk6 (by omega)).mono ?_
            rintro e w7 ⟨v7, vs7, rfl, ho7, _, hb7⟩
            rw [hA1.out] at ho7
            obtain ⟨A7, c7, rfl, _⟩ := (Rd.of_own ho7).form
            have H7 := Lib.hid (H6.out.kept (only_of_below hb7 none) (by cases v6.ownBlock <;> simp))
            have hb37 := bthen hb36 hb7
            clear ho7
            go_wp2_with fail
            exact ⟨⟨k + 1, by omega, by go_num, H7.out, hb37⟩, by simp [intOf]; omega⟩
        · have hk0' : (0 : Int) < (k : Int) := by omega
          have HS0 := Lib.hid (HST.out.trans (if_neg hk0))
          have hMj : M ++ comma :: pk = (M ++ [comma]) ++ pk := by simp
          have hnm : (M ++ [comma]).length + pk.length ≤ 1000000000 := by simp; omega
          clear hM0
          go_wp2_with (at_builtin; refine wpList_append_rd (wr.alloc (.cells #[.int .i64 4, .string ⟨#[44]⟩, .int .u16 0] 46)) (by rfl) _ _ 34 rfl w3.heap.size 46 _ 3 32 Tryd.underlying34 info_rtok rfl (by decide) (ho.alloc _) rfl (Rd.new wr (tokCells comma) _) rfl rfl (tokCells_one _) (by omega) (by omega) (by simp; omega) ?_)
          intro vm wm hom0 hbm0 hgrm
          have hbm : Below w3.heap.size w3 wm := (hb.alloc hsz _).trans hbm0
          have hom : wm.ownsRow w3.heap.size 46 3 vm (M ++ [comma]).length (tokRow (M ++ [comma])) := by rw [tokRow_snoc, List.length_append]; exact hom0
          have rkm := (rk3.below hbm).more hbm.size
          have ckm := (hbm.cell (p := ⟨g, o + k, none⟩) hgl).trans ck
          clear ho rkr hom0 hgrm hbm0 hb ckr
          go_wp2_with fail
          refine (back_any pk _ _ rkm (by omega)).mono ?_
          rintro e w5 ⟨vb, rfl, ho5, hb5⟩
          have rb5 := Rd.of_own ho5
          have hb35 := bthen hbm hb5
          have hom5 := hom.kept (only_of_below hb5 none) (by cases vm.ownBlock <;> simp)
          have rk5 := (rkm.below hb5).more hb5.size
          have ck5 := (hb35.cell (p := ⟨g, o + k, none⟩) hgl).trans ck
          clear ho5 rkm hom
          go_wp2_with (at_builtin; refine wpList_append_rd w5 (by rfl) _ _ 34 rfl w3.heap.size 46 _ 3 32 Tryd.underlying34 info_rtok rfl (by decide) hom5 rfl rb5 rfl (tokRow_length _) (tokRow_one _) hnm (by omega) hb35.size ?_)
          intro v6 w6 ho6 hb6 hgr6
          have hb36 : Below w3.heap.size w3 w6 := hb35.trans hb6
          have rk6 := (rk3.below hb36).more hb36.size
          have ck6 := (hb36.cell (p := ⟨g, o + k, none⟩) hgl).trans ck
          have H6 : Hid (w6.ownsRow w3.heap.size 46 3 v6 (joinP comma (P.take (k + 1))).length (tokRow (joinP comma (P.take (k + 1))))) := Lib.hid (by rw [HS0.out, hMj, tokRow_append, List.length_append]; first | exact ho6 | (rw [List.length_append]; exact ho6))
          clear ho6 hgr6 hom5 rb5 rk5 ck5 hb5 hb6
          by_cases hp0 : pk = []
          · subst hp0
            go_wp2_with fail
            exact ⟨⟨k + 1, by omega, by go_num, H6.out, hb36⟩, by simp [intOf]; omega⟩
          · have hp1 : (0 : Int) < (pk.length : Int) := by have := List.length_pos_iff.mpr hp0; omega
            have hA1 := Lib.hid (HA1.out hp0)
            go_wp2_with fail
            refine (cut_any [44] pk _ _ rk6 (by omega)).mono ?_
            rintro e w7 ⟨v7, vs7, rfl, ho7, _, hb7⟩
            rw [hA1.out] at ho7
            obtain ⟨A7, c7, rfl, _⟩ := (Rd.of_own ho7).form
            have H7 := Lib.hid (H6.out.kept (only_of_below hb7 none) (by cases v6.ownBlock <;> simp))
            have hb37 := bthen hb36 hb7
            clear ho7
            go_wp2_with fail
            exact ⟨⟨k + 1, by omega, by go_num, H7.out, hb37⟩, by simp [intOf]; omega⟩
      · obtain rfl : k = P.length := by omega
        rw [List.take_length] at ho hML
        have hgr := (hg.below B3).below hb
        have RM := Lib.hid (Rd.of_own ho)
        have RT := Lib.hid ((RL.out.below hb).more hsz)
        have hbr := bthen B3 hb
        clear ho
        by_cases h0 : ts = []
        · have hP0 := HNIL.out h0
          subst h0 hP0
          go_wp2_with fail
          refine (alive4_any _ hgr).mono ?_
          rintro e w9 ⟨rfl, hb9⟩
          go_wp2_with fail
          go_ret
          exact ⟨rfl, bthen hbr hb9⟩
        · have hpos : ts.length ≠ 0 := fun h => h0 (List.eq_nil_of_length_eq_zero h)
          have hpos' : ((ts.length : Int) == 0) = false := by rw [beq_eq_false_iff_ne]; omega
          clear h0
          obtain ⟨wo, rfl⟩ : ∃ wo : World, wo = wr := ⟨_, rfl⟩
          go_wp2_with fail
          go_loop [6] (fun i => ∃ k : Nat, k ≤ ts.length ∧ i = .int .i64 k ∧ ∀ t ∈ ts.take k, isT t [[44]] = true → t = comma) (fun i => ts.length - (intOf i).toNat)
          case atStart => exact ⟨0, Nat.zero_le _, rfl, by simp⟩
          case round =>
            obtain ⟨j, hj, rfl, hall⟩ := hrel
            have HALL := Lib.hid hall
            clear hall
            by_cases hlt2 : j < ts.length
            · obtain ⟨g, o, rfl, hg', c1, c2, c3⟩ := RT.out.tok j hlt2
              have HR2 := Lib.hid (List.take_succ_eq_append_getElem hlt2)
              generalize ts[j] = t at *
              obtain ⟨t1, t2, t3⟩ := t
              have HN : Hid (¬ (t1 = 4 ∧ t2 = [44] ∧ t3 ≠ 0) → ∀ t ∈ ts.take (j + 1), isT t [[44]] = true → t = comma) := Lib.hid (by
                intro hn t ht hi
                rw [HR2.out, List.mem_append] at ht
                rcases ht with ht | ht
                · exact HALL.out t ht hi
                · rw [List.mem_singleton] at ht
                  subst ht
                  simp [isT] at hi
                  obtain ⟨h1, h2⟩ := hi
                  subst h1 h2
                  have : t3 = 0 := Classical.byContradiction fun h => hn ⟨rfl, rfl, h⟩
                  subst this
                  rfl)
              clear HALL HR2
              by_cases h1 : t1 = 4
              · subst h1
                by_cases h2 : t2 = [44]
                · subst h2
                  by_cases h3 : t3 = 0
                  · subst h3
                    have H3 := Lib.hid (HN.out (by simp))
                    go_wp2_with fail
                    go_round
                    case rel => exact ⟨j + 1, by omega, by go_num, H3.out⟩
                    case measure => simp [intOf]; omega
                  · have h3' : ((t3 : Int) != 0) = true := by rw [bne_iff_ne]; omega
                    go_wp2_with fail
                    refine (alive4_any _ hgr).mono ?_
                    rintro e w9 ⟨rfl, hb9⟩
                    go_wp2_with fail
                    go_ret
                    exact ⟨rfl, bthen hbr hb9⟩
                · have H3 := Lib.hid (HN.out (fun h => h2 h.2.1))
                  have h2' : (t2 == [44]) = false := by simp [h2]
                  go_wp2_with fail
                  go_round
                  case rel => exact ⟨j + 1, by omega, by go_num, H3.out⟩
                  case measure => simp [intOf]; omega
              · have H3 := Lib.hid (HN.out (fun h => h1 h.1))
                have h1' : (t1 == 4) = false := by rw [beq_eq_false_iff_ne]; exact h1
                go_wp2_with fail
                go_round
                case rel => exact ⟨j + 1, by omega, by go_num, H3.out⟩
                case measure => simp [intOf]; omega
            · obtain rfl : j = ts.length := by omega
              rw [List.take_length] at HALL
              have hE := HEQ.out HALL.out
              clear HALL HEQ
              obtain ⟨J, hJ⟩ : ∃ J, joinP comma P = J := ⟨_, rfl⟩
              rw [hJ] at RM hE
              obtain ⟨mA, mc, hm, _⟩ := RM.out.form
              have hs := same_any J ts _ _ _ RM.out RT.out (by rw [hE]; omega) (by omega)
              rw [decide_eq_true hE] at hs
              have HS := Lib.hid hs
              clear hs hE hJ hm
              go_wp2_with fail
              refine HS.out.mono ?_
              rintro e w8 ⟨rfl, hb8⟩
              go_wp2_with fail
              refine (alive4_any _ (hgr.below hb8)).mono ?_
              rintro e w9 ⟨rfl, hb9⟩
              go_wp2_with fail
              go_ret
              exact ⟨rfl, bthen (bthen hbr hb8) hb9⟩
end Go.Proofs.YtnpphfhjpflgiaaDoor

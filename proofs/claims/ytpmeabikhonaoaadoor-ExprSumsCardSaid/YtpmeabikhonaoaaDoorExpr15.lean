/- expr: show of one part; show. -/
import Derived.Test.YtpmeabikhonaoaaDoorExpr14
namespace Go.Proofs.YtpmeabikhonaoaaDoor
open Go.RowKit

theorem rep_neg : Lib.replace [78, 69, 71] [78, 69, 71] [45] 1 = [45] := by decide +kernel
theorem rep_not : Lib.replace [78, 79, 84] [78, 69, 71] [45] 1 = [78, 79, 84] := by decide +kernel
theorem show_rep (o : List UInt8) (ho : o = sNEG ∨ o = sNOT) (W : World) (hg : GW W) : Calls Tryd.prog 53 #[.string ⟨o.toArray⟩, .string ⟨#[78, 69, 71]⟩, .string ⟨#[45]⟩, .int .i64 1] W fun e w' => e = .returned (.string ⟨(if o = sNEG then [45] else o).toArray⟩) ∧ Below W.heap.size W w' := by
  obtain ⟨m, hm⟩ := hg
  rcases ho with rfl | rfl
  · refine (Tryd.strings_Replace ⟨#[78, 69, 71]⟩ ⟨#[78, 69, 71]⟩ ⟨#[45]⟩ 1 m W (by decide) hm (by decide) (by decide +kernel)).mono ?_
    rintro e w' ⟨rfl, hb⟩
    refine ⟨?_, hb⟩
    show Ending.returned (.string ⟨(Lib.replace [78, 69, 71] [78, 69, 71] [45] 1).toArray⟩) = _
    rw [rep_neg]; rfl
  · refine (Tryd.strings_Replace ⟨#[78, 79, 84]⟩ ⟨#[78, 69, 71]⟩ ⟨#[45]⟩ 1 m W (by decide) hm (by decide) (by decide +kernel)).mono ?_
    rintro e w' ⟨rfl, hb⟩
    refine ⟨?_, hb⟩
    show Ending.returned (.string ⟨(Lib.replace [78, 79, 84] [78, 69, 71] [45] 1).toArray⟩) = _
    rw [rep_not]; rfl
/-- The operator of one part, and how it binds. -/
def oneO (o : List UInt8) (r : Nat) : Prop := (o = sNEG ∧ r = 6) ∨ (o = sNOT ∧ r = 3)
theorem show_one {o : List UInt8} {r : Nat} (ho : oneO o r) (a : Ex) (w : Nat) : showE (.mk o 0 [] [a]) w = if r < w then parens ((if o = sNEG then [45] else o) ++ 32 :: showE a r) else (if o = sNEG then [45] else o) ++ 32 :: showE a r := by
  rcases ho with ⟨rfl, rfl⟩ | ⟨rfl, rfl⟩ <;> rfl
set_option maxHeartbeats 4000000 in
set_option maxRecDepth 100000 in
theorem show_one_any (o : List UInt8) (r : Nat) (a : Ex) (d : Nat) (ho : oneO o r) (h1 : rightE a d = true) (hd : d ≤ 23) (hfa : fitE a = true) (iha : ShowH a)
    (want : Nat) (v : Value) (w : World) (hg : GW w) (hs : SubAt w (· < w.heap.size) v [a]) :
    Calls Tryd.prog 48 #[.agg #[.string ⟨o.toArray⟩, .int .u16 0, .string ⟨#[]⟩, v], .int .i64 want] w fun e w' => e = .returned (.string ⟨(showE (.mk o 0 [] [a]) want).toArray⟩) ∧ Below w.heap.size w w' := by
  obtain ⟨A, c, rfl, hc, hm2⟩ := hs.form
  obtain ⟨g, q, va, hA, hgl, a0, a1, a2, a3, hsa, hna, _, _⟩ := hs.get 0 (by simp)
  subst hA
  obtain ⟨aA, ac, rfl, _, _⟩ := hsa.form
  simp only [List.getElem_cons_zero, Nat.zero_mul, Nat.add_zero, Nat.zero_add, List.length_cons, List.length_nil] at a0 a1 a2 a3 hsa hna hc hm2 ⊢
  have HB := Lib.hid (fun W => binds_any o W)
  have hbo : bindsE o = (r, 1) := by rcases ho with ⟨rfl, rfl⟩ | ⟨rfl, rfl⟩ <;> rfl
  rw [hbo] at HB
  have HSH := Lib.hid (show_one ho a want)
  have hrr : r = 6 ∨ r = 3 := by rcases ho with ⟨_, rfl⟩ | ⟨_, rfl⟩ <;> simp
  have HRP := Lib.hid (fun (W : World) (hW : Below w.heap.size w W) (hz : W.cell? ⟨w.heap.size, 0, none⟩ = some (.string ⟨o.toArray⟩)) => (show_rep o (ho.imp And.left And.left) W (hg.below hW)).mono (fun _ _ h => (⟨h.1, h.2, bthen hW h.2, World.block_lt_of_cell? _ _ hz⟩ : _ ∧ _ ∧ Below w.heap.size w _ ∧ w.heap.size < W.heap.size)))
  have hrp3 : (if o = sNEG then [45] else o).length ≤ 3 := by rcases ho with ⟨rfl, _⟩ | ⟨rfl, _⟩ <;> decide
  generalize (if o = sNEG then [45] else o) = rp at *
  have hlen : (rp ++ 32 :: showE a r).length ≤ 1000000000 := by
    have g1 := show_len23 a d hd h1 hfa r
    simp
    omega
  have hlen2 : (parens (rp ++ 32 :: showE a r)).length ≤ 1000000000 := by
    have g1 := show_len23 a d hd h1 hfa r
    rw [parens_len]
    simp
    omega
  have HLEN : Hid ((List.intercalate [32] [rp, showE a r]).length = (rp ++ 32 :: showE a r).length) := Lib.hid (by simp)
  have HLEN2 : Hid ((List.intercalate [32] [[40], rp, showE a r, [41]]).length = (parens (rp ++ 32 :: showE a r)).length) := Lib.hid (by simp [parens])
  generalize showE (.mk o 0 [] [a]) want = res at *
  have m1 : (o == [35]) = false := by rcases ho with ⟨rfl, _⟩ | ⟨rfl, _⟩ <;> rfl
  have m2 : (o == [110]) = false := by rcases ho with ⟨rfl, _⟩ | ⟨rfl, _⟩ <;> rfl
  have HSA := Lib.hid hsa
  have HIA : Hid (∀ W, Below w.heap.size w W → W.cell? ⟨w.heap.size, 0, none⟩ = some (.string ⟨o.toArray⟩) → Calls Tryd.prog 48 #[.agg #[.string ⟨a.op.toArray⟩, .int .u16 a.n, .string ⟨a.name.toArray⟩, .slice aA a.sub.length ac], .int .i64 r] W fun e w' => e = .returned (.string ⟨(showE a r).toArray⟩) ∧ Below W.heap.size W w' ∧ Below w.heap.size w w' ∧ w.heap.size < W.heap.size) := Lib.hid (fun W hW hz => (iha d r _ W (by omega) h1 hfa (by omega) (hg.below hW) ((HSA.out.bel hW).more (fun x hx => Nat.lt_of_lt_of_le hx hW.size))).mono (fun _ _ h => ⟨h.1, h.2, bthen hW h.2, World.block_lt_of_cell? _ _ hz⟩))
  generalize showE a r = sa at *
  clear hs hsa iha hfa h1 hbo ho HSA
  have hrl : (r : Int) ≤ 6 := by omega
  clear hrr
  go_enter Tryd.func48, Tryd.ntmps48
  go_wp2_with fail
  refine (HB.out _).mono ?_
  rintro e w1 ⟨rfl, rfl⟩
  go_wp2_with fail
  have hB0 : Below w.heap.size w (w.alloc (.cells #[.string ⟨o.toArray⟩, .int .u16 0, .string ⟨#[]⟩, .slice (some ⟨g, q, none⟩) 1 c] 25)).drew := ((Below.refl _ _).alloc (Nat.le_refl _) _).drew
  go_region_held3 (fun w' => w'.cell? ⟨w.heap.size, 0, none⟩ = some (.string ⟨o.toArray⟩) ∧ w'.cell? ⟨w.heap.size, 3, none⟩ = some (.slice (some ⟨g, q, none⟩) 1 c) ∧
      w'.cell? ⟨g, q, none⟩ = some (.string ⟨a.op.toArray⟩) ∧ w'.cell? ⟨g, q + 1, none⟩ = some (.int .u16 a.n) ∧ w'.cell? ⟨g, q + 2, none⟩ = some (.string ⟨a.name.toArray⟩) ∧ w'.cell? ⟨g, q + 3, none⟩ = some (.slice aA a.sub.length ac) ∧ Below w.heap.size w w')
    (first | (go_keep; done) | (refine ⟨?_, ?_, ?_, ?_, ?_, ?_, ?_⟩ <;> first | exact Below.alloc hbw5 hbw5.size _ | go_keep)) (first | (go_at_call 48; go_split_ands; (with_reducible refine (HIA.out _ ?_ ?_).mono ?_); (assumption); (assumption); rintro e5 w5 ⟨rfl, hb5, hbw5, hz5⟩; obtain ⟨hcc, hff⟩ := bcell hb5; obtain ⟨hcw, hfw⟩ := bcell hbw5) | (go_at_call 53; go_split_ands; (with_reducible refine (HRP.out _ ?_ ?_).mono ?_); (assumption); (assumption); rintro e5 w5 ⟨rfl, hb5, hbw5, hz5⟩; obtain ⟨hcc, hff⟩ := bcell hb5; obtain ⟨hcw, hfw⟩ := bcell hbw5))
  all_goals (
    have hbx := Lib.hid hbw5
    clear hcc hff hcw hfw hB0
    by_cases hrw : r < want
    · have hrw' : (r : Int) < (want : Int) := by omega
      rw [if_pos hrw] at HSH
      have ho1 : ((w5.alloc (.cells #[strV rp, strV sa] 9)).alloc (.cells #[strV [40]] 9)).ownsRow (w5.heap.size + 1) 9 1 (.slice (some ⟨w5.heap.size + 1, 0, none⟩) 1 1) 1 [strV [40]] := by have := own_new1 (w5.alloc (.cells #[strV rp, strV sa] 9)) (strV [40]) 9; rwa [World.size_alloc] at this
      have hr1 : Rd ((w5.alloc (.cells #[strV rp, strV sa] 9)).alloc (.cells #[strV [40]] 9)) (w5.heap.size + 1) (.slice (some ⟨w5.heap.size, 0, none⟩) 2 2) 2 [strV rp, strV sa] := ((Rd.news w5 [strV rp, strV sa] 2 9).keep (fun p hp => World.cell?_alloc_lt _ _ _ hp)).more (by simp)
      go_wp2_with (at_builtin; refine wpList_append_rd ((w5.alloc (.cells #[strV rp, strV sa] 9)).alloc (.cells #[strV [40]] 9)) (by rfl) _ _ 77 rfl (w5.heap.size + 1) 9 _ 1 16 Tryd.underlying77 info_s rfl (by decide) ho1 rfl hr1 rfl rfl (strs_one [rp, sa]) (by omega) (by omega) (by simp) ?_)
      intro v6 w6 ho6 hb6 hgr6
      have hz6 : w5.heap.size + 2 ≤ w6.heap.size := by have := hgr6.size; simpa using this
      clear ho1 hr1 hgr6
      go_wp2_with (at_builtin; refine wpList_append_rd (w6.alloc (.cells #[strV [41]] 9)) (by rfl) _ _ 77 rfl (w5.heap.size + 1) 9 _ 1 16 Tryd.underlying77 info_s rfl (by decide) (ho6.alloc _) rfl (Rd.new w6 [strV [41]] _) rfl rfl (strs_one [[41]]) (by omega) (by omega) (by simp; omega) ?_)
      intro v7 w7 ho7 hb7 hgr7
      have R7 : Rd w7 w7.heap.size v7 4 ([[40], rp, sa, [41]].map strV) := Rd.of_own ho7
      have hz7 : w6.heap.size + 1 ≤ w7.heap.size := by have := hgr7.size; simpa using this
      have hbw7 : Below w.heap.size w w7 := (((((hbx.out.alloc hbx.out.size _).alloc (by simp; have := hbx.out.size; omega) _).trans (hb6.mono (by have := hbx.out.size; omega))).alloc (by have := hbx.out.size; omega) _).trans (hb7.mono (by have := hbx.out.size; omega)))
      clear ho6 ho7 hgr7 hb6 hb7
      go_wp2_with fail
      refine (join_any [[40], rp, sa, [41]] [32] v7 w7 R7 (by simp) (by rw [HLEN2.out]; exact hlen2)).mono ?_
      rintro e8 w8 ⟨rfl, hb8⟩
      go_wp2_with fail
      go_ret
      rw [HSH.out]
      exact ⟨ret_str (by simp [parens]), bthen hbw7 hb8⟩
    · have hrw' : decide ((r : Int) < (want : Int)) = false := by simp; omega
      have hrw2 : decide (r < want) = false := by simp; omega
      rw [if_neg hrw] at HSH
      go_wp2_with fail
      refine (join_any [rp, sa] [32] _ _ (Rd.news w5 [strV rp, strV sa] 2 9) (by simp) (by rw [HLEN.out]; exact hlen)).mono ?_
      rintro e6 w6 ⟨rfl, hb6⟩
      go_wp2_with fail
      go_ret
      rw [HSH.out]
      exact ⟨ret_str (by simp), (hbx.out.alloc hbx.out.size _).trans (hb6.mono (by simp; have := hbx.out.size; omega))⟩)
end Go.Proofs.YtpmeabikhonaoaaDoor

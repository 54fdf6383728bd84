/- expr: show. -/
import Derived.Test.YtpmeabikhonaoaaDoorExpr1
import Derived.Test.YtpmeabikhonaoaaDoorShow
import Derived.Test.YtpmeabikhonaoaaDoorKa
import Derived.Test.YtpmeabikhonaoaaDoorJoin
import Derived.Test.YtpmeabikhonaoaaDoorKb
import Derived.Deep.RegionHeld3
import Derived.IntWalk
namespace Go.Proofs.YtpmeabikhonaoaaDoor
open Go.RowKit

theorem Rd.news (w : World) (cs : List Value) (n : Nat) (T : TypeId) : Rd (w.alloc (.cells cs.toArray T)) (w.alloc (.cells cs.toArray T)).heap.size (.slice (some ⟨w.heap.size, 0, none⟩) n n) n cs := by
  refine ⟨_, n, rfl, Nat.le_refl _, fun _ => ⟨w.heap.size, 0, rfl, by simp, fun j u hu => ?_⟩⟩
  have := cells_new w cs T j u hu
  rwa [addr_add] at this
theorem show_len23 (e : Ex) (d : Nat) (hd : d ≤ 23) (h : rightE e d = true) (hf : fitE e = true) (w : Nat) : (showE e w).length ≤ 260000000 := by
  have h1 := show_len e d h hf w
  have h2 : 2 ^ d ≤ 2 ^ 23 := Nat.pow_le_pow_right (by omega) hd
  omega
theorem info_s : (Tryd.prog.info? 9).map (fun i => (i.zero, i.size, i.bytes)) = some (some (.string ⟨#[]⟩), 1, 16) := by kernel_rfl
theorem own_new1 (w : World) (u : Value) (T : TypeId) : (w.alloc (.cells #[u] T)).ownsRow w.heap.size T 1 (.slice (some ⟨w.heap.size, 0, none⟩) 1 1) 1 [u] :=
  ⟨by simp, .inr ⟨w.heap.size, 1, _, rfl, Nat.le_refl _, heap_alloc_new _ _, by simp, by decide, rfl, rfl⟩⟩
theorem strs_one (ls : List (List UInt8)) : ∀ u ∈ ls.map strV, u.oneCell' = true := by
  intro u hu
  obtain ⟨s, _, rfl⟩ := List.mem_map.1 hu
  rfl
/-- show's contract for a part. -/
def ShowH (x : Ex) : Prop := ∀ (d want : Nat) (v : Value) (w : World), d ≤ 24 → rightE x d = true → fitE x = true → want ≤ 7 → GW w → SubAt w (· < w.heap.size) v x.sub →
  Calls Tryd.prog 48 #[.agg #[.string ⟨x.op.toArray⟩, .int .u16 x.n, .string ⟨x.name.toArray⟩, v], .int .i64 want] w fun e w' => e = .returned (.string ⟨(showE x want).toArray⟩) ∧ Below w.heap.size w w'
set_option maxHeartbeats 4000000 in
set_option maxRecDepth 100000 in
theorem show_two_any (o : List UInt8) (r : Nat) (a b : Ex) (d : Nat) (ho : binO o r) (h1 : rightE a d = true) (h2 : rightE b d = true) (hd : d ≤ 23) (hfa : fitE a = true) (hfb : fitE b = true) (iha : ShowH a) (ihb : ShowH b)
    (want : Nat) (v : Value) (w : World) (hg : GW w) (hs : SubAt w (· < w.heap.size) v [a, b]) :
    Calls Tryd.prog 48 #[.agg #[.string ⟨o.toArray⟩, .int .u16 0, .string ⟨#[]⟩, v], .int .i64 want] w fun e w' => e = .returned (.string ⟨(showE (.mk o 0 [] [a, b]) want).toArray⟩) ∧ Below w.heap.size w w' := by
  obtain ⟨A, c, rfl, hc, hm2⟩ := hs.form
  obtain ⟨g, q, va, hA, hgl, a0, a1, a2, a3, hsa, hna, _, _⟩ := hs.get 0 (by simp)
  obtain ⟨g', q', vb, hA', hgl', b0, b1, b2, b3, hsb, hnb, _, _⟩ := hs.get 1 (by simp)
  subst hA
  injection hA' with hA'
  injection hA' with hA' hA'' _
  subst hA' hA''
  obtain ⟨aA, ac, rfl, _, _⟩ := hsa.form
  obtain ⟨bA, bc, rfl, _, _⟩ := hsb.form
  simp only [List.getElem_cons_zero, List.getElem_cons_succ, Nat.zero_mul, Nat.add_zero, Nat.one_mul, Nat.zero_add, List.length_cons, List.length_nil] at a0 a1 a2 a3 b0 b1 b2 b3 hsa hsb hna hnb hc hm2 ⊢
  have HB := Lib.hid (fun W => binds_any o W)
  obtain ⟨hbo, n1, n2, n3, n4, n5⟩ := ho.binds
  rw [hbo] at HB
  have HSH := Lib.hid (show_two ho a b want)
  have hlen : (showE a r ++ 32 :: (o ++ 32 :: showE b (r + 1))).length ≤ 1000000000 := by
    have g1 := show_len23 a d hd h1 hfa r
    have g2 := show_len23 b d hd h2 hfb (r + 1)
    have g3 := bin_len ho
    simp
    omega
  have hlen2 : (parens (showE a r ++ 32 :: (o ++ 32 :: showE b (r + 1)))).length ≤ 1000000000 := by
    have g1 := show_len23 a d hd h1 hfa r
    have g2 := show_len23 b d hd h2 hfb (r + 1)
    have g3 := bin_len ho
    rw [parens_len]
    simp
    omega
  have HLEN2 : Hid ((List.intercalate [32] [[40], showE a r, o, showE b (r + 1), [41]]).length = (parens (showE a r ++ 32 :: (o ++ 32 :: showE b (r + 1)))).length) := Lib.hid (by simp [parens])
  have HLEN : Hid ((List.intercalate [32] [showE a r, o, showE b (r + 1)]).length = (showE a r ++ 32 :: (o ++ 32 :: showE b (r + 1))).length) := Lib.hid (by simp [List.intercalate])
  generalize showE (.mk o 0 [] [a, b]) want = res at *
  have m1 : (o == [35]) = false := by simpa using n1
  have m2 : (o == [110]) = false := by simpa using n2
  have hr := ho.binR
  have hrl : (r : Int) ≤ 5 := by unfold binR at hr; omega
  have hrg : (1 : Int) ≤ (r : Int) := by unfold binR at hr; omega
  have HSA := Lib.hid hsa
  have HSB := Lib.hid hsb
  have HIA : Hid (∀ W, Below w.heap.size w W → W.cell? ⟨w.heap.size, 0, none⟩ = some (.string ⟨o.toArray⟩) → Calls Tryd.prog 48 #[.agg #[.string ⟨a.op.toArray⟩, .int .u16 a.n, .string ⟨a.name.toArray⟩, .slice aA a.sub.length ac], .int .i64 r] W fun e w' => e = .returned (.string ⟨(showE a r).toArray⟩) ∧ Below W.heap.size W w' ∧ Below w.heap.size w w' ∧ w.heap.size < W.heap.size) := Lib.hid (fun W hW hz => (iha d r _ W (by omega) h1 hfa (by unfold binR at hr; omega) (hg.below hW) ((HSA.out.bel hW).more (fun x hx => Nat.lt_of_lt_of_le hx hW.size))).mono (fun _ _ h => ⟨h.1, h.2, bthen hW h.2, World.block_lt_of_cell? _ _ hz⟩))
  have HIB : Hid (∀ W, Below w.heap.size w W → W.cell? ⟨w.heap.size, 0, none⟩ = some (.string ⟨o.toArray⟩) → Calls Tryd.prog 48 #[.agg #[.string ⟨b.op.toArray⟩, .int .u16 b.n, .string ⟨b.name.toArray⟩, .slice bA b.sub.length bc], .int .i64 ((r : Int) + 1)] W fun e w' => e = .returned (.string ⟨(showE b (r + 1)).toArray⟩) ∧ Below W.heap.size W w' ∧ Below w.heap.size w w' ∧ w.heap.size < W.heap.size) := Lib.hid (fun W hW hz => (ihb d (r + 1) _ W (by omega) h2 hfb (by unfold binR at hr; omega) (hg.below hW) ((HSB.out.bel hW).more (fun x hx => Nat.lt_of_lt_of_le hx hW.size))).mono (fun _ _ h => ⟨h.1, h.2, bthen hW h.2, World.block_lt_of_cell? _ _ hz⟩))
  generalize showE a r = sa at *
  generalize showE b (r + 1) = sb at *
  clear hs hsa hsb iha ihb hfa hfb h1 h2 hbo n1 n2 n3 n4 n5 hr ho HSA HSB
  go_enter Tryd.func48, Tryd.ntmps48
  go_wp2_with fail
  refine (HB.out _).mono ?_
  rintro e w1 ⟨rfl, rfl⟩
  go_wp2_with fail
  have hwr : IntKind.i64.wrap ((r : Int) + 1) = (r : Int) + 1 := IntWalk.i64_in _ (by omega)
  have hB0 : Below w.heap.size w (w.alloc (.cells #[.string ⟨o.toArray⟩, .int .u16 0, .string ⟨#[]⟩, .slice (some ⟨g, q, none⟩) 2 c] 25)).drew := ((Below.refl _ _).alloc (Nat.le_refl _) _).drew
  go_region_held3 (fun w' => w'.cell? ⟨w.heap.size, 0, none⟩ = some (.string ⟨o.toArray⟩) ∧ w'.cell? ⟨w.heap.size, 3, none⟩ = some (.slice (some ⟨g, q, none⟩) 2 c) ∧
      w'.cell? ⟨g, q, none⟩ = some (.string ⟨a.op.toArray⟩) ∧ w'.cell? ⟨g, q + 1, none⟩ = some (.int .u16 a.n) ∧ w'.cell? ⟨g, q + 2, none⟩ = some (.string ⟨a.name.toArray⟩) ∧ w'.cell? ⟨g, q + 3, none⟩ = some (.slice aA a.sub.length ac) ∧
      w'.cell? ⟨g, q + 4, none⟩ = some (.string ⟨b.op.toArray⟩) ∧ w'.cell? ⟨g, q + 4 + 1, none⟩ = some (.int .u16 b.n) ∧ w'.cell? ⟨g, q + 4 + 2, none⟩ = some (.string ⟨b.name.toArray⟩) ∧ w'.cell? ⟨g, q + 4 + 3, none⟩ = some (.slice bA b.sub.length bc) ∧ Below w.heap.size w w')
    (first | (go_keep; done) | (refine ⟨?_, ?_, ?_, ?_, ?_, ?_, ?_, ?_, ?_, ?_, ?_⟩ <;> first | exact Below.alloc hbw5 hbw5.size _ | go_keep)) (first | (go_at_call 48; go_split_ands; (first | (with_reducible refine (HIA.out _ ?_ ?_).mono ?_) | (with_reducible refine (HIB.out _ ?_ ?_).mono ?_)); (assumption); (assumption); rintro e5 w5 ⟨rfl, hb5, hbw5, hz5⟩; obtain ⟨hcc, hff⟩ := bcell hb5; obtain ⟨hcw, hfw⟩ := bcell hbw5))
  all_goals (
    have hbx := Lib.hid hbw5
    clear hcc hff hcw hfw hwr hB0
    by_cases hrw : r < want
    · have hrw' : (r : Int) < (want : Int) := by omega
      rw [if_pos hrw] at HSH
      have ho1 : ((w5.alloc (.cells #[strV sa, strV o, strV sb] 9)).alloc (.cells #[strV [40]] 9)).ownsRow (w5.heap.size + 1) 9 1 (.slice (some ⟨w5.heap.size + 1, 0, none⟩) 1 1) 1 [strV [40]] := by have := own_new1 (w5.alloc (.cells #[strV sa, strV o, strV sb] 9)) (strV [40]) 9; rwa [World.size_alloc] at this
      have hr1 : Rd ((w5.alloc (.cells #[strV sa, strV o, strV sb] 9)).alloc (.cells #[strV [40]] 9)) (w5.heap.size + 1) (.slice (some ⟨w5.heap.size, 0, none⟩) 3 3) 3 [strV sa, strV o, strV sb] := ((Rd.news w5 [strV sa, strV o, strV sb] 3 9).keep (fun p hp => World.cell?_alloc_lt _ _ _ hp)).more (by simp)
      go_wp2_with (at_builtin; refine wpList_append_rd ((w5.alloc (.cells #[strV sa, strV o, strV sb] 9)).alloc (.cells #[strV [40]] 9)) (by rfl) _ _ 77 rfl (w5.heap.size + 1) 9 _ 1 16 Tryd.underlying77 info_s rfl (by decide) ho1 rfl hr1 rfl rfl (strs_one [sa, o, sb]) (by omega) (by omega) (by simp) ?_)
      intro v6 w6 ho6 hb6 hgr6
      have hz6 : w5.heap.size + 2 ≤ w6.heap.size := by have := hgr6.size; simpa using this
      clear ho1 hr1 hgr6
      go_wp2_with (at_builtin; refine wpList_append_rd (w6.alloc (.cells #[strV [41]] 9)) (by rfl) _ _ 77 rfl (w5.heap.size + 1) 9 _ 1 16 Tryd.underlying77 info_s rfl (by decide) (ho6.alloc _) rfl (Rd.new w6 [strV [41]] _) rfl rfl (strs_one [[41]]) (by omega) (by omega) (by simp; omega) ?_)
      intro v7 w7 ho7 hb7 hgr7
      have R7 : Rd w7 w7.heap.size v7 5 ([[40], sa, o, sb, [41]].map strV) := Rd.of_own ho7
      have hz7 : w6.heap.size + 1 ≤ w7.heap.size := by have := hgr7.size; simpa using this
      have hbw7 : Below w.heap.size w w7 := (((((hbx.out.alloc hbx.out.size _).alloc (by simp; have := hbx.out.size; omega) _).trans (hb6.mono (by have := hbx.out.size; omega))).alloc (by have := hbx.out.size; omega) _).trans (hb7.mono (by have := hbx.out.size; omega)))
      clear ho6 ho7 hgr7 hb6 hb7
      go_wp2_with fail
      refine (join_any [[40], sa, o, sb, [41]] [32] v7 w7 R7 (by simp) (by rw [HLEN2.out]; exact hlen2)).mono ?_
      rintro e8 w8 ⟨rfl, hb8⟩
      go_wp2_with fail
      go_ret
      rw [HSH.out]
      exact ⟨ret_str (by simp [parens]), bthen hbw7 hb8⟩
    · have hrw' : decide ((r : Int) < (want : Int)) = false := by simp; omega
      have hrw2 : decide (r < want) = false := by simp; omega
      rw [if_neg hrw] at HSH
      go_wp2_with fail
      refine (join_any [sa, o, sb] [32] _ _ (Rd.news w5 [strV sa, strV o, strV sb] 3 9) (by simp) (by rw [HLEN.out]; exact hlen)).mono ?_
      rintro e6 w6 ⟨rfl, hb6⟩
      go_wp2_with fail
      go_ret
      rw [HSH.out]
      exact ⟨ret_str (by simp), (hbx.out.alloc hbx.out.size _).trans (hb6.mono (by simp; have := hbx.out.size; omega))⟩)
end Go.Proofs.YtpmeabikhonaoaaDoor

/- The walk of ExprSums. -/
import Derived.Test.YtpmeabikhonaoaaDoorLaw5c
import Derived.Test.YtpmeabikhonaoaaDoorLaw5d
namespace Go.Proofs.YtpmeabikhonaoaaDoor
open Go.RowKit

/-- An expression in a block of its own. -/
def BoxAt (w : World) (p : Nat) (x : Ex) (v : Value) : Prop := w.heap[p]? = some (.cells #[.string ⟨x.op.toArray⟩, .int .u16 x.n, .string ⟨x.name.toArray⟩, v] 25 (0, 0)) ∧ SubAt w (· < w.heap.size) v x.sub
theorem BoxAt.below {w w' : World} {p : Nat} {x : Ex} {v : Value} (h : BoxAt w p x v) (hb : Below w.heap.size w w') : BoxAt w' p x v :=
  ⟨(hb.block p (lt_of_heap h.1)).trans h.1, (h.2.bel hb).more (fun _ hg => Nat.lt_of_lt_of_le hg hb.size)⟩
theorem BoxAt.cells {w : World} {p : Nat} {x : Ex} {v : Value} (h : BoxAt w p x v) : w.cell? ⟨p, 0, none⟩ = some (.string ⟨x.op.toArray⟩) ∧ w.cell? ⟨p, 1, none⟩ = some (.int .u16 x.n) ∧ w.cell? ⟨p, 2, none⟩ = some (.string ⟨x.name.toArray⟩) ∧ w.cell? ⟨p, 3, none⟩ = some v ∧ p < w.heap.size :=
  ⟨cell_of_heap h.1, cell_of_heap h.1, cell_of_heap h.1, cell_of_heap h.1, lt_of_heap h.1⟩
theorem BoxAt.new {w : World} {x : Ex} {v : Value} (h : SubAt w (· < w.heap.size) v x.sub) (N : Nat) (hN : w.heap.size = N) : BoxAt (w.alloc (.cells #[.string ⟨x.op.toArray⟩, .int .u16 x.n, .string ⟨x.name.toArray⟩, v] 25)) N x v := by
  subst hN
  exact ⟨heap_alloc_new _ _, (h.bel ((Below.refl _ _).alloc (Nat.le_refl _) _)).more (fun g hg => by simp; omega)⟩
set_option maxHeartbeats 1000000 in
theorem sums1_any (a : Nat) (w : World) :
    Calls Tryd.prog 23 #[.int .u16 a] w fun e w' => e = .returned (.agg #[.string ⟨#[35]⟩, .int .u16 a, .string ⟨#[]⟩, .slice none 0 0]) ∧ Below w.heap.size w w' := by
  go_enter Tryd.func23, Tryd.ntmps23
  go_wp2_with fail
  exact bodyPost_ret (v := .agg #[.string ⟨#[35]⟩, .int .u16 a, .string ⟨#[]⟩, .slice none 0 0]) (by simp [results, Tryd.results23, go_sem]) rfl ⟨rfl, (Below.refl _ _).alloc (Nat.le_refl _) _⟩
theorem okE_two {o : List UInt8} {r : Nat} (ho : binO o r) (s : List Ex) : okE (.mk o 0 [] s) := ⟨by simp [Ex.n], by have := bin_len ho; simp [Ex.op, maxLen]; omega, by simp [Ex.name, maxLen]⟩
theorem sub_lt {w : World} {v : Value} {s : List Ex} {o : Obj} (h : SubAt (w.alloc o) (· < w.heap.size + 1) v s) : SubAt (w.alloc o) (· < (w.alloc o).heap.size) v s := h.more (fun g hg => by simpa using hg)
/-- Two parts in a new block. -/
theorem sub2 {w : World} {v v' : Value} {e e' : Ex} (h : SubAt w (· < w.heap.size) v e.sub) (h' : SubAt w (· < w.heap.size) v' e'.sub) (hok : okE e) (hok' : okE e') (N : Nat) (hN : w.heap.size = N) :
    SubAt (w.alloc (.cells (exCells e v ++ exCells e' v').toArray 25)) (· < (w.alloc (.cells (exCells e v ++ exCells e' v').toArray 25)).heap.size) (.slice (some ⟨N, 0, none⟩) 2 2) [e, e'] :=
  sub_lt (SubAt.two h h' hok hok' (fun _ h => h) (S' := (· < w.heap.size + 1)) (fun _ h => Nat.lt_succ_of_lt h) N hN (hN ▸ Nat.lt_succ_self _) 25)
theorem sub1 {w : World} {v : Value} {e : Ex} (h : SubAt w (· < w.heap.size) v e.sub) (hok : okE e) (N : Nat) (hN : w.heap.size = N) :
    SubAt (w.alloc (.cells (exCells e v).toArray 25)) (· < (w.alloc (.cells (exCells e v).toArray 25)).heap.size) (.slice (some ⟨N, 0, none⟩) 1 1) [e] :=
  sub_lt (SubAt.one h hok (fun _ h => h) (S' := (· < w.heap.size + 1)) (fun _ h => Nat.lt_succ_of_lt h) N hN (hN ▸ Nat.lt_succ_self _) 25)
theorem sub_up {w w' : World} {v : Value} {s : List Ex} (h : SubAt w (· < w.heap.size) v s) (hb : Below w.heap.size w w') : SubAt w' (· < w'.heap.size) v s := (h.bel hb).more (fun _ hg => Nat.lt_of_lt_of_le hg hb.size)
theorem below3a (w : World) (o1 o2 o3 : Obj) : Below w.heap.size w (((w.alloc o1).alloc o2).alloc o3) := (((Below.refl _ _).alloc (Nat.le_refl _) _).alloc (by simp) _).alloc (by simp; omega) _
theorem below3 {w w' : World} {o1 o2 o3 : Obj} (hb : Below (((w.alloc o1).alloc o2).alloc o3).heap.size (((w.alloc o1).alloc o2).alloc o3) w') : Below w.heap.size w w' := bthen (below3a w o1 o2 o3) hb
set_option maxHeartbeats 8000000 in
set_option maxRecDepth 100000 in
theorem exprSums_walk (a : Int) (wa : (Lit.int .u16 a).wf = true) (b : Int) (wb : (Lit.int .u16 b).wf = true) (c : Int) (wc : (Lit.int .u16 c).wf = true) (w : World) (hg : GW w) :
    Calls Tryd.prog 5 #[.int .u16 a, .int .u16 b, .int .u16 c] w fun e w' => e = .returned (.bool true) ∧ Below w.heap.size w w' := by
  have ha0 := bounds_u16 wa
  have hb0 := bounds_u16 wb
  have hc0 := bounds_u16 wc
  obtain ⟨a, rfl⟩ := Int.eq_ofNat_of_zero_le ha0.1
  obtain ⟨b, rfl⟩ := Int.eq_ofNat_of_zero_le hb0.1
  obtain ⟨c, rfl⟩ := Int.eq_ofNat_of_zero_le hc0.1
  have ha : a ≤ 65535 := by omega
  have hb : b ≤ 65535 := by omega
  have hc : c ≤ 65535 := by omega
  clear wa wb wc ha0 hb0 hc0
  obtain ⟨r1, r2, r3, r4⟩ := sums_right a b c
  obtain ⟨f1, f2, f3, f4⟩ := sums_fit a b c ha hb hc
  obtain ⟨v1, v2, v3, v4⟩ := sums_eval a b c ha hb hc 0 und
  obtain ⟨t1, t2⟩ := sums_read a b c ha hb hc
  have HN := Lib.hid sums1_any
  have HAL := Lib.hid (fun W (hW : Below w.heap.size w W) => alive5_any W (hg.below hW))
  have K1 : Hid (∀ v W, SubAt W (· < W.heap.size) v [.mk [45] 0 [] [numE a, numE b], numE c] → Calls Tryd.prog 15 #[.agg #[.string ⟨#[45]⟩, .int .u16 0, .string ⟨#[]⟩, v], .int .u16 0, .nilFunc] W fun r w' => r = .returned (.tuple #[.int .u16 ((a + 131072 - b - c) % 65536 : Nat), .int .i64 0]) ∧ Below W.heap.size W w') := Lib.hid (fun v W hs => by
    have := Eval_nil (sumD a b c) v 0 (by omega) W f1 hs
    rwa [show evalK 0 und (sumD a b c) = ((a + 131072 - b - c) % 65536, 0) by unfold evalK; rw [if_pos r1, v1]] at this)
  have K2 : Hid (∀ v W, SubAt W (· < W.heap.size) v [numE a, .mk [43] 0 [] [numE b, numE c]] → Calls Tryd.prog 15 #[.agg #[.string ⟨#[45]⟩, .int .u16 0, .string ⟨#[]⟩, v], .int .u16 0, .nilFunc] W fun r w' => r = .returned (.tuple #[.int .u16 ((a + 131072 - b - c) % 65536 : Nat), .int .i64 0]) ∧ Below W.heap.size W w') := Lib.hid (fun v W hs => by
    have := Eval_nil (sumE a b c) v 0 (by omega) W f2 hs
    rwa [show evalK 0 und (sumE a b c) = ((a + 131072 - b - c) % 65536, 0) by unfold evalK; rw [if_pos r2, v2]] at this)
  have K3 : Hid (∀ v W, SubAt W (· < W.heap.size) v [.mk sNOT 0 [] [numE a]] → Calls Tryd.prog 15 #[.agg #[.string ⟨#[78, 79, 84]⟩, .int .u16 0, .string ⟨#[]⟩, v], .int .u16 0, .nilFunc] W fun r w' => r = .returned (.tuple #[.int .u16 a, .int .i64 0]) ∧ Below W.heap.size W w') := Lib.hid (fun v W hs => by
    have := Eval_nil (sumF a) v 0 (by omega) W f3 hs
    rwa [show evalK 0 und (sumF a) = (a, 0) by unfold evalK; rw [if_pos r3, v3]] at this)
  have K4 : Hid (∀ v W, SubAt W (· < W.heap.size) v [.mk sNEG 0 [] [numE a]] → Calls Tryd.prog 15 #[.agg #[.string ⟨#[78, 69, 71]⟩, .int .u16 0, .string ⟨#[]⟩, v], .int .u16 0, .nilFunc] W fun r w' => r = .returned (.tuple #[.int .u16 a, .int .i64 0]) ∧ Below W.heap.size W w') := Lib.hid (fun v W hs => by
    have := Eval_nil (sumG a) v 0 (by omega) W f4 hs
    rwa [show evalK 0 und (sumG a) = (a, 0) by unfold evalK; rw [if_pos r4, v4]] at this)
  have K5 : Hid (∀ v W, GW W → SubAt W (· < W.heap.size) v [.mk [45] 0 [] [numE a, numE b], numE c] → Calls Tryd.prog 19 #[.agg #[.string ⟨#[45]⟩, .int .u16 0, .string ⟨#[]⟩, v]] W fun r w' => r = .returned (.tuple #[.string ⟨(showE (sumD a b c) 1).toArray⟩, .int .i64 0]) ∧ Below W.heap.size W w') := Lib.hid (fun v W hgw hs => by
    have := Show_any (sumD a b c) v W f1 hgw hs
    rwa [show showK (sumD a b c) = showE (sumD a b c) 1 by unfold showK; rw [if_pos r1], show rightK (sumD a b c) = 0 by unfold rightK; rw [if_pos r1]] at this)
  have hsl := sums_short a b c ha hb hc
  have hcnt := lineL_count (showE (sumD a b c) 1)
  have hsm := lineL_small (showE (sumD a b c) 1)
  rw [t1] at hcnt hsm
  have K6 := Lib.hid (fun W (hW : GW W) => line_any (showE (sumD a b c) 1) W hW (by omega))
  rw [t1] at K6
  have K7 := Lib.hid (fun v W hr => all_any (toksE (sumD a b c) 1) v W hr (by dsimp only at hcnt; omega) hsm)
  rw [t2] at K7
  have K8 : Hid (∀ v u W, SubAt W (· < W.heap.size) v [.mk [45] 0 [] [numE a, numE b], numE c] → SubAt W (· < W.heap.size) u [.mk [45] 0 [] [numE a, numE b], numE c] → Calls Tryd.prog 22 #[.agg #[.string ⟨#[45]⟩, .int .u16 0, .string ⟨#[]⟩, v], .agg #[.string ⟨#[45]⟩, .int .u16 0, .string ⟨#[]⟩, u]] W fun r w' => r = .returned (.bool true) ∧ Below W.heap.size W w') := Lib.hid (fun v u W h1 h2 => by
    have := refSame_any (sumD a b c) (sumD a b c) v u W h1 h2
    rwa [sameE_refl] at this)
  have hval : IntKind.u16.wrap (IntKind.u16.wrap ((a : Int) - (b : Int)) - (c : Int)) = (((a + 131072 - b - c) % 65536 : Nat) : Int) := by rw [wrap16, wrap16]; omega
  dsimp only at hcnt K6 K7
  generalize (a + 131072 - b - c) % 65536 = z at *
  generalize toksE (sumD a b c) 1 = ts at *
  generalize showE (sumD a b c) 1 = st at *
  clear r1 r2 r3 r4 f1 f2 f3 f4 v1 v2 v3 v4 t1 t2 hsl hsm
  have oa := okE_num a ha
  have ob := okE_num b hb
  have oc := okE_num c hc
  go_enter Tryd.func5, Tryd.ntmps5
  go_wp2_with fail
  refine (HN.out _ _).mono ?_
  rintro e w1 ⟨rfl, hb1⟩
  go_wp2_with fail
  refine (HN.out _ _).mono ?_
  rintro e w2 ⟨rfl, hb2⟩
  have B2 := Lib.hid (bthen hb1 hb2)
  clear hb1 hb2
  go_wp2_with fail
  have S1 := sub2 (SubAt.nil w2 (· < w2.heap.size)) (SubAt.nil w2 (· < w2.heap.size)) oa ob w2.heap.size rfl
  refine (HN.out _ _).mono ?_
  rintro e w3 ⟨rfl, hb3⟩
  have S2 := Lib.hid (sub_up S1 hb3)
  have B3 := Lib.hid (bthen (B2.out.alloc B2.out.size _) hb3)
  clear hb3 S1 B2
  go_wp2_with fail
  have S3 := sub2 (e := .mk [45] 0 [] [numE a, numE b]) S2.out (SubAt.nil w3 (· < w3.heap.size)) (okE_two bin_minus _) oc w3.heap.size rfl
  have D0 := BoxAt.new (x := sumD a b c) S3 (w3.heap.size + 1) (by simp)
  refine (HN.out _ _).mono ?_
  rintro e w4 ⟨rfl, hb4⟩
  have D1 := Lib.hid (D0.below hb4)
  have B4 := Lib.hid (bthen ((B3.out.alloc B3.out.size _).alloc (by simp; have := B3.out.size; omega) _) hb4)
  clear hb4 S3 D0 S2 B3
  go_wp2_with fail
  refine (HN.out _ _).mono ?_
  rintro e w5 ⟨rfl, hb5⟩
  have D2 := Lib.hid (D1.out.below hb5)
  have B5 := Lib.hid (bthen B4.out hb5)
  clear hb5 D1 B4
  go_wp2_with fail
  refine (HN.out _ _).mono ?_
  rintro e w6 ⟨rfl, hb6⟩
  have D3 := Lib.hid (D2.out.below hb6)
  have B6 := Lib.hid (bthen B5.out hb6)
  clear hb6 D2 B5
  go_wp2_with fail
  have E1 := sub2 (SubAt.nil w6 (· < w6.heap.size)) (SubAt.nil w6 (· < w6.heap.size)) ob oc w6.heap.size rfl
  have E2 := sub2 (e := numE a) (e' := .mk [43] 0 [] [numE b, numE c]) (SubAt.nil _ _) E1 oa (okE_two bin_plus _) (w6.heap.size + 1) (by simp)
  have E3 := BoxAt.new (x := sumE a b c) E2 (w6.heap.size + 1 + 1) (by simp)
  refine (HN.out _ _).mono ?_
  rintro e w7 ⟨rfl, hb7⟩
  have hb67 := below3 hb7
  have D4 := Lib.hid (D3.out.below hb67)
  have E4 := Lib.hid (E3.below hb7)
  have B7 := Lib.hid (bthen B6.out hb67)
  clear hb7 hb67 E1 E2 E3 D3 B6
  go_wp2_with fail
  have F1 := sub1 (SubAt.nil w7 (· < w7.heap.size)) oa w7.heap.size rfl
  have F2 := sub1 (e := .mk sNOT 0 [] [numE a]) F1 ⟨by simp [Ex.n], by simp [Ex.op, maxLen], by simp [Ex.name, maxLen]⟩ (w7.heap.size + 1) (by simp)
  have F3 := BoxAt.new (x := sumF a) F2 (w7.heap.size + 1 + 1) (by simp)
  refine (HN.out _ _).mono ?_
  rintro e w8 ⟨rfl, hb8⟩
  have hb78 := below3 hb8
  have D5 := Lib.hid (D4.out.below hb78)
  have E5 := Lib.hid (E4.out.below hb78)
  have F4 := Lib.hid (F3.below hb8)
  have B8 := Lib.hid (bthen B7.out hb78)
  clear hb8 hb78 F1 F2 F3 E4 D4 B7
  have G1 := sub1 (SubAt.nil w8 (· < w8.heap.size)) oa w8.heap.size rfl
  have G2 := sub1 (e := .mk sNEG 0 [] [numE a]) G1 ⟨by simp [Ex.n], by simp [Ex.op, maxLen], by simp [Ex.name, maxLen]⟩ (w8.heap.size + 1) (by simp)
  have G3 := Lib.hid (BoxAt.new (x := sumG a) G2 (w8.heap.size + 1 + 1) (by simp))
  clear G1 G2
  have k0 : ∀ o1 o2 o3, (((w8.alloc o1).alloc o2).alloc o3).cell? ⟨w3.heap.size + 1, 0, none⟩ = some (.string ⟨#[45]⟩) := fun o1 o2 o3 => (D5.out.below (below3a w8 o1 o2 o3)).cells.1
  have k1 : ∀ o1 o2 o3, (((w8.alloc o1).alloc o2).alloc o3).cell? ⟨w3.heap.size + 1, 1, none⟩ = some (.int .u16 0) := fun o1 o2 o3 => (D5.out.below (below3a w8 o1 o2 o3)).cells.2.1
  have k2 : ∀ o1 o2 o3, (((w8.alloc o1).alloc o2).alloc o3).cell? ⟨w3.heap.size + 1, 2, none⟩ = some (.string ⟨#[]⟩) := fun o1 o2 o3 => (D5.out.below (below3a w8 o1 o2 o3)).cells.2.2.1
  have k3 : ∀ o1 o2 o3, (((w8.alloc o1).alloc o2).alloc o3).cell? ⟨w3.heap.size + 1, 3, none⟩ = some (.slice (some ⟨w3.heap.size, 0, none⟩) 2 2) := fun o1 o2 o3 => (D5.out.below (below3a w8 o1 o2 o3)).cells.2.2.2.1
  go_wp2_with fail
  refine (K1.out _ _ (D5.out.below (below3a w8 _ _ _)).2).mono ?_
  rintro e w9 ⟨rfl, hb9⟩
  have hb89 := below3 hb9
  have D6 := Lib.hid (D5.out.below hb89)
  have E6 := Lib.hid (E5.out.below hb89)
  have F6 := Lib.hid (F4.out.below hb89)
  have G6 := Lib.hid (G3.out.below hb9)
  have B9 := Lib.hid (bthen B8.out hb89)
  clear hb9 hb89 k0 k1 k2 k3 D5 E5 F4 G3 B8
  have k0 : w9.cell? ⟨w6.heap.size + 1 + 1, 0, none⟩ = some (.string ⟨#[45]⟩) := E6.out.cells.1
  have k1 : w9.cell? ⟨w6.heap.size + 1 + 1, 1, none⟩ = some (.int .u16 0) := E6.out.cells.2.1
  have k2 : w9.cell? ⟨w6.heap.size + 1 + 1, 2, none⟩ = some (.string ⟨#[]⟩) := E6.out.cells.2.2.1
  have k3 : w9.cell? ⟨w6.heap.size + 1 + 1, 3, none⟩ = some (.slice (some ⟨w6.heap.size + 1, 0, none⟩) 2 2) := E6.out.cells.2.2.2.1
  go_wp2_with fail
  refine (K2.out _ _ E6.out.2).mono ?_
  rintro e w10 ⟨rfl, hb10⟩
  have D7 := Lib.hid (D6.out.below hb10)
  have F7 := Lib.hid (F6.out.below hb10)
  have G7 := Lib.hid (G6.out.below hb10)
  have B10 := Lib.hid (bthen B9.out hb10)
  clear hb10 k0 k1 k2 k3 D6 E6 F6 G6 B9
  have k0 : w10.cell? ⟨w7.heap.size + 1 + 1, 0, none⟩ = some (.string ⟨#[78, 79, 84]⟩) := F7.out.cells.1
  have k1 : w10.cell? ⟨w7.heap.size + 1 + 1, 1, none⟩ = some (.int .u16 0) := F7.out.cells.2.1
  have k2 : w10.cell? ⟨w7.heap.size + 1 + 1, 2, none⟩ = some (.string ⟨#[]⟩) := F7.out.cells.2.2.1
  have k3 : w10.cell? ⟨w7.heap.size + 1 + 1, 3, none⟩ = some (.slice (some ⟨w7.heap.size + 1, 0, none⟩) 1 1) := F7.out.cells.2.2.2.1
  go_wp2_with fail
  refine (K3.out _ _ F7.out.2).mono ?_
  rintro e w11 ⟨rfl, hb11⟩
  have D8 := Lib.hid (D7.out.below hb11)
  have G8 := Lib.hid (G7.out.below hb11)
  have B11 := Lib.hid (bthen B10.out hb11)
  clear hb11 k0 k1 k2 k3 D7 F7 G7 B10
  have k0 : w11.cell? ⟨w8.heap.size + 1 + 1, 0, none⟩ = some (.string ⟨#[78, 69, 71]⟩) := G8.out.cells.1
  have k1 : w11.cell? ⟨w8.heap.size + 1 + 1, 1, none⟩ = some (.int .u16 0) := G8.out.cells.2.1
  have k2 : w11.cell? ⟨w8.heap.size + 1 + 1, 2, none⟩ = some (.string ⟨#[]⟩) := G8.out.cells.2.2.1
  have k3 : w11.cell? ⟨w8.heap.size + 1 + 1, 3, none⟩ = some (.slice (some ⟨w8.heap.size + 1, 0, none⟩) 1 1) := G8.out.cells.2.2.2.1
  go_wp2_with fail
  refine (K4.out _ _ G8.out.2).mono ?_
  rintro e w12 ⟨rfl, hb12⟩
  have D9 := Lib.hid (D8.out.below hb12)
  have B12 := Lib.hid (bthen B11.out hb12)
  clear hb12 k0 k1 k2 k3 D8 G8 B11
  have k0 : w12.cell? ⟨w3.heap.size + 1, 0, none⟩ = some (.string ⟨#[45]⟩) := D9.out.cells.1
  have k1 : w12.cell? ⟨w3.heap.size + 1, 1, none⟩ = some (.int .u16 0) := D9.out.cells.2.1
  have k2 : w12.cell? ⟨w3.heap.size + 1, 2, none⟩ = some (.string ⟨#[]⟩) := D9.out.cells.2.2.1
  have k3 : w12.cell? ⟨w3.heap.size + 1, 3, none⟩ = some (.slice (some ⟨w3.heap.size, 0, none⟩) 2 2) := D9.out.cells.2.2.2.1
  go_wp2_with fail
  refine (K5.out _ _ (hg.below B12.out) D9.out.2).mono ?_
  rintro e w13 ⟨rfl, hb13⟩
  have D10 := Lib.hid (D9.out.below hb13)
  have B13 := Lib.hid (bthen B12.out hb13)
  clear hb13 k0 k1 k2 k3 D9 B12
  go_wp2_with fail
  refine (K6.out _ (hg.below B13.out)).mono ?_
  rintro e w14 ⟨va, rfl, ho14, hb14⟩
  have ra := Lib.hid (Rd.of_own ho14)
  obtain ⟨rA, rc, rfl, hrc⟩ := ra.out.form
  have D11 := Lib.hid (D10.out.below hb14)
  have B14 := Lib.hid (bthen B13.out hb14)
  clear hb14 ho14 D10 B13
  go_wp2_with fail
  refine (K7.out _ _ ra.out).mono ?_
  rintro e w15 ⟨vs, rfl, hsub, hok, hb15⟩
  obtain ⟨sA, sc, rfl, hsc, hsm⟩ := hsub.form
  have D12 := Lib.hid (D11.out.below hb15)
  have B15 := Lib.hid (bthen B14.out hb15)
  have H15 := Lib.hid hsub
  clear hb15 hok hsub hsc hsm ra hrc D11 B14
  dsimp only [sumD, Ex.op, Ex.n, Ex.name, Ex.sub, List.length_cons, List.length_nil]
  have k0 : ∀ o, (w15.alloc o).cell? ⟨w3.heap.size + 1, 0, none⟩ = some (.string ⟨#[45]⟩) := fun o => (D12.out.below ((Below.refl _ _).alloc (Nat.le_refl _) o)).cells.1
  have k1 : ∀ o, (w15.alloc o).cell? ⟨w3.heap.size + 1, 1, none⟩ = some (.int .u16 0) := fun o => (D12.out.below ((Below.refl _ _).alloc (Nat.le_refl _) o)).cells.2.1
  have k2 : ∀ o, (w15.alloc o).cell? ⟨w3.heap.size + 1, 2, none⟩ = some (.string ⟨#[]⟩) := fun o => (D12.out.below ((Below.refl _ _).alloc (Nat.le_refl _) o)).cells.2.2.1
  have k3 : ∀ o, (w15.alloc o).cell? ⟨w3.heap.size + 1, 3, none⟩ = some (.slice (some ⟨w3.heap.size, 0, none⟩) 2 2) := fun o => (D12.out.below ((Below.refl _ _).alloc (Nat.le_refl _) o)).cells.2.2.2.1
  go_wp2_with fail
  refine (K8.out _ _ _ (H15.out.up ((Below.refl _ _).alloc (Nat.le_refl _) _)) (D12.out.below ((Below.refl _ _).alloc (Nat.le_refl _) _)).2).mono ?_
  rintro e w16 ⟨rfl, hb16⟩
  have B16 := Lib.hid (bthen (B15.out.alloc B15.out.size _) hb16)
  clear hb16 k0 k1 k2 k3 D12 B15
  go_wp2_with fail
  refine (HAL.out _ B16.out).mono ?_
  rintro e w17 ⟨rfl, hb17⟩
  go_wp2_with fail
  go_ret
  exact ⟨rfl, bthen B16.out hb17⟩
end Go.Proofs.YtpmeabikhonaoaaDoor

/- Several texts in one: Ds7, Ds8. -/
import Derived.Test.YtiipkfgceiongaaGreatDoorUg
import Derived.Deep.Cut
import Derived.Deep.CutRange
import Derived.Deep.DeepCutAuto
import Derived.Deep.CutBlock
namespace Go.Proofs.YtiipkfgceiongaaGreatDoor
open Go.RowKit

/-- A row of operands in a block of S. -/
def ArgRow (w : World) (S : Nat → Prop) (v : Value) (l : List Ar) : Prop := (l = [] ∧ v = .slice none 0 0) ∨ ∃ g c cur, v = .slice (some ⟨g, 0, none⟩) l.length c ∧ S g ∧ w.heap[g]? = some (.cells cur 46 (0, 0)) ∧ l.length ≤ c ∧ c ≤ maxLen ∧ cur.size = c * 8 ∧ cur.toList.take (l.length * 8) = rowA l
theorem ArgRow.keep {w w' : World} {S S' : Nat → Prop} {v : Value} {l : List Ar} (h : ArgRow w S v l) (hk : ∀ g, S g → w'.heap[g]? = w.heap[g]?) (hS : ∀ g, S g → S' g) : ArgRow w' S' v l :=
  h.imp id fun ⟨g, c, cur, h1, h2, h3, h4⟩ => ⟨g, c, cur, h1, hS g h2, (hk g h2).trans h3, h4⟩
theorem ArgRow.of_own {w : World} {base : Nat} {v : Value} {l : List Ar} (h : w.ownsRow base 46 8 v l.length (rowA l)) : ArgRow w (fun g => base ≤ g ∧ g < w.heap.size) v l := by
  rcases h.2 with ⟨h1, h2⟩ | ⟨g, cap, cur, h1, h2, h3, h4, h5, h6, h7⟩
  · exact .inl ⟨List.length_eq_zero_iff.1 h2, h1⟩
  · by_cases h0 : l = [] ∧ v = .slice none 0 0
    · exact .inl h0
    · exact .inr ⟨g, cap, cur, h1, ⟨h2, lt_of_heap h3⟩, h3, h4, h5, h6, h7⟩
theorem ArgRow.own {w : World} {base : Nat} {v : Value} {l : List Ar} (h : ArgRow w (fun g => base ≤ g ∧ g < w.heap.size) v l) : w.ownsRow base 46 8 v l.length (rowA l) := by
  refine ⟨rowA_len l, ?_⟩
  rcases h with ⟨rfl, rfl⟩ | ⟨g, cap, cur, h1, h2, h3, h4, h5, h6, h7⟩
  · exact .inl ⟨rfl, rfl⟩
  · exact .inr ⟨g, cap, cur, h1, h2.1, h3, h4, h5, h6, h7⟩
theorem ArgRow.form {w : World} {S : Nat → Prop} {v : Value} {l : List Ar} (h : ArgRow w S v l) : ∃ A c, v = .slice A l.length c ∧ l.length ≤ c ∧ l.length ≤ maxLen := by
  rcases h with ⟨rfl, rfl⟩ | ⟨g, c, cur, h1, _, _, h4, h5, _⟩
  · exact ⟨none, 0, rfl, Nat.le_refl _, Nat.zero_le _⟩
  · exact ⟨_, c, h1, h4, Nat.le_trans h4 h5⟩
theorem ArgRow.block {w : World} {S : Nat → Prop} {v : Value} {l : List Ar} (h : ArgRow w S v l) : ∀ g, v.ownBlock = some g → S g := by
  intro g hg
  rcases h with ⟨_, rfl⟩ | ⟨g', c, cur, rfl, h2, _⟩
  · cases hg
  · simp [Value.ownBlock] at hg; subst hg; exact h2
def pcCells (p : Pc) (v : Value) : List Value := [.string ⟨p.s.label.toArray⟩, .bool p.s.colon, .string ⟨p.s.op.toArray⟩, v, .int .i64 p.pl, .int .i64 p.size, .int .i64 p.tg]
theorem pcCells_len (p : Pc) (v : Value) : (pcCells p v).length = 7 := rfl
theorem pcCells_one (p : Pc) (A : Option Addr) (n c : Nat) : ∀ u ∈ pcCells p (.slice A n c), u.oneCell' = true := by
  intro u hu
  simp only [pcCells, List.mem_cons, List.not_mem_nil, or_false] at hu
  rcases hu with rfl | rfl | rfl | rfl | rfl | rfl | rfl <;> rfl
/-- No two rows are one. -/
def Apart (vs : List Value) : Prop := ∀ i j g, i < j → j < vs.length → (vs.getD i nilV).ownBlock = some g → (vs.getD j nilV).ownBlock ≠ some g
/-- The call's own pieces. -/
def PcOwn (w : World) (base : Nat) (v : Value) (l : List Pc) (vs : List Value) : Prop :=
  vs.length = l.length ∧ w.ownsRow base 65 7 v l.length (rowV pcCells l vs) ∧ (∀ i (hi : i < l.length), ArgRow w (fun g => base ≤ g ∧ g < w.heap.size ∧ v.ownBlock ≠ some g) (vs.getD i nilV) l[i].s.args) ∧ Apart vs
theorem PcOwn.nil (w : World) (base : Nat) : PcOwn w base nilV [] [] := ⟨rfl, ⟨by simp [rowV], .inl ⟨rfl, rfl⟩⟩, fun i hi => absurd hi (by simp), fun i j g h1 h2 => by simp at h2⟩
theorem PcOwn.below {w w' : World} {base : Nat} {v : Value} {l : List Pc} {vs : List Value} (h : PcOwn w base v l vs) (hb : Below w.heap.size w w') : PcOwn w' base v l vs :=
  ⟨h.1, own_below h.2.1 hb, fun i hi => (h.2.2.1 i hi).keep (fun g hg => hb.block g hg.2.1) (fun _g hg => ⟨hg.1, Nat.lt_of_lt_of_le hg.2.1 hb.size, hg.2.2⟩), h.2.2.2⟩
theorem getD_app_left {vs : List Value} {u : Value} {i : Nat} (h : i < vs.length) : (vs ++ [u]).getD i nilV = vs.getD i nilV := by
  rw [List.getD_eq_getElem?_getD, List.getD_eq_getElem?_getD, List.getElem?_append_left h]
theorem getD_app_last {vs : List Value} {u : Value} : (vs ++ [u]).getD vs.length nilV = u := by
  rw [List.getD_eq_getElem?_getD, List.getElem?_append_right (Nat.le_refl _)]; simp
/-- One more piece: w before it was read, w0 where its row is laid, w' behind the append. -/
theorem PcOwn.snoc {w w0 w' : World} {base : Nat} {v v' u : Value} {l : List Pc} {p : Pc} {vs : List Value} (h : PcOwn w base v l vs) (hbase : base ≤ w.heap.size) (h0 : Below w.heap.size w w0)
    (hu : ArgRow w0 (fun g => w.heap.size ≤ g ∧ g < w0.heap.size) u p.s.args) (hown : w'.ownsRow base 65 7 v' (l.length + 1) (rowV pcCells l vs ++ pcCells p u)) (hg : w0.grownBy w' v.ownBlock) (hv : v'.ownBlock = v.ownBlock ∨ v'.ownBlock = some w0.heap.size) :
    PcOwn w' base v' (l ++ [p]) (vs ++ [u]) := by
  obtain ⟨h1, h2, h3, h4⟩ := h
  have hvlt : ∀ g, v.ownBlock = some g → g < w.heap.size := fun g hg => (h2.lt g hg).2
  have hS : ∀ g, (base ≤ g ∧ g < w0.heap.size ∧ v.ownBlock ≠ some g) → (base ≤ g ∧ g < w'.heap.size ∧ v'.ownBlock ≠ some g) := by
    rintro g ⟨g1, g2, g3⟩
    refine ⟨g1, Nat.lt_of_lt_of_le g2 hg.size, ?_⟩
    rcases hv with hv | hv <;> rw [hv]
    · exact g3
    · intro h; injection h with h; omega
  have hK : ∀ g, (base ≤ g ∧ g < w0.heap.size ∧ v.ownBlock ≠ some g) → w'.heap[g]? = w0.heap[g]? := fun g hp => hg.block g hp.2.1 (fun h => hp.2.2 h.symm)
  refine ⟨by simp [h1], by rw [rowV_snoc l p u vs h1]; simpa using hown, fun i hi => ?_, ?_⟩
  · by_cases hil : i < l.length
    · rw [getD_app_left (by omega), List.getElem_append_left hil]
      exact ((h3 i hil).keep (fun g hg => h0.block g hg.2.1) (fun g hg => ⟨hg.1, Nat.lt_of_lt_of_le hg.2.1 h0.size, hg.2.2⟩)).keep hK hS
    · have hie : i = vs.length := by simp at hi; omega
      subst hie
      have e1 : (l ++ [p])[vs.length]'hi = p := by simp [h1]
      rw [getD_app_last, e1]
      exact hu.keep (S' := fun g => base ≤ g ∧ g < w'.heap.size ∧ v'.ownBlock ≠ some g) (fun g hg' => hK g ⟨by omega, hg'.2, fun hh => by have := hvlt g hh; omega⟩) (fun g hg' => hS g ⟨by omega, hg'.2, fun hh => by have := hvlt g hh; omega⟩)
  · intro i j g hij hj hi hh
    simp at hj
    by_cases hjl : j < vs.length
    · rw [getD_app_left hjl] at hh
      rw [getD_app_left (by omega)] at hi
      exact h4 i j g hij hjl hi hh
    · have hje : j = vs.length := by omega
      subst hje
      rw [getD_app_last] at hh
      rw [getD_app_left hij] at hi
      have := (h3 i (by omega)).block g hi
      have := hu.block g hh
      omega
theorem RdB.drop {w : World} {B g o c : Nat} {b : List UInt8} (n : Nat) (h : RdB w B (.slice (some ⟨g, o, none⟩) b.length c) b) (hn : n ≤ b.length) :
    RdB w B (.slice (if c = n then some ⟨g, o, none⟩ else some ⟨g, o + n, none⟩) (b.length - n) (c - n)) (b.drop n) := by
  obtain ⟨A', c', h1, h2, h3⟩ := h
  injection h1 with h1 _ h1c
  subst h1 h1c
  refine ⟨_, _, by rw [List.length_drop], by rw [List.length_drop]; omega, fun h0 => ?_⟩
  rw [List.length_drop] at h0
  obtain ⟨g', o', h4, h5, h6⟩ := h3 (by omega)
  simp only [Option.some.injEq, Addr.mk.injEq, and_true] at h4
  obtain ⟨rfl, rfl⟩ := h4
  rw [if_neg (by omega)]
  refine ⟨g, o + n, rfl, h5, fun j u hu => ?_⟩
  rw [Nat.add_assoc]
  refine h6 (n + j) u ?_
  rw [List.getElem?_map] at hu ⊢
  rw [List.getElem?_drop] at hu
  exact hu
theorem info_pc : (Tryz.prog.info? 65).map (fun i => (i.zero, i.size, i.bytes)) = some (some (.agg #[.string ⟨#[]⟩, .bool false, .string ⟨#[]⟩, .slice none 0 0, .int .i64 0, .int .i64 0, .int .i64 0]), 7, 88) := by kernel_rfl
end Go.Proofs.YtiipkfgceiongaaGreatDoor
/- disasm: sweep (of the 8080's opcodes). -/
namespace Go.Proofs.YtiipkfgceiongaaGreatDoor
open Go.RowKit

def SweepR (w : World) (first : Nat → List UInt8 → St × Nat × Int) (F pl0 : Nat) (b0 : List UInt8) (v at' bv : Value) (n : Nat) (wr : World) : Prop := ∃ (f pl : Nat) (b : List UInt8) (l : List Pc) (vs : List Value), at' = .int .i64 pl ∧ RdB wr w.heap.size bv b ∧ PcOwn wr w.heap.size v l vs ∧ l ++ sweepF first f pl b = sweepF first F pl0 b0 ∧ b.length ≤ f ∧ pl + b.length = pl0 + b0.length ∧ l.length + b.length ≤ b0.length ∧ b.length = n ∧ Below w.heap.size w wr
def lenOf (v : Value) : Nat := match v with | .slice _ n _ => n | _ => 0
def SweepP (w : World) (l : List Pc) (e : Ending) (w' : World) : Prop := ∃ v vs, e = .returned v ∧ PcOwn w' w.heap.size v l vs ∧ Below w.heap.size w w'
theorem first80_size (d : Int) (b : List UInt8) (h0 : b ≠ []) : 1 ≤ (first80D d b).2.1 ∧ (first80D d b).2.1 ≤ b.length ∧ -1 ≤ (first80D d b).2.2 ∧ (first80D d b).2.2 ≤ 65535 := by
  have hl : 0 < b.length := List.length_pos_iff.2 h0
  have h3 := read80_lt b
  unfold first80D
  split
  · simp [dbD]; omega
  · rename_i hk
    have hk' : (read80 b).2.2 = 0 := by simpa using hk
    have hs : 1 ≤ (read80 b).2.1 ∧ (read80 b).2.1 ≤ b.length := by
      unfold read80 at hk' ⊢
      split <;> simp_all
      split <;> simp_all
      split <;> simp_all
      omega
    refine ⟨hs.1, hs.2, ?_⟩
    simp only
    split <;> omega
set_option maxHeartbeats 1000000 in
set_option maxRecDepth 100000 in
theorem sweep80_any (d : Int) (hd : d ≠ 2) (pl0 : Nat) (b0 : List UInt8) (v : Value) (w : World) (hg : GWL w) (hr : RdB w w.heap.size v b0) (hl : pl0 + b0.length ≤ 1000000) :
    Calls Tryz.prog 28 #[.int .i64 d, .int .i64 pl0, v] w (SweepP w (sweepF (fun _ b => first80D d b) b0.length pl0 b0)) := by
  have e2 : (d == 2) = false := by rw [beq_eq_false_iff_ne]; exact hd
  obtain ⟨A, c, rfl, hc⟩ := hr.form
  generalize hres : sweepF (fun _ b => first80D d b) b0.length pl0 b0 = res
  have HRES := Lib.hid hres
  clear hres hd
  have HR0 := Lib.hid hr
  clear hr
  go_enter Tryz.func28, Tryz.ntmps28
  go_wp2_with fail
  go_loopw [6, 1, 2] (fun v at' bv wr => SweepR w (fun _ b => first80D d b) b0.length pl0 b0 v at' bv (lenOf bv) wr) (fun _ _ bv _ => lenOf bv)
  case atStart => exact ⟨b0.length, pl0, b0, [], [], rfl, HR0.out, PcOwn.nil _ _, rfl, Nat.le_refl _, rfl, by simp, rfl, Below.refl _ _⟩
  case round =>
    obtain ⟨f, pl, b, l, vs, rfl, hrb, hpc, hsw, hf, hpl, hll, hn, hbw⟩ := hrel
    obtain ⟨bA, bc, rfl, hbc⟩ := hrb.form
    obtain ⟨vA, vc, rfl, hvc, hvm, _⟩ := own_slice hpc.2.1 (by omega)
    have HPC := Lib.hid hpc
    have HSW := Lib.hid hsw
    have HBW := Lib.hid hbw
    have HRB := Lib.hid hrb
    have hsz := hbw.size
    clear hpc hsw hbw hrb hn hvm
    by_cases h0 : b = []
    · subst h0
      have hfin := HSW.out
      rw [show sweepF (fun _ b => first80D d b) f pl [] = [] by cases f <;> rfl, List.append_nil] at hfin
      have HF := Lib.hid (hfin.trans HRES.out)
      clear hfin
      go_wp2_with fail
      go_ret
      obtain rfl := HF.out
      exact ⟨_, vs, rfl, HPC.out, HBW.out⟩
    · have hb0 : 0 < b.length := List.length_pos_iff.2 h0
      have HFS := Lib.hid (first80_size d b h0)
      have HF1 := Lib.hid (fun W (hW : Below wr.heap.size wr W) => first80_any d b _ W (hg.below (HBW.out.trans (hW.mono hsz))) ((HRB.out.below (hW.mono hsz)).more (Nat.le_trans hsz hW.size)) (by omega) h0)
      obtain ⟨s1, s2, s3, s4⟩ := HFS.out
      obtain ⟨f', rfl⟩ : ∃ f', f = f' + 1 := ⟨f - 1, by omega⟩
      have hstep : sweepF (fun _ b => first80D d b) (f' + 1) pl b = ⟨(first80D d b).1, pl, (first80D d b).2.1, (first80D d b).2.2⟩ :: sweepF (fun _ b => first80D d b) f' (pl + (first80D d b).2.1) (b.drop (first80D d b).2.1) := by rw [sweepF, if_neg h0]
      have HST := Lib.hid hstep
      clear hstep HFS
      generalize first80D d b = r at *
      obtain ⟨s, size, tg⟩ := r
      simp only at s1 s2 s3 s4
      simp only at HF1 HST
      go_wp2_with fail
      refine (HF1.out _ ((Below.refl _ _).alloc (Nat.le_refl _) _)).mono ?_
      rintro e w2 ⟨av, rfl, hown, hb2⟩
      obtain ⟨aA, ac, rfl, hac, ham, _⟩ := own_slice hown (by omega)
      have C2 := Lib.hid ((hb2.block wr.heap.size (by simp)).trans (heap_alloc_new wr (.cells #[.string ⟨#[]⟩, .bool false, .string ⟨#[]⟩, .slice none 0 0, .int .i64 (pl : Int), .int .i64 0, .int .i64 0] 65)))
      have O2 := Lib.hid hown
      have B2 := Lib.hid hb2
      clear hown hb2 HF1 ham
      have k0 := cell_of_heap (i := 0) C2.out
      have f0 := frozen_of_heap (i := 0) C2.out
      have k1 := cell_of_heap (i := 1) C2.out
      have f1 := frozen_of_heap (i := 1) C2.out
      have k2 := cell_of_heap (i := 2) C2.out
      have f2 := frozen_of_heap (i := 2) C2.out
      have k3 := cell_of_heap (i := 3) C2.out
      have f3 := frozen_of_heap (i := 3) C2.out
      have k4 := cell_of_heap (i := 4) C2.out
      have f4 := frozen_of_heap (i := 4) C2.out
      have k5 := cell_of_heap (i := 5) C2.out
      have f5 := frozen_of_heap (i := 5) C2.out
      have k6 := cell_of_heap (i := 6) C2.out
      have f6 := frozen_of_heap (i := 6) C2.out
      simp at k0 k1 k2 k3 k4 k5 k6 f0 f1 f2 f3 f4 f5 f6
      have hP2 : wr.heap.size < w2.heap.size := lt_of_heap C2.out
      have B3 := Lib.hid (show Below wr.heap.size wr ((((((w2.setCell ⟨wr.heap.size, 0, none⟩ (.string ⟨s.label.toArray⟩)).setCell ⟨wr.heap.size, 1, none⟩ (.bool s.colon)).setCell ⟨wr.heap.size, 2, none⟩ (.string ⟨s.op.toArray⟩)).setCell ⟨wr.heap.size, 3, none⟩ (.slice aA s.args.length ac)).setCell ⟨wr.heap.size, 5, none⟩ (.int .i64 (size : Int))).setCell ⟨wr.heap.size, 6, none⟩ (.int .i64 tg)) from (((((((bthen ((Below.refl _ _).alloc (Nat.le_refl _) _) B2.out).setCell (Nat.le_refl _) _).setCell (Nat.le_refl _) _).setCell (Nat.le_refl _) _).setCell (Nat.le_refl _) _).setCell (Nat.le_refl _) _).setCell (Nat.le_refl _) _))
      have Z3 : ((((((w2.setCell ⟨wr.heap.size, 0, none⟩ (.string ⟨s.label.toArray⟩)).setCell ⟨wr.heap.size, 1, none⟩ (.bool s.colon)).setCell ⟨wr.heap.size, 2, none⟩ (.string ⟨s.op.toArray⟩)).setCell ⟨wr.heap.size, 3, none⟩ (.slice aA s.args.length ac)).setCell ⟨wr.heap.size, 5, none⟩ (.int .i64 (size : Int))).setCell ⟨wr.heap.size, 6, none⟩ (.int .i64 tg)).heap.size = w2.heap.size := by simp
      have hne : ∀ g, (Value.slice vA l.length vc).ownBlock = some g → g < wr.heap.size := fun g hg => (HPC.out.2.1.lt g hg).2
      have HO8 := Lib.hid (show (((((((w2.setCell ⟨wr.heap.size, 0, none⟩ (.string ⟨s.label.toArray⟩)).setCell ⟨wr.heap.size, 1, none⟩ (.bool s.colon)).setCell ⟨wr.heap.size, 2, none⟩ (.string ⟨s.op.toArray⟩)).setCell ⟨wr.heap.size, 3, none⟩ (.slice aA s.args.length ac)).setCell ⟨wr.heap.size, 5, none⟩ (.int .i64 (size : Int))).setCell ⟨wr.heap.size, 6, none⟩ (.int .i64 tg)).alloc (.cells (pcCells ⟨s, pl, size, tg⟩ (.slice aA s.args.length ac)).toArray 65)).ownsRow w.heap.size 65 7 (.slice vA l.length vc) l.length (rowV pcCells l vs) from (own_below HPC.out.2.1 B3.out).alloc _)
      have HN8 := Lib.hid (rd_new ((((((w2.setCell ⟨wr.heap.size, 0, none⟩ (.string ⟨s.label.toArray⟩)).setCell ⟨wr.heap.size, 1, none⟩ (.bool s.colon)).setCell ⟨wr.heap.size, 2, none⟩ (.string ⟨s.op.toArray⟩)).setCell ⟨wr.heap.size, 3, none⟩ (.slice aA s.args.length ac)).setCell ⟨wr.heap.size, 5, none⟩ (.int .i64 (size : Int))).setCell ⟨wr.heap.size, 6, none⟩ (.int .i64 tg)) w2.heap.size Z3 (pcCells ⟨s, pl, size, tg⟩ (.slice aA s.args.length ac)) 65)
      have HU8 := Lib.hid (show ArgRow (((((((w2.setCell ⟨wr.heap.size, 0, none⟩ (.string ⟨s.label.toArray⟩)).setCell ⟨wr.heap.size, 1, none⟩ (.bool s.colon)).setCell ⟨wr.heap.size, 2, none⟩ (.string ⟨s.op.toArray⟩)).setCell ⟨wr.heap.size, 3, none⟩ (.slice aA s.args.length ac)).setCell ⟨wr.heap.size, 5, none⟩ (.int .i64 (size : Int))).setCell ⟨wr.heap.size, 6, none⟩ (.int .i64 tg)).alloc (.cells (pcCells ⟨s, pl, size, tg⟩ (.slice aA s.args.length ac)).toArray 65)) (fun g => wr.heap.size ≤ g ∧ g < (((((((w2.setCell ⟨wr.heap.size, 0, none⟩ (.string ⟨s.label.toArray⟩)).setCell ⟨wr.heap.size, 1, none⟩ (.bool s.colon)).setCell ⟨wr.heap.size, 2, none⟩ (.string ⟨s.op.toArray⟩)).setCell ⟨wr.heap.size, 3, none⟩ (.slice aA s.args.length ac)).setCell ⟨wr.heap.size, 5, none⟩ (.int .i64 (size : Int))).setCell ⟨wr.heap.size, 6, none⟩ (.int .i64 tg)).alloc (.cells (pcCells ⟨s, pl, size, tg⟩ (.slice aA s.args.length ac)).toArray 65)).heap.size) (.slice aA s.args.length ac) s.args from (ArgRow.of_own ((own_set (own_set (own_set (own_set (own_set (own_set O2.out (by simp)) (by simp)) (by simp)) (by simp)) (by simp)) (by simp)).alloc _)).keep (fun _ _ => rfl) (fun g hg => ⟨Nat.le_trans (by simp) hg.1, hg.2⟩))
      have B4 := Lib.hid (B3.out.alloc B3.out.size (.cells (pcCells ⟨s, pl, size, tg⟩ (.slice aA s.args.length ac)).toArray 65))
      have C3 := Lib.hid ((Below.heap_alloc ((((((w2.setCell ⟨wr.heap.size, 0, none⟩ (.string ⟨s.label.toArray⟩)).setCell ⟨wr.heap.size, 1, none⟩ (.bool s.colon)).setCell ⟨wr.heap.size, 2, none⟩ (.string ⟨s.op.toArray⟩)).setCell ⟨wr.heap.size, 3, none⟩ (.slice aA s.args.length ac)).setCell ⟨wr.heap.size, 5, none⟩ (.int .i64 (size : Int))).setCell ⟨wr.heap.size, 6, none⟩ (.int .i64 tg)) (.cells (pcCells ⟨s, pl, size, tg⟩ (.slice aA s.args.length ac)).toArray 65) wr.heap.size (by rw [Z3]; exact hP2)).trans (heap_set (i := 6) (.int .i64 tg) (heap_set (i := 5) (.int .i64 (size : Int)) (heap_set (i := 3) (.slice aA s.args.length ac) (heap_set (i := 2) (.string ⟨s.op.toArray⟩) (heap_set (i := 1) (.bool s.colon) (heap_set (i := 0) (.string ⟨s.label.toArray⟩) C2.out)))))))
      have hb8 : w.heap.size ≤ (((((((w2.setCell ⟨wr.heap.size, 0, none⟩ (.string ⟨s.label.toArray⟩)).setCell ⟨wr.heap.size, 1, none⟩ (.bool s.colon)).setCell ⟨wr.heap.size, 2, none⟩ (.string ⟨s.op.toArray⟩)).setCell ⟨wr.heap.size, 3, none⟩ (.slice aA s.args.length ac)).setCell ⟨wr.heap.size, 5, none⟩ (.int .i64 (size : Int))).setCell ⟨wr.heap.size, 6, none⟩ (.int .i64 tg)).alloc (.cells (pcCells ⟨s, pl, size, tg⟩ (.slice aA s.args.length ac)).toArray 65)).heap.size := Nat.le_trans hsz B4.out.size
      have Z4 : (((((((w2.setCell ⟨wr.heap.size, 0, none⟩ (.string ⟨s.label.toArray⟩)).setCell ⟨wr.heap.size, 1, none⟩ (.bool s.colon)).setCell ⟨wr.heap.size, 2, none⟩ (.string ⟨s.op.toArray⟩)).setCell ⟨wr.heap.size, 3, none⟩ (.slice aA s.args.length ac)).setCell ⟨wr.heap.size, 5, none⟩ (.int .i64 (size : Int))).setCell ⟨wr.heap.size, 6, none⟩ (.int .i64 tg)).alloc (.cells (pcCells ⟨s, pl, size, tg⟩ (.slice aA s.args.length ac)).toArray 65)).heap.size = w2.heap.size + 1 := by simp
      obtain ⟨g, o, rfl, hgg, _⟩ := HRB.out.get 0 hb0
      clear B3 O2 C2
      go_wp2_with (at_builtin; go_loud (refine wpList_append_to _ rfl (.tmp 36) (.tmp 38) 61 rfl w.heap.size 65 _ 7 88 Tryz.underlying61 info_pc rfl (by omega) HO8.out rfl HN8.out rfl rfl (pcCells_one _ _ _ _) (by omega) (by omega) hb8 ?_; intro v9 w9 hown9 hbel9 hg9 hv9; obtain ⟨A9, c9, rfl, hc9, hm9, _⟩ := own_slice hown9 (by omega); have PN := Lib.hid (PcOwn.snoc HPC.out hsz B4.out HU8.out hown9 hg9 hv9); have BB := Lib.hid ((HBW.out.trans (B4.out.mono hsz)).trans hbel9); have C9 := Lib.hid ((hg9.block wr.heap.size (Nat.lt_of_lt_of_le hP2 (by simp)) (fun h => by have := hne _ h.symm; omega)).trans C3.out); have RB := Lib.hid (HRB.out.below ((B4.out.mono hsz).trans hbel9)); have y5 := cell_of_heap (i := 5) C9.out; simp at y5; clear hown9 hbel9 hg9 hv9 k0 k1 k2 k3 k4 k5 k6 f0 f1 f2 f3 f4 f5 f6 HO8 HN8 HU8 B4 C3 hb8 Z4 Z3 HRB))
      have hw1 : IntKind.i64.wrap ((pl : Int) + (size : Int)) = (pl : Int) + (size : Int) := IntWalk.i64_in _ (by omega)
      have RD := Lib.hid (RdB.drop size RB.out s2)
      go_region
      all_goals (
        go_wp2_with fail
        go_roundw
        case rel =>
          have h1 := (RD.out.below ((Below.refl _ _).drew) : RdB w9.drew w.heap.size _ (b.drop size))
          refine ⟨f', pl + size, b.drop size, l ++ [⟨s, pl, size, tg⟩], _, by go_num, h1, PN.out.below ((Below.refl _ _).drew), ?_, ?_, ?_, ?_, ?_, BB.out.drew⟩
          · rw [← HSW.out, HST.out, List.append_assoc]; rfl
          · rw [List.length_drop]; omega
          · rw [List.length_drop]; omega
          · rw [List.length_drop, List.length_append]; simp; omega
          · rw [List.length_drop]; rfl
        case measure => simp [lenOf]; omega)
end Go.Proofs.YtiipkfgceiongaaGreatDoor

/- The reference's Quote, Unquote, Value; number.Value. -/
import Derived.Test.YtnpphfhjpflgiaaDoorRefUpper
import Derived.Test.YtnpphfhjpflgiaaDoorPureQuote
import Derived.Lib.SlBytesConst
import Derived.Deep.QuietTactic
import Derived.BigQuiet
namespace Go.Proofs.YtnpphfhjpflgiaaDoor
open Go.RowKit

/-- A row of bytes of the call's own; or one that is full. -/
def Own2 (w : World) (base : Nat) (e : TypeId) (v : Value) (n : Nat) (xs : List UInt8) : Prop :=
  w.ownsRow base e 1 v n (xs.map bv) ∨ ∃ g fr, v = .slice (some ⟨g, 0, none⟩) n n ∧ base ≤ g ∧ w.heap[g]? = some (.cells (xs.map bv).toArray e fr) ∧ xs.length = n

theorem append_byte2 {ops : Array Oper} {rest : List Oper} {o : Oper} {a : Act} {Q : Exit → Act → World → Prop} (wr : World) (hgd : o.guard = none) (s x : Operand)
    (ho : o.op = .call { callee := .builtin .append, args := #[s, x], argTypes := #[52, 52] })
    (base : Nat) {v : Value} {n : Nat} {xs : List UInt8} (hown : Own2 wr base 5 v n xs) (hs : a.eval s = v)
    (c : Int) (c' : UInt8) (hc : c = (c'.toNat : Int)) (hx : a.eval x = .slice (some ⟨wr.heap.size, 0, none⟩) 1 1) (hn : n ≤ 1000000000) (hbase : base ≤ wr.heap.size)
    (h : ∀ v' w', w'.ownsRow base 5 1 v' (n + 1) ((xs ++ [c']).map bv) → Below base wr w' → wpList Tryd.prog ops Q rest (a.put o.dst v') w') : wpList Tryd.prog ops Q (o :: rest) a (wr.alloc (.cells #[.int .u8 c] 5)) := by
  rcases hown with hown | ⟨g, fr, rfl, hg0, hg, rfl⟩
  · exact append_byte wr hgd s x ho base hown hs c c' hc hx hn hbase h
  · subst hc
    obtain ⟨i0, hi, hz0, hz1, hz2⟩ := info_parts info_u8
    refine wpList_append_grows _ hgd s x 52 ho 5 i0 (.int .u8 0) 1 1 Tryd.underlying52 hi hz0 hz1 hz2 rfl (by decide) (some ⟨g, 0, none⟩) xs.length xs.length (xs.map bv) hs (fun h => by cases h) (by simp) ?_ ⟨wr.heap.size, 0, none⟩ 1 1 [bv c'] hx rfl (cell_one_new _ _ _) (by intro u hu; simp at hu; subst hu; rfl) (by omega) (by unfold maxLen; omega) (by omega) ?_
    · intro b hb j u hu
      cases hb
      have hlt := lt_of_heap hg
      have hadd : (⟨g, 0, none⟩ : Addr).add j = ⟨g, j, none⟩ := by unfold Addr.add; split <;> simp_all
      rw [hadd, World.cell?_alloc_lt _ _ _ hlt, cell_of_heap hg]
      simpa using hu
    · intro v' w' h1 h2
      refine h v' w' ?_ (((Below.refl _ _).alloc hbase _).grown h2 (by simp; omega) (fun k hk => by cases hk))
      rw [List.map_append]
      refine ⟨h1.1, ?_⟩
      rcases h1.2 with h3 | ⟨g', cap, cur, h3, h4, h5⟩
      · exact .inl h3
      · exact .inr ⟨g', cap, cur, h3, by simp at h4; omega, h5⟩

theorem dbl_snoc (l : List UInt8) (c : UInt8) : dbl (l ++ [c]) = dbl l ++ (if c = 39 then [39, 39] else [c]) := by
  induction l with
  | nil => simp [dbl]
  | cons d r ih => rw [List.cons_append, dbl, ih, dbl]; split <;> simp

set_option maxHeartbeats 1000000 in
theorem refQuote_any (l : List UInt8) (w : World) (hl : l.length ≤ 1000000) :
    Calls Tryd.prog 16 #[.string ⟨l.toArray⟩] w fun e w' => e = .returned (.string ⟨(quoteL l).toArray⟩) ∧ Below w.heap.size w w' := by
  have kc := fun (w : World) (C : Array Value) (n c : Nat) => Lib.run_convert_bytes_const (P := Tryd.prog) w 52 5 C n c Tryd.underlying52 Tryd.underlying5
  go_enter Tryd.func16, Tryd.ntmps16
  go_wp2_with fail
  clear kc
  go_loopw [3, 4] (fun v i wr => ∃ k : Nat, k ≤ l.length ∧ i = .int .i64 k ∧ Own2 wr w.heap.size 5 v (39 :: dbl (l.take k)).length (39 :: dbl (l.take k)) ∧ Below w.heap.size w wr) (fun _ i _ => l.length - (intOf i).toNat)
  case atStart => exact ⟨0, Nat.zero_le _, rfl, .inr ⟨w.heap.size, (1, 2), rfl, Nat.le_refl _, heap_alloc_new _ _, rfl⟩, (Below.refl _ _).alloc (Nat.le_refl _) _⟩
  case round =>
    obtain ⟨k, hk, rfl, hown, hb⟩ := hrel
    have hsz := hb.size
    have hdl : (39 :: dbl (l.take k)).length ≤ 2000001 := by have := (dbl_length (l.take k)).2; have h2 := List.length_take_le k l; simp; omega
    by_cases hlt : k < l.length
    · have hsn : 39 :: dbl (l.take (k + 1)) = (39 :: dbl (l.take k)) ++ (if l[k] = 39 then [39, 39] else [l[k]]) := by
        rw [List.take_succ_eq_append_getElem hlt, dbl_snoc]; rfl
      generalize 39 :: dbl (l.take k) = xs at *
      by_cases hc : l[k] = 39
      · rw [if_pos hc] at hsn
        have HS := Lib.hid hsn
        clear hsn
        go_wp2_with (at_builtin; refine append_byte2 wr rfl (.tmp 13) (.tmp 17) rfl w.heap.size hown rfl _ 39 rfl rfl (by omega) hsz ?_)
        intro v1 w1 hown1' hb1
        have hown1 : w1.ownsRow w.heap.size 5 1 v1 (xs.length + 1) ((xs ++ [39]).map bv) := by rw [List.map_append]; exact hown1'
        clear hown1'
        have hsz1 := Nat.le_trans hsz hb1.size
        have hb2 := hb.trans hb1
        clear hb hb1 hown
        go_wp2_with (at_builtin; refine append_byte w1 rfl (.tmp 23) (.tmp 24) rfl w.heap.size hown1 rfl _ 39 rfl rfl (by omega) hsz1 ?_)
        intro v2 w2 hown2 hb3
        have hb4 := hb2.trans hb3
        have R : Hid (Own2 w2 w.heap.size 5 v2 (39 :: dbl (l.take (k + 1))).length (39 :: dbl (l.take (k + 1)))) := by
          rw [HS.out]
          have e : xs ++ [39, 39] = (xs ++ [39]) ++ [39] := by simp
          rw [e]
          refine Lib.hid (.inl ?_)
          have en : ((xs ++ [39]) ++ [39]).length = xs.length + 1 + 1 := by simp
          rw [en, List.map_append, List.map_append]; simpa using hown2
        clear hown1 hown2 hb3 hb2
        go_wp2_with fail
        go_roundw
        case rel => exact ⟨k + 1, by omega, by go_num, R.out, hb4⟩
        case measure => simp [intOf]; omega
      · rw [if_neg hc] at hsn
        have HS := Lib.hid hsn
        clear hsn
        have e1 : ((l[k].toNat : Int) == 39) = false := by
          rw [beq_eq_false_iff_ne]; intro h; apply hc; apply UInt8.toNat.inj; show l[k].toNat = 39; omega
        clear hc
        go_wp2_with (at_builtin; refine append_byte2 wr rfl (.tmp 13) (.tmp 17) rfl w.heap.size hown rfl _ l[k] rfl rfl (by omega) hsz ?_)
        intro v1 w1 hown1 hb1
        have hb2 := hb.trans hb1
        have R : Hid (Own2 w1 w.heap.size 5 v1 (39 :: dbl (l.take (k + 1))).length (39 :: dbl (l.take (k + 1)))) := by
          rw [HS.out]
          refine Lib.hid (.inl ?_)
          have en : (xs ++ [l[k]]).length = xs.length + 1 := by simp
          rw [en, List.map_append]; exact hown1
        clear hown hown1 hb hb1
        go_wp2_with fail
        go_roundw
        case rel => exact ⟨k + 1, by omega, by go_num, R.out, hb2⟩
        case measure => simp [intOf]; omega
    · obtain rfl : k = l.length := by omega
      rw [List.take_length] at hown hdl
      have hq : Hid (quoteL l = (39 :: dbl l) ++ [39]) := Lib.hid rfl
      generalize 39 :: dbl l = xs at *
      go_wp2_with (at_builtin; refine append_byte2 wr rfl (.tmp 26) (.tmp 27) rfl w.heap.size hown rfl _ 39 rfl rfl (by omega) hsz ?_)
      intro v1 w1 hown1 hb1
      have hcv := conv_own (P := Tryd.prog) w1 52 9 5 w.heap.size (xs.length + 1) v1 (xs ++ [39]) Tryd.underlying52 Tryd.underlying5 Tryd.underlying9 (by simp) (by rw [List.map_append]; exact hown1)
      have hb2 := hb.trans hb1
      clear hown hown1 hb hb1
      go_wp2_with fail
      go_ret
      rw [hq.out]
      exact ⟨rfl, hb2⟩

theorem value_long (l : List UInt8) (h : 2 < l.length) : valueL l = (0, 5) := by
  match l, h with
  | c :: d :: e :: r, _ => rfl

set_option maxHeartbeats 400000 in
theorem refValue_any (l : List UInt8) (w : World) (hl : l.length ≤ 1000000) :
    Calls Tryd.prog 15 #[.string ⟨l.toArray⟩] w fun e w' => e = .returned (.tuple #[.int .u16 (valueL l).1, .int .i64 (valueL l).2]) ∧ Below w.heap.size w w' := by
  by_cases h2 : 2 < l.length
  · have hv := Lib.hid (value_long l h2)
    have e1 : ((l.length : Int) == 1) = false := by rw [beq_eq_false_iff_ne]; omega
    have e2 : ((l.length : Int) == 2) = false := by rw [beq_eq_false_iff_ne]; omega
    generalize valueL l = v at *
    go_enter Tryd.func15, Tryd.ntmps15
    go_wp2_with fail
    go_ret2
    rw [hv.out]
    exact ⟨rfl, Below.refl _ _⟩
  · match l with
    | [] =>
      clear hl h2
      go_enter Tryd.func15, Tryd.ntmps15
      go_wp2_with fail
      go_ret2
      exact ⟨rfl, Below.refl _ _⟩
    | [c] =>
      clear hl h2
      have h1 := c.toNat_lt
      go_enter Tryd.func15, Tryd.ntmps15
      go_wp2_with fail
      go_ret2
      exact ⟨rfl, Below.refl _ _⟩
    | [c, d] =>
      clear hl h2
      have h1 := c.toNat_lt
      have h2 := d.toNat_lt
      go_enter Tryd.func15, Tryd.ntmps15
      go_wp2_with fail
      go_quiet (fail)
      go_wp2_with fail
      go_ret2
      exact ⟨rfl, below_drewN (Below.refl _ _) _⟩
    | c :: d :: e :: r => exact absurd (by simp) h2

theorem or_low (a b : Nat) (ha : a < 256) (hb : b < 256) : bits .or .u16 ((a : Int) * 256) (b : Int) = ((a * 256 + b : Nat) : Int) := by
  show IntKind.u16.wrap ((BitVec.ofInt 16 ((a : Int) * 256) ||| BitVec.ofInt 16 (b : Int)).toNat : Int) = _
  have h1 : (BitVec.ofInt 16 ((a : Int) * 256)).toNat = a * 256 := by
    rw [show (a : Int) * 256 = ((a * 256 : Nat) : Int) by simp, BitVec.ofInt_natCast, BitVec.toNat_ofNat]; exact Nat.mod_eq_of_lt (by omega)
  have h2 : (BitVec.ofInt 16 (b : Int)).toNat = b := by rw [BitVec.ofInt_natCast, BitVec.toNat_ofNat]; exact Nat.mod_eq_of_lt (by omega)
  rw [BitVec.toNat_or, h1, h2, show a * 256 = a <<< 8 by rw [Nat.shiftLeft_eq], ← Nat.shiftLeft_add_eq_or_of_lt (by simpa using hb), Nat.shiftLeft_eq]
  exact IntWalk.u16_in _ (by omega)

set_option maxHeartbeats 1000000 in
theorem value_any (l : List UInt8) (w : World) (hl : l.length ≤ 1000000) :
    Calls Tryd.prog 14 #[.string ⟨l.toArray⟩] w fun e w' => e = .returned (.tuple #[.int .u16 (valueL l).1, .int .i64 (valueL l).2]) ∧ Below w.heap.size w w' := by
  by_cases h2 : 2 < l.length
  · have hv := Lib.hid (value_long l h2)
    have e1 : (2 : Int) < (l.length : Int) := by omega
    have e2 : l.isEmpty = false := by cases l with | nil => simp at h2 | cons c r => rfl
    generalize valueL l = v at *
    go_enter Tryd.func14, Tryd.ntmps14
    go_wp2_with fail
    go_ret2
    rw [hv.out]
    exact ⟨rfl, Below.refl _ _⟩
  · match l with
    | [] =>
      clear hl h2
      go_enter Tryd.func14, Tryd.ntmps14
      go_wp2_with fail
      go_ret2
      exact ⟨rfl, Below.refl _ _⟩
    | [c] =>
      clear hl h2
      have hcv := fun W => run_bytes_of_string (P := Tryd.prog) W 9 52 5 ⟨[c].toArray⟩ Tryd.underlying9 Tryd.underlying52 Tryd.underlying5
      have h1 := c.toNat_lt
      go_enter Tryd.func14, Tryd.ntmps14
      go_wp2_with fail
      have hc0 : ((w.alloc (Obj.cells (bytesRow ⟨#[c]⟩ (grownCap w 1 0 5)) 5 ((bytesRow ⟨#[c]⟩ (grownCap w 1 0 5)).size, (bytesRow ⟨#[c]⟩ (grownCap w 1 0 5)).size + 1))).drew).cell? ⟨w.heap.size, 0, none⟩ = some (.int .u8 (c.toNat : Int)) :=
        (World.cell?_alloc_mark w _ _ _ 0).trans (bytesRow_at ⟨#[c]⟩ _ 0 (by simp))
      have hbel : Below w.heap.size w (w.alloc (Obj.cells (bytesRow ⟨#[c]⟩ (grownCap w 1 0 5)) 5 ((bytesRow ⟨#[c]⟩ (grownCap w 1 0 5)).size, (bytesRow ⟨#[c]⟩ (grownCap w 1 0 5)).size + 1))).drew := ((Below.refl _ _).alloc (Nat.le_refl _) _).drew
      generalize (w.alloc (Obj.cells (bytesRow ⟨#[c]⟩ (grownCap w 1 0 5)) 5 ((bytesRow ⟨#[c]⟩ (grownCap w 1 0 5)).size, (bytesRow ⟨#[c]⟩ (grownCap w 1 0 5)).size + 1))).drew = w1 at *
      have ho : bits .or .u16 0 (c.toNat : Int) = (c.toNat : Int) := by have := or_low 0 c.toNat (by omega) h1; simpa using this
      refine wp_loop_rounds 2 ?_
      rw [rounds_succ]
      go_wp2_with fail
      rw [rounds_succ]
      go_wp2_with fail
      go_ret2
      exact ⟨rfl, hbel⟩
    | [c, d] =>
      clear hl h2
      have hcv := fun W => run_bytes_of_string (P := Tryd.prog) W 9 52 5 ⟨[c, d].toArray⟩ Tryd.underlying9 Tryd.underlying52 Tryd.underlying5
      have h1 := c.toNat_lt
      have h2 := d.toNat_lt
      go_enter Tryd.func14, Tryd.ntmps14
      go_wp2_with fail
      have hc0 : ((w.alloc (Obj.cells (bytesRow ⟨#[c, d]⟩ (grownCap w 2 0 5)) 5 ((bytesRow ⟨#[c, d]⟩ (grownCap w 2 0 5)).size, (bytesRow ⟨#[c, d]⟩ (grownCap w 2 0 5)).size + 1))).drew).cell? ⟨w.heap.size, 0, none⟩ = some (.int .u8 (c.toNat : Int)) :=
        (World.cell?_alloc_mark w _ _ _ 0).trans (bytesRow_at ⟨#[c, d]⟩ _ 0 (by simp))
      have hc1 : ((w.alloc (Obj.cells (bytesRow ⟨#[c, d]⟩ (grownCap w 2 0 5)) 5 ((bytesRow ⟨#[c, d]⟩ (grownCap w 2 0 5)).size, (bytesRow ⟨#[c, d]⟩ (grownCap w 2 0 5)).size + 1))).drew).cell? ⟨w.heap.size, 1, none⟩ = some (.int .u8 (d.toNat : Int)) :=
        (World.cell?_alloc_mark w _ _ _ 1).trans (bytesRow_at ⟨#[c, d]⟩ _ 1 (by simp))
      have hbel : Below w.heap.size w (w.alloc (Obj.cells (bytesRow ⟨#[c, d]⟩ (grownCap w 2 0 5)) 5 ((bytesRow ⟨#[c, d]⟩ (grownCap w 2 0 5)).size, (bytesRow ⟨#[c, d]⟩ (grownCap w 2 0 5)).size + 1))).drew := ((Below.refl _ _).alloc (Nat.le_refl _) _).drew
      generalize (w.alloc (Obj.cells (bytesRow ⟨#[c, d]⟩ (grownCap w 2 0 5)) 5 ((bytesRow ⟨#[c, d]⟩ (grownCap w 2 0 5)).size, (bytesRow ⟨#[c, d]⟩ (grownCap w 2 0 5)).size + 1))).drew = w1 at *
      have ho : bits .or .u16 0 (c.toNat : Int) = (c.toNat : Int) := by have := or_low 0 c.toNat (by omega) h1; simpa using this
      have ho2 := or_low c.toNat d.toNat h1 h2
      refine wp_loop_rounds 3 ?_
      rw [rounds_succ]
      go_wp2_with fail
      rw [rounds_succ]
      go_wp2_with fail
      rw [rounds_succ]
      go_wp2_with fail
      go_ret2
      exact ⟨rfl, hbel⟩
    | c :: d :: e :: r => exact absurd (by simp) h2
end Go.Proofs.YtnpphfhjpflgiaaDoor

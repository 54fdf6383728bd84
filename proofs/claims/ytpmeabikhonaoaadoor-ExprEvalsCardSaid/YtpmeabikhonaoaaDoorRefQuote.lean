/- The reference's Quote, Unquote, Value; number.Value. -/
import Derived.Test.YtpmeabikhonaoaaDoorRefUpper
import Derived.Test.YtpmeabikhonaoaaDoorKa
import Derived.Lib.SlBytesConst
import Derived.Deep.QuietTactic
import Derived.BigQuiet
namespace Go.Proofs.YtpmeabikhonaoaaDoor
open Go.RowKit

/-- A row of bytes of the call's own; or one that is full. -/
def Own2 (w : World) (base : Nat) (e : TypeId) (v : Value) (n : Nat) (xs : List UInt8) : Prop :=
  w.ownsRow base e 1 v n (xs.map bv) ∨ ∃ g fr, v = .slice (some ⟨g, 0, none⟩) n n ∧ base ≤ g ∧ w.heap[g]? = some (.cells (xs.map bv).toArray e fr) ∧ xs.length = n

theorem append_byte2 {ops : Array Oper} {rest : List Oper} {o : Oper} {a : Act} {Q : Exit → Act → World → Prop} (wr : World) (hgd : o.guard = none) (s x : Operand)
    (ho : o.op = .call { callee := .builtin .append, args := #[s, x], argTypes := #[105, 105] })
    (base : Nat) {v : Value} {n : Nat} {xs : List UInt8} (hown : Own2 wr base 5 v n xs) (hs : a.eval s = v)
    (c : Int) (c' : UInt8) (hc : c = (c'.toNat : Int)) (hx : a.eval x = .slice (some ⟨wr.heap.size, 0, none⟩) 1 1) (hn : n ≤ 1000000000) (hbase : base ≤ wr.heap.size)
    (h : ∀ v' w', w'.ownsRow base 5 1 v' (n + 1) ((xs ++ [c']).map bv) → Below base wr w' → wpList Tryd.prog ops Q rest (a.put o.dst v') w') : wpList Tryd.prog ops Q (o :: rest) a (wr.alloc (.cells #[.int .u8 c] 5)) := by
  rcases hown with hown | ⟨g, fr, rfl, hg0, hg, rfl⟩
  · exact append_byte wr hgd s x ho base hown hs c c' hc hx hn hbase h
  · subst hc
    obtain ⟨i0, hi, hz0, hz1, hz2⟩ := info_parts info_u8
    refine wpList_append_grows _ hgd s x 105 ho 5 i0 (.int .u8 0) 1 1 Tryd.underlying105 hi hz0 hz1 hz2 rfl (by decide) (some ⟨g, 0, none⟩) xs.length xs.length (xs.map bv) hs (fun h => by cases h) (by simp) ?_ ⟨wr.heap.size, 0, none⟩ 1 1 [bv c'] hx rfl (cell_one_new _ _ _) (by intro u hu; simp at hu; subst hu; rfl) (by omega) (by unfold maxLen; omega) (by omega) ?_
    · intro b hb j u hu
      cases hb
      have hlt := lt_of_heap hg
      have hadd : (⟨g, 0, none⟩ : Addr).add j = ⟨g, j, none⟩ := by unfold Addr.add; split <;> simp_all
      rw [hadd, World.cell?_alloc_lt _ _ _ hlt, cell_of_heap hg]
      simpa using hu
    · intro v' w' h1 h2
      refine h v' w' ?_ (((Below.refl _ _).alloc hbase _).grown h2 (by simp; omega) (fun k hk => by cases hk))
      rw [List.map_append]
      refine ⟨h1.1, ?_⟩
      rcases h1.2 with h3 | ⟨g', cap, cur, h3, h4, h5⟩
      · exact .inl h3
      · exact .inr ⟨g', cap, cur, h3, by simp at h4; omega, h5⟩

theorem dbl_snoc (l : List UInt8) (c : UInt8) : dbl (l ++ [c]) = dbl l ++ (if c = 39 then [39, 39] else [c]) := by
  induction l with
  | nil => simp [dbl]
  | cons d r ih => rw [List.cons_append, dbl, ih, dbl]; split <;> simp

end Go.Proofs.YtpmeabikhonaoaaDoor

/- More small lemmas on memory. -/
import Derived.Test.YtnpphfhjpflgiaaDoorBase
namespace Go.Proofs.YtnpphfhjpflgiaaDoor
open Go.RowKit

/-- As wpList_append_one, the new block's number by a letter. -/
theorem wpList_append_at {P : Program} {ops : Array Oper} {rest : List Oper} {o : Oper} {a : Act} {Q : Exit → Act → World → Prop} (wr : World) (H : Nat) (hH : wr.heap.size = H) (hgd : o.guard = none) (s x : Operand) (t : TypeId)
    (ho : o.op = .call { callee := .builtin .append, args := #[s, x], argTypes := #[t, t] })
    (base : Nat) (e : TypeId) (z : Value) (size bytes : Nat) (ht : P.underlying t = some (.slice e)) (hinfo : (P.info? e).map (fun i => (i.zero, i.size, i.bytes)) = some (some z, size, bytes)) (hzs : z.cells.size = size) (hsz : 0 < size)
    {v : Value} {n : Nat} {xs : List Value} (hown : wr.ownsRow base e size v n xs) (hs : a.eval s = v)
    (cs : List Value) (e' : TypeId) (hx : a.eval x = .slice (some ⟨H, 0, none⟩) 1 1) (hl : cs.length = size) (h1 : ∀ u ∈ cs, u.oneCell' = true)
    (hn : n ≤ 1000000000) (hby : bytes ≤ 1000) (hbase : base ≤ wr.heap.size)
    (h : ∀ v' w', w'.ownsRow base e size v' (n + 1) (xs ++ cs) → Below base wr w' → wpList P ops Q rest (a.put o.dst v') w') : wpList P ops Q (o :: rest) a (wr.alloc (.cells cs.toArray e')) := by
  subst hH
  exact wpList_append_one wr hgd s x t ho base e z size bytes ht hinfo hzs hsz v n xs hs hown cs e' hx hl h1 hn hby hbase h
end Go.Proofs.YtnpphfhjpflgiaaDoor

/- The reference's Upper. -/
import Derived.Test.YtnpphfhjpflgiaaDoorRows
import Derived.Test.YtnpphfhjpflgiaaDoorBase
import Derived.Test.YtnpphfhjpflgiaaDoorPureNum
namespace Go.Proofs.YtnpphfhjpflgiaaDoor
open Go.RowKit

theorem info_u8 : (Tryd.prog.info? 5).map (fun i => (i.zero, i.size, i.bytes)) = some (some (.int .u8 0), 1, 1) := by kernel_rfl

theorem up_snoc (l : List UInt8) (k : Nat) (hk : k < l.length) : (upper (l.take (k + 1))).map bv = (upper (l.take k)).map bv ++ [bv (upB l[k])] := by
  unfold upper; rw [List.take_succ_eq_append_getElem hk, List.map_append, List.map_append]; rfl
theorem up_val32 (c : UInt8) (h : 97 ≤ c.toNat) (h' : c.toNat ≤ 122) : Value.int .u8 ((c.toNat : Int) - 32) = bv (upB c) := by
  have : (upB c).toNat = c.toNat - 32 := by
    unfold upB; rw [if_pos ⟨h, h'⟩, UInt8.toNat_sub_of_le]; rfl
    rw [UInt8.le_iff_toNat_le]; show 32 ≤ c.toNat; omega
  unfold bv; rw [this]; congr 1; omega

/-- 'string(b)', b a row of bytes of the call's own. -/
theorem conv_own {P : Program} (w : World) (src dst e : TypeId) (base n : Nat) (v : Value) (l : List UInt8) (hs : P.underlying src = some (.slice e)) (he : P.underlying e = some (.int .u8)) (hd : P.underlying dst = some .string)
    (hn : l.length = n) (h : w.ownsRow base e 1 v n (l.map bv)) : (convert src dst v).run P w = .ok (.string ⟨l.toArray⟩) w := by
  rcases h.2 with ⟨rfl, rfl⟩ | ⟨g, cap, cur, rfl, _, hg, _, _, _, ht⟩
  · obtain rfl : l = [] := List.eq_nil_of_length_eq_zero hn
    exact run_convert_bytes_nil w src e hs he 0 0 dst hd
  · refine conv_back w src dst e g 0 cap n l hs he hd hn fun j hj => ?_
    rw [Nat.zero_add, cell_of_heap hg]
    have : (cur.toList.take (n * 1))[j]? = some (bv l[j]) := by rw [ht]; simp [hj]
    rw [List.getElem?_take] at this
    split at this
    · simpa using this
    · cases this

/-- 'b = append(b, c)', bytes. -/
theorem append_byte {ops : Array Oper} {rest : List Oper} {o : Oper} {a : Act} {Q : Exit → Act → World → Prop} (wr : World) (hgd : o.guard = none) (s x : Operand)
    (ho : o.op = .call { callee := .builtin .append, args := #[s, x], argTypes := #[52, 52] })
    (base : Nat) {v : Value} {n : Nat} {xs : List UInt8} (hown : wr.ownsRow base 5 1 v n (xs.map bv)) (hs : a.eval s = v)
    (c : Int) (c' : UInt8) (hc : c = (c'.toNat : Int)) (hx : a.eval x = .slice (some ⟨wr.heap.size, 0, none⟩) 1 1) (hn : n ≤ 1000000000) (hbase : base ≤ wr.heap.size)
    (h : ∀ v' w', w'.ownsRow base 5 1 v' (n + 1) ((xs ++ [c']).map bv) → Below base wr w' → wpList Tryd.prog ops Q rest (a.put o.dst v') w') : wpList Tryd.prog ops Q (o :: rest) a (wr.alloc (.cells #[.int .u8 c] 5)) := by
  subst hc
  refine wpList_append_one wr hgd s x 52 ho base 5 (.int .u8 0) 1 1 Tryd.underlying52 info_u8 rfl (by decide) v n (xs.map bv) hs hown [bv c'] 5 hx rfl (by intro u hu; simp at hu; subst hu; rfl) hn (by decide) hbase ?_
  intro v' w' h1 h2
  exact h v' w' (by rw [List.map_append]; exact h1) h2

set_option maxHeartbeats 400000 in
theorem refUpper_any (l : List UInt8) (w : World) (hl : l.length ≤ 1000000) :
    Calls Tryd.prog 53 #[.string ⟨l.toArray⟩] w fun e w' => e = .returned (.string ⟨(upper l).toArray⟩) ∧ Below w.heap.size w w' := by
  obtain ⟨i0, hi, hz0, hz1, hz2⟩ := info_parts info_u8
  go_enter Tryd.func53, Tryd.ntmps53
  go_wp2
  go_loopw [3, 4, 5] (fun v i _ wr => ∃ k : Nat, k ≤ l.length ∧ i = .int .i64 k ∧ wr.ownsRow w.heap.size 5 1 v k ((upper (l.take k)).map bv) ∧ Below w.heap.size w wr) (fun _ i _ _ => l.length - (intOf i).toNat)
  case atStart => exact ⟨0, Nat.zero_le _, rfl, World.ownsRow_nil _ _ _ _, Below.refl _ _⟩
  case round =>
    obtain ⟨k, hk, rfl, hown, hb⟩ := hrel
    by_cases hlt : k < l.length
    · have HS := Lib.hid (up_snoc l k hlt)
      have hsz := hb.size
      by_cases hc : 97 ≤ l[k].toNat ∧ l[k].toNat ≤ 122
      · obtain ⟨h1, h2⟩ := hc
        have h1' : (97 : Int) ≤ (l[k].toNat : Int) := by omega
        have h2' : (l[k].toNat : Int) ≤ 122 := by omega
        go_wp2_with (at_builtin; refine wpList_append_own _ rfl _ _ 52 rfl w.heap.size 5 i0 (.int .u8 0) 1 1 Tryd.underlying52 hi hz0 hz1 hz2 rfl (by decide) _ _ _ rfl (hown.alloc _) ⟨wr.heap.size, 0, none⟩ 1 1 [.int .u8 ((l[k].toNat : Int) - 32)] rfl rfl (cell_one_new _ _ _) ?c2 ?c3 ?c4 ?c5 ?_)
        case c2 => intro u hu; simp at hu; subst hu; rfl
        case c3 => unfold maxLen; omega
        case c4 => omega
        case c5 => simp; omega
        intro v' w1 hown' hgrow _
        have hb1 : Below w.heap.size w w1 := (hb.alloc hsz _).grown hgrow (by simp; omega) (fun g hg => (hown.lt g hg).1)
        have R : w1.ownsRow w.heap.size 5 1 v' (k + 1) ((upper (l.take (k + 1))).map bv) := by rw [HS.out, ← up_val32 _ h1 h2]; exact hown'
        clear hown' hgrow hown
        go_wp2
        go_roundw
        case rel => exact ⟨k + 1, by omega, by go_num, R, hb1⟩
        case measure => simp [intOf]; omega
      · have hno := Lib.hid (show upB l[k] = l[k] by unfold upB; rw [if_neg hc])
        have hcs : (l[k].toNat : Int) < 97 ∨ ((97 : Int) ≤ (l[k].toNat : Int) ∧ (122 : Int) < (l[k].toNat : Int)) := by omega
        clear hc
        rcases hcs with h1 | ⟨h1, h2⟩
        all_goals
          go_wp2_with (at_builtin; refine wpList_append_own _ rfl _ _ 52 rfl w.heap.size 5 i0 (.int .u8 0) 1 1 Tryd.underlying52 hi hz0 hz1 hz2 rfl (by decide) _ _ _ rfl (hown.alloc _) ⟨wr.heap.size, 0, none⟩ 1 1 [.int .u8 (l[k].toNat : Int)] rfl rfl (cell_one_new _ _ _) (by intro u hu; simp at hu; subst hu; rfl) (by unfold maxLen; omega) (by omega) (by simp; omega) ?_)
          intro v' w1 hown' hgrow _
          have hb1 : Below w.heap.size w w1 := (hb.alloc hsz _).grown hgrow (by simp; omega) (fun g hg => (hown.lt g hg).1)
          have R : w1.ownsRow w.heap.size 5 1 v' (k + 1) ((upper (l.take (k + 1))).map bv) := by rw [HS.out, hno.out]; exact hown'
          clear hown' hgrow hown
          go_wp2
          go_roundw
          case rel => exact ⟨k + 1, by omega, by go_num, R, hb1⟩
          case measure => simp [intOf]; omega
    · obtain rfl : k = l.length := by omega
      rw [List.take_length] at hown
      have hcv := conv_own (P := Tryd.prog) wr 52 9 5 w.heap.size l.length u3 (upper l) Tryd.underlying52 Tryd.underlying5 Tryd.underlying9 (by simp [upper]) hown
      clear hown
      go_wp2
      go_ret
      exact ⟨rfl, hb⟩
end Go.Proofs.YtnpphfhjpflgiaaDoor

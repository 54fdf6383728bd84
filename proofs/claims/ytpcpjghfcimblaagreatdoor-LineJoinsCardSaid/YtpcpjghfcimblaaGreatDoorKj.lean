/- Several texts in one: RefUpper, RefQuote, RefParse, RefUnquote, RefNext, RefLine, Rd, TokShow. -/
import Derived.Test.YtpcpjghfcimblaaGreatDoorKa
import Derived.Lib.SlBytesConst
import Derived.Deep.QuietTactic
import Derived.BigQuiet
import Derived.Deep.DeepCutAuto
import Derived.Deep.CutBlock
import Derived.Test.YtpcpjghfcimblaaGreatDoorKd
namespace Go.Proofs.YtpcpjghfcimblaaGreatDoor
open Go.RowKit

set_option maxHeartbeats 1000000 in
set_option maxRecDepth 100000 in
theorem refUpper_any (l : List UInt8) (w : World) (hl : l.length ≤ 1000000) :
    Calls Tryz.prog 117 #[.string ⟨l.toArray⟩] w fun e w' => e = .returned (.string ⟨(upper l).toArray⟩) ∧ Below w.heap.size w w' := by
  obtain ⟨i0, hi, hz0, hz1, hz2⟩ := info_parts info_u8
  go_enter Tryz.func117, Tryz.ntmps117
  go_wp2
  go_loopw [3, 4, 5] (fun v i _ wr => ∃ k : Nat, k ≤ l.length ∧ i = .int .i64 k ∧ wr.ownsRow w.heap.size 5 1 v k ((upper (l.take k)).map bv) ∧ Below w.heap.size w wr) (fun _ i _ _ => l.length - (intOf i).toNat)
  case atStart => exact ⟨0, Nat.zero_le _, rfl, World.ownsRow_nil _ _ _ _, Below.refl _ _⟩
  case round =>
    obtain ⟨k, hk, rfl, hown, hb⟩ := hrel
    by_cases hlt : k < l.length
    · have HS := Lib.hid (up_snoc l k hlt)
      have hsz := hb.size
      by_cases hc : 97 ≤ l[k].toNat ∧ l[k].toNat ≤ 122
      · obtain ⟨h1, h2⟩ := hc
        have h1' : (97 : Int) ≤ (l[k].toNat : Int) := by omega
        have h2' : (l[k].toNat : Int) ≤ 122 := by omega
        go_wp2_with (at_builtin; refine wpList_append_own _ rfl _ _ 34 rfl w.heap.size 5 i0 (.int .u8 0) 1 1 Tryz.underlying34 hi hz0 hz1 hz2 rfl (by decide) _ _ _ rfl (hown.alloc _) ⟨wr.heap.size, 0, none⟩ 1 1 [.int .u8 ((l[k].toNat : Int) - 32)] rfl rfl (cell_one_new _ _ _) ?c2 ?c3 ?c4 ?c5 ?_)
        case c2 => intro u hu; simp at hu; subst hu; rfl
        case c3 => unfold maxLen; omega
        case c4 => omega
        case c5 => simp; omega
        intro v' w1 hown' hgrow _
        have hb1 : Below w.heap.size w w1 := (hb.alloc hsz _).grown hgrow (by simp; omega) (fun g hg => (hown.lt g hg).1)
        have R : w1.ownsRow w.heap.size 5 1 v' (k + 1) ((upper (l.take (k + 1))).map bv) := by rw [HS.out, ← up_val32 _ h1 h2]; exact hown'
        clear hown' hgrow hown
        go_wp2
        go_roundw
        case rel => exact ⟨k + 1, by omega, by go_num, R, hb1⟩
        case measure => simp [intOf]; omega
      · have hno := Lib.hid (show upB l[k] = l[k] by unfold upB; rw [if_neg hc])
        have hcs : (l[k].toNat : Int) < 97 ∨ ((97 : Int) ≤ (l[k].toNat : Int) ∧ (122 : Int) < (l[k].toNat : Int)) := by omega
        clear hc
        rcases hcs with h1 | ⟨h1, h2⟩
        all_goals
          go_wp2_with (at_builtin; refine wpList_append_own _ rfl _ _ 34 rfl w.heap.size 5 i0 (.int .u8 0) 1 1 Tryz.underlying34 hi hz0 hz1 hz2 rfl (by decide) _ _ _ rfl (hown.alloc _) ⟨wr.heap.size, 0, none⟩ 1 1 [.int .u8 (l[k].toNat : Int)] rfl rfl (cell_one_new _ _ _) (by intro u hu; simp at hu; subst hu; rfl) (by unfold maxLen; omega) (by omega) (by simp; omega) ?_)
          intro v' w1 hown' hgrow _
          have hb1 : Below w.heap.size w w1 := (hb.alloc hsz _).grown hgrow (by simp; omega) (fun g hg => (hown.lt g hg).1)
          have R : w1.ownsRow w.heap.size 5 1 v' (k + 1) ((upper (l.take (k + 1))).map bv) := by rw [HS.out, hno.out]; exact hown'
          clear hown' hgrow hown
          go_wp2
          go_roundw
          case rel => exact ⟨k + 1, by omega, by go_num, R, hb1⟩
          case measure => simp [intOf]; omega
    · obtain rfl : k = l.length := by omega
      rw [List.take_length] at hown
      have hcv := conv_own (P := Tryz.prog) wr 34 9 5 w.heap.size l.length u3 (upper l) Tryz.underlying34 Tryz.underlying5 Tryz.underlying9 (by simp [upper]) hown
      clear hown
      go_wp2
      go_ret
      exact ⟨rfl, hb⟩
end Go.Proofs.YtpcpjghfcimblaaGreatDoor
/- The reference's Quote, Unquote, Value; number.Value. -/
namespace Go.Proofs.YtpcpjghfcimblaaGreatDoor
open Go.RowKit

/-- A row of bytes of the call's own; or one that is full. -/
def Own2 (w : World) (base : Nat) (e : TypeId) (v : Value) (n : Nat) (xs : List UInt8) : Prop :=
  w.ownsRow base e 1 v n (xs.map bv) ∨ ∃ g fr, v = .slice (some ⟨g, 0, none⟩) n n ∧ base ≤ g ∧ w.heap[g]? = some (.cells (xs.map bv).toArray e fr) ∧ xs.length = n

theorem append_byte2 {ops : Array Oper} {rest : List Oper} {o : Oper} {a : Act} {Q : Exit → Act → World → Prop} (wr : World) (hgd : o.guard = none) (s x : Operand)
    (ho : o.op = .call { callee := .builtin .append, args := #[s, x], argTypes := #[34, 34] })
    (base : Nat) {v : Value} {n : Nat} {xs : List UInt8} (hown : Own2 wr base 5 v n xs) (hs : a.eval s = v)
    (c : Int) (c' : UInt8) (hc : c = (c'.toNat : Int)) (hx : a.eval x = .slice (some ⟨wr.heap.size, 0, none⟩) 1 1) (hn : n ≤ 1000000000) (hbase : base ≤ wr.heap.size)
    (h : ∀ v' w', w'.ownsRow base 5 1 v' (n + 1) ((xs ++ [c']).map bv) → Below base wr w' → wpList Tryz.prog ops Q rest (a.put o.dst v') w') : wpList Tryz.prog ops Q (o :: rest) a (wr.alloc (.cells #[.int .u8 c] 5)) := by
  rcases hown with hown | ⟨g, fr, rfl, hg0, hg, rfl⟩
  · exact append_byte wr hgd s x ho base hown hs c c' hc hx hn hbase h
  · subst hc
    obtain ⟨i0, hi, hz0, hz1, hz2⟩ := info_parts info_u8
    refine wpList_append_grows _ hgd s x 34 ho 5 i0 (.int .u8 0) 1 1 Tryz.underlying34 hi hz0 hz1 hz2 rfl (by decide) (some ⟨g, 0, none⟩) xs.length xs.length (xs.map bv) hs (fun h => by cases h) (by simp) ?_ ⟨wr.heap.size, 0, none⟩ 1 1 [bv c'] hx rfl (cell_one_new _ _ _) (by intro u hu; simp at hu; subst hu; rfl) (by omega) (by unfold maxLen; omega) (by omega) ?_
    · intro b hb j u hu
      cases hb
      have hlt := lt_of_heap hg
      have hadd : (⟨g, 0, none⟩ : Addr).add j = ⟨g, j, none⟩ := by unfold Addr.add; split <;> simp_all
      rw [hadd, World.cell?_alloc_lt _ _ _ hlt, cell_of_heap hg]
      simpa using hu
    · intro v' w' h1 h2
      refine h v' w' ?_ (((Below.refl _ _).alloc hbase _).grown h2 (by simp; omega) (fun k hk => by cases hk))
      rw [List.map_append]
      refine ⟨h1.1, ?_⟩
      rcases h1.2 with h3 | ⟨g', cap, cur, h3, h4, h5⟩
      · exact .inl h3
      · exact .inr ⟨g', cap, cur, h3, by simp at h4; omega, h5⟩

theorem dbl_snoc (l : List UInt8) (c : UInt8) : dbl (l ++ [c]) = dbl l ++ (if c = 39 then [39, 39] else [c]) := by
  induction l with
  | nil => simp [dbl]
  | cons d r ih => rw [List.cons_append, dbl, ih, dbl]; split <;> simp

set_option maxHeartbeats 1000000 in
theorem refQuote_any (l : List UInt8) (w : World) (hl : l.length ≤ 1000000) :
    Calls Tryz.prog 119 #[.string ⟨l.toArray⟩] w fun e w' => e = .returned (.string ⟨(quoteL l).toArray⟩) ∧ Below w.heap.size w w' := by
  have kc := fun (w : World) (C : Array Value) (n c : Nat) => Lib.run_convert_bytes_const (P := Tryz.prog) w 34 5 C n c Tryz.underlying34 Tryz.underlying5
  go_enter Tryz.func119, Tryz.ntmps119
  go_wp2_with fail
  clear kc
  go_loopw [3, 4] (fun v i wr => ∃ k : Nat, k ≤ l.length ∧ i = .int .i64 k ∧ Own2 wr w.heap.size 5 v (39 :: dbl (l.take k)).length (39 :: dbl (l.take k)) ∧ Below w.heap.size w wr) (fun _ i _ => l.length - (intOf i).toNat)
  case atStart => exact ⟨0, Nat.zero_le _, rfl, .inr ⟨w.heap.size, (1, 2), rfl, Nat.le_refl _, heap_alloc_new _ _, rfl⟩, (Below.refl _ _).alloc (Nat.le_refl _) _⟩
  case round =>
    obtain ⟨k, hk, rfl, hown, hb⟩ := hrel
    have hsz := hb.size
    have hdl : (39 :: dbl (l.take k)).length ≤ 2000001 := by have := (dbl_length (l.take k)).2; have h2 := List.length_take_le k l; simp; omega
    by_cases hlt : k < l.length
    · have hsn : 39 :: dbl (l.take (k + 1)) = (39 :: dbl (l.take k)) ++ (if l[k] = 39 then [39, 39] else [l[k]]) := by
        rw [List.take_succ_eq_append_getElem hlt, dbl_snoc]; rfl
      generalize 39 :: dbl (l.take k) = xs at *
      by_cases hc : l[k] = 39
      · rw [if_pos hc] at hsn
        have HS := Lib.hid hsn
        clear hsn
        go_wp2_with (at_builtin; refine append_byte2 wr rfl (.tmp 13) (.tmp 17) rfl w.heap.size hown rfl _ 39 rfl rfl (by omega) hsz ?_)
        intro v1 w1 hown1' hb1
        have hown1 : w1.ownsRow w.heap.size 5 1 v1 (xs.length + 1) ((xs ++ [39]).map bv) := by rw [List.map_append]; exact hown1'
        clear hown1'
        have hsz1 := Nat.le_trans hsz hb1.size
        have hb2 := hb.trans hb1
        clear hb hb1 hown
        go_wp2_with (at_builtin; refine append_byte w1 rfl (.tmp 23) (.tmp 24) rfl w.heap.size hown1 rfl _ 39 rfl rfl (by omega) hsz1 ?_)
        intro v2 w2 hown2 hb3
        have hb4 := hb2.trans hb3
        have R : Hid (Own2 w2 w.heap.size 5 v2 (39 :: dbl (l.take (k + 1))).length (39 :: dbl (l.take (k + 1)))) := by
          rw [HS.out]
          have e : xs ++ [39, 39] = (xs ++ [39]) ++ [39] := by simp
          rw [e]
          refine Lib.hid (.inl ?_)
          have en : ((xs ++ [39]) ++ [39]).length = xs.length + 1 + 1 := by simp
          rw [en, List.map_append, List.map_append]; simpa using hown2
        clear hown1 hown2 hb3 hb2
        go_wp2_with fail
        go_roundw
        case rel => exact ⟨k + 1, by omega, by go_num, R.out, hb4⟩
        case measure => simp [intOf]; omega
      · rw [if_neg hc] at hsn
        have HS := Lib.hid hsn
        clear hsn
        have e1 : ((l[k].toNat : Int) == 39) = false := by
          rw [beq_eq_false_iff_ne]; intro h; apply hc; apply UInt8.toNat.inj; show l[k].toNat = 39; omega
        clear hc
        go_wp2_with (at_builtin; refine append_byte2 wr rfl (.tmp 13) (.tmp 17) rfl w.heap.size hown rfl _ l[k] rfl rfl (by omega) hsz ?_)
        intro v1 w1 hown1 hb1
        have hb2 := hb.trans hb1
        have R : Hid (Own2 w1 w.heap.size 5 v1 (39 :: dbl (l.take (k + 1))).length (39 :: dbl (l.take (k + 1)))) := by
          rw [HS.out]
          refine Lib.hid (.inl ?_)
          have en : (xs ++ [l[k]]).length = xs.length + 1 := by simp
          rw [en, List.map_append]; exact hown1
        clear hown hown1 hb hb1
        go_wp2_with fail
        go_roundw
        case rel => exact ⟨k + 1, by omega, by go_num, R.out, hb2⟩
        case measure => simp [intOf]; omega
    · obtain rfl : k = l.length := by omega
      rw [List.take_length] at hown hdl
      have hq : Hid (quoteL l = (39 :: dbl l) ++ [39]) := Lib.hid rfl
      generalize 39 :: dbl l = xs at *
      go_wp2_with (at_builtin; refine append_byte2 wr rfl (.tmp 26) (.tmp 27) rfl w.heap.size hown rfl _ 39 rfl rfl (by omega) hsz ?_)
      intro v1 w1 hown1 hb1
      have hcv := conv_own (P := Tryz.prog) w1 34 9 5 w.heap.size (xs.length + 1) v1 (xs ++ [39]) Tryz.underlying34 Tryz.underlying5 Tryz.underlying9 (by simp) (by rw [List.map_append]; exact hown1)
      have hb2 := hb.trans hb1
      clear hown hown1 hb hb1
      go_wp2_with fail
      go_ret
      rw [hq.out]
      exact ⟨rfl, hb2⟩



end Go.Proofs.YtpcpjghfcimblaaGreatDoor
/- The reference's Parse. -/
namespace Go.Proofs.YtpcpjghfcimblaaGreatDoor
open Go.RowKit

theorem base_ways (c : UInt8) :
    (((c.toNat : Int) == 72) = true ∧ baseN c = 16 ∧ baseC c = true) ∨
    (((c.toNat : Int) == 72) = false ∧ ((c.toNat : Int) == 79) = true ∧ baseN c = 8 ∧ baseC c = true) ∨
    (((c.toNat : Int) == 72) = false ∧ ((c.toNat : Int) == 79) = false ∧ ((c.toNat : Int) == 81) = true ∧ baseN c = 8 ∧ baseC c = true) ∨
    (((c.toNat : Int) == 72) = false ∧ ((c.toNat : Int) == 79) = false ∧ ((c.toNat : Int) == 81) = false ∧ ((c.toNat : Int) == 66) = true ∧ baseN c = 2 ∧ baseC c = true) ∨
    (((c.toNat : Int) == 72) = false ∧ ((c.toNat : Int) == 79) = false ∧ ((c.toNat : Int) == 81) = false ∧ ((c.toNat : Int) == 66) = false ∧ ((c.toNat : Int) == 68) = true ∧ baseN c = 10 ∧ baseC c = true) ∨
    (((c.toNat : Int) == 72) = false ∧ ((c.toNat : Int) == 79) = false ∧ ((c.toNat : Int) == 81) = false ∧ ((c.toNat : Int) == 66) = false ∧ ((c.toNat : Int) == 68) = false ∧ baseN c = 10 ∧ baseC c = false) := by
  unfold baseN baseC
  cases (c.toNat : Int) == 72 <;> cases (c.toNat : Int) == 79 <;> cases (c.toNat : Int) == 81 <;> cases (c.toNat : Int) == 66 <;> cases (c.toNat : Int) == 68 <;> simp
theorem head_get (l : List UInt8) (h : 1 ≤ l.length) : l.headD 0 = l[0]'(by omega) := by
  cases l with
  | nil => simp at h
  | cons c r => rfl

end Go.Proofs.YtpcpjghfcimblaaGreatDoor
/- The reference's Unquote. -/
namespace Go.Proofs.YtpcpjghfcimblaaGreatDoor
open Go.RowKit

/-- So far xs has come out of the first k bytes. -/
def UnqAt (t xs : List UInt8) (k : Nat) : Prop := unq t = (unq (t.drop k)).map (xs ++ ·)
theorem UnqAt.zero (t : List UInt8) : UnqAt t [] 0 := by unfold UnqAt; simp
theorem unq_odd (t : List UInt8) (k : Nat) (hk : k < t.length) (h : oddB t[k] = true) : unq (t.drop k) = none := by
  rw [List.drop_eq_getElem_cons hk]
  cases h2 : t.drop (k + 1) with
  | nil => rw [unq, if_pos h]
  | cons d r => rw [unq, if_pos h]
theorem unq_plain (t : List UInt8) (k : Nat) (hk : k < t.length) (h : oddB t[k] = false) (h39 : t[k] ≠ 39) : unq (t.drop k) = (unq (t.drop (k + 1))).map (t[k] :: ·) := by
  rw [List.drop_eq_getElem_cons hk]
  cases h2 : t.drop (k + 1) with
  | nil => rw [show unq [t[k]] = some [t[k]] by rw [unq, h, if_neg (by simp), if_neg h39], unq]; rfl
  | cons d r => rw [unq, h, if_neg (by simp), if_neg h39]
theorem unq_lone (t : List UInt8) (k : Nat) (hk : k < t.length) (h39 : t[k] = 39) (h : k + 1 = t.length ∨ ∃ h2 : k + 1 < t.length, t[k + 1] ≠ 39) : unq (t.drop k) = none := by
  have o39 : oddB 39 = false := by decide
  rw [List.drop_eq_getElem_cons hk, h39]
  rcases h with h | ⟨h2, h3⟩
  · rw [List.drop_of_length_le (by omega), unq, o39, if_neg (by simp), if_pos rfl]
  · rw [List.drop_eq_getElem_cons h2, unq, o39, if_neg (by simp), if_pos rfl, if_neg h3]
theorem unq_two (t : List UInt8) (k : Nat) (hk : k + 1 < t.length) (h39 : t[k] = 39) (h2 : t[k + 1] = 39) : unq (t.drop k) = (unq (t.drop (k + 2))).map (39 :: ·) := by
  have o39 : oddB 39 = false := by decide
  rw [List.drop_eq_getElem_cons (by omega : k < t.length), h39, List.drop_eq_getElem_cons hk, h2, unq, o39, if_neg (by simp), if_pos rfl, if_pos rfl]
theorem UnqAt.step {t xs : List UInt8} {k j : Nat} {c : UInt8} (h : UnqAt t xs k) (h2 : unq (t.drop k) = (unq (t.drop j)).map (c :: ·)) : UnqAt t (xs ++ [c]) j := by
  unfold UnqAt at *
  rw [h, h2, Option.map_map]
  congr 1
  funext x; simp
theorem UnqAt.none {t xs : List UInt8} {k : Nat} (h : UnqAt t xs k) (h2 : unq (t.drop k) = none) : unq t = none := by
  unfold UnqAt at h; rw [h, h2]; rfl
theorem UnqAt.end_ {t xs : List UInt8} (h : UnqAt t xs t.length) : unq t = some xs := by
  unfold UnqAt at h; rw [h, List.drop_length, unq]; simp

end Go.Proofs.YtpcpjghfcimblaaGreatDoor
/- The reference's mark and next. -/
namespace Go.Proofs.YtpcpjghfcimblaaGreatDoor
open Go.RowKit

theorem marks_get : ∀ k : Fin 11, ∀ n : Fin 256, markB (UInt8.ofNat n.val) = ((marks.take k.val).contains (UInt8.ofNat n.val) || (marks.drop k.val).contains (UInt8.ofNat n.val)) := by decide +kernel
theorem qlen_step (t : List UInt8) (n : Nat) (h1 : 1 ≤ t.length) (h : t.headD 0 ≠ 39) : qlen t n = qlen (t.drop 1) (n + 1) := by
  match t, h1, h with
  | [c], _, h => rw [qlen, if_neg (by simpa using h)]; rfl
  | c :: d :: r, _, h => rw [qlen, if_neg (by simpa using h)]; rfl

end Go.Proofs.YtpcpjghfcimblaaGreatDoor
/- The reference's Line. -/
namespace Go.Proofs.YtpcpjghfcimblaaGreatDoor
open Go.RowKit

end Go.Proofs.YtpcpjghfcimblaaGreatDoor
/- Back and Own. -/
namespace Go.Proofs.YtpcpjghfcimblaaGreatDoor
open Go.RowKit

end Go.Proofs.YtpcpjghfcimblaaGreatDoor
/- token.Show. -/
namespace Go.Proofs.YtpcpjghfcimblaaGreatDoor
open Go.RowKit

def wordV (t : Tok) : Value := .string ⟨(wordT t).toArray⟩
theorem info_str : (Tryz.prog.info? 9).map (fun i => (i.zero, i.size, i.bytes)) = some (some (.string ⟨#[]⟩), 1, 16) := by kernel_rfl

theorem one_str (b : ByteArray) : ∀ u ∈ [Value.string b], u.oneCell' = true := by intro u hu; simp at hu; subst hu; rfl
theorem showT_join (ts : List Tok) : Lib.join (ts.map wordT) [32] = showT ts := by
  induction ts with
  | nil => rfl
  | cons t ts ih =>
    cases ts with
    | nil => simp [Lib.join, showT]
    | cons u us =>
      simp only [List.map_cons, Lib.join_cons, showT] at ih ⊢
      rw [← ih]
      simp [Lib.joinTail]
theorem showT_length (ts : List Tok) (h : ∀ t ∈ ts, t.2.2 ≤ 65535 ∧ t.2.1.length ≤ 1000) : (showT ts).length ≤ 2009 * ts.length := by
  induction ts with
  | nil => simp [showT]
  | cons t ts ih =>
    have h1 := wordT_length t (h t (by simp)).1
    have h2 := (h t (by simp)).2
    have ih := ih (fun u hu => h u (by simp [hu]))
    cases ts with
    | nil => simp only [showT, List.length_cons, List.length_nil]; omega
    | cons u us => simp only [showT, List.length_append, List.length_cons] at ih ⊢; omega

end Go.Proofs.YtpcpjghfcimblaaGreatDoor

/- Ue. -/
import Derived.Test.YtagplldaooipmaaGreatDoorKa
import Derived.Maps.OwnOps
import Derived.Maps.OwnSet
import Derived.Maps.Views
import Derived.Test.YtagplldaooipmaaGreatDoorShelf
import Derived.Lib.Builder
import Derived.Lib.AppendStr
import Derived.Lib.UnsafeStr
import Derived.Laws.Externs
import Derived.RegionTactic
import Derived.Deep.RegionLaw
namespace Go.Proofs.YtagplldaooipmaaGreatDoor
open Go.RowKit
theorem zero_bool (w : World) : (zeroValue 4).run Tryz.prog w = .ok (.bool false) w := by kernel_rfl
theorem int_key : Maps.Keyed Tryz.prog 3 := Maps.int_keyed Tryz.underlying3
abbrev litI (x : Int) : Lit := .int .i64 x
theorem litI_wf (x : Int) (h1 : -1 ≤ x) (h2 : x ≤ 1000000) : (litI x).wf = true := by
  have e1 : IntKind.i64.min = -9223372036854775808 := by decide
  simp [Lit.wf, e1]
  omega
theorem litI_key (x : Int) : WideAt.IsKeyLit (litI x) := by trivial
def SetAt (w : World) (b : Nat) (xs : List Int) : Prop := w.ownsMap Tryz.prog 3 (plainElem (H := Unit) Tryz.prog 4) b xs.length (Maps.setOf (.lit (.bool true)) (xs.map litI))
theorem SetAt.made (w : World) : SetAt (w.alloc (.map #[] 0)) w.heap.size [] := World.ownsMap_made w Tryz.prog 3 _
theorem SetAt.lt {w : World} {b : Nat} {xs : List Int} (h : SetAt w b xs) : b < w.heap.size := World.ownsMap.lt h
theorem SetAt.keep {w w' : World} {b : Nat} {xs : List Int} (h : SetAt w b xs) (hk : w'.heap[b]? = w.heap[b]?) : SetAt w' b xs := by
  obtain ⟨es, clock, hb, F, hs, hD⟩ := h
  exact ⟨es, clock, hk.trans hb, F, hs, hD⟩
theorem list_rev {α : Type} {P : List α → Prop} (h0 : P []) (h1 : ∀ l a, P l → P (l ++ [a])) (l : List α) : P l := by
  have h : ∀ m : List α, P m.reverse := by
    intro m
    induction m with
    | nil => exact h0
    | cons a m ih => rw [List.reverse_cons]; exact h1 _ _ ih
  have := h l.reverse
  rwa [List.reverse_reverse] at this
theorem plainElem_bool_inv {H : Type} {P : Program} {e : TypeId} (he : P.underlying e = some .bool) {v : Value} {z : DataW H × List MemPlace} (h : plainElem P e v = some z) : ∃ x, v = .bool x ∧ z = (.lit (.bool x), []) := by
  unfold plainElem at h
  rw [he] at h
  cases v <;> simp at h
  exact ⟨_, rfl, h.symm⟩
theorem isKey (xs : List Int) : ∀ x ∈ xs.map litI, WideAt.IsKeyLit x := by
  intro x hx
  obtain ⟨a, _, rfl⟩ := List.mem_map.1 hx
  exact litI_key a
theorem atKey_set (xs : List Int) (x : Int) : (Maps.setOf (H := Unit) (.lit (.bool true)) (xs.map litI)).atKey (litI x) (.lit (.bool false)) = .lit (.bool (decide (x ∈ xs))) := by
  refine list_rev (P := fun xs => (Maps.setOf (H := Unit) (.lit (.bool true)) (xs.map litI)).atKey (litI x) (.lit (.bool false)) = .lit (.bool (decide (x ∈ xs)))) rfl (fun xs a ih => ?_) xs
  · show (Maps.setOf (H := Unit) (.lit (.bool true)) ((xs ++ [a]).map litI)).atKey (litI x) (.lit (.bool false)) = .lit (.bool (decide (x ∈ xs ++ [a])))
    rw [List.map_append, List.map_cons, List.map_nil, Maps.setOf_snoc]
    by_cases h : a = x
    · subst h
      rw [Maps.atKey_put_same (Maps.Tidy.isMap (Maps.tidy_setOf _ _ (isKey xs))) (litI_key a)]
      simp
    · rw [Maps.atKey_put_other (fun e => h (by injection e with _ e; exact e.symm)), ih]
      congr 2
      simp [Ne.symm h]
theorem SetAt.look {w : World} {b : Nat} {xs : List Int} (h : SetAt w b xs) (x : Int) (hx : (litI x).wf = true) : (Instr.lookup 44 (.map (some b)) (.int .i64 x) false).run Tryz.prog w = .ok (.bool (decide (x ∈ xs))) w := by
  obtain ⟨v, ps, hrun, hv⟩ := World.ownsMap.lookup h int_key Tryz.underlying44 (zero_bool w) (plainElem_bool Tryz.underlying4 false) (Maps.keyOf_int_mk Tryz.underlying3 hx)
  rw [atKey_set] at hv
  obtain ⟨y, rfl, hy⟩ := plainElem_bool_inv Tryz.underlying4 hv
  simp only [Prod.mk.injEq, DataW.lit.injEq, Lit.bool.injEq] at hy
  rw [hrun, ← hy.1]
theorem msize_set (xs : List Int) (hn : xs.Nodup) : (Maps.size (Maps.setOf (H := Unit) (.lit (.bool true)) (xs.map litI)) : Int) = xs.length := by
  have h : xs.Nodup → (xs.map litI).foldl Maps.addKey [] = xs.map litI := by
    refine list_rev (P := fun xs => xs.Nodup → (xs.map litI).foldl Maps.addKey [] = xs.map litI) (fun _ => rfl) (fun xs a ih hn => ?_) xs
    rw [List.map_append, List.foldl_append, ih (List.nodup_append.1 hn).1]
    simp only [List.map_cons, List.map_nil, List.foldl_cons, List.foldl_nil, Maps.addKey]
    rw [if_neg]
    intro hh
    obtain ⟨y, hy, hs⟩ := List.any_eq_true.1 hh
    obtain ⟨c, hc, rfl⟩ := List.mem_map.1 hy
    have hne : c ≠ a := fun e => by
      subst e
      exact (List.nodup_append.1 hn).2.2 c hc c (by simp) rfl
    rw [Maps.sameKey_ne (fun e => hne (by injection e))] at hs
    cases hs
  rw [Maps.size_setOf _ _ (isKey xs), h hn, List.length_map]
theorem SetAt.len {w : World} {b : Nat} {xs : List Int} (h : SetAt w b xs) (hn : xs.Nodup) (ty : TypeId) : (Builtin.len_ #[44] ty #[.map (some b)]).run Tryz.prog w = .ok (.int .i64 xs.length) w := by
  rw [World.ownsMap.len h Tryz.underlying44 ty, msize_set xs hn]
theorem SetAt.put {w' : World} {b : Nat} {xs : List Int} (x : Int) (h : w'.ownsMap Tryz.prog 3 (plainElem (H := Unit) Tryz.prog 4) b (xs.length + 1) ((Maps.setOf (.lit (.bool true)) (xs.map litI)).put (litI x) (.lit (.bool true)))) : SetAt w' b (xs ++ [x]) := by
  unfold SetAt
  rw [List.map_append, List.map_cons, List.map_nil, Maps.setOf_snoc, List.length_append]
  exact h
end Go.Proofs.YtagplldaooipmaaGreatDoor
/- strings.Builder: copyCheck, WriteString, WriteByte (turned from the library's walks to this seat, whose copyCheck names no panic). -/
namespace Go.Proofs.YtagplldaooipmaaGreatDoor
open Go.RowKit
theorem info_build : (Tryz.prog.info? 61).map (fun i => (i.size, i.bytes)) = some (2, 32) := by kernel_rfl
set_option maxHeartbeats 1000000 in
set_option maxRecDepth 100000 in
theorem bcheck_used (b : Nat) (w : World) (h0 : w.cell? ⟨b, 0, none⟩ = some (.pointer (some ⟨b, 0, none⟩))) :
    Calls Tryz.prog 45 #[.pointer (some ⟨b, 0, none⟩)] w fun e w' => e = .returned (.tuple #[]) ∧ w' = w := by
  obtain ⟨j, hj, _⟩ := Option.map_eq_some_iff.1 info_build
  go_enter Tryz.func45, Tryz.ntmps45
  go_wp2
  rw [Lib.run_neq_ptr_same w _ Tryz.underlying59 hj]
  go_wp2
  go_end0
  exact ⟨rfl, rfl⟩
set_option maxHeartbeats 1000000 in
set_option maxRecDepth 100000 in
theorem bcheck_fresh (b : Nat) (w : World) (h0 : w.cell? ⟨b, 0, none⟩ = some (.pointer none)) (hsh : w.shape? b = some (61, 2)) (hfz : w.frozen? ⟨b, 0, none⟩ = false) :
    Calls Tryz.prog 45 #[.pointer (some ⟨b, 0, none⟩)] w fun e w' => e = .returned (.tuple #[]) ∧ w' = w.setCell ⟨b, 0, none⟩ (.pointer (some ⟨b, 0, none⟩)) := by
  obtain ⟨j, hj, hjs⟩ := Option.map_eq_some_iff.1 info_build
  simp only [Prod.mk.injEq] at hjs
  go_enter Tryz.func45, Tryz.ntmps45
  go_wp2
  rw [Lib.run_to_unsafe w ⟨b, 0, none⟩ Tryz.underlying59 Tryz.underlying115 hj (by rw [hjs.1]; decide) hsh (Nat.zero_lt_succ 1)]
  simp only [Result.andThen]
  rw [Oper.upon_value]
  go_wp2
  rw [run_callFunc_extern Tryz.func85 (by kernel_rfl) (by kernel_rfl) (by kernel_rfl) (e := Extern.AbiNoEscape.same) (by kernel_rfl)]
  rw [Lib.run_noEscape]
  simp only [Result.andThen]
  rw [Oper.upon_value]
  go_wp2
  rw [Lib.run_from_unsafe w ⟨b, 0, none⟩ Tryz.underlying115 Tryz.underlying59 hj hsh (by kernel_rfl)]
  simp only [Result.andThen]
  rw [Oper.upon_value]
  go_wp2
  go_end0
  exact ⟨rfl, rfl⟩
theorem bcheck_any (B b : Nat) (bs : List Value) (w : World) (h : Lib.IsBuilder 61 5 B b bs w) :
    Calls Tryz.prog 45 #[.pointer (some ⟨b, 0, none⟩)] w fun e w' => e = .returned (.tuple #[]) ∧ Lib.BuilderAt 61 5 B b (.pointer (some ⟨b, 0, none⟩)) bs w' ∧ Below B w w' := by
  rcases h with h | h
  · refine (bcheck_fresh b w h.cell0 h.shape h.frozen0).mono ?_
    rintro e w' ⟨rfl, rfl⟩
    exact ⟨rfl, h.used _, (Below.refl B w).setCell (p := ⟨b, 0, none⟩) h.1 _⟩
  · refine (bcheck_used b w h.cell0).mono ?_
    rintro e w' ⟨rfl, rfl⟩
    exact ⟨rfl, h, Below.refl B _⟩
theorem info_byte : (Tryz.prog.info? 5).map (fun i => (i.zero, i.size, i.bytes)) = some (some (.int .u8 0), 1, 1) := by kernel_rfl
theorem strCells_list (l : List UInt8) : Lib.strCells ⟨l.toArray⟩ = Lib.byteCells l := rfl
set_option maxHeartbeats 2000000 in
set_option maxRecDepth 100000 in
theorem bwrite_str (B b : Nat) (l s : List UInt8) (w : World) (h : Lib.IsBuilder 61 5 B b (Lib.byteCells l) w) (hlen : l.length + s.length ≤ 1000000000) (hBw : B ≤ w.heap.size) :
    Calls Tryz.prog 24 #[.pointer (some ⟨b, 0, none⟩), .string ⟨s.toArray⟩] w fun e w' => e = .returned (.tuple #[.int .i64 s.length, .nilIface]) ∧ Lib.IsBuilder 61 5 B b (Lib.byteCells (l ++ s)) w' ∧ Below B w w' := by
  have hl := Lib.byteCells_length l
  obtain ⟨i0, hi, hz0, hz1, hz2⟩ := info_parts info_byte
  have HC := Lib.hid (bcheck_any B b (Lib.byteCells l) w h)
  have e1 : (Lib.byteCells l) ++ Lib.strCells ⟨s.toArray⟩ = Lib.byteCells (l ++ s) := by rw [strCells_list]; simp [Lib.byteCells]
  have HE := Lib.hid e1
  clear e1
  go_enter Tryz.func24, Tryz.ntmps24
  go_wp2_with fail
  refine HC.out.mono ?_
  rintro e w1 ⟨rfl, h1, hb1⟩
  obtain ⟨hB, v, hbk, hown, hne⟩ := h1
  rw [hl] at hown
  obtain ⟨vA, vc, rfl, hvc, hvm⟩ : ∃ A c, v = .slice A l.length c ∧ l.length ≤ c ∧ True := by
    rcases hown.2 with ⟨hv, h0⟩ | ⟨g, cap, cur, hv, _, _, hc, _⟩
    · exact ⟨none, 0, by rw [hv, h0], by omega, trivial⟩
    · exact ⟨_, cap, hv, hc, trivial⟩
  have c0 : w1.cell? ⟨b, 0, none⟩ = some (.pointer (some ⟨b, 0, none⟩)) := by rw [Lib.cell_of_heap hbk]; rfl
  have c1 : w1.cell? ⟨b, 1, none⟩ = some (.slice vA l.length vc) := by rw [Lib.cell_of_heap hbk]; rfl
  have HBK := Lib.hid hbk
  have HOW := Lib.hid hown
  have HB1 := Lib.hid hb1
  have hsz := hb1.size
  clear hl hbk hown hb1 HC
  go_wp2_with (
    at_builtin
    refine Lib.wpList_append_own_string _ rfl _ _ 22 9 rfl B 5 i0 Tryz.underlying22 Tryz.underlying9 hi hz0 hz1 hz2 _ _ _ rfl HOW.out ⟨s.toArray⟩ rfl (by simp [ByteArray.size]; unfold maxLen; omega) (by simp [ByteArray.size]; omega) (by omega) ?_
    intro v' w2 hown' hgrow hx
    have hlt : b < w1.heap.size := lt_of_heap HBK.out
    have hb2 : w2.heap[b]? = some (.cells #[.pointer (some ⟨b, 0, none⟩), .slice vA l.length vc] 61 (0, 0)) := by
      rw [hgrow.block b hlt (fun e => hne e.symm)]
      exact HBK.out
    have d0 : w2.cell? ⟨b, 0, none⟩ = some (.pointer (some ⟨b, 0, none⟩)) := by rw [Lib.cell_of_heap hb2]; rfl
    have d1 : w2.cell? ⟨b, 1, none⟩ = some (.slice vA l.length vc) := by rw [Lib.cell_of_heap hb2]; rfl
    have f1 : w2.frozen? ⟨b, 1, none⟩ = false := Lib.frozen_of_heap hb2 1
    obtain ⟨ao, n', cap, rfl⟩ : ∃ ao n' cap, v' = .slice ao n' cap := by
      rcases hown'.2 with ⟨hv, _⟩ | ⟨g, cap, cur, hv, _⟩
      · exact ⟨_, _, _, hv⟩
      · exact ⟨_, _, _, hv⟩
    have HF1 := Lib.hid (Lib.BuilderAt.put (T := 61) (e := 5) hB hb2 (bs' := Lib.byteCells l ++ Lib.strCells ⟨s.toArray⟩) (by simpa [Lib.strCells_length, Lib.byteCells_length] using hown') (by decide))
    have HF2 := Lib.hid ((HB1.out.grown hgrow (by omega) (fun k hk => (HOW.out.lt k hk).1)).setCell (p := ⟨b, 1, none⟩) hB (.slice ao n' cap))
    clear hb2 hown' hgrow hx HBK HOW HB1)
  go_ret2
  exact ⟨by simp, .inr (HE.out ▸ HF1.out), HF2.out⟩
set_option maxHeartbeats 2000000 in
set_option maxRecDepth 100000 in
theorem bwrite_byte (B b : Nat) (l : List UInt8) (c : UInt8) (w : World) (h : Lib.IsBuilder 61 5 B b (Lib.byteCells l) w) (hlen : l.length ≤ 999999999) (hBw : B ≤ w.heap.size) :
    Calls Tryz.prog 25 #[.pointer (some ⟨b, 0, none⟩), .int .u8 (c.toNat : Int)] w fun e w' => e = .returned .nilIface ∧ Lib.IsBuilder 61 5 B b (Lib.byteCells (l ++ [c])) w' ∧ Below B w w' := by
  have hl := Lib.byteCells_length l
  have HC := Lib.hid (bcheck_any B b (Lib.byteCells l) w h)
  have HE : Hid (Lib.byteCells l ++ [.int .u8 (c.toNat : Int)] = Lib.byteCells (l ++ [c])) := Lib.hid (by simp [Lib.byteCells])
  go_enter Tryz.func25, Tryz.ntmps25
  go_wp2_with fail
  refine HC.out.mono ?_
  rintro e w1 ⟨rfl, h1, hb1⟩
  obtain ⟨hB, v, hbk, hown, hne⟩ := h1
  rw [hl] at hown
  obtain ⟨vA, vc, rfl, hvc, hvm⟩ : ∃ A c, v = .slice A l.length c ∧ l.length ≤ c ∧ True := by
    rcases hown.2 with ⟨hv, h0⟩ | ⟨g, cap, cur, hv, _, _, hc, _⟩
    · exact ⟨none, 0, by rw [hv, h0], by omega, trivial⟩
    · exact ⟨_, cap, hv, hc, trivial⟩
  have c0 : w1.cell? ⟨b, 0, none⟩ = some (.pointer (some ⟨b, 0, none⟩)) := by rw [Lib.cell_of_heap hbk]; rfl
  have c1 : w1.cell? ⟨b, 1, none⟩ = some (.slice vA l.length vc) := by rw [Lib.cell_of_heap hbk]; rfl
  have HBK := Lib.hid hbk
  have HOW := Lib.hid hown
  have HB1 := Lib.hid hb1
  have hsz := hb1.size
  clear hl hbk hown hb1 HC
  obtain ⟨i0, hi, hz0, hz1, hz2⟩ := info_parts info_byte
  go_wp2_with (
    at_builtin
    refine wpList_append_own _ rfl _ _ 22 rfl B 5 i0 (.int .u8 0) 1 1 Tryz.underlying22 hi hz0 hz1 hz2 rfl (by decide) _ _ _ rfl (HOW.out.alloc _) ⟨w1.heap.size, 0, none⟩ 1 1 [.int .u8 (c.toNat : Int)] rfl rfl (cells_new w1 [.int .u8 (c.toNat : Int)] 5) (by intro u hu; simp at hu; subst hu; rfl) (by unfold maxLen; omega) (by omega) (by simp; omega) ?_
    intro v' w2 hown' hgrow hx
    have hlt : b < w1.heap.size := lt_of_heap HBK.out
    have hb2 : w2.heap[b]? = some (.cells #[.pointer (some ⟨b, 0, none⟩), .slice vA l.length vc] 61 (0, 0)) := by
      rw [hgrow.block b (by simp; omega) (fun e => hne e.symm), Below.heap_alloc w1 _ b hlt]
      exact HBK.out
    have d0 : w2.cell? ⟨b, 0, none⟩ = some (.pointer (some ⟨b, 0, none⟩)) := by rw [Lib.cell_of_heap hb2]; rfl
    have d1 : w2.cell? ⟨b, 1, none⟩ = some (.slice vA l.length vc) := by rw [Lib.cell_of_heap hb2]; rfl
    have f1 : w2.frozen? ⟨b, 1, none⟩ = false := Lib.frozen_of_heap hb2 1
    obtain ⟨ao, n', cap, rfl⟩ : ∃ ao n' cap, v' = .slice ao n' cap := by
      rcases hown'.2 with ⟨hv, _⟩ | ⟨g, cap, cur, hv, _⟩
      · exact ⟨_, _, _, hv⟩
      · exact ⟨_, _, _, hv⟩
    have HF1 := Lib.hid (Lib.BuilderAt.put (T := 61) (e := 5) hB hb2 (bs' := Lib.byteCells l ++ [.int .u8 (c.toNat : Int)]) (by simpa [Lib.byteCells_length] using hown') (by decide))
    have HF2 := Lib.hid (((HB1.out.alloc (by omega) (.cells #[.int .u8 (c.toNat : Int)] 5)).grown hgrow (by simp; omega) (fun k hk => (HOW.out.lt k hk).1)).setCell (p := ⟨b, 1, none⟩) hB (.slice ao n' cap))
    clear hb2 hown' hgrow hx HBK HOW HB1)
  go_ret
  exact ⟨rfl, .inr (HE.out ▸ HF1.out), HF2.out⟩
end Go.Proofs.YtagplldaooipmaaGreatDoor

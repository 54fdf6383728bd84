/- line: operand, an expression of several tokens. -/
import Derived.Test.YtpcpjghfcimblaaGreatDoorKq
namespace Go.Proofs.YtpcpjghfcimblaaGreatDoor
open Go.RowKit

theorem tokRow_app (a b : List Tok) : tokRow (a ++ b) = tokRow a ++ tokRow b := by simp [tokRow]
theorem mid_len (ts : List Tok) (h : 2 ≤ ts.length) : (midT ts).length = ts.length - 2 := by simp [midT]; omega
theorem Rd.mid {w : World} {B c g o : Nat} {ts : List Tok} (h : Rd w B (.slice (some ⟨g, o, none⟩) ts.length c) ts.length (tokRow ts)) (h2 : 2 ≤ ts.length) : Rd w B (.slice (some ⟨g, o + 3, none⟩) (ts.length - 2) (c - 1)) (midT ts).length (tokRow (midT ts)) := by
  obtain ⟨A', c', hv, hc, h3⟩ := h
  injection hv with hv1 _ hv3
  subst hv1 hv3
  obtain ⟨g', o', h4, h5, h6⟩ := h3 (by omega)
  injection h4 with h4
  injection h4 with h4 h4' _
  subst h4 h4'
  refine ⟨_, c - 1, by rw [mid_len ts h2], by rw [mid_len ts h2]; omega, fun _ => ⟨g, o + 3, rfl, h5, fun j u hu => ?_⟩⟩
  have e : ts = ts.take 1 ++ (midT ts ++ ts.drop (ts.length - 1)) := by
    have e1 : midT ts ++ ts.drop (ts.length - 1) = ts.drop 1 := by
      unfold midT
      have : ts.drop (ts.length - 1) = (ts.drop 1).drop (ts.length - 2) := by rw [List.drop_drop]; congr 1; omega
      rw [this, List.take_append_drop]
    rw [e1, List.take_append_drop]
  have hj : j < (tokRow (midT ts)).length := (List.getElem?_eq_some_iff.1 hu).1
  have hu' : (tokRow ts)[3 + j]? = some u := by
    rw [e, tokRow_app, tokRow_app, List.getElem?_append_right (by rw [tokRow_length]; simp; omega), tokRow_length]
    rw [show 3 + j - (ts.take 1).length * 3 = j by simp; omega, List.getElem?_append_left hj]
    exact hu
  have := h6 (3 + j) u hu'
  rwa [show o + 3 + j = o + (3 + j) by omega]
set_option maxHeartbeats 4000000 in
set_option maxRecDepth 100000 in
theorem oper_m1 (op : List UInt8) (ts : List Tok) (v : Value) (w : World) (h2 : 2 ≤ ts.length) (hl : ts.length ≤ 1000) (hok : okT ts) (hp : pairT ts [40] [41] = false) (hr : Rd w w.heap.size v ts.length (tokRow ts)) :
    Calls Tryz.prog 49 #[.agg #[v, .int .i64 1], .string ⟨op.toArray⟩] w (OperP w (⟨[], [], false, false, (allE ts).1⟩, (allE ts).2)) := by
  have HP := Lib.hid (fun W (hW : Below w.heap.size w W) => pair_any ts [40] [41] v W ((hr.below hW).more hW.size) hl)
  rw [hp] at HP
  clear hp
  have HAll := Lib.hid (fun W (hW : Below w.heap.size w W) => all_any ts v W ((hr.below hW).more hW.size) hl hok)
  generalize allE ts = out at *
  obtain ⟨re, rk⟩ := out
  obtain ⟨A, c, rfl, hc⟩ := hr.form
  have HBw := Lib.hid (((Below.refl w.heap.size w).alloc (Nat.le_refl _) (rdBox (.slice A ts.length c) 1)).alloc (by simp) arBox)
  have hnew := heap_alloc_new (w.alloc (rdBox (.slice A ts.length c) 1)) arBox
  rw [show (w.alloc (rdBox (.slice A ts.length c) 1)).heap.size = w.heap.size + 1 by simp] at hnew
  have HC1 := Lib.hid hnew
  have e0 : ((ts.length : Int) == 0) = false := by rw [beq_eq_false_iff_ne]; omega
  have e1 : (1 : Int) < (ts.length : Int) := by omega
  clear hr hok hnew
  go_enter Tryz.func49, Tryz.ntmps49
  go_wp2_with fail
  refine (HP.out _ HBw.out).mono ?_
  rintro e w4 ⟨rfl, rfl⟩
  go_wp2_with fail
  refine (HAll.out _ HBw.out).mono ?_
  rintro e w5 ⟨vs, rfl, hsub, hok, hb5⟩
  obtain ⟨sA, sc, rfl, hsc, hsm⟩ := hsub.form
  obtain ⟨⟨k0, k1, k2, k3, k4, k5, k6, k7⟩, g0, g1, g2, g3, g4, g5, g6, g7⟩ := eight ((hb5.block _ (lt_of_heap HC1.out)).trans HC1.out)
  have hH : w.heap.size + 1 < w5.heap.size := Nat.lt_of_lt_of_le (lt_of_heap HC1.out) hb5.size
  have HB5 := Lib.hid (bthen (HBw.out) hb5)
  have HSUB : Hid (SubAt w5 (fun g => w.heap.size + 2 ≤ g ∧ g < w5.heap.size) (.slice sA re.sub.length sc) re.sub) := Lib.hid (hsub.more (fun g hg => ⟨Nat.le_trans (lt_of_heap HC1.out) hg.1, hg.2⟩))
  clear hsub hb5 hok
  go_wp2_with fail
  refine bodyPost_ret (v := .tuple #[.agg #[.string ⟨#[]⟩, .string ⟨#[]⟩, .bool false, .bool false, .string ⟨re.op.toArray⟩, .int .u16 re.n, .string ⟨re.name.toArray⟩, .slice sA re.sub.length sc], .int .i64 rk]) (by simp [results, Tryz.results49, go_sem, k0, k1, k2, k3, k4, k5, k6, k7, hH]) rfl ⟨_, rfl, ?_, ?_⟩
  · exact (HSUB.out.set8 (b := w.heap.size + 1) (fun g hg => by omega) _ _ _ _ _ _ _ _).newer (fun g hg => by simpa using hg.2) (fun g hg => ⟨by omega, by simp; omega⟩) _
  · exact (bset8 HB5.out (by omega) _ _ _ _ _ _ _ _).alloc (by simpa using HB5.out.size) _
set_option maxHeartbeats 4000000 in
set_option maxRecDepth 100000 in
theorem oper_m2 (op : List UInt8) (ts : List Tok) (v : Value) (w : World) (h2 : 2 ≤ ts.length) (hl : ts.length ≤ 1000) (hok : okT ts) (hp : pairT ts [91] [93] = false) (hr : Rd w w.heap.size v ts.length (tokRow ts)) :
    Calls Tryz.prog 49 #[.agg #[v, .int .i64 2], .string ⟨op.toArray⟩] w (OperP w (⟨[], [], false, false, (allE ts).1⟩, (allE ts).2)) := by
  have HP := Lib.hid (fun W (hW : Below w.heap.size w W) => pair_any ts [91] [93] v W ((hr.below hW).more hW.size) hl)
  rw [hp] at HP
  clear hp
  have HAll := Lib.hid (fun W (hW : Below w.heap.size w W) => all_any ts v W ((hr.below hW).more hW.size) hl hok)
  generalize allE ts = out at *
  obtain ⟨re, rk⟩ := out
  obtain ⟨A, c, rfl, hc⟩ := hr.form
  have HBw := Lib.hid (((Below.refl w.heap.size w).alloc (Nat.le_refl _) (rdBox (.slice A ts.length c) 2)).alloc (by simp) arBox)
  have hnew := heap_alloc_new (w.alloc (rdBox (.slice A ts.length c) 2)) arBox
  rw [show (w.alloc (rdBox (.slice A ts.length c) 2)).heap.size = w.heap.size + 1 by simp] at hnew
  have HC1 := Lib.hid hnew
  have e0 : ((ts.length : Int) == 0) = false := by rw [beq_eq_false_iff_ne]; omega
  have e1 : (1 : Int) < (ts.length : Int) := by omega
  clear hr hok hnew
  go_enter Tryz.func49, Tryz.ntmps49
  go_wp2_with fail
  refine (HP.out _ HBw.out).mono ?_
  rintro e w4 ⟨rfl, rfl⟩
  go_wp2_with fail
  refine (HAll.out _ HBw.out).mono ?_
  rintro e w5 ⟨vs, rfl, hsub, hok, hb5⟩
  obtain ⟨sA, sc, rfl, hsc, hsm⟩ := hsub.form
  obtain ⟨⟨k0, k1, k2, k3, k4, k5, k6, k7⟩, g0, g1, g2, g3, g4, g5, g6, g7⟩ := eight ((hb5.block _ (lt_of_heap HC1.out)).trans HC1.out)
  have hH : w.heap.size + 1 < w5.heap.size := Nat.lt_of_lt_of_le (lt_of_heap HC1.out) hb5.size
  have HB5 := Lib.hid (bthen (HBw.out) hb5)
  have HSUB : Hid (SubAt w5 (fun g => w.heap.size + 2 ≤ g ∧ g < w5.heap.size) (.slice sA re.sub.length sc) re.sub) := Lib.hid (hsub.more (fun g hg => ⟨Nat.le_trans (lt_of_heap HC1.out) hg.1, hg.2⟩))
  clear hsub hb5 hok
  go_wp2_with fail
  refine bodyPost_ret (v := .tuple #[.agg #[.string ⟨#[]⟩, .string ⟨#[]⟩, .bool false, .bool false, .string ⟨re.op.toArray⟩, .int .u16 re.n, .string ⟨re.name.toArray⟩, .slice sA re.sub.length sc], .int .i64 rk]) (by simp [results, Tryz.results49, go_sem, k0, k1, k2, k3, k4, k5, k6, k7, hH]) rfl ⟨_, rfl, ?_, ?_⟩
  · exact (HSUB.out.set8 (b := w.heap.size + 1) (fun g hg => by omega) _ _ _ _ _ _ _ _).newer (fun g hg => by simpa using hg.2) (fun g hg => ⟨by omega, by simp; omega⟩) _
  · exact (bset8 HB5.out (by omega) _ _ _ _ _ _ _ _).alloc (by simpa using HB5.out.size) _
set_option maxHeartbeats 4000000 in
set_option maxRecDepth 100000 in
theorem oper_mo (d : Int) (op : List UInt8) (ts : List Tok) (v : Value) (w : World) (h2 : 2 ≤ ts.length) (hl : ts.length ≤ 1000) (hok : okT ts) (hd1 : (d == 1) = false) (hd2 : (d == 2) = false) (hr : Rd w w.heap.size v ts.length (tokRow ts)) :
    Calls Tryz.prog 49 #[.agg #[v, .int .i64 d], .string ⟨op.toArray⟩] w (OperP w (⟨[], [], false, false, (allE ts).1⟩, (allE ts).2)) := by
  have HAll := Lib.hid (fun W (hW : Below w.heap.size w W) => all_any ts v W ((hr.below hW).more hW.size) hl hok)
  generalize allE ts = out at *
  obtain ⟨re, rk⟩ := out
  obtain ⟨A, c, rfl, hc⟩ := hr.form
  have HBw := Lib.hid (((Below.refl w.heap.size w).alloc (Nat.le_refl _) (rdBox (.slice A ts.length c) d)).alloc (by simp) arBox)
  have hnew := heap_alloc_new (w.alloc (rdBox (.slice A ts.length c) d)) arBox
  rw [show (w.alloc (rdBox (.slice A ts.length c) d)).heap.size = w.heap.size + 1 by simp] at hnew
  have HC1 := Lib.hid hnew
  have e0 : ((ts.length : Int) == 0) = false := by rw [beq_eq_false_iff_ne]; omega
  have e1 : (1 : Int) < (ts.length : Int) := by omega
  clear hr hok hnew
  go_enter Tryz.func49, Tryz.ntmps49
  go_wp2_with fail
  refine (HAll.out _ HBw.out).mono ?_
  rintro e w5 ⟨vs, rfl, hsub, hok, hb5⟩
  obtain ⟨sA, sc, rfl, hsc, hsm⟩ := hsub.form
  obtain ⟨⟨k0, k1, k2, k3, k4, k5, k6, k7⟩, g0, g1, g2, g3, g4, g5, g6, g7⟩ := eight ((hb5.block _ (lt_of_heap HC1.out)).trans HC1.out)
  have hH : w.heap.size + 1 < w5.heap.size := Nat.lt_of_lt_of_le (lt_of_heap HC1.out) hb5.size
  have HB5 := Lib.hid (bthen (HBw.out) hb5)
  have HSUB : Hid (SubAt w5 (fun g => w.heap.size + 2 ≤ g ∧ g < w5.heap.size) (.slice sA re.sub.length sc) re.sub) := Lib.hid (hsub.more (fun g hg => ⟨Nat.le_trans (lt_of_heap HC1.out) hg.1, hg.2⟩))
  clear hsub hb5 hok
  go_wp2_with fail
  refine bodyPost_ret (v := .tuple #[.agg #[.string ⟨#[]⟩, .string ⟨#[]⟩, .bool false, .bool false, .string ⟨re.op.toArray⟩, .int .u16 re.n, .string ⟨re.name.toArray⟩, .slice sA re.sub.length sc], .int .i64 rk]) (by simp [results, Tryz.results49, go_sem, k0, k1, k2, k3, k4, k5, k6, k7, hH]) rfl ⟨_, rfl, ?_, ?_⟩
  · exact (HSUB.out.set8 (b := w.heap.size + 1) (fun g hg => by omega) _ _ _ _ _ _ _ _).newer (fun g hg => by simpa using hg.2) (fun g hg => ⟨by omega, by simp; omega⟩) _
  · exact (bset8 HB5.out (by omega) _ _ _ _ _ _ _ _).alloc (by simpa using HB5.out.size) _
end Go.Proofs.YtpcpjghfcimblaaGreatDoor

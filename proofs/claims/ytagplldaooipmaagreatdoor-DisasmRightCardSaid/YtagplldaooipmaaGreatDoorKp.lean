/- Kp. -/
import Derived.Test.YtagplldaooipmaaGreatDoorKo
import Derived.Deep.RegionWith
namespace Go.Proofs.YtagplldaooipmaaGreatDoor
open Go.RowKit
set_option maxHeartbeats 4000000 in
set_option maxRecDepth 100000 in
theorem right12_text (d : Int) (op : List UInt8) (a : Ar) (v : Value) (w : World) (hg : GWL w) (hw : a.w = []) (hi : a.is = true) (hf : fitA a) (hs : SubAt w (· < w.heap.size) v a.e.sub) :
    Calls Tryz.prog 34 #[.int .i64 d, .string ⟨op.toArray⟩, arV a v] w fun e w' => e = .returned (.bool (rightA d op a)) ∧ Below w.heap.size w w' := by
  have HQ := Lib.hid (fun W (hW : Below w.heap.size w W) => Same_any a.e ex0 v (.slice none 0 0) W (hs.at hW hW.size) (SubAt.nil _ _))
  have hql : (quoteL a.t).length ≤ 1000000 := by have := (dbl_length a.t).2; have := hf.2.1; unfold quoteL; simp; omega
  have HU := Lib.hid (fun W (hW : GWL W) => quote_any a.t W hW.2 (by have := hf.2.1; omega))
  have HV := Lib.hid (fun W (hW : GWL W) => unquote_any (quoteL a.t) W hW.2 hql)
  have HR : Hid (rightA d op a = (sameE a.e ex0 && !a.mem && op == sDB && (unquote (quoteL a.t)).2 == 0)) := Lib.hid (by unfold rightA emptyA; rw [if_neg (by simp [hw]), if_pos hi])
  generalize rightA d op a = res at *
  obtain ⟨A, c, rfl, hc, hm⟩ := hs.form
  clear hs hc hm hf hql
  obtain ⟨aw, at1, ais, amem, ae⟩ := a
  simp only at hw hi
  subst hw hi
  unfold arV
  simp only at *
  generalize sameE ae ex0 = se at *
  generalize unquote (quoteL at1) = uq at *
  generalize quoteL at1 = ql at *
  obtain ⟨us, uk⟩ := uq
  generalize ae.sub.length = sl at *
  obtain ⟨o, n, m, s⟩ := ae
  simp only [Ex.op, Ex.n, Ex.name, ex0] at *
  have hk : ((uk : Int) == 0) = (uk == 0) := by cases uk <;> rfl
  have key : (se = true ∧ amem = false ∧ op = sDB ∧ uk = 0) ∨ (se = true ∧ amem = false ∧ op = sDB ∧ uk ≠ 0) ∨ (se = true ∧ amem = false ∧ op ≠ sDB) ∨ (se = true ∧ amem = true) ∨ (se = false ∧ amem = true) ∨ (se = false ∧ amem = false) := by
    by_cases h1 : op = sDB <;> by_cases h2 : uk = 0 <;> cases se <;> cases amem <;> simp [h1, h2]
  have walk : ∀ (b : Bool) (hres : res = b), Calls Tryz.prog 34 #[.int .i64 d, .string ⟨op.toArray⟩, .agg #[.string ⟨#[]⟩, .string ⟨at1.toArray⟩, .bool true, .bool amem, .string ⟨o.toArray⟩, .int .u16 n, .string ⟨m.toArray⟩, .slice A sl c]] w fun e w' => e = .returned (.bool b) ∧ Below w.heap.size w w' := by
    intro b hres
    have HRes := Lib.hid hres
    clear hres
    rcases key with ⟨rfl, rfl, rfl, rfl⟩ | ⟨rfl, rfl, rfl, h⟩ | ⟨rfl, rfl, h⟩ | ⟨rfl, rfl⟩ | ⟨rfl, rfl⟩ | ⟨rfl, rfl⟩
    · have HB : Hid (b = true) := Lib.hid (by rw [← HRes.out, HR.out]; simp)
      clear hk
      go_enter Tryz.func34, Tryz.ntmps34
      go_wp2_with fail
      refine (HQ.out _ (((Below.refl _ _).alloc (Nat.le_refl _) _).alloc (by simp) _)).mono ?_
      rintro e w1 ⟨rfl, hb1⟩
      obtain ⟨C0, C1, B1⟩ := boxes hb1
      have hgw := Lib.hid (hg.below B1)
      obtain ⟨c0, c1, c2, c3, c4, c5, c6, c7⟩ := cells8 C1
      have HB1 := Lib.hid B1
      clear C0 C1 hb1 B1
      go_wp2_with fail
      refine (HU.out _ hgw.out).mono ?_
      rintro e w2 ⟨rfl, hb2⟩
      go_wp2_with fail
      refine (HV.out _ (hgw.out.below hb2)).mono ?_
      rintro e w3 ⟨rfl, hb3⟩
      go_wp2_with fail
      go_ret
      rw [HB.out]
      exact ⟨rfl, bthen (bthen HB1.out hb2) hb3⟩
    · have HB : Hid (b = false) := Lib.hid (by rw [← HRes.out, HR.out]; simp [h])
      have e1 : ((uk : Int) == 0) = false := by rw [beq_eq_false_iff_ne]; omega
      clear hk h
      go_enter Tryz.func34, Tryz.ntmps34
      go_wp2_with fail
      refine (HQ.out _ (((Below.refl _ _).alloc (Nat.le_refl _) _).alloc (by simp) _)).mono ?_
      rintro e w1 ⟨rfl, hb1⟩
      obtain ⟨C0, C1, B1⟩ := boxes hb1
      have hgw := Lib.hid (hg.below B1)
      obtain ⟨c0, c1, c2, c3, c4, c5, c6, c7⟩ := cells8 C1
      have HB1 := Lib.hid B1
      clear C0 C1 hb1 B1
      go_wp2_with fail
      refine (HU.out _ hgw.out).mono ?_
      rintro e w2 ⟨rfl, hb2⟩
      go_wp2_with fail
      refine (HV.out _ (hgw.out.below hb2)).mono ?_
      rintro e w3 ⟨rfl, hb3⟩
      go_wp2_with fail
      go_ret
      rw [HB.out]
      exact ⟨rfl, bthen (bthen HB1.out hb2) hb3⟩
    · have HB : Hid (b = false) := Lib.hid (by rw [← HRes.out, HR.out]; simp [h])
      have e1 : (op == [68, 66]) = false := by simpa using h
      clear hk h
      go_enter Tryz.func34, Tryz.ntmps34
      go_wp2_with fail
      refine (HQ.out _ (((Below.refl _ _).alloc (Nat.le_refl _) _).alloc (by simp) _)).mono ?_
      rintro e w1 ⟨rfl, hb1⟩
      obtain ⟨C0, C1, B1⟩ := boxes hb1
      have hgw := Lib.hid (hg.below B1)
      obtain ⟨c0, c1, c2, c3, c4, c5, c6, c7⟩ := cells8 C1
      have HB1 := Lib.hid B1
      clear C0 C1 hb1 B1
      go_wp2_with fail
      refine (HU.out _ hgw.out).mono ?_
      rintro e w2 ⟨rfl, hb2⟩
      go_wp2_with fail
      refine (HV.out _ (hgw.out.below hb2)).mono ?_
      rintro e w3 ⟨rfl, hb3⟩
      go_wp2_with fail
      go_ret
      rw [HB.out]
      exact ⟨rfl, bthen (bthen HB1.out hb2) hb3⟩
    all_goals (
      have HB : Hid (b = false) := Lib.hid (by rw [← HRes.out, HR.out]; simp)
      clear hk
      go_enter Tryz.func34, Tryz.ntmps34
      go_wp2_with fail
      refine (HQ.out _ (((Below.refl _ _).alloc (Nat.le_refl _) _).alloc (by simp) _)).mono ?_
      rintro e w1 ⟨rfl, hb1⟩
      obtain ⟨C0, C1, B1⟩ := boxes hb1
      have hgw := Lib.hid (hg.below B1)
      obtain ⟨c0, c1, c2, c3, c4, c5, c6, c7⟩ := cells8 C1
      have HB1 := Lib.hid B1
      clear C0 C1 hb1 B1
      go_wp2_with fail
      refine (HU.out _ hgw.out).mono ?_
      rintro e w2 ⟨rfl, hb2⟩
      go_wp2_with fail
      refine (HV.out _ (hgw.out.below hb2)).mono ?_
      rintro e w3 ⟨rfl, hb3⟩
      go_wp2_with fail
      go_ret
      rw [HB.out]
      exact ⟨rfl, bthen (bthen HB1.out hb2) hb3⟩)
  exact walk res rfl
set_option maxHeartbeats 4000000 in
set_option maxRecDepth 100000 in
theorem right12_expr (d : Int) (op : List UInt8) (a : Ar) (v : Value) (w : World) (hg : GWL w) (hw : a.w = []) (hi : a.is = false) (hf : fitA a) (hs : SubAt w (· < w.heap.size) v a.e.sub) :
    Calls Tryz.prog 34 #[.int .i64 d, .string ⟨op.toArray⟩, arV a v] w fun e w' => e = .returned (.bool (rightA d op a)) ∧ Below w.heap.size w w' := by
  have HQ := Lib.hid (fun W (hW : Below w.heap.size w W) => Same_any a.e ex0 v (.slice none 0 0) W (hs.at hW hW.size) (SubAt.nil _ _))
  have HE := Lib.hid (fun W (hW : Below w.heap.size w W) => Right_any a.e v W hf.2.2 (hs.at hW hW.size))
  have HN := Lib.hid (fun (hr : rightE a.e 24 = true) W (hW : Below w.heap.size w W) => Names_any a.e 24 v W (by omega) hr (hs.at hW hW.size))
  have HL := Lib.hid (fun (hr : rightE a.e 24 = true) => names_len a.e 24 hr)
  have HX := Lib.hid (fun (hr : rightE a.e 24 = true) => names_short a.e 24 hr)
  have HR : Hid (rightA d op a = if a.t ≠ [] ∨ (a.mem = true ∧ d = 0) ∨ rightE a.e 24 = false then false else (namesE a.e).all (plainB d)) := Lib.hid (by unfold rightA; rw [if_neg (by simp [hw]), if_neg (by simp [hi])])
  have HK : Hid (rightK a.e = if rightE a.e 24 then 0 else 2) := Lib.hid rfl
  generalize rightA d op a = res at *
  obtain ⟨A, c, rfl, hc, hm⟩ := hs.form
  clear hs hc hm hf
  obtain ⟨aw, at1, ais, amem, ae⟩ := a
  simp only at hw hi
  subst hw hi
  unfold arV
  simp only at *
  generalize sameE ae ex0 = se at *
  generalize rightE ae 24 = re at *
  generalize rightK ae = rk at *
  generalize namesE ae = ns at *
  generalize ae.sub.length = sl at *
  obtain ⟨o, n, m, s⟩ := ae
  simp only [Ex.op, Ex.n, Ex.name, ex0] at *
  have start : ∀ (Q : Ending → World → Prop), True := fun _ => trivial
  clear start
  cases hat : at1 with
  | cons x r =>
    have HB : Hid (res = false) := Lib.hid (by rw [HR.out, hat]; simp)
    clear hat HR
    cases se <;> cases amem
    all_goals (
      go_enter Tryz.func34, Tryz.ntmps34
      go_wp2_with fail
      refine (HQ.out _ (((Below.refl _ _).alloc (Nat.le_refl _) _).alloc (by simp) _)).mono ?_
      rintro e w1 ⟨rfl, hb1⟩
      obtain ⟨C0, C1, B1⟩ := boxes hb1
      obtain ⟨c0, c1, c2, c3, c4, c5, c6, c7⟩ := cells8 C1
      have HB1 := Lib.hid B1
      clear C0 C1 hb1 B1
      go_wp2_with fail
      go_ret
      rw [HB.out]
      exact ⟨rfl, HB1.out⟩)
  | nil =>
    subst hat
    by_cases hmd : amem = true ∧ d = 0
    · obtain ⟨rfl, rfl⟩ := hmd
      have HB : Hid (res = false) := Lib.hid (by rw [HR.out]; simp)
      clear HR
      cases se
      all_goals (
        go_enter Tryz.func34, Tryz.ntmps34
        go_wp2_with fail
        refine (HQ.out _ (((Below.refl _ _).alloc (Nat.le_refl _) _).alloc (by simp) _)).mono ?_
        rintro e w1 ⟨rfl, hb1⟩
        obtain ⟨C0, C1, B1⟩ := boxes hb1
        have d0 := cell_of_heap (i := 0) C0
        simp at d0
        obtain ⟨c0, c1, c2, c3, c4, c5, c6, c7⟩ := cells8 C1
        have HB1 := Lib.hid B1
        clear C0 C1 hb1 B1
        go_wp2_with fail
        go_ret
        rw [HB.out]
        exact ⟨rfl, HB1.out⟩)
    · have hnm : amem = true → (d == 0) = false := fun h => by rw [beq_eq_false_iff_ne]; exact fun h2 => hmd ⟨h, h2⟩
      cases re with
      | false =>
        have HB : Hid (res = false) := Lib.hid (by rw [HR.out]; simp)
        have hrk : rk = 2 := HK.out
        subst hrk
        clear HR hmd HK HN HL HX
        cases se <;> cases amem
        all_goals (
          first | have hd0 := hnm rfl | skip
          clear hnm
          go_enter Tryz.func34, Tryz.ntmps34
          go_wp2_with fail
          refine (HQ.out _ (((Below.refl _ _).alloc (Nat.le_refl _) _).alloc (by simp) _)).mono ?_
          rintro e w1 ⟨rfl, hb1⟩
          obtain ⟨C0, C1, B1⟩ := boxes hb1
          have d0 := cell_of_heap (i := 0) C0
          simp at d0
          obtain ⟨c0, c1, c2, c3, c4, c5, c6, c7⟩ := cells8 C1
          have HB1 := Lib.hid B1
          clear C0 C1 hb1 B1
          go_wp2_with fail
          refine (HE.out _ HB1.out).mono ?_
          rintro e w2 ⟨rfl, hb2⟩
          go_wp2_with fail
          go_ret
          rw [HB.out]
          exact ⟨rfl, bthen HB1.out hb2⟩)
      | true =>
        have HB : Hid (res = ns.all (plainB d)) := Lib.hid (by rw [HR.out, if_neg]; simp; exact fun h h2 => hmd ⟨h, h2⟩)
        have hrk : rk = 0 := HK.out
        have hnl := HL.out rfl
        have HX2 := Lib.hid (fun x hx => Nat.le_trans (HX.out rfl x hx) (show 16 ≤ 1000000 by omega))
        have HN2 := Lib.hid (HN.out rfl)
        subst hrk
        have HA := Lib.hid (fun v bm W h1 h2 h4 => ncont_any d ns v bm W h1 h2 HX2.out (by omega) h4)
        generalize ns.all (plainB d) = nb at *
        clear HR hmd HK HN HL HX hnl
        cases se <;> cases amem
        all_goals (
          first | have hd0 := hnm rfl | skip
          clear hnm
          go_enter Tryz.func34, Tryz.ntmps34
          go_wp2_with fail
          refine (HQ.out _ (((Below.refl _ _).alloc (Nat.le_refl _) _).alloc (by simp) _)).mono ?_
          rintro e w1 ⟨rfl, hb1⟩
          obtain ⟨C0, C1, B1⟩ := boxes hb1
          have d0 := cell_of_heap (i := 0) C0
          simp at d0
          have hgw := Lib.hid (hg.below B1)
          obtain ⟨c0, c1, c2, c3, c4, c5, c6, c7⟩ := cells8 C1
          have HB1 := Lib.hid B1
          have HC0 := Lib.hid C0
          have HC1 := Lib.hid C1
          clear C0 C1 hb1 B1
          go_wp2_with fail
          refine (HE.out _ HB1.out).mono ?_
          rintro e w2 ⟨rfl, hb2⟩
          have HB2 := Lib.hid (bthen HB1.out hb2)
          have HD0 := Lib.hid ((hb2.block _ (lt_of_heap HC0.out)).trans HC0.out)
          have HD1 := Lib.hid ((hb2.block _ (lt_of_heap HC1.out)).trans HC1.out)
          have hgw2 := Lib.hid (hgw.out.below hb2)
          clear d0 c0 c1 c2 c3 c4 c5 c6 c7 hb2
          obtain ⟨c0, c1, c2, c3, c4, c5, c6, c7⟩ := cells8 HD1.out
          go_wp2_with fail
          refine (HN2.out _ HB2.out).mono ?_
          rintro e w3 ⟨v3, rfl, hr3, hb3⟩
          have d3 := cell_of_heap (i := 0) ((hb3.block _ (lt_of_heap HD0.out)).trans HD0.out)
          simp at d3
          have HC3 := Lib.hid (HA.out v3 w.heap.size w3 (hgw2.out.below hb3) hr3 d3)
          obtain ⟨A3, k3, rfl, _⟩ := hr3.form
          clear hr3 c0 c1 c2 c3 c4 c5 c6 c7
          go_wp2_with fail
          refine HC3.out.mono ?_
          rintro e w4 ⟨rfl, hb4⟩
          go_wp2_with fail
          go_ret
          rw [HB.out]
          exact ⟨by simp, bthen (bthen HB2.out hb3) hb4⟩)
theorem right12_any (d : Int) (op : List UInt8) (a : Ar) (v : Value) (w : World) (hg : GWL w) (hf : fitA a) (hs : SubAt w (· < w.heap.size) v a.e.sub) :
    Calls Tryz.prog 34 #[.int .i64 d, .string ⟨op.toArray⟩, arV a v] w fun e w' => e = .returned (.bool (rightA d op a)) ∧ Below w.heap.size w w' := by
  by_cases h1 : a.w = []
  · cases h2 : a.is with
    | true => exact right12_text d op a v w hg h1 h2 hf hs
    | false => exact right12_expr d op a v w hg h1 h2 hf hs
  · exact right12_word d op a v w hg h1 hs
end Go.Proofs.YtagplldaooipmaaGreatDoor
/- line: Right. -/
namespace Go.Proofs.YtagplldaooipmaaGreatDoor
open Go.RowKit
def fitS (s : St) : Prop := s.label.length ≤ 1000 ∧ s.op.length ≤ 1000 ∧ ∀ a ∈ s.args, fitA a
theorem cells4 {w : World} {b : Nat} {x0 x1 x2 x3 : Value} {t : TypeId} {fr : Nat × Nat} (h : w.heap[b]? = some (.cells #[x0, x1, x2, x3] t fr)) :
    w.cell? ⟨b, 0, none⟩ = some x0 ∧ w.cell? ⟨b, 1, none⟩ = some x1 ∧ w.cell? ⟨b, 2, none⟩ = some x2 ∧ w.cell? ⟨b, 3, none⟩ = some x3 := ⟨cell_of_heap h, cell_of_heap h, cell_of_heap h, cell_of_heap h⟩
set_option maxHeartbeats 1000000 in
theorem raclo_any (d : Int) (op : List UInt8) (a : Ar) (v : Value) (bd bs : Nat) (w : World) (hg : GWL w) (hf : fitA a) (hs : SubAt w (· < w.heap.size) v a.e.sub) (hm : w.cell? ⟨bd, 0, none⟩ = some (.int .i64 d)) (ho : w.cell? ⟨bs, 2, none⟩ = some (.string ⟨op.toArray⟩)) :
    Calls Tryz.prog 33 #[arV a v, .pointer (some ⟨bd, 0, none⟩), .pointer (some ⟨bs, 0, none⟩)] w fun e w' => e = .returned (.bool (!rightA d op a)) ∧ Below w.heap.size w w' := by
  have h1 := World.block_lt_of_cell? _ _ hm
  have h2 := World.block_lt_of_cell? _ _ ho
  have HC := Lib.hid (fun o => right12_any d op a v (w.alloc o) (hg.below ((Below.refl _ _).alloc (Nat.le_refl _) _)) hf (hs.at ((Below.refl _ _).alloc (Nat.le_refl _) o) (by simp)))
  obtain ⟨A, c, rfl, _, _⟩ := hs.form
  generalize rightA d op a = rb at *
  obtain ⟨aw, at1, ais, amem, ae⟩ := a
  unfold arV at *
  simp only at *
  clear hs
  go_enter Tryz.func33, Tryz.ntmps33
  go_wp2_with fail
  refine (HC.out _).mono ?_
  rintro e w2 ⟨rfl, hb2⟩
  go_wp2_with fail
  go_ret
  exact ⟨rfl, bthen ((Below.refl _ _).alloc (Nat.le_refl _) _) hb2⟩
set_option maxHeartbeats 4000000 in
theorem aidx_any (d : Int) (op : List UInt8) (l : List Ar) (v : Value) (bd bs : Nat) (w : World) (hg : GWL w) (hf : ∀ a ∈ l, fitA a) (hs : ArAt w (· < w.heap.size) v l) (hm : w.cell? ⟨bd, 0, none⟩ = some (.int .i64 d)) (ho : w.cell? ⟨bs, 2, none⟩ = some (.string ⟨op.toArray⟩)) :
    Calls Tryz.prog 52 #[v, .func (.func 33) #[] #[.pointer (some ⟨bd, 0, none⟩), .pointer (some ⟨bs, 0, none⟩)]] w fun e w' => (∃ z : Int, e = .returned (.int .i64 z) ∧ decide (0 ≤ z) = !l.all (rightA d op)) ∧ Below w.heap.size w w' := by
  obtain ⟨A, c, rfl, hc, hm2⟩ := hs.form
  unfold maxLen at hm2
  have h1 := World.block_lt_of_cell? _ _ hm
  have h2 := World.block_lt_of_cell? _ _ ho
  have HS := Lib.hid hs
  have HM := Lib.hid hm
  have HO := Lib.hid ho
  have HF := Lib.hid hf
  have HALLN : Hid (∀ k (hk : k < l.length), rightA d op l[k] = false → l.all (rightA d op) = false) := Lib.hid (fun k hk h => by rw [List.all_eq_false]; exact ⟨l[k], List.getElem_mem hk, by simp [h]⟩)
  have HALLY : Hid ((l.take l.length).all (rightA d op) = true → l.all (rightA d op) = true) := Lib.hid (fun h => by rwa [List.take_length] at h)
  generalize l.all (rightA d op) = rl at *
  clear hs hm ho hf
  go_enter Tryz.func52, Tryz.ntmps52
  go_wp2_with fail
  go_loopw [8] (fun i wr => ∃ k : Nat, k ≤ l.length ∧ i = .int .i64 k ∧ (l.take k).all (rightA d op) = true ∧ Below w.heap.size w wr) (fun i _ => l.length - (intOf i).toNat)
  case atStart => exact ⟨0, Nat.zero_le _, rfl, rfl, Below.refl _ _⟩
  case round =>
    obtain ⟨k, hk, rfl, hall, hb⟩ := hrel
    have hsz := hb.size
    have HALL := Lib.hid hall
    clear hall
    by_cases hlt : k < l.length
    · obtain ⟨g, q, vk, rfl, hgl, c0, c1, c2, c3, c4, c5, c6, c7, hsub⟩ := HS.out.get k hlt
      obtain ⟨vA, vc, rfl, _, _⟩ := hsub.form
      have d0 := (hb.cell (p := ⟨g, q + k * 8, none⟩) hgl).trans c0
      have d1 := (hb.cell (p := ⟨g, q + k * 8 + 1, none⟩) hgl).trans c1
      have d2 := (hb.cell (p := ⟨g, q + k * 8 + 2, none⟩) hgl).trans c2
      have d3 := (hb.cell (p := ⟨g, q + k * 8 + 3, none⟩) hgl).trans c3
      have d4 := (hb.cell (p := ⟨g, q + k * 8 + 4, none⟩) hgl).trans c4
      have d5 := (hb.cell (p := ⟨g, q + k * 8 + 5, none⟩) hgl).trans c5
      have d6 := (hb.cell (p := ⟨g, q + k * 8 + 6, none⟩) hgl).trans c6
      have d7 := (hb.cell (p := ⟨g, q + k * 8 + 7, none⟩) hgl).trans c7
      have HC := Lib.hid (raclo_any d op l[k] _ bd bs wr (hg.below hb) (HF.out _ (List.getElem_mem hlt)) (hsub.at hb hsz) ((hb.cell (p := ⟨bd, 0, none⟩) h1).trans HM.out) ((hb.cell (p := ⟨bs, 2, none⟩) h2).trans HO.out))
      have HT : Hid ((l.take (k + 1)).all (rightA d op) = ((l.take k).all (rightA d op) && rightA d op l[k])) := Lib.hid (by rw [List.take_succ_eq_append_getElem hlt, List.all_append]; simp)
      have HN := Lib.hid (HALLN.out k hlt)
      generalize l[k] = x at *
      clear c0 c1 c2 c3 c4 c5 c6 c7 hsub
      cases hp : rightA d op x with
      | true =>
        rw [hp] at HC HT
        clear hp
        go_wp2_with fail
        refine HC.out.mono ?_
        rintro e0 w5 ⟨rfl, hb5⟩
        go_wp2_with fail
        go_roundw
        case rel => exact ⟨k + 1, by omega, by go_num, by rw [HT.out, HALL.out]; rfl, bthen hb hb5⟩
        case measure => simp [intOf]; omega
      | false =>
        rw [hp] at HC
        have hrl := HN.out hp
        clear hp HN
        subst hrl
        go_wp2_with fail
        refine HC.out.mono ?_
        rintro e0 w5 ⟨rfl, hb5⟩
        go_wp2_with fail
        go_ret
        exact ⟨⟨_, rfl, by simp⟩, bthen hb hb5⟩
    · obtain rfl : k = l.length := by omega
      have hrl := HALLY.out HALL.out
      subst hrl
      go_wp2_with fail
      go_ret
      exact ⟨⟨_, rfl, by simp⟩, hb⟩
set_option maxHeartbeats 2000000 in
theorem acont_any (d : Int) (op : List UInt8) (l : List Ar) (v : Value) (bd bs : Nat) (w : World) (hg : GWL w) (hf : ∀ a ∈ l, fitA a) (hs : ArAt w (· < w.heap.size) v l) (hm : w.cell? ⟨bd, 0, none⟩ = some (.int .i64 d)) (ho : w.cell? ⟨bs, 2, none⟩ = some (.string ⟨op.toArray⟩)) :
    Calls Tryz.prog 32 #[v, .func (.func 33) #[] #[.pointer (some ⟨bd, 0, none⟩), .pointer (some ⟨bs, 0, none⟩)]] w fun e w' => e = .returned (.bool (!l.all (rightA d op))) ∧ Below w.heap.size w w' := by
  have HI := Lib.hid (aidx_any d op l v bd bs w hg hf hs hm ho)
  obtain ⟨A, c, rfl, hc⟩ := hs.form
  generalize l.all (rightA d op) = rl at *
  clear hs hm ho hf
  go_enter Tryz.func32, Tryz.ntmps32
  go_wp2_with fail
  refine HI.out.mono ?_
  rintro e w2 ⟨⟨z, rfl, hz⟩, hb2⟩
  have HZ := Lib.hid hz
  clear hz
  go_wp2_with fail
  go_ret
  exact ⟨ret_bool HZ.out, hb2⟩
end Go.Proofs.YtagplldaooipmaaGreatDoor

/- Ko. -/
import Derived.Test.YtagplldaooipmaaGreatDoorKh
import Derived.Test.YtagplldaooipmaaGreatDoorKl
import Derived.Test.YtagplldaooipmaaGreatDoorKj
import Derived.Test.YtagplldaooipmaaGreatDoorKn
namespace Go.Proofs.YtagplldaooipmaaGreatDoor
open Go.RowKit
theorem namesL_app (a b : List Ex) : namesL (a ++ b) = namesL a ++ namesL b := by
  induction a with
  | nil => rfl
  | cons x a ih => simp [namesL, ih]
theorem names_len (e : Ex) : ∀ d, rightE e d = true → (namesE e).length ≤ 2 ^ d := by
  induction e using Ex.ind with
  | h o n m s ih =>
    intro d h
    have hf := rightE.form h
    cases hf with
    | num => simp [namesE, namesL]
    | name m d => have := Nat.one_le_two_pow (n := d + 1); simpa [namesE, namesL] using this
    | here => simp [namesE, namesL]
    | neg a d hA => have := ih a (by simp) d hA; simp [namesE, namesL, Nat.pow_succ]; omega
    | not a d hA => have := ih a (by simp) d hA; simp [namesE, namesL, Nat.pow_succ]; omega
    | two o r a b d ho h1 h2 =>
      have := ih a (by simp) d h1
      have := ih b (by simp) d h2
      have hn := ho.binds.2.2.1
      simp [namesE, namesL, Nat.pow_succ, hn]
      omega
theorem namesL_take (s : List Ex) (k : Nat) : (namesL (s.take k)).length ≤ (namesL s).length := by
  have : namesL s = namesL (s.take k) ++ namesL (s.drop k) := by rw [← namesL_app, List.take_append_drop]
  rw [this]
  simp
def NamesH (x : Ex) : Prop := ∀ (d : Nat) (v : Value) (w : World), d ≤ 24 → rightE x d = true → SubAt w (· < w.heap.size) v x.sub →
  Calls Tryz.prog 59 #[.agg #[.string ⟨x.op.toArray⟩, .int .u16 x.n, .string ⟨x.name.toArray⟩, v]] w fun e w' => ∃ v', e = .returned v' ∧ Rd w' w'.heap.size v' (namesE x).length ((namesE x).map strV) ∧ Below w.heap.size w w'
set_option maxHeartbeats 2000000 in
theorem names_leaf (m : List UInt8) (n : Nat) (v : Value) (w : World) (hs : SubAt w (· < w.heap.size) v []) :
    Calls Tryz.prog 59 #[.agg #[.string ⟨#[110]⟩, .int .u16 n, .string ⟨m.toArray⟩, v]] w fun e w' => ∃ v', e = .returned v' ∧ Rd w' w'.heap.size v' 1 [.string ⟨m.toArray⟩] ∧ Below w.heap.size w w' := by
  obtain ⟨A, c, rfl, hc, hm⟩ := hs.form
  have hb := (Below.refl w.heap.size w).alloc (Nat.le_refl _) (.cells #[.string ⟨#[110]⟩, .int .u16 n, .string ⟨m.toArray⟩, .slice A 0 c] 39)
  have hn := heap_alloc_new w (.cells #[.string ⟨#[110]⟩, .int .u16 n, .string ⟨m.toArray⟩, .slice A 0 c] 39)
  have HN := Lib.hid hn
  clear hs hn
  go_enter Tryz.func59, Tryz.ntmps59
  go_wp2_with (at_builtin; refine wpList_append_at (w.alloc (.cells #[.string ⟨#[110]⟩, .int .u16 n, .string ⟨m.toArray⟩, .slice A 0 c] 39)) (w.heap.size + 1) (by simp) rfl _ _ 81 rfl (w.heap.size + 1) 9 _ 1 16 Tryz.underlying81 info_str rfl (by decide) (World.ownsRow_nil _ _ _ _) rfl [.string ⟨m.toArray⟩] 9 rfl rfl (one_str _) (by omega) (by omega) (by simp) ?_)
  intro v' w2 hown3 hb3
  have hb4 := Lib.hid (hb.trans (hb3.mono (Nat.le_succ _)))
  have c3 : w2.cell? ⟨w.heap.size, 3, none⟩ = some (.slice A 0 c) := (hb3.cell (p := ⟨w.heap.size, 3, none⟩) (Nat.lt_succ_self _)).trans (cell_of_heap HN.out)
  have HO := Lib.hid (Rd.of_own hown3)
  clear hown3 hb3 hb
  go_wp2_with fail
  go_loop [2, 16] (fun o i => o = v' ∧ i = .int .i64 0) (fun _ _ => 0)
  case atStart => exact ⟨rfl, rfl⟩
  case round =>
    obtain ⟨rfl, rfl⟩ := hrel
    go_wp2_with fail
    go_ret
    exact ⟨_, rfl, HO.out, hb4.out⟩
set_option maxHeartbeats 4000000 in
theorem names_node (o : List UInt8) (n : Nat) (m : List UInt8) (s : List Ex) (ho : (o == [110]) = false) (d : Nat) (hd : d ≤ 24) (hr : ∀ x ∈ s, rightE x d = true) (hlen : (namesL s).length ≤ 100000000) (ih : ∀ x ∈ s, NamesH x) (v : Value) (w : World) (hs : SubAt w (· < w.heap.size) v s) :
    Calls Tryz.prog 59 #[.agg #[.string ⟨o.toArray⟩, .int .u16 n, .string ⟨m.toArray⟩, v]] w fun e w' => ∃ v', e = .returned v' ∧ Rd w' w'.heap.size v' (namesL s).length ((namesL s).map strV) ∧ Below w.heap.size w w' := by
  obtain ⟨A, c, rfl, hc, hm⟩ := hs.form
  unfold maxLen at hm
  have HS := Lib.hid hs
  have HI := Lib.hid ih
  have HR := Lib.hid hr
  clear hs ih hr
  go_enter Tryz.func59, Tryz.ntmps59
  go_wp2_with fail
  go_loopw [2, 16] (fun v i wr => ∃ k : Nat, k ≤ s.length ∧ i = .int .i64 k ∧ wr.ownsRow (w.heap.size + 1) 9 1 v (namesL (s.take k)).length ((namesL (s.take k)).map strV) ∧ Below w.heap.size w wr ∧ w.heap.size + 1 ≤ wr.heap.size) (fun _ i _ => s.length - (intOf i).toNat)
  case atStart => exact ⟨0, Nat.zero_le _, rfl, World.ownsRow_nil _ _ _ _, (Below.refl _ _).alloc (Nat.le_refl _) _, by simp⟩
  case round =>
    obtain ⟨k, hk, rfl, hown, hb, hz⟩ := hrel
    have hsz := hb.size
    by_cases hlt : k < s.length
    · obtain ⟨g, q, vk, rfl, hg, c0, c1, c2, c3, hsub, hn, _, _⟩ := HS.out.get k hlt
      obtain ⟨vA, vc, rfl, _, _⟩ := hsub.form
      have d0 := (hb.cell (p := ⟨g, q + k * 4, none⟩) hg).trans c0
      have d1 := (hb.cell (p := ⟨g, q + k * 4 + 1, none⟩) hg).trans c1
      have d2 := (hb.cell (p := ⟨g, q + k * 4 + 2, none⟩) hg).trans c2
      have d3 := (hb.cell (p := ⟨g, q + k * 4 + 3, none⟩) hg).trans c3
      have hgr : g < wr.heap.size := Nat.lt_of_lt_of_le hg hsz
      have HSK := Lib.hid ((hsub.bel hb).more (S' := (· < wr.heap.size)) (fun x hx => Nat.lt_of_lt_of_le hx hsz))
      have HC : Hid (∀ o1, Calls Tryz.prog 59 #[.agg #[.string ⟨s[k].op.toArray⟩, .int .u16 s[k].n, .string ⟨s[k].name.toArray⟩, .slice vA s[k].sub.length vc]] (wr.alloc o1) fun e w' => ∃ v', e = .returned v' ∧ Rd w' w'.heap.size v' (namesE s[k]).length ((namesE s[k]).map strV) ∧ Below (wr.alloc o1).heap.size (wr.alloc o1) w') := Lib.hid (fun o1 => HI.out s[k] (List.getElem_mem hlt) d _ _ hd (HR.out _ (List.getElem_mem hlt)) (HSK.out.keep (fun p hp => World.cell?_alloc_lt _ _ _ hp) (fun x hx => by simp; omega)))
      have HT : Hid (namesL (s.take (k + 1)) = namesL (s.take k) ++ namesE s[k]) := Lib.hid (by rw [List.take_succ_eq_append_getElem hlt, namesL_app]; simp [namesL])
      have hl1 := Nat.le_trans (namesL_take s (k + 1)) hlen
      rw [HT.out, List.length_append] at hl1
      generalize s[k] = x at *
      clear c0 c1 c2 c3 hsub
      go_wp2_with fail
      refine (HC.out _).mono ?_
      rintro e0 w5 ⟨v5, rfl, hrd5, hb5⟩
      obtain ⟨A5, c5, rfl, hc5⟩ := hrd5.form
      have hown2 := (hown.alloc (.cells #[.string ⟨x.op.toArray⟩, .int .u16 x.n, .string ⟨x.name.toArray⟩, .slice vA x.sub.length vc] 39)).kept (only_of_below hb5 none) (by cases u2.ownBlock <;> simp)
      have hb6 := bthen (hb.alloc hsz _) hb5
      have hz6 : w.heap.size + 1 ≤ w5.heap.size := by have := hb5.size; simp at this; omega
      go_wp2_with (at_builtin; refine wpList_append_rd w5 rfl _ _ 81 rfl (w.heap.size + 1) 9 _ 1 16 Tryz.underlying81 info_str rfl (by decide) hown2 rfl hrd5 rfl (by simp) (strs_one _) (by omega) (by omega) hz6 ?_)
      intro v' w7 hown7 hb7 hgr7
      have H7 : Hid (w7.ownsRow (w.heap.size + 1) 9 1 v' (namesL (s.take (k + 1))).length ((namesL (s.take (k + 1))).map strV)) := Lib.hid (by rw [HT.out, List.map_append, List.length_append]; exact hown7)
      have hb8 := hb6.trans (hb7.mono (Nat.le_succ _))
      have hz8 : w.heap.size + 1 ≤ w7.heap.size := Nat.le_trans hz6 hb7.size
      clear hown hown2 hown7 hgr7 hb7 hb6 hrd5
      go_wp2_with fail
      go_roundw
      case rel => exact ⟨k + 1, by omega, by go_num, H7.out, hb8, hz8⟩
      case measure => simp [intOf]; omega
    · obtain rfl : k = s.length := by omega
      rw [List.take_length] at hown
      have HO := Lib.hid (Rd.of_own hown)
      clear hown
      go_wp2_with fail
      go_ret
      exact ⟨_, rfl, HO.out, hb⟩
theorem Names_any (e : Ex) : NamesH e := by
  induction e using Ex.ind with
  | h o n m s ih =>
    intro d v w hd h hs
    have hl := names_len _ d h
    have hp : 2 ^ d ≤ 2 ^ 24 := Nat.pow_le_pow_right (by omega) hd
    have hf := rightE.form h
    cases hf with
    | num n d => exact names_node sNum n [] [] (by decide) d (by omega) (by simp) (by simp [namesL]) (by simp) v w hs
    | name m d => exact names_leaf m 0 v w hs
    | here d => exact names_node sHere 0 [] [] (by decide) d (by omega) (by simp) (by simp [namesL]) (by simp) v w hs
    | neg a d hA => exact names_node sNEG 0 [] [a] (by decide) d (by omega) (by simpa using hA) (by simp [namesE] at hl; omega) ih v w hs
    | not a d hA => exact names_node sNOT 0 [] [a] (by decide) d (by omega) (by simpa using hA) (by simp [namesE] at hl; omega) ih v w hs
    | two o r a b d ho h1 h2 =>
      have hn := ho.binds.2.2.1
      have e1 : namesE (.mk o 0 [] [a, b]) = namesL [a, b] := by simp [namesE, hn]
      have := names_node o 0 [] [a, b] (by simpa using hn) d (by omega) (by simp [h1, h2]) (by rw [e1] at hl; omega) ih v w hs
      rw [e1]
      exact this
end Go.Proofs.YtagplldaooipmaaGreatDoor
/- line: the names of an operand are plain. -/
namespace Go.Proofs.YtagplldaooipmaaGreatDoor
open Go.RowKit
theorem Rd.str {w : World} {B c : Nat} {A : Option Addr} {xs : List (List UInt8)} (h : Rd w B (.slice A xs.length c) xs.length (xs.map strV)) (k : Nat) (hk : k < xs.length) : ∃ g o, A = some ⟨g, o, none⟩ ∧ g < B ∧ w.cell? ⟨g, o + k, none⟩ = some (.string ⟨xs[k].toArray⟩) := by
  obtain ⟨A', c', hv, hc, h3⟩ := h
  injection hv with hv _ _
  subst hv
  obtain ⟨g, o, g1, g2, g3⟩ := h3 (by omega)
  exact ⟨g, o, g1, g2, g3 k _ (by simp [hk, strV])⟩
set_option maxHeartbeats 1000000 in
theorem rnclo_any (d : Int) (x : List UInt8) (bm : Nat) (w : World) (hg : GWL w) (hl : x.length ≤ 1000000) (hm : w.cell? ⟨bm, 0, none⟩ = some (.int .i64 d)) :
    Calls Tryz.prog 60 #[.string ⟨x.toArray⟩, .pointer (some ⟨bm, 0, none⟩)] w fun e w' => e = .returned (.bool (!plainB d x)) ∧ Below w.heap.size w w' := by
  have HC := Lib.hid (Plain_any d x w hl hg)
  generalize plainB d x = pb at *
  go_enter Tryz.func60, Tryz.ntmps60
  go_wp2_with fail
  refine HC.out.mono ?_
  rintro e w2 ⟨rfl, hb2⟩
  go_wp2_with fail
  go_ret
  exact ⟨rfl, hb2⟩
set_option maxHeartbeats 2000000 in
theorem nidx_any (d : Int) (xs : List (List UInt8)) (v : Value) (bm : Nat) (w : World) (hg : GWL w) (hr : Rd w w.heap.size v xs.length (xs.map strV)) (hx : ∀ x ∈ xs, x.length ≤ 1000000) (hl : xs.length ≤ 1000000000) (hm : w.cell? ⟨bm, 0, none⟩ = some (.int .i64 d)) :
    Calls Tryz.prog 102 #[v, .func (.func 60) #[] #[.pointer (some ⟨bm, 0, none⟩)]] w fun e w' => (∃ z : Int, e = .returned (.int .i64 z) ∧ decide (0 ≤ z) = !xs.all (plainB d)) ∧ Below w.heap.size w w' := by
  obtain ⟨A, c, rfl, hc⟩ := hr.form
  have hltm := World.block_lt_of_cell? _ _ hm
  have HS := Lib.hid hr
  have HM := Lib.hid hm
  have HX := Lib.hid hx
  have HRL : Hid (xs.all (plainB d) = xs.all (plainB d)) := Lib.hid rfl
  have HALLN : Hid (∀ k (hk : k < xs.length), plainB d xs[k] = false → xs.all (plainB d) = false) := Lib.hid (fun k hk h => by rw [List.all_eq_false]; exact ⟨xs[k], List.getElem_mem hk, by simp [h]⟩)
  have HALLY : Hid ((xs.take xs.length).all (plainB d) = true → xs.all (plainB d) = true) := Lib.hid (fun h => by rwa [List.take_length] at h)
  generalize xs.all (plainB d) = rl at *
  clear hr hm hx HRL
  go_enter Tryz.func102, Tryz.ntmps102
  go_wp2_with fail
  go_loopw [8] (fun i wr => ∃ k : Nat, k ≤ xs.length ∧ i = .int .i64 k ∧ (xs.take k).all (plainB d) = true ∧ Below w.heap.size w wr) (fun i _ => xs.length - (intOf i).toNat)
  case atStart => exact ⟨0, Nat.zero_le _, rfl, rfl, Below.refl _ _⟩
  case round =>
    obtain ⟨k, hk, rfl, hall, hb⟩ := hrel
    have HALL := Lib.hid hall
    clear hall
    by_cases hlt : k < xs.length
    · obtain ⟨g, q, rfl, hgl, c0⟩ := HS.out.str k hlt
      have d0 := (hb.cell (p := ⟨g, q + k, none⟩) hgl).trans c0
      have HC := Lib.hid (rnclo_any d xs[k] bm wr (hg.below hb) (HX.out _ (List.getElem_mem hlt)) ((hb.cell (p := ⟨bm, 0, none⟩) hltm).trans HM.out))
      have HT : Hid ((xs.take (k + 1)).all (plainB d) = ((xs.take k).all (plainB d) && plainB d xs[k])) := Lib.hid (by rw [List.take_succ_eq_append_getElem hlt, List.all_append]; simp)
      have HN := Lib.hid (HALLN.out k hlt)
      generalize xs[k] = x at *
      clear c0
      cases hp : plainB d x with
      | true =>
        rw [hp] at HC HT
        clear hp
        go_wp2_with fail
        refine HC.out.mono ?_
        rintro e0 w5 ⟨rfl, hb5⟩
        go_wp2_with fail
        go_roundw
        case rel => exact ⟨k + 1, by omega, by go_num, by rw [HT.out, HALL.out]; rfl, bthen hb hb5⟩
        case measure => simp [intOf]; omega
      | false =>
        rw [hp] at HC
        have hrl := HN.out hp
        clear hp HN
        subst hrl
        go_wp2_with fail
        refine HC.out.mono ?_
        rintro e0 w5 ⟨rfl, hb5⟩
        go_wp2_with fail
        go_ret
        exact ⟨⟨_, rfl, by simp⟩, bthen hb hb5⟩
    · obtain rfl : k = xs.length := by omega
      have hrl := HALLY.out HALL.out
      subst hrl
      go_wp2_with fail
      go_ret
      exact ⟨⟨_, rfl, by simp⟩, hb⟩
set_option maxHeartbeats 2000000 in
theorem ncont_any (d : Int) (xs : List (List UInt8)) (v : Value) (bm : Nat) (w : World) (hg : GWL w) (hr : Rd w w.heap.size v xs.length (xs.map strV)) (hx : ∀ x ∈ xs, x.length ≤ 1000000) (hl : xs.length ≤ 1000000000) (hm : w.cell? ⟨bm, 0, none⟩ = some (.int .i64 d)) :
    Calls Tryz.prog 58 #[v, .func (.func 60) #[] #[.pointer (some ⟨bm, 0, none⟩)]] w fun e w' => e = .returned (.bool (!xs.all (plainB d))) ∧ Below w.heap.size w w' := by
  have HI := Lib.hid (nidx_any d xs v bm w hg hr hx hl hm)
  obtain ⟨A, c, rfl, hc⟩ := hr.form
  generalize xs.all (plainB d) = rl at *
  clear hr hm hx
  go_enter Tryz.func58, Tryz.ntmps58
  go_wp2_with fail
  refine HI.out.mono ?_
  rintro e w2 ⟨⟨z, rfl, hz⟩, hb2⟩
  have HZ := Lib.hid hz
  clear hz
  go_wp2_with fail
  go_ret
  exact ⟨ret_bool HZ.out, hb2⟩
end Go.Proofs.YtagplldaooipmaaGreatDoor
/- line: right. -/
namespace Go.Proofs.YtagplldaooipmaaGreatDoor
open Go.RowKit
theorem names_short (e : Ex) : ∀ d, rightE e d = true → ∀ m ∈ namesE e, m.length ≤ 16 := by
  induction e using Ex.ind with
  | h o n m s ih =>
    intro d h
    have hf := rightE.form h
    cases hf with
    | num => simp [namesE, namesL]
    | name m d g1 => intro x hx; simp [namesE, namesL] at hx; subst hx; unfold nameB at g1; simp only [Bool.and_eq_true, decide_eq_true_eq] at g1; exact g1.1.1.2
    | here => simp [namesE, namesL]
    | neg a d hA => intro x hx; simp [namesE, namesL] at hx; exact ih a (by simp) d hA x hx
    | not a d hA => intro x hx; simp [namesE, namesL] at hx; exact ih a (by simp) d hA x hx
    | two o r a b d ho h1 h2 =>
      have hn := ho.binds.2.2.1
      intro x hx
      simp [namesE, namesL, hn] at hx
      rcases hx with hx | hx
      · exact ih a (by simp) d h1 x hx
      · exact ih b (by simp) d h2 x hx
def fitA (a : Ar) : Prop := a.w.length ≤ 1000 ∧ a.t.length ≤ 1000 ∧ fitE a.e = true
theorem cells8 {w : World} {b : Nat} {x0 x1 x2 x3 x4 x5 x6 x7 : Value} {t : TypeId} {fr : Nat × Nat} (h : w.heap[b]? = some (.cells #[x0, x1, x2, x3, x4, x5, x6, x7] t fr)) :
    w.cell? ⟨b, 0, none⟩ = some x0 ∧ w.cell? ⟨b, 1, none⟩ = some x1 ∧ w.cell? ⟨b, 2, none⟩ = some x2 ∧ w.cell? ⟨b, 3, none⟩ = some x3 ∧ w.cell? ⟨b, 4, none⟩ = some x4 ∧ w.cell? ⟨b, 5, none⟩ = some x5 ∧ w.cell? ⟨b, 6, none⟩ = some x6 ∧ w.cell? ⟨b, 7, none⟩ = some x7 :=
  ⟨cell_of_heap h, cell_of_heap h, cell_of_heap h, cell_of_heap h, cell_of_heap h, cell_of_heap h, cell_of_heap h, cell_of_heap h⟩
theorem boxes {w w1 : World} {o1 o2 : Obj} (hb : Below ((w.alloc o1).alloc o2).heap.size ((w.alloc o1).alloc o2) w1) : w1.heap[w.heap.size]? = some o1 ∧ w1.heap[w.heap.size + 1]? = some o2 ∧ Below w.heap.size w w1 := by
  refine ⟨(hb.block w.heap.size (by simp; omega)).trans ((Below.heap_alloc _ _ _ (by simp)).trans (heap_alloc_new w _)), ?_, bthen (((Below.refl w.heap.size w).alloc (Nat.le_refl _) _).alloc (by simp) _) hb⟩
  have h := heap_alloc_new (w.alloc o1) o2
  rw [show (w.alloc o1).heap.size = w.heap.size + 1 by simp] at h
  exact (hb.block (w.heap.size + 1) (by simp)).trans h
set_option maxHeartbeats 4000000 in
set_option maxRecDepth 100000 in
theorem right12_word (d : Int) (op : List UInt8) (a : Ar) (v : Value) (w : World) (hg : GWL w) (hw : a.w ≠ []) (hs : SubAt w (· < w.heap.size) v a.e.sub) :
    Calls Tryz.prog 34 #[.int .i64 d, .string ⟨op.toArray⟩, arV a v] w fun e w' => e = .returned (.bool (rightA d op a)) ∧ Below w.heap.size w w' := by
  have HQ := Lib.hid (fun W (hW : Below w.heap.size w W) => Same_any a.e ex0 v (.slice none 0 0) W (hs.at hW hW.size) (SubAt.nil _ _))
  have HW := Lib.hid (fun W (hW : GWL W) => word12_any d a.w W hW)
  have HR : Hid (rightA d op a = (sameE a.e ex0 && !a.mem && a.t == [] && !a.is && wordB d a.w)) := Lib.hid (by unfold rightA emptyA; rw [if_pos hw])
  generalize rightA d op a = res at *
  obtain ⟨A, c, rfl, hc, hm⟩ := hs.form
  clear hs hc hm
  obtain ⟨aw, at1, ais, amem, ae⟩ := a
  have hw1 : (aw == []) = false := by simpa using hw
  have hw2 : aw.isEmpty = false := by simpa using hw
  unfold arV
  simp only at *
  generalize sameE ae ex0 = se at *
  generalize wordB d aw = wb at *
  generalize ae.sub.length = sl at *
  obtain ⟨o, n, m, s⟩ := ae
  simp only [Ex.op, Ex.n, Ex.name, ex0] at *
  clear hw
  by_cases hcase : se = true ∧ amem = false ∧ at1 = [] ∧ ais = false
  · obtain ⟨rfl, rfl, rfl, rfl⟩ := hcase
    have HR' : Hid (res = wb) := Lib.hid (by rw [HR.out]; simp)
    go_enter Tryz.func34, Tryz.ntmps34
    go_wp2_with fail
    refine (HQ.out _ (((Below.refl _ _).alloc (Nat.le_refl _) _).alloc (by simp) _)).mono ?_
    rintro e w1 ⟨rfl, hb1⟩
    obtain ⟨C0, C1, B1⟩ := boxes hb1
    have hgw := Lib.hid (hg.below B1)
    have d0 := cell_of_heap (i := 0) C0
    obtain ⟨c0, c1, c2, c3, c4, c5, c6, c7⟩ := cells8 C1
    simp at d0
    have HB1 := Lib.hid B1
    clear C0 C1 hb1 B1
    go_wp2_with fail
    refine (HW.out _ hgw.out).mono ?_
    rintro e w2 ⟨rfl, hb2⟩
    go_wp2_with fail
    go_ret
    rw [HR'.out]
    exact ⟨rfl, bthen HB1.out hb2⟩
  · have HR' : Hid (res = false) := Lib.hid (by
      rw [HR.out]
      cases se <;> cases amem <;> cases ais <;> simp_all)
    cases hat : at1 with
    | nil =>
      subst hat
      cases se <;> cases amem <;> cases ais
      all_goals first
        | (exfalso; simp at hcase; done)
        | (clear hcase
           go_enter Tryz.func34, Tryz.ntmps34
           go_wp2_with fail
           refine (HQ.out _ (((Below.refl _ _).alloc (Nat.le_refl _) _).alloc (by simp) _)).mono ?_
           rintro e w1 ⟨rfl, hb1⟩
           obtain ⟨C0, C1, B1⟩ := boxes hb1
           have d0 := cell_of_heap (i := 0) C0
           obtain ⟨c0, c1, c2, c3, c4, c5, c6, c7⟩ := cells8 C1
           simp at d0
           have HB1 := Lib.hid B1
           clear C0 C1 hb1 B1
           go_wp2_with fail
           go_ret
           rw [HR'.out]
           exact ⟨rfl, HB1.out⟩)
    | cons x r =>
      rw [hat] at hcase
      clear hat hcase
      cases se <;> cases amem
      all_goals (
        go_enter Tryz.func34, Tryz.ntmps34
        go_wp2_with fail
        refine (HQ.out _ (((Below.refl _ _).alloc (Nat.le_refl _) _).alloc (by simp) _)).mono ?_
        rintro e w1 ⟨rfl, hb1⟩
        obtain ⟨C0, C1, B1⟩ := boxes hb1
        have d0 := cell_of_heap (i := 0) C0
        obtain ⟨c0, c1, c2, c3, c4, c5, c6, c7⟩ := cells8 C1
        simp at d0
        have HB1 := Lib.hid B1
        clear C0 C1 hb1 B1
        go_wp2_with fail
        go_ret
        rw [HR'.out]
        exact ⟨rfl, HB1.out⟩)
end Go.Proofs.YtagplldaooipmaaGreatDoor

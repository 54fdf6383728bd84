/- Several texts in one: Ln4, Ln5. -/
import Derived.Test.YtpcpjghfcimblaaGreatDoorKm
import Derived.Test.YtpcpjghfcimblaaGreatDoorKi
import Derived.Test.YtpcpjghfcimblaaGreatDoorKg
namespace Go.Proofs.YtpcpjghfcimblaaGreatDoor
open Go.RowKit

/-- An operand as a value. -/
abbrev arV (a : Ar) (v : Value) : Value := .agg #[.string ⟨a.w.toArray⟩, .string ⟨a.t.toArray⟩, .bool a.is, .bool a.mem, .string ⟨a.e.op.toArray⟩, .int .u16 a.e.n, .string ⟨a.e.name.toArray⟩, v]
/-- A block in cells that an operand takes. -/
def arCells (a : Ar) (v : Value) : List Value := [.string ⟨a.w.toArray⟩, .string ⟨a.t.toArray⟩, .bool a.is, .bool a.mem, .string ⟨a.e.op.toArray⟩, .int .u16 a.e.n, .string ⟨a.e.name.toArray⟩, v]
theorem SubAt.at {w w' : World} {B B' : Nat} {v : Value} {s : List Ex} (h : SubAt w (· < B) v s) (hb : Below B w w') (hB : B ≤ B') : SubAt w' (· < B') v s := (h.bel hb).more (fun x (hx : x < B) => Nat.lt_of_lt_of_le hx hB)
set_option maxHeartbeats 4000000 in
theorem sameArg_any (a b : Ar) (v u : Value) (w : World) (hs : SubAt w (· < w.heap.size) v a.e.sub) (ht : SubAt w (· < w.heap.size) u b.e.sub) :
    Calls Tryz.prog 24 #[arV a v, arV b u] w fun e w' => e = .returned (.bool (sameA a b)) ∧ Below w.heap.size w w' := by
  have HQ := Lib.hid (fun W (hW : Below w.heap.size w W) => Same_any a.e b.e v u W (hs.at hW hW.size) (ht.at hW hW.size))
  have HR : Hid (sameA a b = (a.w == b.w && a.t == b.t && a.is == b.is && a.mem == b.mem && sameE a.e b.e)) := Lib.hid rfl
  generalize sameA a b = res at *
  obtain ⟨A, c, rfl, hc, hm⟩ := hs.form
  obtain ⟨A', c', rfl, hc', hm'⟩ := ht.form
  clear hs ht hc hm hc' hm'
  obtain ⟨aw, at1, ais, amem, ae⟩ := a
  obtain ⟨bw, bt, bis, bmem, be⟩ := b
  simp only at *
  unfold arV
  simp only
  generalize sameE ae be = rs at *
  generalize ae.sub.length = sl at *
  generalize be.sub.length = yl at *
  obtain ⟨o, n, m, s⟩ := ae
  obtain ⟨o', n', m', s'⟩ := be
  simp only [Ex.op, Ex.n, Ex.name] at *
  by_cases h1 : aw = bw
  · subst h1
    by_cases h2 : at1 = bt
    · subst h2
      cases ais <;> cases bis <;> cases amem <;> cases bmem
      all_goals first
        | (have HR' : Hid (res = false) := Lib.hid (by rw [HR.out]; simp)
           go_enter Tryz.func24, Tryz.ntmps24
           go_wp2_with fail
           go_ret
           rw [HR'.out]
           exact ⟨rfl, ((Below.refl _ _).alloc (Nat.le_refl _) _).alloc (by simp) _⟩)
        | (have HR' : Hid (res = rs) := Lib.hid (by rw [HR.out]; simp)
           go_enter Tryz.func24, Tryz.ntmps24
           go_wp2_with fail
           refine (HQ.out _ (((Below.refl _ _).alloc (Nat.le_refl _) _).alloc (by simp) _)).mono ?_
           rintro e w1 ⟨rfl, hb1⟩
           go_wp2_with fail
           go_ret
           rw [HR'.out]
           exact ⟨rfl, (((Below.refl _ _).alloc (Nat.le_refl _) _).alloc (by simp) _).trans (hb1.mono (by simp; omega))⟩)
    · have d3 : (at1 == bt) = false := by simpa using h2
      have HR' : Hid (res = false) := Lib.hid (by rw [HR.out, d3]; simp)
      clear h2
      go_enter Tryz.func24, Tryz.ntmps24
      go_wp2_with fail
      go_ret
      rw [HR'.out]
      exact ⟨rfl, ((Below.refl _ _).alloc (Nat.le_refl _) _).alloc (by simp) _⟩
  · have d1 : (aw == bw) = false := by simpa using h1
    have HR' : Hid (res = false) := Lib.hid (by rw [HR.out, d1]; simp)
    clear h1
    go_enter Tryz.func24, Tryz.ntmps24
    go_wp2_with fail
    go_ret
    rw [HR'.out]
    exact ⟨rfl, ((Below.refl _ _).alloc (Nat.le_refl _) _).alloc (by simp) _⟩
end Go.Proofs.YtpcpjghfcimblaaGreatDoor
/- line: rows of operands in memory; Same. -/
namespace Go.Proofs.YtpcpjghfcimblaaGreatDoor
open Go.RowKit

/-- The slice v holds the operands l; all their parts lie in blocks of S. -/
def ArAt (w : World) (S : Nat → Prop) (v : Value) (l : List Ar) : Prop := ∃ (A : Option Addr) (c : Nat) (vs : Nat → Value), v = .slice A l.length c ∧ l.length ≤ c ∧ l.length ≤ maxLen ∧
  (0 < l.length → ∃ g o, A = some ⟨g, o, none⟩ ∧ S g ∧ ∀ i (hi : i < l.length), ∀ j u, (arCells l[i] (vs i))[j]? = some u → w.cell? ⟨g, o + i * 8 + j, none⟩ = some u) ∧
  ∀ i (hi : i < l.length), SubAt w S (vs i) l[i].e.sub
theorem ArAt.keep {w w' : World} {S S' : Nat → Prop} {v : Value} {l : List Ar} (h : ArAt w S v l) (hk : ∀ p : Addr, S p.block → w'.cell? p = w.cell? p) (hS : ∀ g, S g → S' g) : ArAt w' S' v l := by
  obtain ⟨A, c, vs, h1, h2, h3, h4, h5⟩ := h
  refine ⟨A, c, vs, h1, h2, h3, fun h0 => ?_, fun i hi => (h5 i hi).keep hk hS⟩
  obtain ⟨g, o, g1, g2, g3⟩ := h4 h0
  exact ⟨g, o, g1, hS g g2, fun i hi j u hu => (hk _ g2).trans (g3 i hi j u hu)⟩
theorem ArAt.nil (w : World) (S : Nat → Prop) : ArAt w S (.slice none 0 0) [] :=
  ⟨none, 0, fun _ => .slice none 0 0, rfl, Nat.le_refl _, by unfold maxLen; simp, fun h => absurd h (by simp), fun i hi => absurd hi (by simp)⟩
theorem ArAt.form {w : World} {S : Nat → Prop} {v : Value} {l : List Ar} (h : ArAt w S v l) : ∃ A c, v = .slice A l.length c ∧ l.length ≤ c ∧ l.length ≤ maxLen := by
  obtain ⟨A, c, vs, h1, h2, h3, h4, h5⟩ := h
  exact ⟨A, c, h1, h2, h3⟩
theorem ArAt.at {w w' : World} {B B' : Nat} {v : Value} {l : List Ar} (h : ArAt w (· < B) v l) (hb : Below B w w') (hB : B ≤ B') : ArAt w' (· < B') v l := h.keep (fun _ hp => hb.cell hp) (fun x (hx : x < B) => Nat.lt_of_lt_of_le hx hB)
theorem ArAt.get {w : World} {S : Nat → Prop} {A : Option Addr} {c : Nat} {l : List Ar} (h : ArAt w S (.slice A l.length c) l) (i : Nat) (hi : i < l.length) :
    ∃ g o v, A = some ⟨g, o, none⟩ ∧ S g ∧ w.cell? ⟨g, o + i * 8, none⟩ = some (.string ⟨l[i].w.toArray⟩) ∧ w.cell? ⟨g, o + i * 8 + 1, none⟩ = some (.string ⟨l[i].t.toArray⟩) ∧ w.cell? ⟨g, o + i * 8 + 2, none⟩ = some (.bool l[i].is) ∧ w.cell? ⟨g, o + i * 8 + 3, none⟩ = some (.bool l[i].mem) ∧ w.cell? ⟨g, o + i * 8 + 4, none⟩ = some (.string ⟨l[i].e.op.toArray⟩) ∧ w.cell? ⟨g, o + i * 8 + 5, none⟩ = some (.int .u16 l[i].e.n) ∧ w.cell? ⟨g, o + i * 8 + 6, none⟩ = some (.string ⟨l[i].e.name.toArray⟩) ∧ w.cell? ⟨g, o + i * 8 + 7, none⟩ = some v ∧ SubAt w S v l[i].e.sub := by
  obtain ⟨A', c', vs, h1, h2, h3, h4, h5⟩ := h
  injection h1 with h1 _ _
  subst h1
  obtain ⟨g, o, g1, g2, g3⟩ := h4 (by omega)
  have g := g3 i hi
  exact ⟨_, o, vs i, g1, g2, g 0 _ rfl, g 1 _ rfl, g 2 _ rfl, g 3 _ rfl, g 4 _ rfl, g 5 _ rfl, g 6 _ rfl, g 7 _ rfl, h5 i hi⟩
theorem sameA_iff (a b : Ar) : sameA a b = true ↔ a = b := by
  obtain ⟨a1, a2, a3, a4, a5⟩ := a
  obtain ⟨b1, b2, b3, b4, b5⟩ := b
  simp only [sameA, Bool.and_eq_true, beq_iff_eq, sameE_iff, Ar.mk.injEq]
  constructor
  · rintro ⟨⟨⟨⟨rfl, rfl⟩, rfl⟩, rfl⟩, rfl⟩; simp
  · rintro ⟨rfl, rfl, rfl, rfl, rfl⟩; simp
theorem sameAs_iff (s : List Ar) : ∀ t, sameAs s t = true ↔ s = t := by
  induction s with
  | nil => intro t; cases t <;> simp [sameAs]
  | cons a s ih =>
    intro t
    cases t with
    | nil => simp [sameAs]
    | cons b t => simp [sameAs, sameA_iff, ih]
theorem sameS_iff (a b : St) : sameS a b = true ↔ a = b := by
  obtain ⟨a1, a2, a3, a4⟩ := a
  obtain ⟨b1, b2, b3, b4⟩ := b
  simp only [sameS, Bool.and_eq_true, beq_iff_eq, sameAs_iff, St.mk.injEq]
  constructor
  · rintro ⟨⟨⟨rfl, rfl⟩, rfl⟩, rfl⟩; simp
  · rintro ⟨rfl, rfl, rfl, rfl⟩; simp
theorem sameAs_len (s t : List Ar) (h : s.length ≠ t.length) : sameAs s t = false := by
  cases hh : sameAs s t with
  | false => rfl
  | true => exact absurd (by rw [(sameAs_iff s t).1 hh]) h
theorem sameAs_at (s t : List Ar) (k : Nat) (hs : k < s.length) (ht : k < t.length) (h : sameA s[k] t[k] = false) : sameAs s t = false := by
  cases hh : sameAs s t with
  | false => rfl
  | true =>
    have := (sameAs_iff s t).1 hh
    subst this
    rw [(sameA_iff _ _).2 rfl] at h
    cases h
theorem sameAs_end (s t : List Ar) (hl : s.length = t.length) (h : s.take s.length = t.take s.length) : sameAs s t = true := by
  rw [List.take_length] at h
  rw [hl, List.take_length] at h
  exact (sameAs_iff s t).2 h
set_option maxHeartbeats 4000000 in
set_option maxRecDepth 100000 in
theorem eqa_any (s t : List Ar) (v u : Value) (w : World) (hs : ArAt w (· < w.heap.size) v s) (ht : ArAt w (· < w.heap.size) u t) :
    Calls Tryz.prog 23 #[v, u, .func (.func 24) #[] #[]] w fun e w' => e = .returned (.bool (sameAs s t)) ∧ Below w.heap.size w w' := by
  obtain ⟨A, c, rfl, hc, hm⟩ := hs.form
  obtain ⟨A', c', rfl, hc', hm'⟩ := ht.form
  unfold maxLen at hm hm'
  have HS := Lib.hid hs
  have HT := Lib.hid ht
  clear hs ht
  by_cases hl : s.length = t.length
  · have HEND := Lib.hid (sameAs_end s t hl)
    have HAT := Lib.hid (fun k hk hk' => sameAs_at s t k hk hk')
    have HL := Lib.hid hl
    have hne : ((s.length : Int) != (t.length : Int)) = false := by rw [hl]; simp
    generalize sameAs s t = res at *
    clear hl
    go_enter Tryz.func23, Tryz.ntmps23
    go_wp2_with fail
    go_loopw [17] (fun i wr => ∃ k : Nat, k ≤ s.length ∧ i = .int .i64 k ∧ s.take k = t.take k ∧ Below w.heap.size w wr) (fun i _ => s.length - (intOf i).toNat)
    case atStart => exact ⟨0, Nat.zero_le _, rfl, rfl, Below.refl _ _⟩
    case round =>
      obtain ⟨k, hk, rfl, heq, hb⟩ := hrel
      have hsz := hb.size
      have HE := Lib.hid heq
      clear heq
      by_cases hlt : k < s.length
      · have hlt2 : k < t.length := by have := HL.out; omega
        obtain ⟨g, q, vk, rfl, hg, c0, c1, c2, c3, c4, c5, c6, c7, hsub⟩ := HS.out.get k hlt
        obtain ⟨vA, vc, rfl, _, _⟩ := hsub.form
        obtain ⟨g', q', vk', rfl, hg', c0', c1', c2', c3', c4', c5', c6', c7', hsub'⟩ := HT.out.get k hlt2
        obtain ⟨vA', vc', rfl, _, _⟩ := hsub'.form
        have d0 := (hb.cell (p := ⟨g, q + k * 8, none⟩) hg).trans c0
        have d1 := (hb.cell (p := ⟨g, q + k * 8 + 1, none⟩) hg).trans c1
        have d2 := (hb.cell (p := ⟨g, q + k * 8 + 2, none⟩) hg).trans c2
        have d3 := (hb.cell (p := ⟨g, q + k * 8 + 3, none⟩) hg).trans c3
        have d4 := (hb.cell (p := ⟨g, q + k * 8 + 4, none⟩) hg).trans c4
        have d5 := (hb.cell (p := ⟨g, q + k * 8 + 5, none⟩) hg).trans c5
        have d6 := (hb.cell (p := ⟨g, q + k * 8 + 6, none⟩) hg).trans c6
        have d7 := (hb.cell (p := ⟨g, q + k * 8 + 7, none⟩) hg).trans c7
        have d0' := (hb.cell (p := ⟨g', q' + k * 8, none⟩) hg').trans c0'
        have d1' := (hb.cell (p := ⟨g', q' + k * 8 + 1, none⟩) hg').trans c1'
        have d2' := (hb.cell (p := ⟨g', q' + k * 8 + 2, none⟩) hg').trans c2'
        have d3' := (hb.cell (p := ⟨g', q' + k * 8 + 3, none⟩) hg').trans c3'
        have d4' := (hb.cell (p := ⟨g', q' + k * 8 + 4, none⟩) hg').trans c4'
        have d5' := (hb.cell (p := ⟨g', q' + k * 8 + 5, none⟩) hg').trans c5'
        have d6' := (hb.cell (p := ⟨g', q' + k * 8 + 6, none⟩) hg').trans c6'
        have d7' := (hb.cell (p := ⟨g', q' + k * 8 + 7, none⟩) hg').trans c7'
        have hgr : g < wr.heap.size := Nat.lt_of_lt_of_le hg hsz
        have hgr' : g' < wr.heap.size := Nat.lt_of_lt_of_le hg' hsz
        have HSK := Lib.hid (hsub.at hb hsz)
        have HSK' := Lib.hid (hsub'.at hb hsz)
        have HC := Lib.hid (fun o1 o2 => sameArg_any s[k] t[k] _ _ ((wr.alloc o1).alloc o2) (HSK.out.at (((Below.refl _ _).alloc (Nat.le_refl _) o1).alloc (by simp) o2) (by simp; omega)) (HSK'.out.at (((Below.refl _ _).alloc (Nat.le_refl _) o1).alloc (by simp) o2) (by simp; omega)))
        have HF := Lib.hid (HAT.out k hlt hlt2)
        have HT2 : Hid (sameA s[k] t[k] = true → s.take (k + 1) = t.take (k + 1)) := Lib.hid (fun h => by rw [List.take_succ_eq_append_getElem hlt, List.take_succ_eq_append_getElem hlt2, HE.out, (sameA_iff _ _).1 h])
        generalize s[k] = x at *
        generalize t[k] = y at *
        clear c0 c1 c2 c3 c4 c5 c6 c7 c0' c1' c2' c3' c4' c5' c6' c7' hsub hsub' HAT HSK HSK'
        cases hxy : sameA x y with
        | true =>
          have HT3 := Lib.hid (HT2.out hxy)
          rw [hxy] at HC
          clear hxy HT2 HF
          go_wp2_with fail
          refine (HC.out _ _).mono ?_
          rintro e0 w5 ⟨rfl, hb5⟩
          have hb6 : Below w.heap.size w w5 := ((hb.alloc hsz _).alloc (by simp; omega) _).trans (hb5.mono (by simp; omega))
          go_wp2_with fail
          go_roundw
          case rel => exact ⟨k + 1, by omega, by go_num, HT3.out, hb6⟩
          case measure => simp [intOf]; omega
        | false =>
          have hres := HF.out hxy
          subst hres
          rw [hxy] at HC
          clear hxy HT2 HF
          go_wp2_with fail
          refine (HC.out _ _).mono ?_
          rintro e0 w5 ⟨rfl, hb5⟩
          have hb6 : Below w.heap.size w w5 := ((hb.alloc hsz _).alloc (by simp; omega) _).trans (hb5.mono (by simp; omega))
          go_wp2_with fail
          go_ret
          exact ⟨rfl, hb6⟩
      · obtain rfl : k = s.length := by omega
        have hres := HEND.out HE.out
        subst hres
        go_wp2_with fail
        go_ret
        exact ⟨rfl, hb⟩
  · have hres := sameAs_len s t hl
    have hne : ((s.length : Int) != (t.length : Int)) = true := by rw [bne_iff_ne]; omega
    rw [hres]
    clear hres HS HT hl
    generalize s.length = n at *
    generalize t.length = n' at *
    go_enter Tryz.func23, Tryz.ntmps23
    go_wp2_with fail
    go_ret
    exact ⟨rfl, Below.refl _ _⟩
/-- A statement as a value. -/
abbrev stV (s : St) (v : Value) : Value := .agg #[.string ⟨s.label.toArray⟩, .bool s.colon, .string ⟨s.op.toArray⟩, v]
set_option maxHeartbeats 4000000 in
theorem Same12_any (a b : St) (v u : Value) (w : World) (hs : ArAt w (· < w.heap.size) v a.args) (ht : ArAt w (· < w.heap.size) u b.args) :
    Calls Tryz.prog 9 #[stV a v, stV b u] w fun e w' => e = .returned (.bool (sameS a b)) ∧ Below w.heap.size w w' := by
  have HQ := Lib.hid (fun W (hW : Below w.heap.size w W) => eqa_any a.args b.args v u W (hs.at hW hW.size) (ht.at hW hW.size))
  have HR : Hid (sameS a b = (a.label == b.label && a.colon == b.colon && a.op == b.op && sameAs a.args b.args)) := Lib.hid rfl
  generalize sameS a b = res at *
  obtain ⟨A, c, rfl, hc, hm⟩ := hs.form
  obtain ⟨A', c', rfl, hc', hm'⟩ := ht.form
  clear hs ht hc hm hc' hm'
  obtain ⟨a1, a2, a3, a4⟩ := a
  obtain ⟨b1, b2, b3, b4⟩ := b
  unfold stV
  simp only at *
  generalize sameAs a4 b4 = rs at *
  generalize a4.length = sl at *
  generalize b4.length = yl at *
  by_cases h1 : a1 = b1
  · subst h1
    by_cases h3 : a3 = b3
    · subst h3
      cases a2 <;> cases b2
      all_goals first
        | (have HR' : Hid (res = false) := Lib.hid (by rw [HR.out]; simp)
           go_enter Tryz.func9, Tryz.ntmps9
           go_wp2_with fail
           go_ret
           rw [HR'.out]
           exact ⟨rfl, ((Below.refl _ _).alloc (Nat.le_refl _) _).alloc (by simp) _⟩)
        | (have HR' : Hid (res = rs) := Lib.hid (by rw [HR.out]; simp)
           go_enter Tryz.func9, Tryz.ntmps9
           go_wp2_with fail
           refine (HQ.out _ (((Below.refl _ _).alloc (Nat.le_refl _) _).alloc (by simp) _)).mono ?_
           rintro e w1 ⟨rfl, hb1⟩
           go_wp2_with fail
           go_ret
           rw [HR'.out]
           exact ⟨rfl, (((Below.refl _ _).alloc (Nat.le_refl _) _).alloc (by simp) _).trans (hb1.mono (by simp; omega))⟩)
    · have d3 : (a3 == b3) = false := by simpa using h3
      have HR' : Hid (res = false) := Lib.hid (by rw [HR.out, d3]; simp)
      clear h3
      cases a2 <;> cases b2
      all_goals (
        go_enter Tryz.func9, Tryz.ntmps9
        go_wp2_with fail
        go_ret
        rw [HR'.out]
        exact ⟨rfl, ((Below.refl _ _).alloc (Nat.le_refl _) _).alloc (by simp) _⟩)
  · have d1 : (a1 == b1) = false := by simpa using h1
    have HR' : Hid (res = false) := Lib.hid (by rw [HR.out, d1]; simp)
    clear h1
    go_enter Tryz.func9, Tryz.ntmps9
    go_wp2_with fail
    go_ret
    rw [HR'.out]
    exact ⟨rfl, ((Below.refl _ _).alloc (Nat.le_refl _) _).alloc (by simp) _⟩
end Go.Proofs.YtpcpjghfcimblaaGreatDoor

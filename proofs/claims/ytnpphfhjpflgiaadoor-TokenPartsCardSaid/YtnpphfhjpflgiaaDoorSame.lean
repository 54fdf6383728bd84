/- The reference's Same. -/
import Derived.Test.YtnpphfhjpflgiaaDoorRd
import Derived.Laws.StructEq
namespace Go.Proofs.YtnpphfhjpflgiaaDoor
open Go.RowKit

theorem Rd.tok {w : World} {B c : Nat} {A : Option Addr} {ts : List Tok} (h : Rd w B (.slice A ts.length c) ts.length (tokRow ts)) (k : Nat) (hk : k < ts.length) :
    ∃ g o, A = some ⟨g, o, none⟩ ∧ g < B ∧ w.cell? ⟨g, o + k * 3, none⟩ = some (.int .i64 ts[k].1) ∧ w.cell? ⟨g, o + k * 3 + 1, none⟩ = some (.string ⟨ts[k].2.1.toArray⟩) ∧ w.cell? ⟨g, o + k * 3 + 2, none⟩ = some (.int .u16 ts[k].2.2) := by
  obtain ⟨A', c', h1, h2, h3⟩ := h
  injection h1 with h1 _ _
  subst h1
  obtain ⟨g, o, h4, h5, h6⟩ := h3 (by omega)
  have ⟨g1, g2, g3⟩ := tokRow_get ts k hk
  exact ⟨g, o, h4, h5, h6 _ _ g1, by simpa [Nat.add_assoc] using h6 _ _ g2, by simpa [Nat.add_assoc] using h6 _ _ g3⟩
theorem Rd.form {w : World} {B n : Nat} {v : Value} {xs : List Value} (h : Rd w B v n xs) : ∃ A c, v = .slice A n c ∧ n ≤ c := by
  obtain ⟨A, c, h1, h2, _⟩ := h; exact ⟨A, c, h1, h2⟩

theorem eq_tok (t u : Tok) (w : World) : (Op.equalIn 10000 46 (.agg #[.int .i64 t.1, .string ⟨t.2.1.toArray⟩, .int .u16 t.2.2]) (.agg #[.int .i64 u.1, .string ⟨u.2.1.toArray⟩, .int .u16 u.2.2])).run Tryd.prog w = .ok (decide (t = u)) w := by
  obtain ⟨a, s, b⟩ := t
  obtain ⟨c, t, d⟩ := u
  have u3 := Tryd.underlying3
  have u9 := Tryd.underlying9
  have u28 := Tryd.underlying28
  have hS : Tryd.prog.underlying 46 = some (.struct (Tryd.prog.fieldsOf 46)) := by kernel_rfl
  have hp : Tryd.prog.stoodInHeld 46 = false := by kernel_rfl
  rw [show (10000 : Nat) = 9999 + 1 from rfl, run_equalIn_agg w 9999 46 _ _ hS hp]
  simp only [Program.fieldsOf, Tryd.underlying46]
  go_simp
  by_cases h1 : a = c <;> by_cases h2 : s = t <;> by_cases h3 : b = d <;> simp [h1, h2, h3] <;> omega
theorem guard_tok : Tryd.prog.eqGuardType Tryd.prog.depth 46 = false := by kernel_rfl
attribute [go_sem high] eq_tok
/-- Tokens that are alike so far. -/
theorem alike_succ (ts us : List Tok) (k : Nat) (h1 : k < ts.length) (h2 : k < us.length) (h : ts.take k = us.take k) : ts[k] = us[k] → ts.take (k + 1) = us.take (k + 1) := by
  intro e
  rw [List.take_succ_eq_append_getElem h1, List.take_succ_eq_append_getElem h2, h, e]

set_option maxHeartbeats 1000000 in
theorem same_any (ts us : List Tok) (va vb : Value) (w : World) (ha : Rd w w.heap.size va ts.length (tokRow ts)) (hb : Rd w w.heap.size vb us.length (tokRow us)) (hl : ts.length ≤ 1000000) (hl2 : us.length ≤ 1000000) :
    Calls Tryd.prog 20 #[va, vb] w fun e w' => e = .returned (.bool (decide (ts = us))) ∧ Below w.heap.size w w' := by
  obtain ⟨A, c, rfl, hc⟩ := ha.form
  obtain ⟨B, d, rfl, hd⟩ := hb.form
  by_cases hne : ts.length = us.length
  · have hne' : ((us.length : Int) != (us.length : Int)) = false := by simp
    have HA := Lib.hid ha
    have HB := Lib.hid hb
    clear ha hb
    generalize hn : ts.length = n at *
    subst hne
    go_enter Tryd.func20, Tryd.ntmps20
    go_wp2_with fail
    go_loopw [5] (fun i wr => ∃ k : Nat, k ≤ us.length ∧ i = .int .i64 k ∧ ts.take k = us.take k ∧ Below w.heap.size w wr) (fun i _ => us.length - (intOf i).toNat)
    case atStart => exact ⟨0, Nat.zero_le _, rfl, rfl, Below.refl _ _⟩
    case round =>
      obtain ⟨k, hk, rfl, heq, hbl⟩ := hrel
      by_cases hlt : k < us.length
      · have hlt1 : k < ts.length := by omega
        obtain ⟨g, o, rfl, hg, c1, c2, c3⟩ := (hn ▸ HA.out).tok k hlt1
        obtain ⟨g', o', rfl, hg', c4, c5, c6⟩ := HB.out.tok k hlt
        have d1 := (hbl.cell (p := ⟨g, o + k * 3, none⟩) hg).trans c1
        have d2 := (hbl.cell (p := ⟨g, o + k * 3 + 1, none⟩) hg).trans c2
        have d3 := (hbl.cell (p := ⟨g, o + k * 3 + 2, none⟩) hg).trans c3
        have d4 := (hbl.cell (p := ⟨g', o' + k * 3, none⟩) hg').trans c4
        have d5 := (hbl.cell (p := ⟨g', o' + k * 3 + 1, none⟩) hg').trans c5
        have d6 := (hbl.cell (p := ⟨g', o' + k * 3 + 2, none⟩) hg').trans c6
        have HE := Lib.hid (alike_succ ts us k hlt1 hlt heq)
        have HN : Hid (ts[k] ≠ us[k] → ts ≠ us) := Lib.hid (fun h e => h (by subst e; rfl))
        clear c1 c2 c3 c4 c5 c6
        have hgd := guard_tok
        generalize ts[k] = t at *
        generalize us[k] = u at *
        by_cases he : t = u
        · have hq : decide (t = u) = true := by simp [he]
          go_wp2_with fail
          go_quiet (fail)
          go_wp2_with fail
          go_roundw
          case rel => exact ⟨k + 1, by omega, by go_num, HE.out he, below_drewN hbl _⟩
          case measure => simp [intOf]; omega
        · have hq : decide (t = u) = false := by simp [he]
          go_wp2_with fail
          go_quiet (fail)
          go_wp2_with fail
          go_ret
          exact ⟨by simp [HN.out he], below_drewN hbl _⟩
      · obtain rfl : k = us.length := by omega
        rw [List.take_length, ← hn, List.take_length] at heq
        subst heq
        go_wp2_with fail
        go_ret
        exact ⟨by simp, hbl⟩
  · have hne' : ((ts.length : Int) != (us.length : Int)) = true := by rw [bne_iff_ne]; omega
    have hD : decide (ts = us) = false := by rw [decide_eq_false_iff_not]; intro h; exact hne (by rw [h])
    rw [hD]
    clear hD ha hb
    generalize ts.length = n at *
    generalize us.length = m at *
    go_enter Tryd.func20, Tryd.ntmps20
    go_wp2_with fail
    go_ret
    exact ⟨rfl, Below.refl _ _⟩
end Go.Proofs.YtnpphfhjpflgiaaDoor

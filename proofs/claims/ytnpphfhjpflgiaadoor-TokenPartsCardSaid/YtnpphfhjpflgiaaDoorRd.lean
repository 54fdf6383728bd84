/- A slice that reads as a list of cells; tokens' slices; Back, Own and Same. -/
import Derived.Test.YtnpphfhjpflgiaaDoorLine
import Derived.StillTailTactics
import Derived.Deep.QuietTactic
import Derived.BigQuiet
import Derived.Lib.SmallJoins
namespace Go.Proofs.YtnpphfhjpflgiaaDoor
open Go.RowKit

/-- The slice v holds n elements, whose cells read xs; its block lies below B. -/
def Rd (w : World) (B : Nat) (v : Value) (n : Nat) (xs : List Value) : Prop :=
  ∃ A c, v = .slice A n c ∧ n ≤ c ∧ (0 < n → ∃ g o, A = some ⟨g, o, none⟩ ∧ g < B ∧ ∀ (j : Nat) (u : Value), xs[j]? = some u → w.cell? ⟨g, o + j, none⟩ = some u)
theorem Rd.keep {w w' : World} {B n : Nat} {v : Value} {xs : List Value} (h : Rd w B v n xs) (hk : ∀ p : Addr, p.block < B → w'.cell? p = w.cell? p) : Rd w' B v n xs := by
  obtain ⟨A, c, h1, h2, h3⟩ := h
  refine ⟨A, c, h1, h2, fun hn => ?_⟩
  obtain ⟨g, o, h4, h5, h6⟩ := h3 hn
  exact ⟨g, o, h4, h5, fun j u hu => (hk _ h5).trans (h6 j u hu)⟩
theorem Rd.below {w w' : World} {B n : Nat} {v : Value} {xs : List Value} (h : Rd w B v n xs) (hb : Below B w w') : Rd w' B v n xs := h.keep fun _ hp => hb.cell hp
theorem Rd.more {w : World} {B B' n : Nat} {v : Value} {xs : List Value} (h : Rd w B v n xs) (hB : B ≤ B') : Rd w B' v n xs := by
  obtain ⟨A, c, h1, h2, h3⟩ := h
  refine ⟨A, c, h1, h2, fun hn => ?_⟩
  obtain ⟨g, o, h4, h5, h6⟩ := h3 hn
  exact ⟨g, o, h4, by omega, h6⟩
theorem addr_add (g o j : Nat) : Addr.add ⟨g, o, none⟩ j = ⟨g, o + j, none⟩ := by
  unfold Addr.add; split
  · rename_i h; subst h; rfl
  · rfl
theorem Rd.of_own {w : World} {base size n : Nat} {e : TypeId} {v : Value} {xs : List Value} (h : w.ownsRow base e size v n xs) : Rd w w.heap.size v n xs := by
  rcases Joins.ownsRow_forms h with ⟨rfl, rfl⟩ | ⟨g, cap, rfl⟩
  · exact ⟨none, 0, rfl, by omega, fun h => absurd h (by omega)⟩
  · obtain ⟨_, h1 | ⟨g', cap', cur, h1, _, _, h3, _⟩⟩ := id h
    · simp at h1
    · injection h1 with _ _ h1c
      subst h1c
      refine ⟨_, cap, rfl, h3, fun hn => ⟨g, 0, rfl, (h.lt g rfl).2, fun j u hu => ?_⟩⟩
      have := h.cells (g := g) rfl j u hu
      rw [addr_add] at this
      simpa using this

theorem tokRow_length (ts : List Tok) : (tokRow ts).length = ts.length * 3 := by
  induction ts with
  | nil => rfl
  | cons t ts ih => simp only [tokRow, List.flatMap_cons, List.length_append, List.length_cons] at ih ⊢; rw [ih]; simp [tokCells]; omega
theorem tokRow_get (ts : List Tok) (k : Nat) (hk : k < ts.length) : (tokRow ts)[k * 3]? = some (.int .i64 ts[k].1) ∧ (tokRow ts)[k * 3 + 1]? = some (.string ⟨ts[k].2.1.toArray⟩) ∧ (tokRow ts)[k * 3 + 2]? = some (.int .u16 ts[k].2.2) := by
  induction ts generalizing k with
  | nil => simp at hk
  | cons t ts ih =>
    cases k with
    | zero => simp [tokRow, tokCells]
    | succ k =>
      have := ih k (by simpa using hk)
      have e : tokRow (t :: ts) = tokCells t ++ tokRow ts := by simp [tokRow]
      rw [e]
      have hl : (tokCells t).length = 3 := rfl
      refine ⟨?_, ?_, ?_⟩ <;> rw [List.getElem?_append_right (by rw [hl]; omega), hl]
      · rw [show (k + 1) * 3 - 3 = k * 3 by omega]; exact this.1
      · rw [show (k + 1) * 3 + 1 - 3 = k * 3 + 1 by omega]; exact this.2.1
      · rw [show (k + 1) * 3 + 2 - 3 = k * 3 + 2 by omega]; exact this.2.2
theorem tokRow_take_succ (ts : List Tok) (k : Nat) (hk : k < ts.length) : tokRow (ts.take (k + 1)) = tokRow (ts.take k) ++ tokCells ts[k] := by
  rw [List.take_succ_eq_append_getElem hk, tokRow_snoc]

theorem cells_new1 (w : World) (cs : List Value) (T : TypeId) : ∀ (j : Nat) (u : Value), cs[j]? = some u → (w.alloc (.cells cs.toArray T)).drew.cell? (Addr.add ⟨w.heap.size, 0, none⟩ j) = some u := cells_new w cs T

set_option maxHeartbeats 1000000 in
theorem back_any (ts : List Tok) (v : Value) (w : World) (hr : Rd w w.heap.size v ts.length (tokRow ts)) (hl : ts.length ≤ 1000000) :
    Calls Tryd.prog 21 #[v] w fun e w' => ∃ v', e = .returned v' ∧ w'.ownsRow w.heap.size 46 3 v' ts.length (tokRow ts) ∧ Below w.heap.size w w' := by
  obtain ⟨A, c, rfl, hc, h3⟩ := hr
  have hcell : ∀ k, (hk : k < ts.length) → ∃ g o, A = some ⟨g, o, none⟩ ∧ g < w.heap.size ∧ w.cell? ⟨g, o + k * 3, none⟩ = some (.int .i64 ts[k].1) ∧ w.cell? ⟨g, o + k * 3 + 1, none⟩ = some (.string ⟨ts[k].2.1.toArray⟩) ∧ w.cell? ⟨g, o + k * 3 + 2, none⟩ = some (.int .u16 ts[k].2.2) := by
    intro k hk
    obtain ⟨g, o, h4, h5, h6⟩ := h3 (by omega)
    have ⟨g1, g2, g3⟩ := tokRow_get ts k hk
    exact ⟨g, o, h4, h5, h6 _ _ g1, by simpa [Nat.add_assoc] using h6 _ _ g2, by simpa [Nat.add_assoc] using h6 _ _ g3⟩
  clear h3
  go_enter Tryd.func21, Tryd.ntmps21
  go_wp2_with fail
  go_loopw [3, 4] (fun v i wr => ∃ k : Nat, k ≤ ts.length ∧ i = .int .i64 k ∧ wr.ownsRow w.heap.size 46 3 v k (tokRow (ts.take k)) ∧ Below w.heap.size w wr) (fun _ i _ => ts.length - (intOf i).toNat)
  case atStart => exact ⟨0, Nat.zero_le _, rfl, World.ownsRow_nil _ _ _ _, Below.refl _ _⟩
  case round =>
    obtain ⟨k, hk, rfl, hown, hb⟩ := hrel
    have hsz := hb.size
    by_cases hlt : k < ts.length
    · obtain ⟨g, o, rfl, hg, c1, c2, c3⟩ := hcell k hlt
      have hrow := tokRow_take_succ ts k hlt
      generalize ts[k] = t at *
      have d1 := (hb.cell (p := ⟨g, o + k * 3, none⟩) hg).trans c1
      have d2 := (hb.cell (p := ⟨g, o + k * 3 + 1, none⟩) hg).trans c2
      have d3 := (hb.cell (p := ⟨g, o + k * 3 + 2, none⟩) hg).trans c3
      clear c1 c2 c3 hcell
      have HR := Lib.hid hrow
      clear hrow
      go_wp2_with fail
      go_region_law (first | (refine step_append_at _ (by rfl) _ _ _ (by rfl) w.heap.size 46 _ 3 32 Tryd.underlying34 info_rtok rfl (by decide) ((hown.alloc _).drew) (by rfl) ⟨wr.heap.size, 0, none⟩ (tokCells t) (by rfl) (by rfl) (cells_new1 wr (tokCells t) _) (tokCells_one _) (by omega) (by omega) (by simp; omega) ?_; intro v' w2 hown3 hb3 hgr3))
      all_goals (
        have hb4 := (hb.alloc hsz _).drew.trans hb3
        have H3 : Hid (w2.ownsRow w.heap.size 46 3 v' (k + 1) (tokRow (ts.take (k + 1)))) := Lib.hid (by rw [HR.out]; exact hown3)
        clear hown hown3 hb3 hb HR
        go_simp
        go_wp2_with fail
        go_roundw
        case rel => exact ⟨k + 1, by omega, by go_num, H3.out, hb4⟩
        case measure => simp [intOf]; omega)
    · obtain rfl : k = ts.length := by omega
      rw [List.take_length] at hown
      go_wp2_with fail
      go_ret
      exact ⟨_, rfl, hown, hb⟩

set_option maxHeartbeats 1000000 in
theorem own_any (ts : List Tok) (v : Value) (w : World) (hr : Rd w w.heap.size v ts.length (tokRow ts)) (hl : ts.length ≤ 1000000) :
    Calls Tryd.prog 26 #[v] w fun e w' => ∃ v', e = .returned v' ∧ w'.ownsRow w.heap.size 41 3 v' ts.length (tokRow ts) ∧ Below w.heap.size w w' := by
  obtain ⟨A, c, rfl, hc, h3⟩ := hr
  have hcell : ∀ k, (hk : k < ts.length) → ∃ g o, A = some ⟨g, o, none⟩ ∧ g < w.heap.size ∧ w.cell? ⟨g, o + k * 3, none⟩ = some (.int .i64 ts[k].1) ∧ w.cell? ⟨g, o + k * 3 + 1, none⟩ = some (.string ⟨ts[k].2.1.toArray⟩) ∧ w.cell? ⟨g, o + k * 3 + 2, none⟩ = some (.int .u16 ts[k].2.2) := by
    intro k hk
    obtain ⟨g, o, h4, h5, h6⟩ := h3 (by omega)
    have ⟨g1, g2, g3⟩ := tokRow_get ts k hk
    exact ⟨g, o, h4, h5, h6 _ _ g1, by simpa [Nat.add_assoc] using h6 _ _ g2, by simpa [Nat.add_assoc] using h6 _ _ g3⟩
  clear h3
  go_enter Tryd.func26, Tryd.ntmps26
  go_wp2_with fail
  go_loopw [3, 4] (fun v i wr => ∃ k : Nat, k ≤ ts.length ∧ i = .int .i64 k ∧ wr.ownsRow w.heap.size 41 3 v k (tokRow (ts.take k)) ∧ Below w.heap.size w wr) (fun _ i _ => ts.length - (intOf i).toNat)
  case atStart => exact ⟨0, Nat.zero_le _, rfl, World.ownsRow_nil _ _ _ _, Below.refl _ _⟩
  case round =>
    obtain ⟨k, hk, rfl, hown, hb⟩ := hrel
    have hsz := hb.size
    by_cases hlt : k < ts.length
    · obtain ⟨g, o, rfl, hg, c1, c2, c3⟩ := hcell k hlt
      have hrow := tokRow_take_succ ts k hlt
      generalize ts[k] = t at *
      have d1 := (hb.cell (p := ⟨g, o + k * 3, none⟩) hg).trans c1
      have d2 := (hb.cell (p := ⟨g, o + k * 3 + 1, none⟩) hg).trans c2
      have d3 := (hb.cell (p := ⟨g, o + k * 3 + 2, none⟩) hg).trans c3
      clear c1 c2 c3 hcell
      have HR := Lib.hid hrow
      clear hrow
      go_wp2_with fail
      go_region_law (first | (refine step_append_at _ (by rfl) _ _ _ (by rfl) w.heap.size 41 _ 3 32 Tryd.underlying31 info_tok rfl (by decide) ((hown.alloc _).drew) (by rfl) ⟨wr.heap.size, 0, none⟩ (tokCells t) (by rfl) (by rfl) (cells_new1 wr (tokCells t) _) (tokCells_one _) (by omega) (by omega) (by simp; omega) ?_; intro v' w2 hown3 hb3 hgr3))
      all_goals (
        have hb4 := (hb.alloc hsz _).drew.trans hb3
        have H3 : Hid (w2.ownsRow w.heap.size 41 3 v' (k + 1) (tokRow (ts.take (k + 1)))) := Lib.hid (by rw [HR.out]; exact hown3)
        clear hown hown3 hb3 hb HR
        go_simp
        go_wp2_with fail
        go_roundw
        case rel => exact ⟨k + 1, by omega, by go_num, H3.out, hb4⟩
        case measure => simp [intOf]; omega)
    · obtain rfl : k = ts.length := by omega
      rw [List.take_length] at hown
      go_wp2_with fail
      go_ret
      exact ⟨_, rfl, hown, hb⟩
end Go.Proofs.YtnpphfhjpflgiaaDoor

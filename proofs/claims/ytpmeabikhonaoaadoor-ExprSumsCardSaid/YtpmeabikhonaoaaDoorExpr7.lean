/- expr: the parser as a whole; deep, Parse, All. -/
import Derived.Test.YtpmeabikhonaoaaDoorExpr6
namespace Go.Proofs.YtpmeabikhonaoaaDoor
open Go.RowKit

set_option maxHeartbeats 2000000 in
set_option maxRecDepth 100000 in
theorem binary_un (f r b L : Nat) (hr : r = 3 ∨ r = 6) (hu : ∀ s w, PSt w b s → s.ts.length ≤ L → s.op ≤ 48 → Calls Tryd.prog 116 #[.pointer (some ⟨b, 0, none⟩), .int .i64 r] w (PPost b w (pP f r s))) : BinH f r b L := by
  intro s w hp hl hop
  have hlt := hp.lt
  have HP := Lib.hid hp
  have HU := Lib.hid (fun W hW => hu s W hW hl hop)
  clear hp hu
  generalize pP f r s = res at *
  rcases hr with rfl | rfl
  all_goals (
    go_enter Tryd.func84, Tryd.ntmps84
    go_wp2_with fail
    refine (HU.out _ (HP.out.alloc _)).mono ?_
    rintro e w2 ⟨vs, rfl, hsub, hok, hps2, hgr2⟩
    obtain ⟨sA, sc, rfl, hsc, hsm⟩ := hsub.form
    have hg2 : w.grownBy w2 (some b) := grow_trans (only_alloc (grow_refl _ _) _) hgr2
    have hh2 : w2.heap[w.heap.size]? = some (.cells #[.string ⟨#[]⟩, .int .u16 0, .string ⟨#[]⟩, .slice none 0 0] 25 (0, 0)) := (hgr2.block w.heap.size (by simp) (by simp; omega)).trans (heap_last rfl _)
    have hsz2 : w.heap.size + 1 ≤ w2.heap.size := by have := hgr2.size; simpa using this
    obtain ⟨⟨k0, k1, k2, k3⟩, g0, g1, g2, g3⟩ := four hh2
    have HSUB := Lib.hid hsub
    clear hsub hgr2 hh2 HU
    go_wp2_with fail
    refine bodyPost_ret (v := .agg #[.string ⟨res.1.op.toArray⟩, .int .u16 res.1.n, .string ⟨res.1.name.toArray⟩, .slice sA res.1.sub.length sc]) (by simp [results, Tryd.results84, go_sem, k0, k1, k2, k3]) rfl ⟨_, rfl, ?_, hok, ?_, ?_⟩
    · exact (HSUB.out.more (S' := fun g => w.heap.size + 1 ≤ g ∧ g < w2.heap.size) (fun g hg => by simpa using hg)).four (k := w.heap.size) (by omega) (fun g hg => by simp; omega) _ _ _ _
    · exact hps2.four hlt _ _ _ _
    · exact grow_four hg2 (Nat.le_refl _) _ _ _ _)

theorem bin_all (b : Nat) : ∀ f r L, 1 ≤ r → r ≤ 6 → L ≤ 100000 → 8 * L + (8 - r) ≤ f → BinH f r b L := by
  intro f
  induction f using Nat.strongRecOn with
  | _ f ih =>
    intro r L h1 h6 hL hf
    obtain ⟨g, rfl⟩ : ∃ g, f = g + 1 := ⟨f - 1, by omega⟩
    by_cases h3 : r = 3
    · subst h3
      exact binary_un (g + 1) 3 b L (.inl rfl) (fun s w hp hl hop => unary3_any g b L (fun L' hL' => ih g (by omega) 3 L' (by omega) (by omega) (by omega) (by omega)) (ih g (by omega) 4 L (by omega) (by omega) hL (by omega)) s w hp hl hL hop)
    by_cases h6' : r = 6
    · subst h6'
      obtain ⟨g', rfl⟩ : ∃ g', g = g' + 1 := ⟨g - 1, by omega⟩
      exact binary_un (g' + 1 + 1) 6 b L (.inr rfl) (fun s w hp hl hop => unary6_any g' b L (fun L' hL' => ih (g' + 1) (by omega) 6 L' (by omega) (by omega) (by omega) (by omega)) (fun L' hL' => ih g' (by omega) 1 L' (by omega) (by omega) (by omega) (by omega)) s w hp hl hL hop)
    have hb : binR r := by unfold binR; omega
    exact binary_step g r b L hb hL hf (ih g (by omega) (r + 1) L (by omega) (by unfold binR at hb; omega) hL (by omega)) (fun f' L' hf' hl' hL' => ih f' (by omega) (r + 1) L' (by omega) (by unfold binR at hb; omega) (by omega) (by omega))

theorem deepL_take (s : List Ex) (k : Nat) (hk : k < s.length) : deepL (s.take (k + 1)) = max (deepL (s.take k)) (deepE s[k]) := by
  induction s generalizing k with
  | nil => simp at hk
  | cons e s ih =>
    cases k with
    | zero => simp [deepL]
    | succ k =>
      have := ih k (by simpa using hk)
      simp only [List.take_succ_cons, deepL, this, List.getElem_cons_succ]
      omega
theorem deepL_le (s : List Ex) (k : Nat) : deepL (s.take k) ≤ deepL s := by
  induction s generalizing k with
  | nil => simp [deepL]
  | cons e s ih =>
    cases k with
    | zero => simp [deepL]
    | succ k => have := ih k; simp only [List.take_succ_cons, deepL]; omega
theorem deepE_mem (s : List Ex) (e : Ex) (h : e ∈ s) : deepE e ≤ deepL s := by
  induction s with
  | nil => simp at h
  | cons a s ih =>
    simp only [deepL]
    rcases List.mem_cons.1 h with rfl | h
    · omega
    · have := ih h; omega
theorem max_nat (a b : Nat) : max (a : Int) (b : Int) = ((max a b : Nat) : Int) := by omega
set_option maxHeartbeats 2000000 in
set_option maxRecDepth 100000 in
theorem deep_any (e : Ex) : ∀ (v : Value) (w : World), SubAt w (· < w.heap.size) v e.sub → deepE e ≤ 1000000000 →
    Calls Tryd.prog 85 #[.agg #[.string ⟨e.op.toArray⟩, .int .u16 e.n, .string ⟨e.name.toArray⟩, v]] w fun r w' => r = .returned (.int .i64 (deepE e)) ∧ Below w.heap.size w w' := by
  induction e using Ex.ind with
  | h o n m s ih =>
    intro v w hs hd
    have hdl : deepL s + 1 ≤ 1000000000 := by simpa [deepE] using hd
    have HD : Hid (deepE (.mk o n m s) = deepL s + 1) := Lib.hid (by simp [deepE])
    have IH := Lib.hid ih
    dsimp only [Ex.op, Ex.n, Ex.name, Ex.sub] at hs ⊢
    obtain ⟨A, c, rfl, hc, hm⟩ := hs.form
    unfold maxLen at hm
    have HS := Lib.hid hs
    clear hs ih hd
    generalize deepE (.mk o n m s) = de at *
    go_enter Tryd.func85, Tryd.ntmps85
    go_wp2_with fail
    go_loopw [2, 8] (fun d i wr => ∃ k : Nat, k ≤ s.length ∧ i = .int .i64 k ∧ d = .int .i64 (deepL (s.take k)) ∧ Below w.heap.size w wr) (fun _ i _ => s.length - (intOf i).toNat)
    case atStart => exact ⟨0, Nat.zero_le _, rfl, rfl, (Below.refl _ _).alloc (Nat.le_refl _) _⟩
    case round =>
      obtain ⟨k, hk, rfl, rfl, hb⟩ := hrel
      have hsz := hb.size
      have hle := deepL_le s k
      by_cases hlt : k < s.length
      · obtain ⟨g, q, vk, rfl, hg, c0, c1, c2, c3, hsub, hn, _, _⟩ := HS.out.get k hlt
        obtain ⟨vA, vc, rfl, _, _⟩ := hsub.form
        have d0 := (hb.cell (p := ⟨g, q + k * 4, none⟩) hg).trans c0
        have d1 := (hb.cell (p := ⟨g, q + k * 4 + 1, none⟩) hg).trans c1
        have d2 := (hb.cell (p := ⟨g, q + k * 4 + 2, none⟩) hg).trans c2
        have d3 := (hb.cell (p := ⟨g, q + k * 4 + 3, none⟩) hg).trans c3
        have hsk := (hsub.bel hb).more (S' := (· < wr.heap.size)) (fun x hx => Nat.lt_of_lt_of_le hx hsz)
        have hdk := deepE_mem s s[k] (List.getElem_mem hlt)
        have HT := Lib.hid (deepL_take s k hlt)
        have HI := Lib.hid (fun (W : World) (hW : SubAt W (· < W.heap.size) (.slice vA s[k].sub.length vc) s[k].sub) => IH.out s[k] (List.getElem_mem hlt) (.slice vA s[k].sub.length vc) W hW (by omega))
        have hmx := max_nat (deepL (s.take k)) (deepE s[k])
        generalize s[k] = ek at *
        generalize deepL (s.take k) = dk at *
        have HSK := Lib.hid hsk
        clear c0 c1 c2 c3 hsub hsk
        go_wp2_with fail
        refine (HI.out _ ((HSK.out.keep (fun p hp => World.cell?_alloc_lt _ _ _ hp) (fun _ h => h)).more (fun x hx => by simp; omega))).mono ?_
        rintro e0 w5 ⟨rfl, hb5⟩
        have hb6 : Below w.heap.size w w5 := (hb.alloc hsz _).trans (hb5.mono (by simp; omega))
        generalize deepE ek = dek at *
        go_wp2_with fail
        go_roundw
        case rel => exact ⟨k + 1, by omega, by go_num, by rw [HT.out, ← hmx], hb6⟩
        case measure => simp [intOf]; omega
      · obtain rfl : k = s.length := by omega
        rw [List.take_length] at hle ⊢
        go_wp2_with fail
        go_ret
        rw [HD.out]
        exact ⟨by rw [Int.natCast_add]; rfl, hb⟩
end Go.Proofs.YtpmeabikhonaoaaDoor

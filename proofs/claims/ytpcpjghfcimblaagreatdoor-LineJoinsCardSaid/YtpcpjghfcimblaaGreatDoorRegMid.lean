/- A region that draws its order: quiet operations, ONE that may write or call, and quiet ones behind it, whatever their order. -/
import Derived.StillTail
import Derived.StillTactics
import Derived.KernelRfl
namespace Go.Proofs.YtpcpjghfcimblaaGreatDoor

section
variable {P : Program} {ops : Array Oper} {md : Region.Mode} {w : World}

/-- Each operation behind number n waits for one from n on. -/
def behindB (md : Region.Mode) (ops : Array Oper) (n : Nat) : Bool :=
  (List.range ops.size).all fun t => decide (t ≤ n) || (List.range t).any fun i => decide (n ≤ i) && Region.waitsFor md ops t i
/-- The text's order is allowed: first those ahead of n, then n alone, then the others. -/
def midFrom (md : Region.Mode) (ops : Array Oper) (g : Nat) : Nat → Nat → Array Bool → Bool
  | 0, k, listed => decide (Region.ready md ops listed = [k]) && Region.lexFrom md ops g (k + 1) (listed.setIfInBounds k true)
  | f + 1, k, listed => (Region.ready md ops listed).contains k && Region.free md ops listed k && midFrom md ops g f (k + 1) (listed.setIfInBounds k true)
def midB (md : Region.Mode) (ops : Array Oper) (n : Nat) : Bool :=
  Region.noSelect ops && decide (n < ops.size) && Region.sinkB md ops n && behindB md ops n && midFrom md ops (ops.size - n - 1) n 0 (Array.replicate ops.size false)

/-- Where number n may be taken, all ahead of it are. -/
theorem ahead_taken {n : Nat} {listed : Array Bool} (hs : Region.sinkB md ops n = true) (inv : HeadInv md ops n listed) (hr : n ∈ Region.ready md ops listed) :
    ∀ d i, n - i = d → i < n → listed.getD i false = true := by
  intro d
  induction d using Nat.strongRecOn with
  | _ d ih =>
    intro i hd hi
    obtain ⟨_, on, hon, hall⟩ := mem_ready.1 hr
    obtain ⟨j, hj, hj2⟩ := List.any_eq_true.1 (List.all_eq_true.1 hs i (List.mem_range.2 hi))
    simp only [Bool.and_eq_true, decide_eq_true_eq] at hj2
    obtain ⟨oj, hoj, e, he, hb, hei⟩ := Region.waitsFor_spec hj2.2
    have hjn : j < n + 1 := List.mem_range.1 hj
    rcases Nat.lt_or_ge j n with h | h
    · have := inv.closed j oj hoj (ih (n - j) (by omega) j rfl h) e he hb
      rwa [hei] at this
    · obtain rfl : j = n := by omega
      obtain rfl : oj = on := Option.some.inj (hoj.symm.trans hon)
      have := hall e he hb
      rwa [hei] at this
theorem none_behind {n : Nat} {listed : Array Bool} (hs : Region.sinkB md ops n = true) (hc : behindB md ops n = true) (inv : HeadInv md ops n listed) (i : Nat) (hi : i < n) (hun : listed.getD i true = false) :
    ∀ t, n ≤ t → t ∉ Region.ready md ops listed := by
  intro t ht hr
  rcases Nat.eq_or_lt_of_le ht with rfl | hlt
  · have := ahead_taken hs inv hr (n - i) i rfl hi
    rw [getD_both hun] at this
    cases this
  · obtain ⟨_, ot, hot, hall⟩ := mem_ready.1 hr
    have htl : t < ops.size := (Array.getElem?_eq_some_iff.1 hot).1
    have h1 := List.all_eq_true.1 hc t (List.mem_range.2 htl)
    simp only [Bool.or_eq_true, decide_eq_true_eq] at h1
    rcases h1 with h1 | h1
    · omega
    · obtain ⟨k, hk, hk2⟩ := List.any_eq_true.1 h1
      simp only [Bool.and_eq_true, decide_eq_true_eq] at hk2
      have hkt : k < t := List.mem_range.1 hk
      obtain ⟨o', ho', e, he, hb, hon⟩ := Region.waitsFor_spec hk2.2
      obtain rfl : o' = ot := Option.some.inj (ho'.symm.trans hot)
      have h2 := hall e he hb
      rw [hon, getD_both (inv.tail k hk2.1 (by omega))] at h2
      cases h2
/-- One of those ahead, taken first. -/
theorem mid_first {n i : Nat} {oi : Oper} {v : Value} {L : Array Bool → Act → Prop} (hi : ops[i]? = some oi) (hsel : ∀ (j : Nat) (o : Oper) cs b, ops[j]? = some o → o.op ≠ .select cs b)
    (hs : Region.sinkB md ops n = true) (hc : behindB md ops n = true) (hin : i < n) (hdone : ∀ listed a, L listed a → ∀ j ∈ Region.ready md ops listed, n ≤ j) :
    ∀ (f : Nat) (listed : Array Bool) (a : Act), HeadInv md ops n listed →
      (∀ j oj, ops[j]? = some oj → j ≠ i → listed.getD j true = false → (∀ e ∈ oj.after, Region.binds md e = true → e.on ≠ i) → oi.apart ops oj = true) →
      i ∈ Region.ready md ops listed → YieldsAt P ops w oi v a →
      wpAnyL P md ops w n L f (listed.setIfInBounds i true) (a.put oi.dst v) → wpAnyL P md ops w n L (f + 1) listed a := by
  intro f
  induction f with
  | zero =>
    intro listed a inv _ hr hy H
    have hun := (mem_ready.1 hr).1
    refine ⟨List.ne_nil_of_mem hr, fun j hj => ?_⟩
    have hjn : j < n := Nat.lt_of_not_le fun h => none_behind hs hc inv i hin hun j h hj
    refine ⟨hjn, ?_⟩
    by_cases hji : j = i
    · subst hji; exact hy.stOp hi H
    · exact absurd (hdone _ _ H j (ready_mono hj hji)) (by omega)
  | succ f ih =>
    intro listed a inv hfree hr hy H
    have hun := (mem_ready.1 hr).1
    refine ⟨List.ne_nil_of_mem hr, fun j hj => ?_⟩
    have hjn : j < n := Nat.lt_of_not_le fun h => none_behind hs hc inv i hin hun j h hj
    refine ⟨hjn, ?_⟩
    by_cases hji : j = i
    · subst hji; exact hy.stOp hi H
    · obtain ⟨hjun, oj, hoj, hall⟩ := mem_ready.1 hj
      have hnot : ∀ e ∈ oj.after, Region.binds md e = true → e.on ≠ i := fun e he hb heq => by
        have := hall e he hb
        rw [heq, getD_both hun] at this
        cases this
      have h1 := (H.2 j (ready_mono hj hji)).2
      have h2 := stOp_put hoj (hfree j oj hoj hji hjun hnot) (fun cs b => hsel i oi cs b hi) (fun cs b => hsel j oj cs b hoj) hy h1
      refine stOp_mono (fun a' h3 => ih (listed.setIfInBounds j true) a' (inv.set hj hjn) (fun k ok hk hki hkun hno => hfree k ok hk hki ?_ hno) (ready_mono hr (Ne.symm hji)) h3.1 ?_) h2
      · by_cases hjk : j = k
        · subst hjk; exact hjun
        · rwa [getD_set_ne true hjk] at hkun
      · rw [Array.setIfInBounds_comm _ _ hji]
        exact h3.2
theorem mid_ready {g k : Nat} {listed : Array Bool} (h : (decide (Region.ready md ops listed = [k]) && Region.lexFrom md ops g (k + 1) (listed.setIfInBounds k true)) = true) : ∀ j ∈ Region.ready md ops listed, k ≤ j := by
  intro j hj
  simp only [Bool.and_eq_true, decide_eq_true_eq] at h
  rw [h.1] at hj
  have : j = k := by simpa using hj
  omega
theorem mid_lex {n g : Nat} {Lq : Act → Prop} (hsel : Region.noSelect ops = true) (hs : Region.sinkB md ops n = true) (hc : behindB md ops n = true) :
    ∀ (l : List Oper) (k : Nat) (listed : Array Bool) (a : Act), (∀ j, j < l.length → l[j]? = ops[k + j]?) → k + l.length = n → HeadInv md ops n listed →
    midFrom md ops g l.length k listed = true → wpStill P ops w Lq l a →
    wpAnyL P md ops w n (fun listed' a' => (decide (Region.ready md ops listed' = [n]) && Region.lexFrom md ops g (n + 1) (listed'.setIfInBounds n true)) = true ∧ Lq a') l.length listed a
  | [], k, listed, a, _, hk, _, hB, h => by
    obtain rfl : k = n := by simpa using hk
    exact ⟨by simpa [midFrom] using hB, h⟩
  | o :: l, k, listed, a, hl, hk, inv, hB, h => by
    have h0 : ops[k]? = some o := by simpa using (hl 0 (by simp)).symm
    simp only [List.length_cons, midFrom, Bool.and_eq_true] at hB
    obtain ⟨⟨hr, hf⟩, hB'⟩ := hB
    have hkn : k < n := by simp only [List.length_cons] at hk; omega
    have hr' : k ∈ Region.ready md ops listed := by simpa using hr
    have hst : stOp P ops w k (wpStill P ops w Lq l) a := by unfold stOp; simp only [h0]; exact h
    obtain ⟨v, hy, hK⟩ := yieldsAt_of_stOp h0 hst
    exact mid_first h0 (Region.noSelect_spec hsel) hs hc hkn (fun listed' a' hL => mid_ready hL.1) l.length listed a inv (Region.free_spec h0 hf) hr' hy
      (mid_lex hsel hs hc l (k + 1) _ _ (fun j hj => by have := hl (j + 1) (by simp; omega); simpa [Nat.add_assoc, Nat.add_comm 1 j] using this) (by simp only [List.length_cons] at hk; omega) (inv.set hr' hkn) hB' hK)
theorem wp_region_mid {id : Nat} {Q : Exit → Act → World → Prop} {a : Act} {w : World} {l : List Oper} (n : Nat) (o : Oper) (ho : l[n]? = some o) (hm : P.follows .mixedOrders = true) (hB : midB .any l.toArray n = true)
    (h : wpStill P l.toArray { w with drawn := w.drawn + 1 } (fun a' => Region.wanted o (yielded l.toArray a'.tmps) = true ∧ o.wp P a' { w with drawn := w.drawn + 1 } (fun a'' w'' => wpStill P l.toArray w'' (fun a3 => Q .normal a3 w'') (l.drop (n + 1)) a'') Q) (l.take n) a) : (Code.region id l.toArray true).wp P Q a w := by
  simp only [midB, Bool.and_eq_true, decide_eq_true_eq] at hB
  obtain ⟨⟨⟨⟨hsel, hn⟩, hs⟩, hc⟩, hlex⟩ := hB
  have hn' : n < l.length := by simpa using hn
  have htl : (l.take n).length = n := by simp; omega
  have hdl : (l.drop (n + 1)).length = l.toArray.size - n - 1 := by simp; omega
  have inv0 : HeadInv .any l.toArray n (Array.replicate l.toArray.size false) :=
    ⟨by simp, fun j oj _ hl => (by rw [getD_replicate_false] at hl; cases hl), fun t _ ht => getD_in (by simpa using ht) (getD_replicate_false _ _)⟩
  have H := mid_lex (md := .any) (g := l.toArray.size - n - 1) hsel hs hc (l.take n) 0 _ a (fun j hj => by
    have hj' : j < n := by rw [htl] at hj; exact hj
    simp [hj']) (by simpa using htl) inv0 (by rw [htl]; exact hlex) h
  refine wp_region_any hm ?_
  have K := wpAny_of_head (Q' := Q) (g := (l.drop (n + 1)).length + 1) (fun listed a' hL => by
    obtain ⟨h1, hw, h2⟩ := hL
    simp only [Bool.and_eq_true, decide_eq_true_eq] at h1
    refine ⟨fun h0 => (by rw [h1.1] at h0; cases h0), fun i hi => ?_⟩
    rw [h1.1] at hi
    obtain rfl : i = n := by simpa using hi
    have hon : l.toArray[i]? = some o := by simpa using ho
    unfold wpOp
    simp only [hon]
    rw [if_pos hw]
    refine .inl (Oper.wp_mono (fun a'' w'' h3 => ?_) h2)
    exact wpAny_of_still (Q := fun a3 => Q .normal a3 w'') (fun _ h => h) _ _ _ (wpAnyS_lex hsel (l.drop (i + 1)) (i + 1) _ a'' (fun j => by simp [List.getElem?_drop]) (by rw [hdl]; exact h1.2) h3)) _ _ _ H
  rw [htl, hdl, show n + (l.toArray.size - n - 1 + 1) = l.toArray.size by omega] at K
  exact K
/-- The same, the world as the walk spells it, what follows behind a letter. -/
theorem wp_region_mid2 {id : Nat} {Q : Exit → Act → World → Prop} {a : Act} {w : World} {l : List Oper} (n : Nat) (o : Oper) (ho : l[n]? = some o) (hm : P.follows .mixedOrders = true) (hB : midB .any l.toArray n = true)
    (h : wpStill P l.toArray w.drew (fun a' => Region.wanted o (yielded l.toArray a'.tmps) = true ∧ ∀ K : Act → World → Prop, (∀ a'' w'', wpStill P l.toArray w'' (fun a3 => Q .normal a3 w'') (l.drop (n + 1)) a'' → K a'' w'') → o.wp P a' w.drew K Q) (l.take n) a) : (Code.region id l.toArray true).wp P Q a w := by
  refine wp_region_mid n o ho hm hB ?_
  have key : ∀ (l' : List Oper) (b : Act) (Q1 Q2 : Act → Prop), (∀ b, Q1 b → Q2 b) → wpStill P l.toArray w.drew Q1 l' b → wpStill P l.toArray w.drew Q2 l' b := by
    intro l'
    induction l' with
    | nil => intro b Q1 Q2 hq h; exact hq b h
    | cons o' l' ih =>
      intro b Q1 Q2 hq h
      unfold wpStill at h ⊢
      split
      · rename_i hw; rw [if_pos hw] at h; exact Oper.still_mono (fun b' hb' => ih b' Q1 Q2 hq hb') h
      · rename_i hw; rw [if_neg hw] at h; exact ih _ Q1 Q2 hq h
  exact key _ _ _ _ (fun b hb => ⟨hb.1, hb.2 _ (fun _ _ h => h)⟩) h
/-- An operation whose value is told. -/
theorem wpStill_val {Q : Act → Prop} {a : Act} {o : Oper} {rest : List Oper} (v : Value) (hw : Region.wanted o (yielded ops a.tmps) = true) (hr : (execOp a.eval o).run P w = .ok (.value v) w) (h' : ∀ K : Act → Prop, (∀ b, wpStill P ops w Q rest b → K b) → K (a.put o.dst v)) : wpStill P ops w Q (o :: rest) a := by
  unfold wpStill
  rw [if_pos hw]
  unfold Oper.still
  rw [hr]
  exact ⟨rfl, h' _ (fun _ h => h)⟩
theorem wpStill_move {Q : Act → Prop} {a : Act} {o : Oper} {rest : List Oper} (v : Value) (x : Operand) (ho : o.op = .move x) (hw : Region.wanted o (yielded ops a.tmps) = true) (hv : a.eval x = v) (h' : ∀ K : Act → Prop, (∀ b, wpStill P ops w Q rest b → K b) → K (a.put o.dst v)) : wpStill P ops w Q (o :: rest) a :=
  wpStill_val v hw (by unfold execOp; rw [ho]; simp only; rw [hv]; rfl) h'
theorem wpStill_pick {Q : Act → Prop} {a : Act} {o : Oper} {rest : List Oper} (b : Bool) (v : Value) (c x y : Operand) (ho : o.op = .pick c x y) (hw : Region.wanted o (yielded ops a.tmps) = true) (hc : a.eval c = .bool b) (hv : (if b = true then a.eval x else a.eval y) = v) (h' : ∀ K : Act → Prop, (∀ b, wpStill P ops w Q rest b → K b) → K (a.put o.dst v)) : wpStill P ops w Q (o :: rest) a :=
  wpStill_val v hw (by unfold execOp; rw [ho]; simp only; rw [hc, ← hv]; simp [go_sem]) h'
theorem run_len_op (ρ : Operand → Value) (o : Oper) (A : Option Addr) (n c : Nat) (x : Operand) (t e : TypeId) (ht : P.underlying t = some (.slice e)) (ho : o.op = .call { callee := .builtin .len, args := #[x], argTypes := #[t] }) (hx : ρ x = .slice A n c) : (execOp ρ o).run P w = .ok (.value (.int .i64 n)) w := by
  unfold execOp; rw [ho]; simp only; simp [go_sem, hx, ht]
theorem wpStill_len {Q : Act → Prop} {a : Act} {o : Oper} {rest : List Oper} (A : Option Addr) (n c : Nat) (x : Operand) (t : TypeId) (e : TypeId) (ht : P.underlying t = some (.slice e)) (ho : o.op = .call { callee := .builtin .len, args := #[x], argTypes := #[t] }) (hw : Region.wanted o (yielded ops a.tmps) = true) (hx : a.eval x = .slice A n c) (h' : ∀ K : Act → Prop, (∀ b, wpStill P ops w Q rest b → K b) → K (a.put o.dst (.int .i64 n))) : wpStill P ops w Q (o :: rest) a :=
  wpStill_val _ hw (run_len_op a.eval o A n c x t e ht ho hx) h'
theorem run_geq_op (ρ : Operand → Value) (o : Oper) (x y : Operand) (tx ty : TypeId) (i j : Int) (ho : o.op = .binOp .geq tx x y ty) (hx : ρ x = .int .i64 i) (hy : ρ y = .int .i64 j) : (execOp ρ o).run P w = .ok (.value (.bool (decide (j ≤ i)))) w := by
  unfold execOp; rw [ho]; simp only; simp [go_sem, hx, hy]
theorem run_lss_op (ρ : Operand → Value) (o : Oper) (x y : Operand) (tx ty : TypeId) (i j : Int) (ho : o.op = .binOp .lss tx x y ty) (hx : ρ x = .int .i64 i) (hy : ρ y = .int .i64 j) : (execOp ρ o).run P w = .ok (.value (.bool (decide (i < j)))) w := by
  unfold execOp; rw [ho]; simp only; simp [go_sem, hx, hy]
theorem run_sub_op (ρ : Operand → Value) (o : Oper) (x y : Operand) (tx ty : TypeId) (i j : Int) (ho : o.op = .binOp .sub tx x y ty) (hx : ρ x = .int .i64 i) (hy : ρ y = .int .i64 j) : (execOp ρ o).run P w = .ok (.value (.int .i64 (IntKind.i64.wrap (i - j)))) w := by
  unfold execOp; rw [ho]; simp only; simp [go_sem, hx, hy]
theorem run_not_op (ρ : Operand → Value) (o : Oper) (x : Operand) (tx : TypeId) (b : Bool) (ho : o.op = .unOp .not tx x) (hx : ρ x = .bool b) : (execOp ρ o).run P w = .ok (.value (.bool (!b))) w := by
  unfold execOp; rw [ho]; simp only; rw [hx]; cases b <;> simp [go_sem, Op.unary]
/-- An operation whose guard is not met. -/
theorem wpStill_skip {Q : Act → Prop} {a : Act} {o : Oper} {rest : List Oper} (h : Region.wanted o (yielded ops a.tmps) = false) (h' : ∀ K : Act → Prop, (∀ b, wpStill P ops w Q rest b → K b) → K (a.put o.dst undef)) : wpStill P ops w Q (o :: rest) a := by
  unfold wpStill
  rw [if_neg (by simp [h])]
  exact h' _ (fun _ h => h)
end
end Go.Proofs.YtpcpjghfcimblaaGreatDoor

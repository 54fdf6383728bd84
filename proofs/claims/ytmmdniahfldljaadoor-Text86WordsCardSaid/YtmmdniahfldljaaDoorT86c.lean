/- text86.Show, where the instruction is right. -/
import Derived.Test.YtmmdniahfldljaaDoorT86b
import Derived.Test.YtmmdniahfldljaaDoorJoin
import Derived.Lib.AppendIntMem
namespace Go.Proofs.YtmmdniahfldljaaDoor
open Go.RowKit

/-- An operand's text with its number. -/
def repL (c : Int) (n : Nat) : List UInt8 := Lib.replace (argL c) [110, 110] (Lib.decDigits n) 1
def argsT (d s : Int) (n : Nat) : List (List UInt8) := (if argL d = [] then [] else [repL d n]) ++ (if argL s = [] then [] else [repL s n])
def show9T (op d s : Int) (n : Nat) : List UInt8 := Lib.trimSpace (nameL op ++ 32 :: [44].intercalate (argsT d s n))
theorem dec_ok (u : Nat) : ∀ c ∈ Lib.decDigits u, 48 ≤ c.toNat ∧ c.toNat < 58 := by
  induction u using Nat.strongRecOn with
  | ind u ih =>
    intro c hc
    rw [Lib.decDigits] at hc
    split at hc
    · simp at hc; subst hc; simp; omega
    · simp at hc
      rcases hc with hc | hc
      · exact ih (u / 10) (by omega) c hc
      · subst hc; simp; omega
theorem dec_len (u : Nat) (h : u ≤ 65535) : (Lib.decDigits u).length ≤ 5 ∧ 1 ≤ (Lib.decDigits u).length := by
  have go : ∀ (k u : Nat), u < 10 ^ (k + 1) → (Lib.decDigits u).length ≤ k + 1 ∧ 1 ≤ (Lib.decDigits u).length := by
    intro k
    induction k with
    | zero => intro u hu; rw [Lib.decDigits, dif_pos (by omega)]; simp
    | succ k ih =>
      intro u hu
      rw [Lib.decDigits]
      split
      · simp
      · have := ih (u / 10) (by rw [Nat.pow_succ] at hu; omega)
        simp; omega
  exact go 4 u (by omega)
theorem rep_fin : ∀ k : Fin 21, k.val < 19 → Lib.count (argL (k.val : Int)) [110, 110] = 0 := by decide +kernel
theorem rep_eq (c : Int) (n : Nat) : repL c n = if c = 19 then [91] ++ Lib.decDigits n ++ [93] else if c = 20 then Lib.decDigits n else argL c := by
  have hd : ([110, 110] == Lib.decDigits n) = false := by
    rw [beq_eq_false_iff_ne]; intro h
    have := dec_ok n 110 (by rw [← h]; simp)
    simp at this
  unfold repL Lib.replace
  rw [hd, if_neg (by simp)]
  rcases range_of c 21 with h | h | ⟨k, rfl⟩
  · rw [if_neg (by omega), if_neg (by omega), arg_out c (.inl h)]; rfl
  · rw [if_neg (by omega), if_neg (by omega), arg_out c (.inr h)]; rfl
  · by_cases h : k.val < 19
    · rw [if_neg (by omega), if_neg (by omega)]
      have h1 : Lib.replaceNum (argL (k.val : Int)) [110, 110] 1 = 0 := by
        unfold Lib.replaceNum; rw [rep_fin k h]; simp
      rw [h1]; rfl
    · obtain h' | h' : k.val = 19 ∨ k.val = 20 := by omega
      · rw [h', show Lib.replaceNum (argL ((19 : Nat) : Int)) [110, 110] 1 = 1 by decide +kernel, if_pos (by rfl)]
        rw [show argL ((19 : Nat) : Int) = [91, 110, 110, 93] by decide +kernel]
        rw [Lib.replaceK_hit _ _ _ _ 1 (by decide +kernel)]; simp [Lib.replaceK]
      · rw [h', show Lib.replaceNum (argL ((20 : Nat) : Int)) [110, 110] 1 = 1 by decide +kernel, if_neg (by decide), if_pos (by rfl)]
        rw [show argL ((20 : Nat) : Int) = [110, 110] by decide +kernel]
        rw [Lib.replaceK_hit _ _ _ _ 0 (by decide +kernel)]; simp [Lib.replaceK]
theorem arg_asc : ∀ k : Fin 21, ∀ c ∈ argL (k.val : Int), c.toNat < 128 := by decide +kernel
theorem name_asc : ∀ k : Fin 52, ∀ c ∈ nameL (k.val : Int), c.toNat < 128 := by decide +kernel
theorem argL_asc (c : Int) : ∀ x ∈ argL c, x.toNat < 128 := by
  rcases range_of c 21 with h | h | ⟨k, rfl⟩
  · rw [arg_out c (.inl h)]; simp
  · rw [arg_out c (.inr h)]; simp
  · exact arg_asc k
theorem nameL_asc (c : Int) : ∀ x ∈ nameL c, x.toNat < 128 := by
  rcases range_of c 52 with h | h | ⟨k, rfl⟩
  · rw [name_out c (.inl h)]; simp
  · rw [name_out c (.inr h)]; simp
  · exact name_asc k
theorem rep_asc (c : Int) (n : Nat) (hn : n ≤ 65535) : (∀ x ∈ repL c n, x.toNat < 128) ∧ (repL c n).length ≤ 10 := by
  rw [rep_eq]
  have hd := dec_len n hn
  split
  · refine ⟨fun x hx => ?_, by simp; omega⟩
    simp at hx
    rcases hx with rfl | hx | rfl
    · decide
    · have := dec_ok n x hx; omega
    · decide
  · split
    · exact ⟨fun x hx => by have := dec_ok n x hx; omega, by omega⟩
    · exact ⟨argL_asc c, arg_len c⟩
theorem join_asc (d s op : Int) (n : Nat) (hn : n ≤ 65535) : (∀ x ∈ nameL op ++ 32 :: [44].intercalate (argsT d s n), x.toNat < 128) ∧ ([44].intercalate (argsT d s n)).length ≤ 21 ∧ (argsT d s n).length ≤ 2 := by
  have hd := rep_asc d n hn
  have hs := rep_asc s n hn
  have hn := nameL_asc op
  have key : (∀ x ∈ [44].intercalate (argsT d s n), x.toNat < 128) ∧ ([44].intercalate (argsT d s n)).length ≤ 21 ∧ (argsT d s n).length ≤ 2 := by
    unfold argsT
    split <;> split
    · simp
    · simp; exact ⟨hs.1, by have := hs.2; omega⟩
    · simp; exact ⟨hd.1, by have := hd.2; omega⟩
    · have h2 := hd.2
      have h3 := hs.2
      refine ⟨fun x hx => ?_, by simp [List.intercalate]; omega, by simp⟩
      simp [List.intercalate] at hx
      rcases hx with hx | rfl | hx
      · exact hd.1 x hx
      · decide
      · exact hs.1 x hx
  refine ⟨fun x hx => ?_, key.2⟩
  simp only [List.mem_append, List.mem_cons] at hx
  rcases hx with hx | hx | hx
  · exact hn x hx
  · subst hx; decide
  · exact key.1 x hx

theorem itoa_any (n : Nat) (hn : n ≤ 65535) (w : World) (hg : GW9 w) : Calls Tryd.prog 11 #[.int .i64 n] w fun e w' => e = .returned (.string ⟨(Lib.decDigits n).toArray⟩) ∧ Below w.heap.size w w' := by
  refine (Tryd.strconv_Itoa n (by omega) (by omega) w hg.2.1).mono ?_
  rintro e w' ⟨rfl, k, os, rfl⟩
  refine ⟨?_, Lib.below_grow _ w (Nat.le_refl _) k os⟩
  rw [Lib.itoa, if_neg (by omega)]; simp
theorem rep_any (c : Int) (n : Nat) (hn : n ≤ 65535) (w : World) (hg : GW9 w) : Calls Tryd.prog 10 #[.string ⟨(argL c).toArray⟩, .string ⟨#[110, 110]⟩, .string ⟨(Lib.decDigits n).toArray⟩, .int .i64 1] w fun e w' => e = .returned (.string ⟨(repL c n).toArray⟩) ∧ Below w.heap.size w w' := by
  obtain ⟨_, _, m, hm⟩ := hg
  have h1 := arg_len c
  have h2 := countB_le' (argL c) [110, 110] (by simp)
  have h3 := (dec_len n hn).1
  have h4 : Lib.countB ⟨(argL c).toArray⟩ ⟨#[110, 110]⟩ * (Lib.decDigits n).length ≤ 10 * 5 := Nat.mul_le_mul (Nat.le_trans h2 h1) h3
  exact Tryd.strings_Replace ⟨(argL c).toArray⟩ ⟨#[110, 110]⟩ ⟨(Lib.decDigits n).toArray⟩ 1 m w (by simp [ByteArray.size]; omega) hm (by simp [ByteArray.size]) (by simp [ByteArray.size]; omega)
theorem trim_any (l : List UInt8) (ha : ∀ x ∈ l, x.toNat < 128) (hl : l.length ≤ 1000) (w : World) (hg : GW9 w) : Calls Tryd.prog 12 #[.string ⟨l.toArray⟩] w fun e w' => e = .returned (.string ⟨(Lib.trimSpace l).toArray⟩) ∧ Below w.heap.size w w' := by
  refine (Tryd.strings_TrimSpace ⟨l.toArray⟩ w (by simp [ByteArray.size]; omega) (fun j b hb => ha b (List.mem_of_getElem? hb)) hg.1).mono ?_
  rintro e w' ⟨rfl, rfl⟩
  exact ⟨rfl, Joins.below_bytesWorld _ w _ _ (Nat.le_refl _)⟩
theorem info_str : (Tryd.prog.info? 9).map (fun i => (i.zero, i.size, i.bytes)) = some (some (.string ByteArray.empty), 1, 16) := by kernel_rfl
/-- An instruction as a value. -/
def insV (op d s : Int) (n : Nat) : Value := .agg #[.int .i64 op, .int .i64 d, .int .i64 s, .int .u16 n]
theorem own_bel {w w' : World} {base : Nat} {e : TypeId} {size n : Nat} {v : Value} {xs : List Value} (h : w.ownsRow base e size v n xs) (hb : Below w.heap.size w w') : w'.ownsRow base e size v n xs := h.kept (only_of_below hb none) (by cases v.ownBlock <;> simp)
theorem pair_0 (a b : Int) (w : World) : Sem.run Tryd.prog (Instr.index 35 (.agg #[.int .i64 a, .int .i64 b]) (.int .i64 0)) w = .ok (.int .i64 a) w := by kernel_rfl
theorem pair_1 (a b : Int) (w : World) : Sem.run Tryd.prog (Instr.index 35 (.agg #[.int .i64 a, .int .i64 b]) (.int .i64 1)) w = .ok (.int .i64 b) w := by kernel_rfl
attribute [go_sem] pair_0 pair_1
def argX (c : Int) (n : Nat) : List (List UInt8) := if argL c = [] then [] else [repL c n]
def lstK (d s : Int) (n : Nat) : Nat → List (List UInt8)
  | 0 => []
  | 1 => argX d n
  | _ => argX d n ++ argX s n
theorem lstK_len (d s : Int) (n k : Nat) : (lstK d s n k).length ≤ 2 := by
  have h : ∀ c, (argX c n).length ≤ 1 := fun c => by unfold argX; split <;> simp
  unfold lstK
  split
  · simp
  · have := h d; omega
  · have := h d; have := h s; simp; omega
def ShRel (d s : Int) (n : Nat) (w1 : World) (v i : Value) (wr : World) : Prop := ∃ k : Nat, k ≤ 2 ∧ i = .int .i64 k ∧ wr.ownsRow w1.heap.size 9 1 v (lstK d s n k).length ((lstK d s n k).map strV) ∧ Below w1.heap.size w1 wr
set_option maxHeartbeats 2000000 in
set_option maxRecDepth 100000 in
theorem Show9_ok (op d s : Int) (n : Nat) (hn : n ≤ 65535) (h1 : -9223372036854775808 ≤ op) (h1' : op ≤ 9223372036854775807) (h2 : -9223372036854775808 ≤ d) (h2' : d ≤ 9223372036854775807) (h3 : -9223372036854775808 ≤ s) (h3' : s ≤ 9223372036854775807) (w : World) (hg : GW9 w)
    (hR : ∀ W, Calls Tryd.prog 8 #[.agg #[.int .i64 op, .int .i64 d, .int .i64 s, .int .u16 n]] W fun e w' => e = .returned (.int .i64 0) ∧ Below W.heap.size W w') :
    Calls Tryd.prog 4 #[.agg #[.int .i64 op, .int .i64 d, .int .i64 s, .int .u16 n]] w fun e w' => e = .returned (.tuple #[.string ⟨(show9T op d s n).toArray⟩, .int .i64 0]) ∧ Below w.heap.size w w' := by
  have HR := Lib.hid hR
  clear hR
  go_enter Tryd.func4, Tryd.ntmps4
  go_wp2_with fail
  refine (HR.out _).mono ?_
  rintro e w1 ⟨rfl, hb1⟩
  have B1 := Lib.hid (bthen ((Below.refl w.heap.size w).alloc (Nat.le_refl _) _) hb1)
  have C1 := Lib.hid ((hb1.block w.heap.size (by simp)).trans (heap_alloc_new w _))
  clear hb1
  have c0 := cell_of_heap (i := 0) C1.out
  have c1 := cell_of_heap (i := 1) C1.out
  have c2 := cell_of_heap (i := 2) C1.out
  have c3 := cell_of_heap (i := 3) C1.out
  simp at c0 c1 c2 c3
  go_wp2_with fail
  go_loopw [5, 19] (fun v i wr => ShRel d s n w1 v i wr) (fun _ i _ => 2 - (intOf i).toNat)
  case atStart => exact ⟨0, by omega, rfl, by simpa [lstK] using World.ownsRow_nil _ _ _ _, Below.refl _ _⟩
  case round =>
    obtain ⟨k, hk, rfl, hown', hbr'⟩ := hrel
    have hown := Lib.hid hown'
    have hbr := Lib.hid hbr'
    obtain ⟨vA, vc, rfl, hvc⟩ := (Rd.of_own hown').form
    have hgr := Lib.hid (hg.below (bthen B1.out hbr'))
    have C2 := Lib.hid ((hbr'.block w.heap.size (lt_of_heap C1.out)).trans C1.out)
    clear hown' hbr' c0 c1 c2 c3
    obtain rfl | rfl | rfl : k = 0 ∨ k = 1 ∨ k = 2 := by omega
    · have HA := Lib.hid (fun W (hW : GW9 W) => Arg9_any d W hW h2 h2')
      by_cases he : argL d = []
      · have HL := Lib.hid (show lstK d s n 1 = lstK d s n 0 by simp [lstK, argX, he])
        rw [he] at HA
        go_wp2_with fail
        refine (HA.out _ hgr.out).mono ?_
        rintro e w2 ⟨rfl, hb2⟩
        go_wp2_with fail
        refine ⟨⟨1, by omega, by go_num, by rw [HL.out]; exact own_bel hown.out hb2, bthen hbr.out hb2⟩, by simp [intOf]⟩
      · have he1 : (argL d == []) = false := by simpa using he
        have HL := Lib.hid (show lstK d s n 1 = lstK d s n 0 ++ [repL d n] by simp [lstK, argX, he])
        have hll := lstK_len d s n 0
        generalize lstK d s n 0 = L at *
        go_wp2_with fail
        refine (HA.out _ hgr.out).mono ?_
        rintro e w2 ⟨rfl, hb2⟩
        have C3 := Lib.hid ((hb2.block w.heap.size (lt_of_heap C2.out)).trans C2.out)
        have c3 := cell_of_heap (i := 3) C3.out
        simp at c3
        go_wp2_with fail
        refine (itoa_any n hn _ (hgr.out.below hb2)).mono ?_
        rintro e w3 ⟨rfl, hb3⟩
        have B3 := Lib.hid (bthen hb2 hb3)
        clear hb2 hb3 c3
        go_wp2_with fail
        refine (rep_any d n hn _ (hgr.out.below B3.out)).mono ?_
        rintro e w4 ⟨rfl, hb4⟩
        have B4 := Lib.hid (bthen B3.out hb4)
        have O4 := Lib.hid (own_bel hown.out B4.out)
        have hz4 := Nat.le_trans hbr.out.size B4.out.size
        clear hb4 B3
        generalize repL d n = x at *
        go_wp2_with (refine wpList_append_at w4 w4.heap.size rfl (by rfl) _ _ _ (by rfl) w1.heap.size 9 _ 1 16 Tryd.underlying34 info_str rfl (by decide) O4.out (by rfl) [.string ⟨x.toArray⟩] 9 (by rfl) rfl (by intro u hu; simp at hu; subst hu; rfl) (by omega) (by decide) hz4 ?_; intro v5 w5 hown5 hb5)
        have O5 := Lib.hid hown5
        obtain ⟨A5, n5, rfl, hn5⟩ := (Rd.of_own hown5).form
        clear hown5
        go_wp2_with fail
        refine ⟨⟨1, by omega, by go_num, by rw [HL.out]; simpa [strV] using O5.out, (bthen hbr.out B4.out).trans hb5⟩, by simp [intOf]⟩
    · have HA := Lib.hid (fun W (hW : GW9 W) => Arg9_any s W hW h3 h3')
      by_cases he : argL s = []
      · have HL := Lib.hid (show lstK d s n 2 = lstK d s n 1 by simp [lstK, argX, he])
        rw [he] at HA
        go_wp2_with fail
        refine (HA.out _ hgr.out).mono ?_
        rintro e w2 ⟨rfl, hb2⟩
        go_wp2_with fail
        refine ⟨⟨2, by omega, by go_num, by rw [HL.out]; exact own_bel hown.out hb2, bthen hbr.out hb2⟩, by simp [intOf]⟩
      · have he1 : (argL s == []) = false := by simpa using he
        have HL := Lib.hid (show lstK d s n 2 = lstK d s n 1 ++ [repL s n] by simp [lstK, argX, he])
        have hll := lstK_len d s n 1
        generalize lstK d s n 1 = L at *
        go_wp2_with fail
        refine (HA.out _ hgr.out).mono ?_
        rintro e w2 ⟨rfl, hb2⟩
        have C3 := Lib.hid ((hb2.block w.heap.size (lt_of_heap C2.out)).trans C2.out)
        have c3 := cell_of_heap (i := 3) C3.out
        simp at c3
        go_wp2_with fail
        refine (itoa_any n hn _ (hgr.out.below hb2)).mono ?_
        rintro e w3 ⟨rfl, hb3⟩
        have B3 := Lib.hid (bthen hb2 hb3)
        clear hb2 hb3 c3
        go_wp2_with fail
        refine (rep_any s n hn _ (hgr.out.below B3.out)).mono ?_
        rintro e w4 ⟨rfl, hb4⟩
        have B4 := Lib.hid (bthen B3.out hb4)
        have O4 := Lib.hid (own_bel hown.out B4.out)
        have hz4 := Nat.le_trans hbr.out.size B4.out.size
        clear hb4 B3
        generalize repL s n = x at *
        go_wp2_with (refine wpList_append_at w4 w4.heap.size rfl (by rfl) _ _ _ (by rfl) w1.heap.size 9 _ 1 16 Tryd.underlying34 info_str rfl (by decide) O4.out (by rfl) [.string ⟨x.toArray⟩] 9 (by rfl) rfl (by intro u hu; simp at hu; subst hu; rfl) (by omega) (by decide) hz4 ?_; intro v5 w5 hown5 hb5)
        have O5 := Lib.hid hown5
        obtain ⟨A5, n5, rfl, hn5⟩ := (Rd.of_own hown5).form
        clear hown5
        go_wp2_with fail
        refine ⟨⟨2, by omega, by go_num, by rw [HL.out]; simpa [strV] using O5.out, (bthen hbr.out B4.out).trans hb5⟩, by simp [intOf]⟩
    · have HN := Lib.hid (fun W (hW : GW9 W) => Name9_any op W hW h1 h1')
      have HT := Lib.hid (show show9T op d s n = Lib.trimSpace (nameL op ++ 32 :: [44].intercalate (lstK d s n 2)) from rfl)
      obtain ⟨q1, q2, q3⟩ := join_asc d s op n hn
      have q1' := Lib.hid (show ∀ x ∈ nameL op ++ 32 :: [44].intercalate (lstK d s n 2), x.toNat < 128 from q1)
      have q2' : ([44].intercalate (lstK d s n 2)).length ≤ 21 := q2
      have q3' : (lstK d s n 2).length ≤ 2 := q3
      have q4 := name_len op
      clear q1 q2 q3
      have c0 := cell_of_heap (i := 0) C2.out
      simp at c0
      generalize lstK d s n 2 = L at *
      go_wp2_with fail
      refine (HN.out _ hgr.out).mono ?_
      rintro e w2 ⟨rfl, hb2⟩
      have O2 := Lib.hid (own_bel hown.out hb2)
      have B2 := Lib.hid hb2
      clear hb2 c0
      go_wp2_with fail
      refine (join_any L [44] _ w2 (Rd.of_own O2.out) (by omega) (by omega)).mono ?_
      rintro e w3 ⟨rfl, hb3⟩
      have B3 := Lib.hid (bthen B2.out hb3)
      clear hb3 B2
      have QT := Lib.hid (trim_any _ q1'.out (by simp; omega) w3 (hgr.out.below B3.out))
      generalize [44].intercalate L = J at *
      go_wp2_with fail
      refine QT.out.mono ?_
      rintro e w4 ⟨rfl, hb4⟩
      go_wp2_with fail
      go_ret2
      rw [HT.out]
      exact ⟨rfl, bthen B1.out (bthen hbr.out (bthen B3.out hb4))⟩
end Go.Proofs.YtmmdniahfldljaaDoor

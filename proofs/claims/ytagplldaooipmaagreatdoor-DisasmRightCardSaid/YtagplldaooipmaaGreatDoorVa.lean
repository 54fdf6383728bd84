/- Va. -/
import Derived.Test.YtagplldaooipmaaGreatDoorVc
import Derived.Test.YtagplldaooipmaaGreatDoorUb
import Derived.OwnWalk
import Derived.Lib.SlBytesConst
namespace Go.Proofs.YtagplldaooipmaaGreatDoor
open Go.RowKit
set_option maxHeartbeats 1000000 in
set_option maxRecDepth 100000 in
theorem register_any (x : Nat) (b : Bool) (w : World) (h : x < 256) : Calls Tryz.prog 145 #[.int .u8 (x : Int), .bool b] w fun e w' => e = .returned (.int .i64 (regc86 x b : Nat)) ∧ w' = w := by
  cases b
  all_goals (
    go_enter Tryz.func145, Tryz.ntmps145
    go_wp2_with fail
    go_ret
    exact ⟨by unfold regc86; simp, rfl⟩)
set_option maxHeartbeats 2000000 in
set_option maxRecDepth 100000 in
theorem moved_any (a m reg r : Nat) (w : World) (ha : a < 256) (hm : m < 256) (_hr : reg < 17) (_hr2 : r < 17) : Calls Tryz.prog 146 #[.int .u8 (a : Int), .int .u8 (m : Int), .int .i64 (reg : Int), .int .i64 (r : Int)] w fun e w' => e = .returned (.tuple #[.int .i64 (moved86 a m reg r).1, .int .i64 (moved86 a m reg r).2.1, .int .i64 (moved86 a m reg r).2.2]) ∧ w' = w := by
  have e2 := u8_and2 (x := (a : Int)) (by omega) (by omega)
  go_enter Tryz.func146, Tryz.ntmps146
  go_wp2_with fail
  all_goals (
    go_ret3
    clear e2
    refine ⟨?_, rfl⟩
    simp only [beq_iff_eq, beq_eq_false_iff_ne, ne_eq] at *
    unfold moved86
    simp only
    repeat (first | rw [if_pos (by omega)] | rw [if_neg (by omega)])
    try rfl)
def idxB : List UInt8 → Nat → Nat → Int
  | [], _, _ => -1
  | y :: r, x, k => if y.toNat = x then (k : Int) else idxB r x (k + 1)
theorem idxB_drop (l : List UInt8) (x k : Nat) (h : k < l.length) : idxB (l.drop k) x k = if l[k].toNat = x then (k : Int) else idxB (l.drop (k + 1)) x (k + 1) := by
  rw [List.drop_eq_getElem_cons h, idxB]
set_option maxHeartbeats 2000000 in
set_option maxRecDepth 100000 in
theorem index_by (l : List UInt8) (x : Nat) (v : Value) (w : World) (hr : RdB w w.heap.size v l) (hl : l.length ≤ 1000000) :
    Calls Tryz.prog 186 #[v, .int .u8 (x : Int)] w fun e w' => e = .returned (.int .i64 (idxB l x 0)) ∧ w' = w := by
  obtain ⟨A, c, rfl, hc⟩ := hr.form
  go_enter Tryz.func186, Tryz.ntmps186
  go_wp2_with fail
  go_loopw [8] (fun i wr => ∃ k : Nat, k ≤ l.length ∧ i = .int .i64 k ∧ wr = w ∧ idxB l x 0 = idxB (l.drop k) x k) (fun i _ => l.length - (intOf i).toNat)
  case atStart => exact ⟨0, Nat.zero_le _, rfl, rfl, rfl⟩
  case round =>
    obtain ⟨k, hk, rfl, rfl, hi⟩ := hrel
    have HI := Lib.hid hi
    clear hi
    by_cases hlt : k < l.length
    · obtain ⟨g, o, hA, hg, ck0⟩ := hr.get k hlt
      have ck := ck0 k hlt
      rw [show byteN l k = l[k].toNat by unfold byteN; simp [hlt]] at ck
      clear ck0
      subst hA
      have HD := Lib.hid (idxB_drop l x k hlt)
      generalize l[k] = y at *
      by_cases hy : y.toNat = x
      · have HZ : Hid (idxB l x 0 = k) := Lib.hid (by rw [HI.out, HD.out, if_pos hy])
        subst hy
        clear HD HI
        go_wp2_with fail
        go_ret
        exact ⟨by rw [HZ.out]; rfl, rfl⟩
      · have HZ : Hid (idxB l x 0 = idxB (l.drop (k + 1)) x (k + 1)) := Lib.hid (by rw [HI.out, HD.out, if_neg hy])
        have e1 : ((x : Int) == (y.toNat : Int)) = false := by rw [beq_eq_false_iff_ne]; omega
        clear HD HI hy
        go_wp2_with fail
        exact ⟨⟨k + 1, by omega, by simp, trivial, HZ.out⟩, by simp [intOf]; omega⟩
    · obtain rfl : k = l.length := by omega
      have HZ : Hid (idxB l x 0 = -1) := Lib.hid (by rw [HI.out, List.drop_length]; rfl)
      clear HI
      go_wp2_with fail
      go_ret
      exact ⟨by rw [HZ.out]; rfl, rfl⟩
end Go.Proofs.YtagplldaooipmaaGreatDoor
/- isa86: alone. -/
namespace Go.Proofs.YtagplldaooipmaaGreatDoor
open Go.RowKit
def singleB : List UInt8 := [0x9f, 0x9e, 0x27, 0xf5, 0xf9, 0xf8, 0xfb, 0xfa, 0xf4, 0x90]
theorem alone_idx : ∀ k : Fin 256, wrap64 (20 + idxB singleB k.val 0) = (if k.val ∈ single86 then 20 + single86.idxOf k.val else 19 : Nat) := by decide +kernel
theorem rd_by (w : World) (l : List UInt8) (T : TypeId) (fr : Nat × Nat) : RdB (w.alloc (.cells (l.map bv).toArray T fr)) (w.alloc (.cells (l.map bv).toArray T fr)).heap.size (.slice (some ⟨w.heap.size, 0, none⟩) l.length l.length) l := by
  refine ⟨_, l.length, rfl, Nat.le_refl _, fun _ => ⟨w.heap.size, 0, rfl, by simp, fun j u hu => ?_⟩⟩
  rw [Nat.zero_add, Lib.cell_of_heap (heap_alloc_new w _)]
  simpa using hu
set_option maxHeartbeats 2000000 in
set_option maxRecDepth 100000 in
theorem alone_any (a : Nat) (w : World) (ha : a < 256) : Calls Tryz.prog 147 #[.int .u8 (a : Int)] w fun e w' => e = .returned (.tuple #[.int .i64 (alone86 a).1, .int .i64 (alone86 a).2.1, .int .i64 (alone86 a).2.2]) ∧ Below w.heap.size w w' := by
  have kc := fun (w : World) (C : Array Value) (n c : Nat) => Lib.run_convert_bytes_const (P := Tryz.prog) w 22 5 C n c Tryz.underlying22 Tryz.underlying5
  have HR : Hid (RdB (w.alloc (.cells #[.int .u8 0x9f, .int .u8 0x9e, .int .u8 0x27, .int .u8 0xf5, .int .u8 0xf9, .int .u8 0xf8, .int .u8 0xfb, .int .u8 0xfa, .int .u8 0xf4, .int .u8 0x90] 5 (10, 11))) (w.alloc (.cells #[.int .u8 0x9f, .int .u8 0x9e, .int .u8 0x27, .int .u8 0xf5, .int .u8 0xf9, .int .u8 0xf8, .int .u8 0xfb, .int .u8 0xfa, .int .u8 0xf4, .int .u8 0x90] 5 (10, 11))).heap.size (.slice (some ⟨w.heap.size, 0, none⟩) 10 10) singleB) := Lib.hid (rd_by w singleB _ _)
  have HI := Lib.hid (index_by singleB a _ _ HR.out (by decide))
  have HA := Lib.hid (alone_idx ⟨a, ha⟩)
  have B1 := Lib.hid (fun o => (Below.refl w.heap.size w).alloc (Nat.le_refl _) o)
  go_enter Tryz.func147, Tryz.ntmps147
  go_wp2_with ((with_reducible refine HI.out.mono ?_); rintro e w' ⟨rfl, rfl⟩)
  all_goals (
    go_ret3
    clear HR HI kc
    simp only [beq_iff_eq, beq_eq_false_iff_ne, ne_eq] at *
    first
      | (refine ⟨?_, Below.refl _ _⟩
         unfold alone86
         repeat (first | rw [if_pos (by omega)] | rw [if_neg (by omega)])
         rfl)
      | (refine ⟨?_, B1.out _⟩
         have h1 : ¬ a = 160 ∧ ¬ a = 162 ∧ ¬ a = 228 ∧ ¬ a = 230 ∧ ¬ a = 233 ∧ ¬ a = 235 ∧ ¬ a = 232 ∧ ¬ a = 195 := by omega
         unfold alone86
         rw [if_neg h1.1, if_neg h1.2.1, if_neg h1.2.2.1, if_neg h1.2.2.2.1, if_neg h1.2.2.2.2.1, if_neg h1.2.2.2.2.2.1, if_neg h1.2.2.2.2.2.2.1, if_neg h1.2.2.2.2.2.2.2]
         show Ending.returned (.tuple #[.int .i64 (wrap64 (20 + idxB singleB a 0)), .int .i64 0, .int .i64 0]) = _
         rw [HA.out]
         split <;> rfl))
end Go.Proofs.YtagplldaooipmaaGreatDoor
/- isa86: an instruction's head, byte by byte: places. -/
namespace Go.Proofs.YtagplldaooipmaaGreatDoor
open Go.RowKit
set_option maxHeartbeats 400000 in
theorem wide_x (c : Nat) (w : World) : Calls Tryz.prog 187 #[.int .i64 (c : Int)] w fun e w' => e = .returned (.int .i64 (wide86 c : Nat)) ∧ w = w' := by
  have h : (1 ≤ c ∧ c ≤ 8) ∨ (9 ≤ c ∧ c ≤ 16) ∨ (c = 0 ∨ 16 < c) := by omega
  rcases h with h | h | h
  · have e : wide86 c = 8 := by unfold wide86; rw [if_pos h]
    rw [e]
    clear e
    obtain ⟨h1, h2⟩ := h
    go_enter Tryz.func187, Tryz.ntmps187
    go_wp2_with fail
    go_ret
    exact ⟨rfl, rfl⟩
  · have e : wide86 c = 16 := by unfold wide86; rw [if_neg (by omega), if_pos h]
    rw [e]
    clear e
    obtain ⟨h1, h2⟩ := h
    have h3 : decide ((c : Int) ≤ 8) = false := by simp; omega
    have h4 : decide (1 ≤ c) = true := by simp; omega
    go_enter Tryz.func187, Tryz.ntmps187
    go_wp2_with fail
    go_ret
    exact ⟨rfl, rfl⟩
  · have e : wide86 c = 0 := by unfold wide86; rw [if_neg (by omega), if_neg (by omega)]
    rw [e]
    clear e
    go_enter Tryz.func187, Tryz.ntmps187
    go_wp2_with fail
    all_goals (go_ret; first | exact ⟨rfl, rfl⟩ | omega)
theorem num_x (c : Nat) (h2 : c ≤ 20) (w : World) : Calls Tryz.prog 189 #[.int .i64 (c : Int)] w fun e w' => e = .returned (.int .u8 (num86 c : Nat)) ∧ w = w' := by
  go_enter Tryz.func189, Tryz.ntmps189
  go_wp2_with fail
  go_ret
  exact ⟨ret_int (by unfold num86; omega), rfl⟩
theorem rm_bits : ∀ x y : Fin 8, bits .or .u8 (bits .or .u8 192 ((x.val : Int) * 8)) (y.val : Int) = 192 + (x.val : Int) * 8 + y.val := by decide +kernel
theorem mem_bits : ∀ x y : Fin 8, bits .or .u8 ((x.val : Int) * 8) (y.val : Int) = (x.val : Int) * 8 + y.val := by decide +kernel
theorem fin8 {P : Int → Prop} (h : ∀ k : Fin 8, P (k.val : Int)) (x : Int) (h1 : 0 ≤ x) (h2 : x < 8) : P x := by
  have := h ⟨x.toNat, by omega⟩
  rwa [show ((x.toNat : Nat) : Int) = x by omega] at this
theorem low_bits : ∀ (x : Fin 32) (y : Fin 8), bits .or .u8 ((x.val : Int) * 8) (y.val : Int) = (x.val : Int) * 8 + y.val := by decide +kernel
theorem low_bit (a x y : Int) (k : Fin 32) (ha : a = (k.val : Int) * 8) (hx : 0 ≤ x) (hx' : x < 8) (hy : y = a + x) : bits .or .u8 a x = y := by
  subst hy; subst ha
  exact fin8 (P := fun y => bits .or .u8 ((k.val : Int) * 8) y = (k.val : Int) * 8 + y) (fun b => low_bits k b) x hx hx'
theorem rm_bit (x y : Int) (h1 : 0 ≤ x) (h2 : x < 8) (h3 : 0 ≤ y) (h4 : y < 8) : bits .or .u8 (bits .or .u8 192 (x * 8)) y = 192 + x * 8 + y :=
  fin8 (P := fun x => bits .or .u8 (bits .or .u8 192 (x * 8)) y = 192 + x * 8 + y) (fun a => fin8 (P := fun y => bits .or .u8 (bits .or .u8 192 ((a.val : Int) * 8)) y = 192 + (a.val : Int) * 8 + y) (fun b => rm_bits a b) y h3 h4) x h1 h2
theorem mem_bit (x y : Int) (h1 : 0 ≤ x) (h2 : x < 8) (h3 : 0 ≤ y) (h4 : y < 8) : bits .or .u8 (x * 8) y = x * 8 + y :=
  fin8 (P := fun x => bits .or .u8 (x * 8) y = x * 8 + y) (fun a => fin8 (P := fun y => bits .or .u8 ((a.val : Int) * 8) y = (a.val : Int) * 8 + y) (fun b => mem_bits a b) y h3 h4) x h1 h2
theorem rm_x (x y : Int) (h1 : 0 ≤ x) (h2 : x < 8) (h3 : 0 ≤ y) (h4 : y < 8) (w : World) : Calls Tryz.prog 188 #[.int .u8 x, .int .u8 y] w fun e w' => e = .returned (.int .u8 (192 + x * 8 + y)) ∧ w = w' := by
  go_enter Tryz.func188, Tryz.ntmps188
  go_wp2_with fail
  go_ret
  exact ⟨ret_int (rm_bit x y h1 h2 h3 h4), rfl⟩
theorem mem_x (x y : Int) (h1 : 0 ≤ x) (h2 : x < 8) (h3 : 0 ≤ y) (h4 : y < 8) (w : World) : Calls Tryz.prog 191 #[.int .u8 x, .int .u8 y] w fun e w' => e = .returned (.int .u8 (x * 8 + y)) ∧ w = w' := by
  go_enter Tryz.func191, Tryz.ntmps191
  go_wp2_with fail
  go_ret
  exact ⟨ret_int (mem_bit x y h1 h2 h3 h4), rfl⟩
theorem num_lt (c : Nat) : ((num86 c : Nat) : Int) < 8 ∧ 0 ≤ ((num86 c : Nat) : Int) := by unfold num86; omega
theorem wide_i (c : Int) (k : Nat) (hc : c = k) (v : Int) (hv : ((wide86 k : Nat) : Int) = v) (w : World) : Calls Tryz.prog 187 #[.int .i64 c] w fun e w' => e = .returned (.int .i64 v) ∧ w = w' := by subst hc; subst hv; exact wide_x k w
theorem num_i (c : Int) (k : Nat) (hc : c = k) (hk : k ≤ 20) (v : Int) (hv : ((num86 k : Nat) : Int) = v) (w : World) : Calls Tryz.prog 189 #[.int .i64 c] w fun e w' => e = .returned (.int .u8 v) ∧ w = w' := by subst hc; subst hv; exact num_x k hk w
theorem cases86 (c : Nat) (h : c ≤ 20) : c = 0 ∨ c = 1 ∨ (2 ≤ c ∧ c ≤ 8) ∨ c = 9 ∨ (10 ≤ c ∧ c ≤ 16) ∨ c = 17 ∨ c = 18 ∨ c = 19 ∨ c = 20 := by omega
theorem wides (c : Nat) : ((wide86 c : Nat) : Int) = 8 ∨ ((wide86 c : Nat) : Int) = 16 ∨ ((wide86 c : Nat) : Int) = 0 := by unfold wide86; split <;> (try split) <;> simp
theorem wide_8 (c : Nat) (h1 : 2 ≤ c) (h2 : c ≤ 8) : ((wide86 c : Nat) : Int) = 8 := by unfold wide86; rw [if_pos (by omega)]; rfl
theorem wide_16 (c : Nat) (h1 : 10 ≤ c) (h2 : c ≤ 16) : ((wide86 c : Nat) : Int) = 16 := by unfold wide86; rw [if_neg (by omega), if_pos (by omega)]; rfl
def RdN (w : World) (v : Value) (l : List Nat) : Prop := RdB w w.heap.size v (l.map UInt8.ofNat)
def FreshV (b : Nat) (v : Value) : Prop := ∀ g o n c, v = .slice (some ⟨g, o, none⟩) n c → b ≤ g
theorem fresh_nil (b : Nat) : FreshV b (.slice none 0 0) := by intro g o n c h; injection h with h; cases h
theorem fresh_box (b n c : Nat) : FreshV b (.slice (some ⟨b + 1, 0, none⟩) n c) := by intro g o n' c' h; injection h with h; injection h with h; injection h with h; omega
def HeadX (h : H86) (w : World) (e : Ending) (w' : World) : Prop := ∃ v, e = .returned (.agg #[v, .int .i64 (h.2 : Nat)]) ∧ RdN w' v h.1 ∧ Below w.heap.size w w' ∧ FreshV w.heap.size v
theorem RdN.set {w : World} {v : Value} {l : List Nat} {p : Addr} {u : Value} (h : RdN w v l) (hp : ∀ g o n c, v = .slice (some ⟨g, o, none⟩) n c → g ≠ p.block) : RdN (w.setCell p u) v l := by
  obtain ⟨A, c, rfl, h1, h2⟩ := h
  refine ⟨A, c, rfl, h1, fun h0 => ?_⟩
  obtain ⟨g, o, rfl, h4, h5⟩ := h2 h0
  refine ⟨g, o, rfl, by simpa [World.setCell] using h4, fun j u hu => ?_⟩
  rw [World.cell?_of_block (Below.heap_setCell w p _ g (hp g o _ _ rfl))]
  exact h5 j u hu
theorem of86_x (t : Int) (bs : List Int) (w : World) (T : TypeId) (n : Nat) (hn : bs.length = n) (hb : ∀ x ∈ bs, 0 ≤ x ∧ x < 256) :
    Calls Tryz.prog 150 #[.int .i64 t, .slice (some ⟨w.heap.size + 1, 0, none⟩) n n] ((w.alloc (.cells #[.slice none 0 0, .int .i64 0] 132)).alloc (.cells (bs.map (Value.int .u8)).toArray T)) fun e w' => e = .returned (.agg #[.slice (some ⟨w.heap.size + 1, 0, none⟩) n n, .int .i64 t]) ∧
    Hid (Below w.heap.size w w') ∧ Hid (RdB w' w'.heap.size (.slice (some ⟨w.heap.size + 1, 0, none⟩) n n) (bs.map byteOf)) ∧ w'.cell? ⟨w.heap.size, 0, none⟩ = some (.slice none 0 0) ∧ w'.cell? ⟨w.heap.size, 1, none⟩ = some (.int .i64 0) ∧ w'.frozen? ⟨w.heap.size, 0, none⟩ = false ∧ w'.frozen? ⟨w.heap.size, 1, none⟩ = false := by
  subst hn
  have hof : Calls Tryz.prog 150 #[.int .i64 t, .slice (some ⟨w.heap.size + 1, 0, none⟩) bs.length bs.length] ((w.alloc (.cells #[.slice none 0 0, .int .i64 0] 132)).alloc (.cells (bs.map (Value.int .u8)).toArray T)) fun e w' => e = .returned (.agg #[.slice (some ⟨w.heap.size + 1, 0, none⟩) bs.length bs.length, .int .i64 t]) ∧ Below ((w.alloc (.cells #[.slice none 0 0, .int .i64 0] 132)).alloc (.cells (bs.map (Value.int .u8)).toArray T)).heap.size ((w.alloc (.cells #[.slice none 0 0, .int .i64 0] 132)).alloc (.cells (bs.map (Value.int .u8)).toArray T)) w' := by
    generalize (w.alloc (.cells #[.slice none 0 0, .int .i64 0] 132)).alloc (.cells (bs.map (Value.int .u8)).toArray T) = W
    go_enter Tryz.func150, Tryz.ntmps150
    go_wp2_with fail
    exact bodyPost_ret (v := .agg #[.slice (some ⟨w.heap.size + 1, 0, none⟩) bs.length bs.length, .int .i64 t]) (by simp [results, Tryz.results150, go_sem]) rfl ⟨rfl, (Below.refl _ _).alloc (Nat.le_refl _) _⟩
  refine hof.mono ?_
  rintro e w1 ⟨rfl, hb1⟩
  have B1 := Lib.hid (bthen (((Below.refl w.heap.size w).alloc (Nat.le_refl _) _).alloc (by simp) _) hb1)
  have C1 := (hb1.block w.heap.size (by simp; omega)).trans ((Below.heap_alloc _ _ _ (by simp)).trans (heap_alloc_new w _))
  have C3 := heap_alloc_new (w.alloc (.cells #[.slice none 0 0, .int .i64 0] 132)) (.cells (bs.map (Value.int .u8)).toArray T)
  rw [World.size_alloc] at C3
  have C2 := (hb1.block (w.heap.size + 1) (by simp)).trans C3
  have c0 := cell_of_heap (i := 0) C1
  have c1 := cell_of_heap (i := 1) C1
  have f0 := frozen_of_heap (i := 0) C1
  have f1 := frozen_of_heap (i := 1) C1
  simp at c0 c1 f0 f1
  refine ⟨rfl, B1, Lib.hid ?_, c0, c1, f0, f1⟩
  refine ⟨_, bs.length, by simp, by simp, fun _ => ⟨w.heap.size + 1, 0, rfl, lt_of_heap C2, fun j u hu => ?_⟩⟩
  rw [Nat.zero_add, cell_of_heap C2]
  simp only [List.map_map, List.getElem?_map, Option.map_eq_some_iff] at hu
  obtain ⟨x, hx, rfl⟩ := hu
  obtain ⟨h1, h2⟩ := hb x (List.mem_of_getElem? hx)
  simp only [List.getElem?_toArray, List.getElem?_map, hx, Option.map_some, Function.comp, bv, byteOf]
  congr 2
  simp
  omega
theorem of86_1 (t x : Int) (h1 : 0 ≤ x) (h2 : x < 256) (w : World) (T : TypeId) :
    Calls Tryz.prog 150 #[.int .i64 t, .slice (some ⟨w.heap.size + 1, 0, none⟩) 1 1] ((w.alloc (.cells #[.slice none 0 0, .int .i64 0] 132)).alloc (.cells #[.int .u8 x] T)) fun e w' => e = .returned (.agg #[.slice (some ⟨w.heap.size + 1, 0, none⟩) 1 1, .int .i64 t]) ∧
    Hid (Below w.heap.size w w') ∧ Hid (RdB w' w'.heap.size (.slice (some ⟨w.heap.size + 1, 0, none⟩) 1 1) [byteOf x]) ∧ w'.cell? ⟨w.heap.size, 0, none⟩ = some (.slice none 0 0) ∧ w'.cell? ⟨w.heap.size, 1, none⟩ = some (.int .i64 0) ∧ w'.frozen? ⟨w.heap.size, 0, none⟩ = false ∧ w'.frozen? ⟨w.heap.size, 1, none⟩ = false :=
  of86_x t [x] w T 1 rfl (by intro a ha; obtain rfl := List.mem_singleton.1 ha; exact ⟨h1, h2⟩)
theorem of86_2 (t x y : Int) (h1 : 0 ≤ x) (h2 : x < 256) (h3 : 0 ≤ y) (h4 : y < 256) (w : World) (T : TypeId) :
    Calls Tryz.prog 150 #[.int .i64 t, .slice (some ⟨w.heap.size + 1, 0, none⟩) 2 2] ((w.alloc (.cells #[.slice none 0 0, .int .i64 0] 132)).alloc (.cells #[.int .u8 x, .int .u8 y] T)) fun e w' => e = .returned (.agg #[.slice (some ⟨w.heap.size + 1, 0, none⟩) 2 2, .int .i64 t]) ∧
    Hid (Below w.heap.size w w') ∧ Hid (RdB w' w'.heap.size (.slice (some ⟨w.heap.size + 1, 0, none⟩) 2 2) [byteOf x, byteOf y]) ∧ w'.cell? ⟨w.heap.size, 0, none⟩ = some (.slice none 0 0) ∧ w'.cell? ⟨w.heap.size, 1, none⟩ = some (.int .i64 0) ∧ w'.frozen? ⟨w.heap.size, 0, none⟩ = false ∧ w'.frozen? ⟨w.heap.size, 1, none⟩ = false :=
  of86_x t [x, y] w T 2 rfl (by intro a ha; simp only [List.mem_cons, List.not_mem_nil, or_false] at ha; rcases ha with rfl | rfl <;> constructor <;> assumption)
theorem RdN.one {w : World} {v : Value} {x : Int} {a : Nat} (h : RdB w w.heap.size v [byteOf x]) (hx : x = a) : RdN w v [a] := by subst hx; exact h
theorem RdN.two {w : World} {v : Value} {x y : Int} {a b : Nat} (h : RdB w w.heap.size v [byteOf x, byteOf y]) (hx : x = a) (hy : y = b) : RdN w v [a, b] := by subst hx; subst hy; exact h
theorem RdN.nil0 (w : World) : RdN w (.slice none 0 0) [] := ⟨none, 0, rfl, Nat.le_refl _, fun h => by simp at h⟩
theorem RdN.box {w : World} {b n c : Nat} {l : List Nat} {x y : Value} (h : RdN w (.slice (some ⟨b + 1, 0, none⟩) n c) l) : RdN ((w.setCell ⟨b, 0, none⟩ x).setCell ⟨b, 1, none⟩ y) (.slice (some ⟨b + 1, 0, none⟩) n c) l := by
  refine (h.set ?_).set ?_ <;> (rintro g o n' c' h2; injection h2 with h2 _ _; injection h2 with h2; injection h2 with h2; subst h2; simp)
theorem HeadX.inbox {f : FuncId} {args : Array Value} {h : H86} {w : World} (hc : Calls Tryz.prog f args (w.alloc (.cells #[.slice none 0 0, .int .i64 0] 132)) (HeadX h (w.alloc (.cells #[.slice none 0 0, .int .i64 0] 132)))) :
    Calls Tryz.prog f args (w.alloc (.cells #[.slice none 0 0, .int .i64 0] 132)) fun e w' => ∃ A c, e = .returned (.agg #[.slice A h.1.length c, .int .i64 (h.2 : Nat)]) ∧ Hid (RdN w' (.slice A h.1.length c) h.1) ∧ Hid (FreshV (w.heap.size + 1) (.slice A h.1.length c)) ∧ Hid (Below w.heap.size w w') ∧
      w'.cell? ⟨w.heap.size, 0, none⟩ = some (.slice none 0 0) ∧ w'.cell? ⟨w.heap.size, 1, none⟩ = some (.int .i64 0) ∧ w'.frozen? ⟨w.heap.size, 0, none⟩ = false ∧ w'.frozen? ⟨w.heap.size, 1, none⟩ = false := by
  refine hc.mono ?_
  rintro e w1 ⟨v, rfl, hr, hb1, hf⟩
  obtain ⟨A, c, rfl, hc'⟩ := hr.form
  rw [List.length_map] at *
  have C1 := (hb1.block w.heap.size (by simp)).trans (heap_alloc_new w _)
  have c0 := cell_of_heap (i := 0) C1
  have c1 := cell_of_heap (i := 1) C1
  have f0 := frozen_of_heap (i := 0) C1
  have f1 := frozen_of_heap (i := 1) C1
  simp at c0 c1 f0 f1
  refine ⟨A, c, rfl, Lib.hid hr, Lib.hid (by rwa [World.size_alloc] at hf), Lib.hid (bthen ((Below.refl w.heap.size w).alloc (Nat.le_refl _) _) hb1), c0, c1, f0, f1⟩
theorem RdN.boxf {w : World} {b : Nat} {v : Value} {l : List Nat} {x y : Value} (h : RdN w v l) (hf : FreshV (b + 1) v) : RdN ((w.setCell ⟨b, 0, none⟩ x).setCell ⟨b, 1, none⟩ y) v l := by
  refine (h.set ?_).set ?_ <;> (intro g o n c h2; have := hf g o n c h2; simp; omega)
theorem FreshV.less {b b' : Nat} {v : Value} (h : FreshV b v) (hb : b' ≤ b) : FreshV b' v := fun g o n c e => Nat.le_trans hb (h g o n c e)
end Go.Proofs.YtagplldaooipmaaGreatDoor

/- Vc. -/
import Derived.Test.YtagplldaooipmaaGreatDoorUa
import Derived.Test.YtagplldaooipmaaGreatDoorPure86
namespace Go.Proofs.YtagplldaooipmaaGreatDoor
def wide86 (c : Nat) : Nat := if 1 ≤ c ∧ c ≤ 8 then 8 else if 9 ≤ c ∧ c ≤ 16 then 16 else 0
def num86 (c : Nat) : Nat := (c + 7) % 8
def rm86 (x y : Nat) : Nat := 192 + x * 8 + y
abbrev H86 := List Nat × Nat
def no86H : H86 := ([], 0)
def places86 (d s : Nat) : H86 :=
  if wide86 d = 8 ∧ s = 17 then ([0x8a, num86 d * 8 + 7], 0)
  else if d = 17 ∧ wide86 s = 8 then ([0x88, num86 s * 8 + 7], 0)
  else if d = 1 ∧ s = 18 then ([0x8a, 4], 0)
  else if d = 18 ∧ s = 1 then ([0x88, 4], 0)
  else if d = 1 ∧ s = 19 then ([0xa0], 2)
  else if d = 19 ∧ s = 1 then ([0xa2], 2)
  else if wide86 d = 16 ∧ d ≠ 9 ∧ s = 19 then ([0x8b, num86 d * 8 + 6], 2)
  else if d = 19 ∧ wide86 s = 16 ∧ s ≠ 9 then ([0x89, num86 s * 8 + 6], 2)
  else if wide86 d = 8 ∧ s = 20 then ([0xb0 + num86 d], 1)
  else if wide86 d = 16 ∧ s = 20 then ([0xb8 + num86 d], 2)
  else if d = 17 ∧ s = 20 then ([0xc6, 7], 1)
  else no86H
def two86 (op d s : Nat) : H86 :=
  if op = 1 ∧ wide86 d ≠ 0 ∧ wide86 d = wide86 s then ([0x88 + (if wide86 d = 16 then 1 else 0), rm86 (num86 s) (num86 d)], 0)
  else if op = 1 then places86 d s
  else if op = 17 ∧ wide86 d ≠ 0 ∧ wide86 d = wide86 s ∧ d ≠ 9 ∧ s ≠ 9 then ([0x86 + (if wide86 d = 16 then 1 else 0), rm86 (num86 s) (num86 d)], 0)
  else if op = 30 ∧ d = 1 ∧ s = 20 then ([0xe4], 1)
  else if op = 31 ∧ d = 20 ∧ s = 1 then ([0xe6], 1)
  else if op < 2 ∨ 9 < op then no86H
  else if wide86 d ≠ 0 ∧ wide86 d = wide86 s then ([(op - 2) % 8 * 8 + (if wide86 d = 16 then 1 else 0), rm86 (num86 s) (num86 d)], 0)
  else if wide86 d = 8 ∧ s = 17 then ([(op - 2) % 8 * 8 + 2, num86 d * 8 + 7], 0)
  else if d = 1 ∧ s = 20 then ([(op - 2) % 8 * 8 + 4], 1)
  else if wide86 d = 8 ∧ s = 20 then ([0x80, rm86 ((op - 2) % 8) (num86 d)], 1)
  else no86H
def one86 (op d : Nat) : H86 :=
  if op ≤ 11 ∧ d = 17 then ([0xfe, (op - 10) * 8 + 7], 0)
  else if op ≤ 11 ∧ wide86 d = 8 then ([0xfe, rm86 (op - 10) (num86 d)], 0)
  else if op ≤ 11 ∧ wide86 d = 16 then ([0x40 + (op - 10) * 8 + num86 d], 0)
  else if op ≤ 15 ∧ wide86 d ≠ 0 then ([0xd0 + wide86 d / 16, rm86 ((op - 12) % 8) (num86 d)], 0)
  else if op = 16 ∧ wide86 d = 8 then ([0xf6, rm86 2 (num86 d)], 0)
  else if 18 ≤ op ∧ wide86 d = 16 then ([0x50 + (op - 18) * 8 + num86 d], 0)
  else no86H
def single86 : List Nat := [0x9f, 0x9e, 0x27, 0xf5, 0xf9, 0xf8, 0xfb, 0xfa, 0xf4, 0x90]
def heads86 (op d s : Nat) : H86 :=
  if op < 1 then no86H
  else if s ≠ 0 ∨ op = 1 ∨ op = 17 then two86 op d s
  else if 10 ≤ op ∧ op ≤ 19 then one86 op d
  else if d = 0 ∧ 20 ≤ op ∧ op ≤ 29 then ([single86.getD (op - 20) 0], 0)
  else if d = 0 ∧ op = 35 then ([0xc3], 0)
  else if d ≠ 20 then no86H
  else if op = 32 then ([0xe9], 2)
  else if op = 33 then ([0xeb], 3)
  else if op = 34 then ([0xe8], 2)
  else if 42 ≤ op ∧ op ≤ 51 ∧ op ≠ 46 ∧ op ≠ 47 then ([0x70 + (op - 40)], 3)
  else no86H
def size86 (h : H86) : Nat := if h.2 = 1 ∨ h.2 = 3 then h.1.length + 1 else if h.2 = 2 then h.1.length + 2 else h.1.length
def regc86 (x : Nat) (w : Bool) : Nat := if w then x % 8 + 9 else x % 8 + 1
def alone86 (a : Nat) : Nat × Nat × Nat :=
  if a = 0xa0 then (1, 1, 19) else if a = 0xa2 then (1, 19, 1) else if a = 0xe4 then (30, 1, 20) else if a = 0xe6 then (31, 20, 1)
  else if a = 0xe9 then (32, 20, 0) else if a = 0xeb then (33, 20, 0) else if a = 0xe8 then (34, 20, 0) else if a = 0xc3 then (35, 0, 0)
  else if a ∈ single86 then (20 + single86.idxOf a, 0, 0) else (19, 0, 0)
def moved86 (a m reg r : Nat) : Nat × Nat × Nat :=
  let place := if m / 64 = 3 then r else if m % 8 = 7 then 17 else if m % 8 = 4 then 18 else if m % 8 = 6 then 19 else 0
  if a / 2 % 2 = 0 then (1, place, reg) else (1, reg, place)
def guess86 (a m : Nat) : Nat × Nat × Nat :=
  if a < 0x40 ∧ a % 8 < 2 then (a / 8 + 2, regc86 m (a % 2 == 1), regc86 (m / 8) (a % 2 == 1))
  else if a < 0x40 ∧ a % 8 = 2 then (a / 8 + 2, regc86 (m / 8) (a % 2 == 1), 17)
  else if a < 0x40 ∧ a % 8 = 4 then (a / 8 + 2, 1, 20)
  else if a = 0x27 then (22, 0, 0)
  else if a / 16 = 4 then (10 + a / 8 % 2, regc86 a true, 0)
  else if a / 16 = 5 then (18 + a / 8 % 2, regc86 a true, 0)
  else if a / 16 = 7 then (40 + a % 16, 20, 0)
  else if a = 0x80 then (m / 8 % 8 + 2, regc86 m (a % 2 == 1), 20)
  else if a = 0x86 ∨ a = 0x87 then (17, regc86 m (a % 2 == 1), regc86 (m / 8) (a % 2 == 1))
  else if a / 8 = 0xb0 / 8 then (1, regc86 a false, 20)
  else if a / 8 = 0xb8 / 8 then (1, regc86 a true, 20)
  else if a = 0xc6 then (1, 17, 20)
  else if a = 0xd0 ∨ a = 0xd1 then (12 + m / 8 % 8, regc86 m (a % 2 == 1), 0)
  else if a = 0xf6 then (16, regc86 m (a % 2 == 1), 0)
  else if a = 0xfe ∧ m / 64 = 0 then (10 + m / 8 % 8, 17, 0)
  else if a = 0xfe then (10 + m / 8 % 8, regc86 m (a % 2 == 1), 0)
  else if a / 4 = 0x88 / 4 then moved86 a m (regc86 (m / 8) (a % 2 == 1)) (regc86 m (a % 2 == 1))
  else alone86 a
def seconds86 (b : List UInt8) : List Nat := if 1 < b.length then [byteN b 1] else List.range 256
def hitB (h : H86) (b : List UInt8) (m : Nat) : Bool := decide (min h.1.length b.length ≠ 0) && decide ((h.1.map UInt8.ofNat).take (min h.1.length b.length) = b.take (min h.1.length b.length)) && !(decide (h.1.length = 2) && decide ((UInt8.ofNat (h.1.getD 1 0)).toNat ≠ m))
def tailN (h : H86) (b : List UInt8) : Nat := if h.2 = 1 then byteN b h.1.length else if h.2 = 3 then (if byteN b h.1.length < 128 then byteN b h.1.length else 65280 + byteN b h.1.length) else if h.2 = 2 then byteN b h.1.length + 256 * byteN b (h.1.length + 1) else 0
def tryH (g : Nat × Nat × Nat) (h : H86) (b : List UInt8) (m : Nat) : Option ((Nat × Nat × Nat × Nat) × Nat × Nat) :=
  if hitB h b m = false then none
  else if b.length < size86 h then some ((0, 0, 0, 0), 0, 2)
  else some ((g.1, g.2.1, g.2.2, tailN h b), size86 h, 0)
def try86 (b : List UInt8) (m : Nat) : Option ((Nat × Nat × Nat × Nat) × Nat × Nat) :=
  tryH (guess86 (byteN b 0) m) (heads86 (guess86 (byteN b 0) m).1 (guess86 (byteN b 0) m).2.1 (guess86 (byteN b 0) m).2.2) b m
def read86 (b : List UInt8) : (Nat × Nat × Nat × Nat) × Nat × Nat :=
  if b = [] then ((0, 0, 0, 0), 0, 2) else ((seconds86 b).findSome? (try86 b)).getD ((0, 0, 0, 0), 0, 12)
def jumps86 (op : Nat) : Bool := decide (32 ≤ op ∧ op ≤ 34) || decide (42 ≤ op ∧ op ≤ 45) || decide (48 ≤ op ∧ op ≤ 51)
def arg86D (c n : Nat) : List Ar := if c = 0 then [] else if c = 19 then [memA n] else if c = 20 then [numA n] else [operandD (argL c) 0]
def first86D (pl : Nat) (b : List UInt8) : St × Nat × Int :=
  if (read86 b).2.2 ≠ 0 then dbD (byteN b 0)
  else
    let i := (read86 b).1
    let n := if jumps86 i.1 then (i.2.2.2 + pl + (read86 b).2.1) % 65536 else i.2.2.2
    (⟨[], false, nameL i.1, arg86D i.2.1 n ++ arg86D i.2.2.1 n⟩, (read86 b).2.1, if jumps86 i.1 then (n : Int) else -1)
end Go.Proofs.YtagplldaooipmaaGreatDoor
/- isa86: bounds of guess and heads, in plain Lean. -/
namespace Go.Proofs.YtagplldaooipmaaGreatDoor
theorem regc_le (x : Nat) (b : Bool) : 1 ≤ regc86 x b ∧ regc86 x b ≤ 16 := by unfold regc86; split <;> omega
theorem ite_p {α : Type} {P : α → Prop} {c : Prop} [Decidable c] {x y : α} (h1 : c → P x) (h2 : ¬ c → P y) : P (if c then x else y) := by
  split
  · exact h1 ‹_›
  · exact h2 ‹_›
def okG (g : Nat × Nat × Nat) : Prop := 1 ≤ g.1 ∧ g.1 ≤ 100 ∧ g.2.1 ≤ 20 ∧ g.2.2 ≤ 20
theorem moved_le (a m reg r : Nat) (h1 : reg ≤ 20) (h2 : r ≤ 20) : okG (moved86 a m reg r) := by
  unfold moved86
  have hp : (if m / 64 = 3 then r else if m % 8 = 7 then 17 else if m % 8 = 4 then 18 else if m % 8 = 6 then 19 else 0) ≤ 20 := by repeat' (first | omega | split)
  generalize (if m / 64 = 3 then r else if m % 8 = 7 then 17 else if m % 8 = 4 then 18 else if m % 8 = 6 then 19 else 0) = pl at *
  refine ite_p (fun _ => ?_) (fun _ => ?_) <;> (unfold okG; simp only; omega)
theorem alone_le : ∀ k : Fin 256, 1 ≤ (alone86 k.val).1 ∧ (alone86 k.val).1 ≤ 100 ∧ (alone86 k.val).2.1 ≤ 20 ∧ (alone86 k.val).2.2 ≤ 20 := by decide +kernel
theorem guess_le (a m : Nat) (ha : a < 256) : okG (guess86 a m) := by
  have r1 := regc_le (m / 8) (a % 2 == 1)
  have r2 := regc_le m (a % 2 == 1)
  have r3 := regc_le a true
  have r4 := regc_le a false
  unfold guess86
  repeat' (first
    | exact moved_le a m _ _ (by omega) (by omega)
    | exact alone_le ⟨a, ha⟩
    | (refine ite_p (fun _ => ?_) (fun _ => ?_))
    | (unfold okG; simp only; omega))
theorem places_len (d s : Nat) : (places86 d s).1.length ≤ 2 ∧ (places86 d s).2 ≤ 3 := by unfold places86; repeat' (first | (constructor <;> simp [no86H]; done) | split)
theorem two_len (op d s : Nat) : (two86 op d s).1.length ≤ 2 ∧ (two86 op d s).2 ≤ 3 := by
  have := places_len d s
  unfold two86; repeat' (first | exact this | (constructor <;> simp [no86H]; done) | split)
theorem one_len (op d : Nat) : (one86 op d).1.length ≤ 2 ∧ (one86 op d).2 ≤ 3 := by unfold one86; repeat' (first | (constructor <;> simp [no86H]; done) | split)
theorem heads_len (op d s : Nat) : (heads86 op d s).1.length ≤ 2 ∧ (heads86 op d s).2 ≤ 3 := by
  have h1 := two_len op d s
  have h2 := one_len op d
  unfold heads86; repeat' (first | exact h1 | exact h2 | (constructor <;> simp [no86H]; done) | split)
end Go.Proofs.YtagplldaooipmaaGreatDoor

/- Ua. -/
import Derived.Test.YtagplldaooipmaaGreatDoorKa
import Derived.Test.YtagplldaooipmaaGreatDoorKb
import Derived.Maps.OwnOps
import Derived.Maps.OwnSet
import Derived.Maps.Views
import Derived.Test.YtagplldaooipmaaGreatDoorShelf
import Derived.Lib.Builder
import Derived.Lib.AppendStr
import Derived.Lib.UnsafeStr
import Derived.Laws.Externs
import Derived.RegionTactic
import Derived.Deep.RegionLaw
namespace Go.Proofs.YtagplldaooipmaaGreatDoor
def pickL (l:List (List UInt8)) (i:Nat):List UInt8:=l.getD i []
abbrev regW80:List (List UInt8):=[[66],[67],[68],[69],[72],[76],[77],[65]]
abbrev pairW80:List (List UInt8):=[[66],[68],[72],[83,80]]
abbrev condW80:List (List UInt8):=[[78,90],[90],[78,67],[67],[80,79],[80,69],[80],[77]]
abbrev stackW80:List (List UInt8):=[[66],[68],[72],[80,83,87]]
def reg80 (i:Nat):List UInt8:=pickL regW80 (i % 8)
def pair80 (i:Nat):List UInt8:=pickL pairW80 (i % 4)
def cond80 (i:Nat):List UInt8:=pickL condW80 (i % 8)
abbrev sD8:List UInt8:=[100,56]
abbrev sD16:List UInt8:=[100,49,54]
def low80 (op:Nat):List (List UInt8):=
 if op % 8=4 then [[73,78,82],reg80 (op / 8)]
 else if op % 8=5 then [[68,67,82],reg80 (op / 8)]
 else if op % 8=6 then [[77,86,73],reg80 (op / 8),sD8]
 else if op % 8=7 then [pickL [[82,76,67],[82,82,67],[82,65,76],[82,65,82],[68,65,65],[67,77,65],[83,84,67],[67,77,67]] (op / 8)]
 else if op % 16=1 then [[76,88,73],pair80 (op / 16),sD16]
 else if op % 16=3 then [[73,78,88],pair80 (op / 16)]
 else if op % 16=9 then [[68,65,68],pair80 (op / 16)]
 else if op % 16=11 then [[68,67,88],pair80 (op / 16)]
 else if op=0 then [[78,79,80]]
 else if op=2 ∨ op=18 then [[83,84,65,88],pair80 (op / 16)]
 else if op=10 ∨ op=26 then [[76,68,65,88],pair80 (op / 16)]
 else if op=34 ∨ op=42 ∨ op=50 ∨ op=58 then [pickL [[83,72,76,68],[76,72,76,68],[83,84,65],[76,68,65]] (op / 8 % 4),sD16]
 else []
def high80 (op:Nat):List (List UInt8):=
 if op % 8=0 then [82 :: cond80 (op / 8)]
 else if op % 8=2 then [74 :: cond80 (op / 8),sD16]
 else if op % 8=4 then [67 :: cond80 (op / 8),sD16]
 else if op % 8=6 then [pickL [[65,68,73],[65,67,73],[83,85,73],[83,66,73],[65,78,73],[88,82,73],[79,82,73],[67,80,73]] (op / 8 % 8),sD8]
 else if op % 8=7 then [[82,83,84],[UInt8.ofNat (48 + op / 8 % 8)]]
 else if op=193 ∨ op=209 ∨ op=225 ∨ op=241 then [[80,79,80],pickL stackW80 (op / 16 % 4)]
 else if op=197 ∨ op=213 ∨ op=229 ∨ op=245 then [[80,85,83,72],pickL stackW80 (op / 16 % 4)]
 else if op=201 ∨ op=233 ∨ op=249 then [pickL [[82,69,84],[45],[80,67,72,76],[83,80,72,76]] (op / 16 % 4)]
 else if op=195 then [[74,77,80],sD16]
 else if op=205 then [[67,65,76,76],sD16]
 else if op=211 ∨ op=219 then [pickL [[79,85,84],[73,78]] (op / 8 % 2),sD8]
 else if op=227 ∨ op=235 ∨ op=243 ∨ op=251 then [pickL [[88,84,72,76],[88,67,72,71],[68,73],[69,73]] (op / 8 % 4)]
 else []
def words80 (op:Nat):List (List UInt8):=
 if op / 64=0 then low80 op
 else if op / 64=1 then (if op=118 then [[72,76,84]] else [[77,79,86],reg80 (op / 8),reg80 op])
 else if op / 64=2 then [pickL [[65,68,68],[65,68,67],[83,85,66],[83,66,66],[65,78,65],[88,82,65],[79,82,65],[67,77,80]] (op / 8 % 8),reg80 op]
 else high80 op
def size80 (op:Nat):Nat:=if words80 op = [] then 0 else if (words80 op).getLastD []=sD16 then 3 else if (words80 op).getLastD []=sD8 then 2 else 1
def name80 (op:Nat):List UInt8:=(words80 op).headD []
def args80 (op:Nat):List (List UInt8):=(words80 op).drop 1
def condI80 (op:Nat):Int:=if op / 64=3∧op % 2=0∧op % 8 ≠ 6 then ((op / 8 % 8:Nat):Int) else -1
def jumps80 (op:Nat):Bool:=decide (op=195 ∨ op=205) || (decide (0 ≤ condI80 op) && decide (op % 8 ≠ 0))
end Go.Proofs.YtagplldaooipmaaGreatDoor
/- The same opcodes in Zilog's mnemonics, in plain Lean (P7). -/
namespace Go.Proofs.YtagplldaooipmaaGreatDoor
def zarg (s:List UInt8):List UInt8:=if s = [77] then [40,72,76,41] else if s=sD8 then [110] else if s=sD16 then [110,110] else s
def zpair (s:List UInt8):List UInt8:=if s = [66] then [66,67] else if s = [68] then [68,69] else if s = [72] then [72,76] else if s = [80,83,87] then [65,70] else s
def zsums (name s:List UInt8):List (List UInt8):=
 if name = [65,68,68] ∨ name = [65,68,73] then [[65,68,68],[65],s]
 else if name = [65,68,67] ∨ name = [65,67,73] then [[65,68,67],[65],s]
 else if name = [83,66,66] ∨ name = [83,66,73] then [[83,66,67],[65],s]
 else if name = [83,85,66] ∨ name = [83,85,73] then [[83,85,66],s]
 else if name = [65,78,65] ∨ name = [65,78,73] then [[65,78,68],s]
 else if name = [88,82,65] ∨ name = [88,82,73] then [[88,79,82],s]
 else if name = [79,82,65] ∨ name = [79,82,73] then [[79,82],s]
 else [[67,80],s]
def zone (name:List UInt8):List UInt8:=
 if name = [82,76,67] ∨ name = [82,82,67] then name ++ [65]
 else if name = [82,65,76] then [82,76,65] else if name = [82,65,82] then [82,82,65] else if name = [67,77,65] then [67,80,76]
 else if name = [83,84,67] then [83,67,70] else if name = [67,77,67] then [67,67,70] else if name = [72,76,84] then [72,65,76,84] else name
def zplain (name:List UInt8):List (List UInt8):=
 if name = [83,72,76,68] then [[76,68],[40,110,110,41],[72,76]] else if name = [76,72,76,68] then [[76,68],[72,76],[40,110,110,41]]
 else if name = [83,84,65] then [[76,68],[40,110,110,41],[65]] else if name = [76,68,65] then [[76,68],[65],[40,110,110,41]]
 else if name = [83,80,72,76] then [[76,68],[83,80],[72,76]] else if name = [80,67,72,76] then [[74,80],[40,72,76,41]]
 else if name = [88,84,72,76] then [[69,88],[40,83,80,41],[72,76]] else if name = [88,67,72,71] then [[69,88],[68,69],[72,76]]
 else if name = [79,85,84] then [[79,85,84],[40,110,41],[65]] else if name = [73,78] then [[73,78],[65],[40,110,41]]
 else if name = [74,77,80] then [[74,80],[110,110]] else if name = [67,65,76,76] then [[67,65,76,76],[110,110]]
 else [zone name]
def zloads (name:List UInt8) (a:List (List UInt8)):Option (List (List UInt8)):=
 if name = [77,79,86] ∨ name = [77,86,73] then some [[76,68],zarg (pickL a 0),zarg (pickL a 1)]
 else if name = [76,88,73] then some [[76,68],zpair (pickL a 0),[110,110]]
 else if name = [83,84,65,88] then some [[76,68],[40] ++ zpair (pickL a 0) ++ [41],[65]]
 else if name = [76,68,65,88] then some [[76,68],[65],[40] ++ zpair (pickL a 0) ++ [41]]
 else if name = [73,78,88] then some [[73,78,67],zpair (pickL a 0)]
 else if name = [68,67,88] then some [[68,69,67],zpair (pickL a 0)]
 else if name = [68,65,68] then some [[65,68,68],[72,76],zpair (pickL a 0)]
 else if name = [73,78,82] then some [[73,78,67],zarg (pickL a 0)]
 else if name = [68,67,82] then some [[68,69,67],zarg (pickL a 0)]
 else if name = [80,79,80] ∨ name = [80,85,83,72] then some [name,zpair (pickL a 0)]
 else none
def zform (op:Nat):List (List UInt8):=
  if name80 op = [] then []
  else if 0 ≤ condI80 op then
    (if (name80 op).headD 0=82 then [[82,69,84],cond80 (condI80 op).toNat]
     else if (name80 op).headD 0=74 then [[74,80],cond80 (condI80 op).toNat,[110,110]]
     else [[67,65,76,76],cond80 (condI80 op).toNat,[110,110]])
  else if op / 64=3∧op % 8=7 then
    [[82,83,84],if op / 8 % 8 * 8 < 10 then [UInt8.ofNat (48 + op / 8 % 8 * 8)] else [UInt8.ofNat (48 + op / 8 % 8 * 8 / 10),UInt8.ofNat (48 + op / 8 % 8 * 8 % 10)]]
  else if op / 64=2 ∨ (op / 64=3∧op % 8=6) then zsums (name80 op) (zarg (pickL (args80 op) 0))
  else match zloads (name80 op) (args80 op) with
    | some l=>l
    | none=>zplain (name80 op)
def zname (op:Nat):List UInt8:=(zform op).headD []
def zargs (op:Nat):List (List UInt8):=(zform op).drop 1
end Go.Proofs.YtagplldaooipmaaGreatDoor
/- disasm in plain Lean (P17): pieces, labels, statements, texts. -/
namespace Go.Proofs.YtagplldaooipmaaGreatDoor
structure Pc where
 s:St
 pl:Nat
 size:Nat
 tg:Int
def numA (n:Nat):Ar:=⟨[],[],false,false,numE n⟩
def memA (n:Nat):Ar:=⟨[],[],false,true,numE n⟩
def wordA (s:List UInt8):Ar:=⟨s,[],false,false,ex0⟩
def nameA (s:List UInt8):Ar:=⟨[],[],false,false,.mk sN 0 s []⟩
abbrev sn1:List UInt8:=[110]
abbrev sn2:List UInt8:=[110,110]
abbrev smn1:List UInt8:=[40,110,41]
abbrev smn2:List UInt8:=[40,110,110,41]
def operandD (s:List UInt8) (n:Nat):Ar:=if s=sD8 ∨ s=sD16 ∨ s=sn1 ∨ s=sn2 then numA n else if s=smn1 ∨ s=smn2 then memA n else wordA s
def byteN (b:List UInt8) (i:Nat):Nat:=(b.getD i 0).toNat
def n80 (b:List UInt8) (size:Nat):Nat:=if size=3 then byteN b 2 * 256 + byteN b 1 else if size=2 then byteN b 1 else 0
def read80 (b:List UInt8):(Nat × Nat) × Nat × Nat:=
 if b = [] then ((0,0),0,2) else if size80 (byteN b 0)=0 then ((0,0),0,8) else if b.length < size80 (byteN b 0) then ((0,0),0,2)
 else ((byteN b 0,n80 b (size80 (byteN b 0))),size80 (byteN b 0),0)
def dbD (n:Nat):St × Nat × Int:=(⟨[],false,sDB,[numA n]⟩,1,-1)
def nm80 (d:Int) (op:Nat):List UInt8:=if d=1 then zname op else name80 op
def ar80 (d:Int) (op:Nat):List (List UInt8):=if d=1 then zargs op else args80 op
def rst80 (d:Int) (op:Nat):Nat:=if d=1 then op / 8 % 8 * 8 else op / 8 % 8
def st80 (d:Int) (op n:Nat):St:=if op / 64=3∧op % 8=7 then ⟨[],false,nm80 d op,[numA (rst80 d op)]⟩ else ⟨[],false,nm80 d op,(ar80 d op).map (fun a=>operandD a n)⟩
def first80D (d:Int) (b:List UInt8):St × Nat × Int:=
 if (read80 b).2.2 ≠ 0 then dbD (byteN b 0)
 else (st80 d (read80 b).1.1 (read80 b).1.2,(read80 b).2.1,if jumps80 (read80 b).1.1 then ((read80 b).1.2:Int) else -1)
def sweepF (first:Nat → List UInt8 → St × Nat × Int):Nat → Nat → List UInt8 → List Pc
 | 0,_,_=>[]
 | f + 1,pl,b=>if b = [] then [] else ⟨(first pl b).1,pl,(first pl b).2.1,(first pl b).2.2⟩ :: sweepF first f (pl + (first pl b).2.1) (b.drop (first pl b).2.1)
def hexL (n:Nat):UInt8:=UInt8.ofNat (if n % 16 < 10 then 48 + n % 16 else 55 + n % 16)
def labelD (n:Nat):List UInt8:=[76,hexL (n / 4096),hexL (n / 256),hexL (n / 16),hexL n]
def marksD (l:List Pc):List Int:=((l.map fun p=>(p.pl:Int)).filter fun x=>decide (x ∈ l.map (·.tg))).take 1000
def finD (m:List Int) (p:Pc):St:=
 ⟨if (p.pl:Int) ∈ m then labelD p.pl else p.s.label,if (p.pl:Int) ∈ m then true else p.s.colon,p.s.op,if p.tg ∈ m then p.s.args.dropLast ++ [nameA (labelD p.tg.toNat)] else p.s.args⟩
def orgS (n:Nat):St:=⟨[],false,[79,82,71],[numA n]⟩
def firstD (f86:Nat → List UInt8 → St × Nat × Int) (d:Int) (pl:Nat) (b:List UInt8):St × Nat × Int:=if d=2 then f86 pl b else first80D d b
def stmtsD (f86:Nat → List UInt8 → St × Nat × Int) (d n:Int) (b:List UInt8):List St × Nat:=
 if d < 0 ∨ 2 < d ∨ n < 0 then ([],1)
 else if 65536 < b.length ∨ 65536 - (b.length:Int) < n then ([],7)
 else if b = [] then ([],0)
 else (orgS n.toNat :: (sweepF (firstD f86 d) b.length n.toNat b).map (finD (marksD (sweepF (firstD f86 d) b.length n.toNat b))),0)
def textsD (d:Int) (l:List St):List UInt8:=(l.map fun s=>(showS d s).1 ++ [10]).flatten
def textD (f86:Nat → List UInt8 → St × Nat × Int) (d n:Int) (b:List UInt8):List UInt8 × Nat:=
 if (stmtsD f86 d n b).2 ≠ 0 then ([],(stmtsD f86 d n b).2) else (textsD d (stmtsD f86 d n b).1,0)
end Go.Proofs.YtagplldaooipmaaGreatDoor
/- disasm in plain Lean: positions, marks. -/
namespace Go.Proofs.YtagplldaooipmaaGreatDoor
theorem sweep_pos (first:Nat → List UInt8 → St × Nat × Int) (h:∀ pl b,b ≠ [] → 1 ≤ (first pl b).2.1):∀ f pl b,(∀ p ∈ sweepF first f pl b,pl ≤ p.pl)∧(sweepF first f pl b).Pairwise (fun p q=>p.pl < q.pl):=by
 intro f
 induction f with
 | zero=>intro pl b;exact ⟨fun p hp=>by simp [sweepF] at hp,List.Pairwise.nil⟩
 | succ f ih=>
  intro pl b
  rw [sweepF]
  by_cases h0:b = []
  ·rw [if_pos h0];exact ⟨fun p hp=>by simp at hp,List.Pairwise.nil⟩
  ·rw [if_neg h0]
   have h1:=h pl b h0
   obtain ⟨i1,i2⟩:=ih (pl + (first pl b).2.1) (b.drop (first pl b).2.1)
   refine ⟨fun p hp=>?_,List.Pairwise.cons (fun q hq=>?_) i2⟩
   ·rcases List.mem_cons.1 hp with rfl | hp
    ·exact Nat.le_refl _
    ·have:=i1 p hp;omega
   ·have:=i1 q hq;simp only;omega
theorem sweep_all (first:Nat → List UInt8 → St × Nat × Int) (P:Pc → Prop) (h:∀ pl b,b ≠ [] → P ⟨(first pl b).1,pl,(first pl b).2.1,(first pl b).2.2⟩):∀ f pl b,∀ p ∈ sweepF first f pl b,P p:=by
 intro f
 induction f with
 | zero=>intro pl b p hp;simp [sweepF] at hp
 | succ f ih=>
  intro pl b p hp
  rw [sweepF] at hp
  by_cases h0:b = []
  ·rw [if_pos h0] at hp;simp at hp
  ·rw [if_neg h0] at hp
   rcases List.mem_cons.1 hp with rfl | hp
   ·exact h pl b h0
   ·exact ih _ _ p hp
theorem sweep_end (first:Nat → List UInt8 → St × Nat × Int) (h:∀ pl b,b ≠ [] → 1 ≤ (first pl b).2.1∧(first pl b).2.1 ≤ b.length):∀ f pl b,∀ p ∈ sweepF first f pl b,p.pl + p.size ≤ pl + b.length∧1 ≤ p.size:=by
 intro f
 induction f with
 | zero=>intro pl b p hp;simp [sweepF] at hp
 | succ f ih=>
  intro pl b p hp
  rw [sweepF] at hp
  by_cases h0:b = []
  ·rw [if_pos h0] at hp;simp at hp
  ·rw [if_neg h0] at hp
   obtain ⟨h1,h2⟩:=h pl b h0
   rcases List.mem_cons.1 hp with rfl | hp
   ·simp only;omega
   ·have:=ih _ _ p hp;rw [List.length_drop] at this;omega
theorem sweep_len (first:Nat → List UInt8 → St × Nat × Int):∀ f pl b,(sweepF first f pl b).length ≤ f:=by
 intro f
 induction f with
 | zero=>intro pl b;simp [sweepF]
 | succ f ih=>
  intro pl b
  rw [sweepF]
  split
  ·simp
  ·have:=ih (pl + (first pl b).2.1) (b.drop (first pl b).2.1);simp;omega
def marksK (l:List Pc) (k:Nat):List Int:=(((l.take k).map fun p=>(p.pl:Int)).filter fun x=>decide (x ∈ l.map (·.tg))).take 1000
theorem marksK_all (l:List Pc):marksK l l.length=marksD l:=by unfold marksK marksD;rw [List.take_length]
theorem marksK_zero (l:List Pc):marksK l 0 = []:=by simp [marksK]
theorem marksK_len (l:List Pc) (k:Nat):(marksK l k).length ≤ 1000:=by unfold marksK;rw [List.length_take];omega
theorem marksK_out (l:List Pc) (k:Nat) (hk:k < l.length) (h:(l[k].pl:Int) ∉ l.map (·.tg)):marksK l (k + 1)=marksK l k:=by
 unfold marksK
 rw [List.take_succ_eq_append_getElem hk,List.map_append,List.filter_append]
 simp only [List.map_cons,List.map_nil]
 rw [List.filter_cons_of_neg (by simpa using h)]
 simp
theorem marksK_in (l:List Pc) (k:Nat) (hk:k < l.length) (h:(l[k].pl:Int) ∈ l.map (·.tg)):marksK l (k + 1)=if (marksK l k).length < 1000 then marksK l k ++ [(l[k].pl:Int)] else marksK l k:=by
 unfold marksK
 rw [List.take_succ_eq_append_getElem hk,List.map_append,List.filter_append]
 simp only [List.map_cons,List.map_nil]
 rw [List.filter_cons_of_pos (by simpa using h),List.filter_nil]
 generalize ((l.take k).map fun p=>(p.pl:Int)).filter (fun x=>decide (x ∈ l.map (·.tg)))=xs
 rw [List.length_take]
 by_cases h1:xs.length < 1000
 ·rw [if_pos (by omega),List.take_of_length_le (by simp;omega),List.take_of_length_le (by omega)]
 ·rw [if_neg (by omega),List.take_append_of_le_length (by omega)]
theorem marksK_nodup (l:List Pc) (hp:l.Pairwise (fun p q=>p.pl < q.pl)) (k:Nat):(marksK l k).Nodup:=by
 unfold marksK
 refine List.Nodup.sublist (List.take_sublist _ _) (List.Nodup.sublist List.filter_sublist ?_)
 have h1:((l.take k).map fun p=>(p.pl:Int)).Pairwise (· < ·):=by
  rw [List.pairwise_map]
  exact (hp.sublist (List.take_sublist _ _)).imp (by intro a b h;omega)
 exact h1.imp (by intro a b h;omega)
theorem marks_pos (l:List Pc) (x:Int) (h:x ∈ marksD l):0 ≤ x∧x ∈ l.map (·.tg):=by
 unfold marksD at h
 have h1:=List.mem_of_mem_take h
 rw [List.mem_filter] at h1
 obtain ⟨h2,h3⟩:=h1
 obtain ⟨p,_,rfl⟩:=List.mem_map.1 h2
 exact ⟨by omega,by simpa using h3⟩
end Go.Proofs.YtagplldaooipmaaGreatDoor
/- disasm in plain Lean: operands of what stands at the begin. -/
namespace Go.Proofs.YtagplldaooipmaaGreatDoor
theorem operandD_sub (s:List UInt8) (n:Nat):(operandD s n).e.sub = []:=by
 unfold operandD
 split
 ·rfl
 ·split <;> rfl
theorem jumps_args:∀ k:Fin 256,jumps80 k.val=true → args80 k.val ≠ []∧zargs k.val ≠ []:=by decide +kernel
theorem st80_sub (d:Int) (op n:Nat):∀ a ∈ (st80 d op n).args,a.e.sub = []:=by
 intro a ha
 unfold st80 at ha
 split at ha
 ·simp at ha;subst ha;rfl
 ·simp only [List.mem_map] at ha
  obtain ⟨s,_,rfl⟩:=ha
  exact operandD_sub s n
theorem first80_args (d:Int) (b:List UInt8) (hlt:∀ i,byteN b i < 256):(0 ≤ (first80D d b).2.2 → (first80D d b).1.args ≠ [])∧∀ a ∈ (first80D d b).1.args,a.e.sub = []:=by
 unfold first80D
 by_cases hk:(read80 b).2.2 ≠ 0
 ·rw [if_pos hk]
  refine ⟨fun h=>by simp [dbD],fun a ha=>?_⟩
  simp [dbD] at ha;subst ha;rfl
 ·rw [if_neg hk]
  refine ⟨fun h=>?_,st80_sub d _ _⟩
  simp only at h ⊢
  have hop:(read80 b).1.1 < 256:=by
   have:=hlt 0
   unfold read80
   repeat' (first | split | (simp;done) | (simp;omega))
  cases hj:jumps80 (read80 b).1.1 with
  | false=>rw [hj] at h;simp at h
  | true=>
   have:=jumps_args ⟨_,hop⟩ hj
   simp only at this
   unfold st80
   split
   ·simp
   ·unfold ar80
    split <;> simp [this.1,this.2]
end Go.Proofs.YtagplldaooipmaaGreatDoor
/- law17 in plain Lean: the same places in both dialects; opcodes without a manual. -/
namespace Go.Proofs.YtagplldaooipmaaGreatDoor
end Go.Proofs.YtagplldaooipmaaGreatDoor
/- Sets of integers as maps of bools that the call makes. -/
namespace Go.Proofs.YtagplldaooipmaaGreatDoor
open Go.RowKit
theorem zero_bool (w:World):(zeroValue 4).run Tryz.prog w=.ok (.bool false) w:=by kernel_rfl
theorem int_key:Maps.Keyed Tryz.prog 3:=Maps.int_keyed Tryz.underlying3
abbrev litI (x:Int):Lit:=.int .i64 x
theorem litI_wf (x:Int) (h1:-1 ≤ x) (h2:x ≤ 1000000):(litI x).wf=true:=by
 have e1:IntKind.i64.min = -9223372036854775808:=by decide
 simp [Lit.wf,e1]
 omega
theorem litI_key (x:Int):WideAt.IsKeyLit (litI x):=by trivial
def SetAt (w:World) (b:Nat) (xs:List Int):Prop:=w.ownsMap Tryz.prog 3 (plainElem (H:=Unit) Tryz.prog 4) b xs.length (Maps.setOf (.lit (.bool true)) (xs.map litI))
theorem SetAt.made (w:World):SetAt (w.alloc (.map #[] 0)) w.heap.size []:=World.ownsMap_made w Tryz.prog 3 _
theorem SetAt.lt {w:World} {b:Nat} {xs:List Int} (h:SetAt w b xs):b < w.heap.size:=World.ownsMap.lt h
theorem SetAt.keep {w w':World} {b:Nat} {xs:List Int} (h:SetAt w b xs) (hk:w'.heap[b]? = w.heap[b]?):SetAt w' b xs:=by
 obtain ⟨es,clock,hb,F,hs,hD⟩:=h
 exact ⟨es,clock,hk.trans hb,F,hs,hD⟩
theorem list_rev {α:Type} {P:List α → Prop} (h0:P []) (h1:∀ l a,P l → P (l ++ [a])) (l:List α):P l:=by
 have h:∀ m:List α,P m.reverse:=by
  intro m
  induction m with
  | nil=>exact h0
  | cons a m ih=>rw [List.reverse_cons];exact h1 _ _ ih
 have:=h l.reverse
 rwa [List.reverse_reverse] at this
theorem plainElem_bool_inv {H:Type} {P:Program} {e:TypeId} (he:P.underlying e=some .bool) {v:Value} {z:DataW H × List MemPlace} (h:plainElem P e v=some z):∃ x,v=.bool x∧z=(.lit (.bool x),[]):=by
 unfold plainElem at h
 rw [he] at h
 cases v <;> simp at h
 exact ⟨_,rfl,h.symm⟩
theorem isKey (xs:List Int):∀ x ∈ xs.map litI,WideAt.IsKeyLit x:=by
 intro x hx
 obtain ⟨a,_,rfl⟩:=List.mem_map.1 hx
 exact litI_key a
theorem atKey_set (xs:List Int) (x:Int):(Maps.setOf (H:=Unit) (.lit (.bool true)) (xs.map litI)).atKey (litI x) (.lit (.bool false))=.lit (.bool (decide (x ∈ xs))):=by
 refine list_rev (P:=fun xs=>(Maps.setOf (H:=Unit) (.lit (.bool true)) (xs.map litI)).atKey (litI x) (.lit (.bool false))=.lit (.bool (decide (x ∈ xs)))) rfl (fun xs a ih=>?_) xs
 ·show (Maps.setOf (H:=Unit) (.lit (.bool true)) ((xs ++ [a]).map litI)).atKey (litI x) (.lit (.bool false))=.lit (.bool (decide (x ∈ xs ++ [a])))
  rw [List.map_append,List.map_cons,List.map_nil,Maps.setOf_snoc]
  by_cases h:a=x
  ·subst h
   rw [Maps.atKey_put_same (Maps.Tidy.isMap (Maps.tidy_setOf _ _ (isKey xs))) (litI_key a)]
   simp
  ·rw [Maps.atKey_put_other (fun e=>h (by injection e with _ e;exact e.symm)),ih]
   congr 2
   simp [Ne.symm h]
theorem SetAt.look {w:World} {b:Nat} {xs:List Int} (h:SetAt w b xs) (x:Int) (hx:(litI x).wf=true):(Instr.lookup 44 (.map (some b)) (.int .i64 x) false).run Tryz.prog w=.ok (.bool (decide (x ∈ xs))) w:=by
 obtain ⟨v,ps,hrun,hv⟩:=World.ownsMap.lookup h int_key Tryz.underlying44 (zero_bool w) (plainElem_bool Tryz.underlying4 false) (Maps.keyOf_int_mk Tryz.underlying3 hx)
 rw [atKey_set] at hv
 obtain ⟨y,rfl,hy⟩:=plainElem_bool_inv Tryz.underlying4 hv
 simp only [Prod.mk.injEq,DataW.lit.injEq,Lit.bool.injEq] at hy
 rw [hrun,← hy.1]
theorem msize_set (xs:List Int) (hn:xs.Nodup):(Maps.size (Maps.setOf (H:=Unit) (.lit (.bool true)) (xs.map litI)):Int)=xs.length:=by
 have h:xs.Nodup → (xs.map litI).foldl Maps.addKey []=xs.map litI:=by
  refine list_rev (P:=fun xs=>xs.Nodup → (xs.map litI).foldl Maps.addKey []=xs.map litI) (fun _=>rfl) (fun xs a ih hn=>?_) xs
  rw [List.map_append,List.foldl_append,ih (List.nodup_append.1 hn).1]
  simp only [List.map_cons,List.map_nil,List.foldl_cons,List.foldl_nil,Maps.addKey]
  rw [if_neg]
  intro hh
  obtain ⟨y,hy,hs⟩:=List.any_eq_true.1 hh
  obtain ⟨c,hc,rfl⟩:=List.mem_map.1 hy
  have hne:c ≠ a:=fun e=>by
   subst e
   exact (List.nodup_append.1 hn).2.2 c hc c (by simp) rfl
  rw [Maps.sameKey_ne (fun e=>hne (by injection e))] at hs
  cases hs
 rw [Maps.size_setOf _ _ (isKey xs),h hn,List.length_map]
theorem SetAt.len {w:World} {b:Nat} {xs:List Int} (h:SetAt w b xs) (hn:xs.Nodup) (ty:TypeId):(Builtin.len_ #[44] ty #[.map (some b)]).run Tryz.prog w=.ok (.int .i64 xs.length) w:=by
 rw [World.ownsMap.len h Tryz.underlying44 ty,msize_set xs hn]
theorem SetAt.put {w':World} {b:Nat} {xs:List Int} (x:Int) (h:w'.ownsMap Tryz.prog 3 (plainElem (H:=Unit) Tryz.prog 4) b (xs.length + 1) ((Maps.setOf (.lit (.bool true)) (xs.map litI)).put (litI x) (.lit (.bool true)))):SetAt w' b (xs ++ [x]):=by
 unfold SetAt
 rw [List.map_append,List.map_cons,List.map_nil,Maps.setOf_snoc,List.length_append]
 exact h
end Go.Proofs.YtagplldaooipmaaGreatDoor
/- strings.Builder: copyCheck, WriteString, WriteByte (turned from the library's walks to this seat, whose copyCheck names no panic). -/
namespace Go.Proofs.YtagplldaooipmaaGreatDoor
open Go.RowKit
theorem info_build:(Tryz.prog.info? 61).map (fun i=>(i.size,i.bytes))=some (2,32):=by kernel_rfl
set_option maxHeartbeats 1000000 in
set_option maxRecDepth 100000 in
theorem bcheck_used (b:Nat) (w:World) (h0:w.cell? ⟨b,0,none⟩=some (.pointer (some ⟨b,0,none⟩))) :
  Calls Tryz.prog 45 #[.pointer (some ⟨b,0,none⟩)] w fun e w'=>e=.returned (.tuple #[])∧w'=w:=by
 obtain ⟨j,hj,_⟩:=Option.map_eq_some_iff.1 info_build
 go_enter Tryz.func45, Tryz.ntmps45
 go_wp2
 rw [Lib.run_neq_ptr_same w _ Tryz.underlying59 hj]
 go_wp2
 go_end0
 exact ⟨rfl,rfl⟩
set_option maxHeartbeats 1000000 in
set_option maxRecDepth 100000 in
theorem bcheck_fresh (b:Nat) (w:World) (h0:w.cell? ⟨b,0,none⟩=some (.pointer none)) (hsh:w.shape? b=some (61,2)) (hfz:w.frozen? ⟨b,0,none⟩=false) :
  Calls Tryz.prog 45 #[.pointer (some ⟨b,0,none⟩)] w fun e w'=>e=.returned (.tuple #[])∧w'=w.setCell ⟨b,0,none⟩ (.pointer (some ⟨b,0,none⟩)):=by
 obtain ⟨j,hj,hjs⟩:=Option.map_eq_some_iff.1 info_build
 simp only [Prod.mk.injEq] at hjs
 go_enter Tryz.func45, Tryz.ntmps45
 go_wp2
 rw [Lib.run_to_unsafe w ⟨b,0,none⟩ Tryz.underlying59 Tryz.underlying115 hj (by rw [hjs.1];decide) hsh (Nat.zero_lt_succ 1)]
 simp only [Result.andThen]
 rw [Oper.upon_value]
 go_wp2
 rw [run_callFunc_extern Tryz.func85 (by kernel_rfl) (by kernel_rfl) (by kernel_rfl) (e:=Extern.AbiNoEscape.same) (by kernel_rfl)]
 rw [Lib.run_noEscape]
 simp only [Result.andThen]
 rw [Oper.upon_value]
 go_wp2
 rw [Lib.run_from_unsafe w ⟨b,0,none⟩ Tryz.underlying115 Tryz.underlying59 hj hsh (by kernel_rfl)]
 simp only [Result.andThen]
 rw [Oper.upon_value]
 go_wp2
 go_end0
 exact ⟨rfl,rfl⟩
theorem bcheck_any (B b:Nat) (bs:List Value) (w:World) (h:Lib.IsBuilder 61 5 B b bs w) :
  Calls Tryz.prog 45 #[.pointer (some ⟨b,0,none⟩)] w fun e w'=>e=.returned (.tuple #[])∧Lib.BuilderAt 61 5 B b (.pointer (some ⟨b,0,none⟩)) bs w'∧Below B w w':=by
 rcases h with h | h
 ·refine (bcheck_fresh b w h.cell0 h.shape h.frozen0).mono ?_
  rintro e w' ⟨rfl,rfl⟩
  exact ⟨rfl,h.used _,(Below.refl B w).setCell (p:=⟨b,0,none⟩) h.1 _⟩
 ·refine (bcheck_used b w h.cell0).mono ?_
  rintro e w' ⟨rfl,rfl⟩
  exact ⟨rfl,h,Below.refl B _⟩
theorem info_byte:(Tryz.prog.info? 5).map (fun i=>(i.zero,i.size,i.bytes))=some (some (.int .u8 0),1,1):=by kernel_rfl
theorem strCells_list (l:List UInt8):Lib.strCells ⟨l.toArray⟩=Lib.byteCells l:=rfl
set_option maxHeartbeats 2000000 in
set_option maxRecDepth 100000 in
theorem bwrite_str (B b:Nat) (l s:List UInt8) (w:World) (h:Lib.IsBuilder 61 5 B b (Lib.byteCells l) w) (hlen:l.length + s.length ≤ 1000000000) (hBw:B ≤ w.heap.size) :
  Calls Tryz.prog 24 #[.pointer (some ⟨b,0,none⟩),.string ⟨s.toArray⟩] w fun e w'=>e=.returned (.tuple #[.int .i64 s.length,.nilIface])∧Lib.IsBuilder 61 5 B b (Lib.byteCells (l ++ s)) w'∧Below B w w':=by
 have hl:=Lib.byteCells_length l
 obtain ⟨i0,hi,hz0,hz1,hz2⟩:=info_parts info_byte
 have HC:=Lib.hid (bcheck_any B b (Lib.byteCells l) w h)
 have e1:(Lib.byteCells l) ++ Lib.strCells ⟨s.toArray⟩=Lib.byteCells (l ++ s):=by rw [strCells_list];simp [Lib.byteCells]
 have HE:=Lib.hid e1
 clear e1
 go_enter Tryz.func24, Tryz.ntmps24
 go_wp2_with fail
 refine HC.out.mono ?_
 rintro e w1 ⟨rfl,h1,hb1⟩
 obtain ⟨hB,v,hbk,hown,hne⟩:=h1
 rw [hl] at hown
 obtain ⟨vA,vc,rfl,hvc,hvm⟩:∃ A c,v=.slice A l.length c∧l.length ≤ c∧True:=by
  rcases hown.2 with ⟨hv,h0⟩ | ⟨g,cap,cur,hv,_,_,hc,_⟩
  ·exact ⟨none,0,by rw [hv,h0],by omega,trivial⟩
  ·exact ⟨_,cap,hv,hc,trivial⟩
 have c0:w1.cell? ⟨b,0,none⟩=some (.pointer (some ⟨b,0,none⟩)):=by rw [Lib.cell_of_heap hbk];rfl
 have c1:w1.cell? ⟨b,1,none⟩=some (.slice vA l.length vc):=by rw [Lib.cell_of_heap hbk];rfl
 have HBK:=Lib.hid hbk
 have HOW:=Lib.hid hown
 have HB1:=Lib.hid hb1
 have hsz:=hb1.size
 clear hl hbk hown hb1 HC
 go_wp2_with (
  at_builtin
  refine Lib.wpList_append_own_string _ rfl _ _ 22 9 rfl B 5 i0 Tryz.underlying22 Tryz.underlying9 hi hz0 hz1 hz2 _ _ _ rfl HOW.out ⟨s.toArray⟩ rfl (by simp [ByteArray.size];unfold maxLen;omega) (by simp [ByteArray.size];omega) (by omega) ?_
  intro v' w2 hown' hgrow hx
  have hlt:b < w1.heap.size:=lt_of_heap HBK.out
  have hb2:w2.heap[b]? = some (.cells #[.pointer (some ⟨b,0,none⟩),.slice vA l.length vc] 61 (0,0)):=by
   rw [hgrow.block b hlt (fun e=>hne e.symm)]
   exact HBK.out
  have d0:w2.cell? ⟨b,0,none⟩=some (.pointer (some ⟨b,0,none⟩)):=by rw [Lib.cell_of_heap hb2];rfl
  have d1:w2.cell? ⟨b,1,none⟩=some (.slice vA l.length vc):=by rw [Lib.cell_of_heap hb2];rfl
  have f1:w2.frozen? ⟨b,1,none⟩=false:=Lib.frozen_of_heap hb2 1
  obtain ⟨ao,n',cap,rfl⟩:∃ ao n' cap,v'=.slice ao n' cap:=by
   rcases hown'.2 with ⟨hv,_⟩ | ⟨g,cap,cur,hv,_⟩
   ·exact ⟨_,_,_,hv⟩
   ·exact ⟨_,_,_,hv⟩
  have HF1:=Lib.hid (Lib.BuilderAt.put (T:=61) (e:=5) hB hb2 (bs':=Lib.byteCells l ++ Lib.strCells ⟨s.toArray⟩) (by simpa [Lib.strCells_length,Lib.byteCells_length] using hown') (by decide))
  have HF2:=Lib.hid ((HB1.out.grown hgrow (by omega) (fun k hk=>(HOW.out.lt k hk).1)).setCell (p:=⟨b,1,none⟩) hB (.slice ao n' cap))
  clear hb2 hown' hgrow hx HBK HOW HB1)
 go_ret2
 exact ⟨by simp,.inr (HE.out ▸ HF1.out),HF2.out⟩
set_option maxHeartbeats 2000000 in
set_option maxRecDepth 100000 in
theorem bwrite_byte (B b:Nat) (l:List UInt8) (c:UInt8) (w:World) (h:Lib.IsBuilder 61 5 B b (Lib.byteCells l) w) (hlen:l.length ≤ 999999999) (hBw:B ≤ w.heap.size) :
  Calls Tryz.prog 25 #[.pointer (some ⟨b,0,none⟩),.int .u8 (c.toNat:Int)] w fun e w'=>e=.returned .nilIface∧Lib.IsBuilder 61 5 B b (Lib.byteCells (l ++ [c])) w'∧Below B w w':=by
 have hl:=Lib.byteCells_length l
 have HC:=Lib.hid (bcheck_any B b (Lib.byteCells l) w h)
 have HE:Hid (Lib.byteCells l ++ [.int .u8 (c.toNat:Int)]=Lib.byteCells (l ++ [c])):=Lib.hid (by simp [Lib.byteCells])
 go_enter Tryz.func25, Tryz.ntmps25
 go_wp2_with fail
 refine HC.out.mono ?_
 rintro e w1 ⟨rfl,h1,hb1⟩
 obtain ⟨hB,v,hbk,hown,hne⟩:=h1
 rw [hl] at hown
 obtain ⟨vA,vc,rfl,hvc,hvm⟩:∃ A c,v=.slice A l.length c∧l.length ≤ c∧True:=by
  rcases hown.2 with ⟨hv,h0⟩ | ⟨g,cap,cur,hv,_,_,hc,_⟩
  ·exact ⟨none,0,by rw [hv,h0],by omega,trivial⟩
  ·exact ⟨_,cap,hv,hc,trivial⟩
 have c0:w1.cell? ⟨b,0,none⟩=some (.pointer (some ⟨b,0,none⟩)):=by rw [Lib.cell_of_heap hbk];rfl
 have c1:w1.cell? ⟨b,1,none⟩=some (.slice vA l.length vc):=by rw [Lib.cell_of_heap hbk];rfl
 have HBK:=Lib.hid hbk
 have HOW:=Lib.hid hown
 have HB1:=Lib.hid hb1
 have hsz:=hb1.size
 clear hl hbk hown hb1 HC
 obtain ⟨i0,hi,hz0,hz1,hz2⟩:=info_parts info_byte
 go_wp2_with (
  at_builtin
  refine wpList_append_own _ rfl _ _ 22 rfl B 5 i0 (.int .u8 0) 1 1 Tryz.underlying22 hi hz0 hz1 hz2 rfl (by decide) _ _ _ rfl (HOW.out.alloc _) ⟨w1.heap.size,0,none⟩ 1 1 [.int .u8 (c.toNat:Int)] rfl rfl (cells_new w1 [.int .u8 (c.toNat:Int)] 5) (by intro u hu;simp at hu;subst hu;rfl) (by unfold maxLen;omega) (by omega) (by simp;omega) ?_
  intro v' w2 hown' hgrow hx
  have hlt:b < w1.heap.size:=lt_of_heap HBK.out
  have hb2:w2.heap[b]? = some (.cells #[.pointer (some ⟨b,0,none⟩),.slice vA l.length vc] 61 (0,0)):=by
   rw [hgrow.block b (by simp;omega) (fun e=>hne e.symm),Below.heap_alloc w1 _ b hlt]
   exact HBK.out
  have d0:w2.cell? ⟨b,0,none⟩=some (.pointer (some ⟨b,0,none⟩)):=by rw [Lib.cell_of_heap hb2];rfl
  have d1:w2.cell? ⟨b,1,none⟩=some (.slice vA l.length vc):=by rw [Lib.cell_of_heap hb2];rfl
  have f1:w2.frozen? ⟨b,1,none⟩=false:=Lib.frozen_of_heap hb2 1
  obtain ⟨ao,n',cap,rfl⟩:∃ ao n' cap,v'=.slice ao n' cap:=by
   rcases hown'.2 with ⟨hv,_⟩ | ⟨g,cap,cur,hv,_⟩
   ·exact ⟨_,_,_,hv⟩
   ·exact ⟨_,_,_,hv⟩
  have HF1:=Lib.hid (Lib.BuilderAt.put (T:=61) (e:=5) hB hb2 (bs':=Lib.byteCells l ++ [.int .u8 (c.toNat:Int)]) (by simpa [Lib.byteCells_length] using hown') (by decide))
  have HF2:=Lib.hid (((HB1.out.alloc (by omega) (.cells #[.int .u8 (c.toNat:Int)] 5)).grown hgrow (by simp;omega) (fun k hk=>(HOW.out.lt k hk).1)).setCell (p:=⟨b,1,none⟩) hB (.slice ao n' cap))
  clear hb2 hown' hgrow hx HBK HOW HB1)
 go_ret
 exact ⟨rfl,.inr (HE.out ▸ HF1.out),HF2.out⟩
end Go.Proofs.YtagplldaooipmaaGreatDoor

/- Ka. -/
import Derived.WalkKit
import Derived.WalkSpells
import Derived.WalkLawsBesides
import Derived.Laws.IdiomStrings
import Derived.Lib.Hide
import Derived.RegionTactic
import Derived.Deep.RegionLaw
import Derived.Deep.RegionHeld3
import Derived.Deep.DrawnRows
import Derived.Lib.Replace
import Derived.Test.YtagplldaooipmaaGreatDoorRows
import Derived.Test.YtagplldaooipmaaGreatDoorShelf
import Derived.Deep.QuietTactic
import Derived.BigQuiet
import Derived.StillTailTactics
import Derived.Lib.SmallJoins
import Derived.Maps.AppendAt
import Derived.Deep.AppendLies
import Derived.OwnWalk
import Derived.Lib.SlBytesConst
namespace Go.Proofs.YtagplldaooipmaaGreatDoor
open Go.RowKit
def bv (c:UInt8):Value:=.int .u8 (c.toNat:Int)
def byteOf (c:Int):UInt8:=UInt8.ofNat c.toNat
theorem bcell {W w1:World} (hb:Below W.heap.size W w1):(∀ b o,b < W.heap.size → w1.cell? ⟨b,o,none⟩=W.cell? ⟨b,o,none⟩)∧(∀ b o,b < W.heap.size → w1.frozen? ⟨b,o,none⟩=W.frozen? ⟨b,o,none⟩):=
 ⟨fun b o h=>hb.cell (p:=⟨b,o,none⟩) h,fun b o h=>hb.frozen (p:=⟨b,o,none⟩) h⟩
theorem conv_back {P:Program} (w:World) (src dst e:TypeId) (b off cap n:Nat) (l:List UInt8) (hs:P.underlying src=some (.slice e)) (he:P.underlying e=some (.int .u8)) (hd:P.underlying dst=some .string)
  (hn:l.length=n) (hc:∀ j (hj:j < l.length),w.cell? ⟨b,off + j,none⟩=some (bv l[j])) :
  (convert src dst (.slice (some ⟨b,off,none⟩) n cap)).run P w=.ok (.string ⟨l.toArray⟩) w:=by
 subst hn
 refine run_convert_bytes_back w src dst e _ cap l hs he hd fun j hj=>?_
 have hplain:(⟨b,off,none⟩:Addr).add j=⟨b,off + j,none⟩:=by unfold Addr.add;split <;> simp_all
 rw [hplain,hc j hj];rfl
theorem ba_extract (l:List UInt8) (a b:Nat):(⟨l.toArray⟩:ByteArray).extract a b=⟨((l.take b).drop a).toArray⟩:=by
 apply ByteArray.ext
 simp [ByteArray.extract,ByteArray.copySlice,List.drop_take]
theorem ba_get (l:List UInt8) (i:Nat) (h:i < (⟨l.toArray⟩:ByteArray).size):(⟨l.toArray⟩:ByteArray)[i]'h=l[i]'(by simpa [ByteArray.size] using h):=rfl
theorem ba_append (a b:List UInt8):(⟨a.toArray⟩:ByteArray) ++ (⟨b.toArray⟩:ByteArray)=⟨(a ++ b).toArray⟩:=by
 apply ByteArray.ext
 simp [ByteArray.data_append]
attribute [go_sem] ba_extract ba_get ba_append
theorem heap_set {w:World} {g i:Nat} {cs:Array Value} {t:TypeId} {fr:Nat × Nat} (u:Value) (h:w.heap[g]? = some (.cells cs t fr)) :
  (w.setCell ⟨g,i,none⟩ u).heap[g]? = some (.cells (cs.setIfInBounds i u) t fr):=by
 simp [World.setCell,Array.getElem?_modify,h]
theorem cell_of_heap {w:World} {g i:Nat} {cs:Array Value} {t:TypeId} {fr:Nat × Nat} (h:w.heap[g]? = some (.cells cs t fr)):w.cell? ⟨g,i,none⟩=cs[i]?:=cell_of_row w g i cs t fr h
theorem frozen_of_heap {w:World} {g i lo hi:Nat} {cs:Array Value} {t:TypeId} (h:w.heap[g]? = some (.cells cs t (lo,hi))):w.frozen? ⟨g,i,none⟩=(decide (lo ≤ i) && decide (i < hi)):=by
 unfold World.frozen?;rw [h]
theorem lt_of_heap {w:World} {g:Nat} {o:Obj} (h:w.heap[g]? = some o):g < w.heap.size:=(Array.getElem?_eq_some_iff.1 h).1
theorem only_drew {a w:World} {row:Option Nat} (h:a.grownBy w row):a.grownBy w.drew row:=⟨h.os,h.tape,h.output,h.size,h.block⟩
theorem only_setCell {a w:World} {g:Nat} (h:a.grownBy w (some g)) {p:Addr} (hp:p.block=g ∨ a.heap.size ≤ p.block) (u:Value):a.grownBy (w.setCell p u) (some g):=
 ⟨h.os,h.tape,h.output,by simpa [World.setCell] using h.size,fun i hi hne=>(Below.heap_setCell w p u i (by
  rintro rfl
  rcases hp with hp | hp
  ·exact hne (by rw [hp])
  ·omega)).trans (h.block i hi hne)⟩
theorem below_of_own {w0 w w':World} {base:Nat} {e:TypeId} {size n:Nat} {v:Value} {xs:List Value} (hown:w.ownsRow base e size v n xs) (hb:Below base w0 w) (hg:w.grownBy w' v.ownBlock) (hbase:base ≤ w.heap.size):Below base w0 w':=
 hb.grown hg hbase (fun g h=>(hown.lt g h).1)
theorem cells_new (w:World) (cs:List Value) (t:TypeId):∀ j u,cs[j]? = some u → (w.alloc (.cells cs.toArray t)).cell? ((⟨w.heap.size,0,none⟩:Addr).add j)=some u:=by
 intro j u hu
 have hadd:(⟨w.heap.size,0,none⟩:Addr).add j=⟨w.heap.size,j,none⟩:=by unfold Addr.add;split <;> simp_all
 rw [hadd,cell_of_heap (heap_alloc_new w _)]
 simpa using hu
theorem wpList_append_one {P:Program} {ops:Array Oper} {rest:List Oper} {o:Oper} {a:Act} {Q:Exit → Act → World → Prop} (wr:World) (hgd:o.guard=none) (s x:Operand) (t:TypeId)
  (ho:o.op=.call { callee:=.builtin .append,args:=#[s,x],argTypes:=#[t,t] })
  (base:Nat) (e:TypeId) (z:Value) (size bytes:Nat) (ht:P.underlying t=some (.slice e)) (hinfo:(P.info? e).map (fun i=>(i.zero,i.size,i.bytes))=some (some z,size,bytes)) (hzs:z.cells.size=size) (hsz:0 < size)
  (v:Value) (n:Nat) (xs:List Value) (hs:a.eval s=v) (hown:wr.ownsRow base e size v n xs)
  (cs:List Value) (e':TypeId) (hx:a.eval x=.slice (some ⟨wr.heap.size,0,none⟩) 1 1) (hl:cs.length=size) (h1:∀ u ∈ cs,u.oneCell'=true)
  (hn:n ≤ 1000000000) (hby:bytes ≤ 1000) (hbase:base ≤ wr.heap.size)
  (h:∀ v' w',w'.ownsRow base e size v' (n + 1) (xs ++ cs) → Below base wr w' → wpList P ops Q rest (a.put o.dst v') w'):wpList P ops Q (o :: rest) a (wr.alloc (.cells cs.toArray e')):=by
 obtain ⟨i,hi,hz0,hz1,hz2⟩:=info_parts hinfo
 have hmul:(n + 1) * bytes ≤ 1000000001 * 1000:=Nat.mul_le_mul (by omega) hby
 refine wpList_append_own _ hgd s x t ho base e i z size bytes ht hi hz0 hz1 hz2 hzs hsz v n xs hs (hown.alloc _) ⟨wr.heap.size,0,none⟩ 1 1 cs hx (by omega) (cells_new _ _ _) h1 (by unfold maxLen;omega) (by omega) (by simp;omega) ?_
 intro v' w' h2 h3 _
 exact h v' w' h2 (below_of_own (hown.alloc _) ((Below.refl _ _).alloc hbase _) h3 (by simp;omega))
theorem own_block {w:World} {base:Nat} {e:TypeId} {v:Value} {n:Nat} {xs:List UInt8} (h:w.ownsRow base e 1 v n (xs.map bv)) (hn:0 < n) :
  ∃ g cap pad,v=.slice (some ⟨g,0,none⟩) n cap∧base ≤ g∧w.heap[g]? = some (.cells (xs.map bv ++ pad).toArray e (0,0))∧n ≤ cap:=by
 rcases h.2 with ⟨_,rfl⟩ | ⟨g,cap,cur,rfl,hb,hg,hc,_,_,ht⟩
 ·omega
 ·refine ⟨g,cap,cur.toList.drop (n * 1),rfl,hb,?_,hc⟩
  rw [← ht,List.take_append_drop];simpa using hg
theorem conv_block {P:Program} (w:World) (src dst e:TypeId) (g cap n:Nat) (l:List UInt8) (pad:List Value) (fr:Nat × Nat) (hs:P.underlying src=some (.slice e)) (he:P.underlying e=some (.int .u8)) (hd:P.underlying dst=some .string)
  (hn:l.length=n) (hg:w.heap[g]? = some (.cells (l.map bv ++ pad).toArray e fr)) :
  (convert src dst (.slice (some ⟨g,0,none⟩) n cap)).run P w=.ok (.string ⟨l.toArray⟩) w:=by
 refine conv_back w src dst e g 0 cap n l hs he hd hn fun j hj=>?_
 rw [Nat.zero_add,cell_of_heap hg]
 simp [List.getElem?_append,hj]
theorem bthen {w w1 w2:World} (h1:Below w.heap.size w w1) (h2:Below w1.heap.size w1 w2):Below w.heap.size w w2:=h1.trans (h2.mono h1.size)
theorem only_of_below {a w:World} (h:Below a.heap.size a w) (row:Option Nat):a.grownBy w row:=⟨h.os,h.tape,h.output,h.size,fun i hi _=>h.block i hi⟩
theorem below_dn {B:Nat} {a w:World} (h:Below B a w) (n:Nat):Below B a (w.drewN n):=h.trans ⟨rfl,rfl,rfl,Nat.le_refl _,fun _ _=>rfl⟩
theorem ret_int {k:IntKind} {a b:Int} (h:a=b):Ending.returned (.int k a)=.returned (.int k b):=by rw [h]
theorem ret_bool {a b:Bool} (h:a=b):Ending.returned (.bool a)=.returned (.bool b):=by rw [h]
theorem ret_str {a b:List UInt8} (h:a=b):Ending.returned (.string ⟨a.toArray⟩)=.returned (.string ⟨b.toArray⟩):=by rw [h]
end Go.Proofs.YtagplldaooipmaaGreatDoor
/- More small lemmas on memory. -/
namespace Go.Proofs.YtagplldaooipmaaGreatDoor
open Go.RowKit
theorem wpList_append_at {P:Program} {ops:Array Oper} {rest:List Oper} {o:Oper} {a:Act} {Q:Exit → Act → World → Prop} (wr:World) (H:Nat) (hH:wr.heap.size=H) (hgd:o.guard=none) (s x:Operand) (t:TypeId)
  (ho:o.op=.call { callee:=.builtin .append,args:=#[s,x],argTypes:=#[t,t] })
  (base:Nat) (e:TypeId) (z:Value) (size bytes:Nat) (ht:P.underlying t=some (.slice e)) (hinfo:(P.info? e).map (fun i=>(i.zero,i.size,i.bytes))=some (some z,size,bytes)) (hzs:z.cells.size=size) (hsz:0 < size)
  {v:Value} {n:Nat} {xs:List Value} (hown:wr.ownsRow base e size v n xs) (hs:a.eval s=v)
  (cs:List Value) (e':TypeId) (hx:a.eval x=.slice (some ⟨H,0,none⟩) 1 1) (hl:cs.length=size) (h1:∀ u ∈ cs,u.oneCell'=true)
  (hn:n ≤ 1000000000) (hby:bytes ≤ 1000) (hbase:base ≤ wr.heap.size)
  (h:∀ v' w',w'.ownsRow base e size v' (n + 1) (xs ++ cs) → Below base wr w' → wpList P ops Q rest (a.put o.dst v') w'):wpList P ops Q (o :: rest) a (wr.alloc (.cells cs.toArray e')):=by
 subst hH
 exact wpList_append_one wr hgd s x t ho base e z size bytes ht hinfo hzs hsz v n xs hs hown cs e' hx hl h1 hn hby hbase h
end Go.Proofs.YtagplldaooipmaaGreatDoor
/- An append in a region that draws its order. -/
namespace Go.Proofs.YtagplldaooipmaaGreatDoor
open Go.RowKit
theorem step_append_at {P:Program} {ops:Array Oper} {o:Oper} {a:Act} {K:Act → World → Prop} {Q:Exit → Act → World → Prop} {E:Prop} (w:World) (hgd:o.guard=none) (s x:Operand) (t:TypeId)
  (ho:o.op=.call { callee:=.builtin .append,args:=#[s,x],argTypes:=#[t,t] })
  (base:Nat) (e:TypeId) (z:Value) (size bytes:Nat) (ht:P.underlying t=some (.slice e)) (hinfo:(P.info? e).map (fun i=>(i.zero,i.size,i.bytes))=some (some z,size,bytes)) (hzs:z.cells.size=size) (hsz:0 < size)
  {v:Value} {n:Nat} {xs:List Value} (hown:w.ownsRow base e size v n xs) (hs:a.eval s=v)
  (ad:Addr) (cs:List Value) (hx:a.eval x=.slice (some ad) 1 1) (hl:cs.length=size) (hnews:∀ j u,cs[j]? = some u → w.cell? (ad.add j)=some u) (h1:∀ u ∈ cs,u.oneCell'=true)
  (hn:n ≤ 1000000000) (hby:bytes ≤ 1000) (hbase:base ≤ w.heap.size)
  (h:∀ v' w',w'.ownsRow base e size v' (n + 1) (xs ++ cs) → Below base w w' → w.grownBy w' v.ownBlock → K (a.put o.dst v') w') :
  if Region.wanted o (yielded ops a.tmps)=true then Oper.wp P o a w K Q else E:=by
 have hw:Region.wanted o (yielded ops a.tmps)=true:=by simp [Region.wanted,hgd]
 rw [if_pos hw]
 obtain ⟨i,hi,hz0,hz1,hz2⟩:=info_parts hinfo
 have hmul:(n + 1) * bytes ≤ 1000000001 * 1000:=Nat.mul_le_mul (by omega) hby
 refine wp_append_own w s x t ho base e i z size bytes ht hi hz0 hz1 hz2 hzs hsz v n xs hs hown ad 1 1 cs hx (by omega) hnews h1 (by unfold maxLen;omega) (by omega) hbase ?_
 intro v' w' h2 h3 _
 exact h v' w' h2 (below_of_own hown (Below.refl _ _) h3 hbase) h3
end Go.Proofs.YtagplldaooipmaaGreatDoor
/- Layer 3 in plain Lean: numbers' texts. No program in sight. -/
namespace Go.Proofs.YtagplldaooipmaaGreatDoor
def upB (c:UInt8):UInt8:=if 97 ≤ c.toNat∧c.toNat ≤ 122 then c - 32 else c
def upper (l:List UInt8):List UInt8:=l.map upB
def digV (c:UInt8):Nat:=if 48 ≤ c.toNat∧c.toNat ≤ 57 then c.toNat - 48 else if 65 ≤ c.toNat∧c.toNat ≤ 70 then c.toNat - 55 else 99
def baseN (c:UInt8):Nat:=bif (c.toNat:Int) == 72 then 16 else bif (c.toNat:Int) == 79 then 8 else bif (c.toNat:Int) == 81 then 8 else bif (c.toNat:Int) == 66 then 2 else 10
def baseC (c:UInt8):Bool:=(c.toNat:Int) == 72 || (c.toNat:Int) == 79 || (c.toNat:Int) == 81 || (c.toNat:Int) == 66 || (c.toNat:Int) == 68
def baseD (l:List UInt8):List UInt8:=if baseC (l.getLastD 0) then l.dropLast else l
def parseStep (b:Nat) (n:Option Nat) (c:UInt8):Option Nat:=n.bind fun n=>if digV c < b then some (min (n * b + digV c) 65536) else none
def parseL (b:Nat) (l:List UInt8):Option Nat:=l.foldl (parseStep b) (some 0)
def parseEnd:Option Nat → Nat × Nat
 | none=>(0,2)
 | some n=>if 65535 < n then (0,5) else (n,0)
def parse (l:List UInt8):Nat × Nat:=
 let t:=upper l
 if t = [] ∨ (t.headD 0).toNat < 48 ∨ 57 < (t.headD 0).toNat then (0,2) else parseEnd (parseL (baseN (t.getLastD 0)) (baseD t))
def hexD (d:Nat):UInt8:=UInt8.ofNat (if d < 10 then 48 + d else 55 + d)
def hexR:Nat → Nat → List UInt8
 | 0,_=>[]
 | f + 1,n=>if n=0 then [] else hexD (n % 16) :: hexR f (n / 16)
def showN (n:Nat):List UInt8:=
 if n < 10 then [UInt8.ofNat (48 + n)] else (let x:=72 :: hexR 5 n;if 57 < (x.getLastD 0).toNat then x ++ [48] else x).reverse
def alphaB (c:UInt8):Bool:=decide (97 ≤ c.toNat) && decide (c.toNat ≤ 122) || decide (65 ≤ c.toNat) && decide (c.toNat ≤ 90)
def letB (c:UInt8):Bool:=alphaB c || c.toNat == 63 || c.toNat == 64 || c.toNat == 95
def numB (c:UInt8):Bool:=decide (48 ≤ c.toNat) && decide (c.toNat ≤ 57)
def nameB (l:List UInt8):Bool:=decide (1 ≤ l.length) && decide (l.length ≤ 16) && letB (l.headD 0) && l.all fun c=>letB c || numB c
theorem parseL_snoc (b:Nat) (l:List UInt8) (c:UInt8):parseL b (l ++ [c])=parseStep b (parseL b l) c:=by simp [parseL]
theorem foldl_none (b:Nat) (l:List UInt8):l.foldl (parseStep b) none=none:=by
 induction l with
 | nil=>rfl
 | cons c r ih=>simpa [parseStep] using ih
theorem last_get (l:List UInt8) (h:1 ≤ l.length):l.getLastD 0=l[l.length - 1]'(by omega):=by
 rw [List.getLastD_eq_getLast?,List.getLast?_eq_getElem?,List.getElem?_eq_getElem (by omega)];rfl
theorem hexR_zero (f:Nat):hexR f 0 = []:=by cases f <;> rfl
theorem hexR_length (f n:Nat):(hexR f n).length ≤ f:=by
 induction f generalizing n with
 | zero=>simp [hexR]
 | succ f ih=>
  unfold hexR
  split
  ·simp
  ·have:=ih (n / 16);simp;omega
theorem hexR_step {f m:Nat} {xs full:List UInt8} (h0:0 < m) (hm:m < 16 ^ f) (hx:xs ++ hexR f m=full):∃ f',m / 16 < 16 ^ f'∧(xs ++ [hexD (m % 16)]) ++ hexR f' (m / 16)=full:=by
 cases f with
 | zero=>simp at hm;omega
 | succ f=>
  refine ⟨f,?_,?_⟩
  ·rw [Nat.pow_succ] at hm;omega
  ·rw [← hx,hexR,if_neg (by omega),List.append_assoc];rfl
theorem hexD_big (d:Nat) (h:9 < d) (h':d < 16):UInt8.ofNat (65 + d - 10)=hexD d∧57 < (hexD d).toNat:=by
 unfold hexD;rw [if_neg (by omega),show 65 + d - 10=55 + d by omega]
 refine ⟨rfl,?_⟩
 rw [UInt8.toNat_ofNat'];omega
theorem hexD_small (d:Nat) (h:¬ 9 < d):UInt8.ofNat (48 + d)=hexD d∧¬ 57 < (hexD d).toNat:=by
 unfold hexD;rw [if_pos (by omega)]
 refine ⟨rfl,?_⟩
 rw [UInt8.toNat_ofNat'];omega
end Go.Proofs.YtagplldaooipmaaGreatDoor
/- Texts in quotes, in plain Lean. -/
namespace Go.Proofs.YtagplldaooipmaaGreatDoor
def dbl:List UInt8 → List UInt8
 | []=>[]
 | c :: r=>if c=39 then 39 :: 39 :: dbl r else c :: dbl r
def hal:List UInt8 → List UInt8
 | []=>[]
 | [c]=>[c]
 | c :: d :: r=>if c=39∧d=39 then 39 :: hal r else c :: hal (d :: r)
def quoteL (l:List UInt8):List UInt8:=39 :: (dbl l ++ [39])
def oddB (c:UInt8):Bool:=decide (c.toNat < 32) || decide (126 < c.toNat)
def unq:List UInt8 → Option (List UInt8)
 | []=>some []
 | [c]=>if oddB c then none else if c=39 then none else some [c]
 | c :: d :: r=>if oddB c then none else if c=39 then (if d=39 then (unq r).map (39 :: ·) else none) else (unq (d :: r)).map (c :: ·)
def unqEnd:Option (List UInt8) → List UInt8 × Nat
 | none=>([],2)
 | some x=>(x,0)
def inner (l:List UInt8):List UInt8:=(l.take (l.length - 1)).drop 1
def unquote (l:List UInt8):List UInt8 × Nat:=
 if l.length < 2 ∨ l.headD 0 ≠ 39 ∨ l.getLastD 0 ≠ 39 then ([],2) else unqEnd (unq (inner l))
def valueL:List UInt8 → Nat × Nat
 | [c]=>(c.toNat,0)
 | [c,d]=>(c.toNat * 256 + d.toNat,0)
 | _=>(0,5)
theorem index_cons_no (b:UInt8) (l sub:List UInt8) (h:sub.isPrefixOf (b :: l)=false):Lib.index (b :: l) sub=if Lib.index l sub = -1 then -1 else Lib.index l sub + 1:=by
 rw [Lib.index,h];simp
theorem index_cons_yes (b:UInt8) (l sub:List UInt8) (h:sub.isPrefixOf (b :: l)=true):Lib.index (b :: l) sub=0:=by
 rw [Lib.index,h];rfl
def repl (old new:List UInt8) (s:List UInt8):List UInt8:=Lib.replaceK old new (Lib.count s old) s
theorem repl_nil (old new:List UInt8) (ho:old ≠ []):repl old new [] = []:=by
 have h:Lib.index [] old = -1:=by cases old with | nil=>simp at ho | cons c r=>rfl
 unfold repl
 rw [Lib.count_miss h];rfl
theorem repl_no (old new:List UInt8) (b:UInt8) (l:List UInt8) (ho:old ≠ []) (h:old.isPrefixOf (b :: l)=false):repl old new (b :: l)=b :: repl old new l:=by
 have hi:=index_cons_no b l old h
 unfold repl
 rcases Lib.index_spec l old with ⟨h1,_⟩ | ⟨i,h1,_⟩
 ·rw [h1,if_pos rfl] at hi
  rw [Lib.count_miss hi,Lib.count_miss h1];rfl
 ·rw [h1,if_neg (by omega)] at hi
  have hi':Lib.index (b :: l) old=((i + 1:Nat):Int):=by rw [hi];omega
  rw [Lib.count_hit ho hi',Lib.count_hit ho h1,Nat.add_comm 1,Lib.replaceK_hit old new _ _ _ hi',Nat.add_comm 1,Lib.replaceK_hit old new _ _ _ h1]
  have e:(b :: l).drop (i + 1 + old.length)=l.drop (i + old.length):=by rw [show i + 1 + old.length=(i + old.length) + 1 by omega];rfl
  rw [e];rfl
theorem repl_yes (old new:List UInt8) (s:List UInt8) (ho:old ≠ []):repl old new (old ++ s)=new ++ repl old new s:=by
 have hi:Lib.index (old ++ s) old=((0:Nat):Int):=by
  cases old with
  | nil=>simp at ho
  | cons c r=>rw [List.cons_append];exact index_cons_yes _ _ _ (by rw [← List.cons_append];simp [List.isPrefixOf_iff_prefix])
 unfold repl
 rw [Lib.count_hit ho hi,Nat.add_comm 1,Lib.replaceK_hit old new _ _ _ hi]
 simp
theorem replaceAll_eq (s old new:List UInt8) (h:old ≠ new):Lib.replaceAll s old new=repl old new s:=by
 unfold Lib.replaceAll Lib.replace repl Lib.replaceNum
 rw [if_neg (by simpa using h),if_pos (.inl (by decide))]
theorem repl_dbl (s:List UInt8):repl [39] [39,39] s=dbl s:=by
 induction s with
 | nil=>exact repl_nil _ _ (by simp)
 | cons c r ih=>
  unfold dbl
  by_cases hc:c=39
  ·subst hc
   rw [if_pos rfl,← ih]
   exact repl_yes [39] [39,39] r (by simp)
  ·rw [if_neg hc,← ih]
   exact repl_no _ _ _ _ (by simp) (by simp [List.isPrefixOf,Ne.symm hc])
theorem repl_hal (n:Nat):∀ s:List UInt8,s.length ≤ n → repl [39,39] [39] s=hal s:=by
 induction n with
 | zero=>
  intro s h
  obtain rfl:s = []:=List.eq_nil_of_length_eq_zero (by omega)
  exact repl_nil _ _ (by simp)
 | succ n ih=>
  intro s h
  match s,h with
  | [],_=>exact repl_nil _ _ (by simp)
  | [c],_=>
   rw [repl_no _ _ _ _ (by simp) (by simp [List.isPrefixOf]),repl_nil _ _ (by simp)];rfl
  | c :: d :: r,h=>
   rw [hal]
   by_cases hc:c=39∧d=39
   ·obtain ⟨rfl,rfl⟩:=hc
    rw [if_pos ⟨rfl,rfl⟩,← ih r (by simp at h;omega)]
    exact repl_yes [39,39] [39] r (by simp)
   ·rw [if_neg hc,← ih (d :: r) (by simp at h ⊢;omega)]
    refine repl_no _ _ _ _ (by simp) ?_
    by_cases h1:c=39
    ·have h2:¬ d=39:=fun e=>hc ⟨h1,e⟩
     simp [List.isPrefixOf,Ne.symm h2]
    ·simp [List.isPrefixOf,Ne.symm h1]
theorem replaceAll_dbl (s:List UInt8):Lib.replaceAll s [39] [39,39]=dbl s:=by rw [replaceAll_eq _ _ _ (by decide),repl_dbl]
theorem replaceAll_hal (s:List UInt8):Lib.replaceAll s [39,39] [39]=hal s:=by rw [replaceAll_eq _ _ _ (by decide),repl_hal _ s (Nat.le_refl _)]
theorem dbl_length (s:List UInt8):s.length ≤ (dbl s).length∧(dbl s).length ≤ 2 * s.length:=by
 induction s with
 | nil=>simp [dbl]
 | cons c r ih=>unfold dbl;split <;> simp <;> omega
theorem hal_length:∀ (n:Nat) (s:List UInt8),s.length ≤ n → (hal s).length ≤ s.length:=by
 intro n
 induction n with
 | zero=>intro s h;obtain rfl:s = []:=List.eq_nil_of_length_eq_zero (by omega);simp [hal]
 | succ n ih=>
  intro s h
  match s,h with
  | [],_=>simp [hal]
  | [c],_=>simp [hal]
  | c :: d :: r,h=>
   rw [hal];split
   ·have:=ih r (by simp at h;omega);simp;omega
   ·have:=ih (d :: r) (by simp at h ⊢;omega);simp at this ⊢;omega
theorem unq_iff (n:Nat):∀ s:List UInt8,s.length ≤ n → unq s=if (s.any oddB=true) ∨ dbl (hal s) ≠ s then none else some (hal s):=by
 induction n with
 | zero=>
  intro s h
  obtain rfl:s = []:=List.eq_nil_of_length_eq_zero (by omega)
  simp [unq,hal,dbl]
 | succ n ih=>
  intro s h
  match s,h with
  | [],_=>simp [unq,hal,dbl]
  | [c],_=>
   unfold unq hal dbl
   by_cases ho:oddB c=true
   ·simp [ho]
   ·by_cases hc:c=39 <;> simp [ho,hc,dbl]
  | c :: d :: r,h=>
   by_cases ho:oddB c=true
   ·have hu:unq (c :: d :: r)=none:=by rw [unq,if_pos ho]
    rw [hu,if_pos (.inl (by simp [ho]))]
   by_cases hc:c=39
   ·by_cases hd:d=39
    ·subst hc;subst hd
     have o39:oddB 39=false:=by decide
     have hu:unq (39 :: 39 :: r)=(unq r).map (39 :: ·):=by rw [unq,if_neg ho,if_pos rfl,if_pos rfl]
     have hh:hal (39 :: 39 :: r)=39 :: hal r:=by rw [hal,if_pos ⟨rfl,rfl⟩]
     have e:dbl (39 :: hal r)=39 :: 39 :: dbl (hal r):=by rw [dbl,if_pos rfl]
     rw [hu,hh,e,ih r (by simp at h;omega)]
     simp only [List.any_cons,o39,Bool.false_or,ne_eq,List.cons.injEq,true_and]
     by_cases hp:r.any oddB=true ∨ ¬ dbl (hal r)=r
     ·rw [if_pos hp,if_pos hp];rfl
     ·rw [if_neg hp,if_neg hp];rfl
    ·subst hc
     have hu:unq (39 :: d :: r)=none:=by rw [unq,if_neg ho,if_pos rfl,if_neg hd]
     have hh:hal (39 :: d :: r)=39 :: hal (d :: r):=by rw [hal,if_neg (fun h=>hd h.2)]
     rw [hu,hh,if_pos]
     right
     rw [dbl,if_pos rfl]
     intro e
     injection e with _ e
     injection e with e _
     exact hd e.symm
   ·have ho':oddB c=false:=by simpa using ho
    have hu:unq (c :: d :: r)=(unq (d :: r)).map (c :: ·):=by rw [unq,if_neg ho,if_neg hc]
    have hh:hal (c :: d :: r)=c :: hal (d :: r):=by rw [hal,if_neg (fun h=>hc h.1)]
    have e:dbl (c :: hal (d :: r))=c :: dbl (hal (d :: r)):=by rw [dbl,if_neg hc]
    rw [hu,hh,e,ih (d :: r) (by simp at h ⊢;omega)]
    simp only [List.any_cons (a:=c),ho',Bool.false_or,ne_eq,List.cons.injEq,true_and]
    by_cases hp:(d :: r).any oddB=true ∨ ¬ dbl (hal (d :: r))=d :: r
    ·rw [if_pos hp,if_pos hp];rfl
    ·rw [if_neg hp,if_neg hp];rfl
theorem unq_eq (s:List UInt8):unq s=if (s.any oddB=true) ∨ dbl (hal s) ≠ s then none else some (hal s):=unq_iff _ s (Nat.le_refl _)
theorem hal_dbl (s:List UInt8):hal (dbl s)=s:=by
 induction s with
 | nil=>rfl
 | cons c r ih=>
  unfold dbl
  by_cases hc:c=39
  ·rw [if_pos hc,hal,if_pos ⟨rfl,rfl⟩,ih,hc]
  ·rw [if_neg hc]
   cases h:dbl r with
   | nil=>
    rw [h] at ih
    rw [hal];congr 1
   | cons d t=>rw [hal,if_neg (fun h=>hc h.1),← h,ih]
theorem dbl_any (s:List UInt8):(dbl s).any oddB=s.any oddB:=by
 induction s with
 | nil=>rfl
 | cons c r ih=>
  unfold dbl
  split
  ·rename_i h;subst h
   simp only [List.any_cons,ih,show oddB 39=false by decide,Bool.false_or]
  ·simp only [List.any_cons,ih]
theorem quote_back (s:List UInt8):unquote (quoteL s)=if s.any oddB then ([],2) else (s,0):=by
 have hi:inner (quoteL s)=dbl s:=by
  unfold inner quoteL
  simp
 unfold unquote
 have hl:(quoteL s).getLastD 0=39:=by unfold quoteL;rw [← List.cons_append,List.getLastD_concat]
 rw [if_neg (by rw [hl];unfold quoteL;simp),hi,unq_eq,dbl_any,hal_dbl]
 by_cases h:s.any oddB=true
 ·rw [if_pos (.inl h),if_pos h];rfl
 ·rw [if_neg (by simp [h]),if_neg h];rfl
end Go.Proofs.YtagplldaooipmaaGreatDoor
/- Layer 4 in plain Lean: tokens of a line. -/
namespace Go.Proofs.YtagplldaooipmaaGreatDoor
abbrev Tok:=Int × List UInt8 × Nat
def tailB (c:UInt8):Bool:=letB c || numB c
def alnumB (c:UInt8):Bool:=alphaB c || numB c
end Go.Proofs.YtagplldaooipmaaGreatDoor
/- Plain laws of numbers' texts: what is shown is read as it was; digits of each base; no shorter text. -/
namespace Go.Proofs.YtagplldaooipmaaGreatDoor
theorem digV_hexD (d:Nat) (h:d < 16):digV (hexD d)=d:=by
 have:∀ d:Fin 16,digV (hexD d.val)=d.val:=by decide +kernel
 exact this ⟨d,h⟩
theorem upB_hexD (d:Nat) (h:d < 16):upB (hexD d)=hexD d:=by
 have:∀ d:Fin 16,upB (hexD d.val)=hexD d.val:=by decide +kernel
 exact this ⟨d,h⟩
theorem hexD_ge (d:Nat) (h:d < 16):48 ≤ (hexD d).toNat:=by
 have:∀ d:Fin 16,48 ≤ (hexD d.val).toNat:=by decide +kernel
 exact this ⟨d,h⟩
theorem hexD_ten (d:Nat) (h:d < 10):(hexD d).toNat ≤ 57:=by
 have:∀ d:Fin 10,(hexD d.val).toNat ≤ 57:=by decide +kernel
 exact this ⟨d,h⟩
theorem hexD_zero (d:Nat) (h:d < 16) (h0:(hexD d).toNat=48):d=0:=by
 have:∀ d:Fin 16,(hexD d.val).toNat=48 → d.val=0:=by decide +kernel
 exact this ⟨d,h⟩ h0
theorem parseStep_hexD (b n d:Nat) (hb:b ≤ 16) (hd:d < b):parseStep b (some n) (hexD d)=some (min (n * b + d) 65536):=by
 unfold parseStep
 rw [Option.bind_some,digV_hexD d (by omega),if_pos hd]
theorem parse_hexR (f n:Nat) (hn:n ≤ 65535) (hf:n < 16 ^ f):parseL 16 (hexR f n).reverse=some n:=by
 induction f generalizing n with
 | zero=>simp at hf;subst hf;rfl
 | succ f ih=>
  unfold hexR
  split
  ·rename_i h;subst h;rfl
  ·rw [List.reverse_cons,parseL_snoc,ih (n / 16) (by omega) (by rw [Nat.pow_succ] at hf;omega),parseStep_hexD 16 _ _ (by omega) (by omega)]
   congr 1;omega
theorem parseL_cons0 (b:Nat) (l:List UInt8) (hb:0 < b):parseL b (48 :: l)=parseL b l:=by
 unfold parseL
 rw [List.foldl_cons]
 have:parseStep b (some 0) 48=some 0:=by
  unfold parseStep
  have:digV 48=0:=by decide
  simp [this,hb]
 rw [this]
theorem upper_reverse (l:List UInt8):upper l.reverse=(upper l).reverse:=by simp [upper]
theorem upper_append (a b:List UInt8):upper (a ++ b)=upper a ++ upper b:=by simp [upper]
theorem upper_hexR (f n:Nat):upper (hexR f n)=hexR f n:=by
 induction f generalizing n with
 | zero=>rfl
 | succ f ih=>
  unfold hexR
  split
  ·rfl
  ·show upB _ :: upper _=_
   rw [upB_hexD _ (by omega),ih]
theorem parse_letter (l s:List UInt8) (c:UInt8) (h:upper l=s ++ [c]) (hc:baseC c=true) (h1:s ≠ []) (h2:48 ≤ (s.headD 0).toNat) (h3:(s.headD 0).toNat ≤ 57) :
  parse l=parseEnd (parseL (baseN c) s):=by
 unfold parse
 have hh:(s ++ [c]).headD 0=s.headD 0:=by cases s with | nil=>simp at h1 | cons a r=>rfl
 simp only [h]
 rw [if_neg (by rw [hh,not_or,not_or];exact ⟨by simp,by omega,by omega⟩)]
 unfold baseD
 simp [hc]
theorem parseEnd_le (n:Nat) (h:n ≤ 65535):parseEnd (some n)=(n,0):=by
 show (if 65535 < n then (0,5) else (n,0))=_;rw [if_neg (by omega)]
theorem hexR_last (f n:Nat) (h0:0 < n) (hf:n < 16 ^ f):∃ d a,0 < d∧d < 16∧hexR f n=a ++ [hexD d]:=by
 induction f generalizing n with
 | zero=>simp at hf;omega
 | succ f ih=>
  unfold hexR
  rw [if_neg (by omega)]
  by_cases h:n / 16=0
  ·refine ⟨n % 16,[],by omega,by omega,?_⟩
   rw [h,hexR_zero];rfl
  ·obtain ⟨d,a,h1,h2,h3⟩:=ih (n / 16) (by omega) (by rw [Nat.pow_succ] at hf;omega)
   exact ⟨d,hexD (n % 16) :: a,h1,h2,by rw [h3];rfl⟩
theorem hexR_short (f n k:Nat) (h:n < 16 ^ k):(hexR f n).length ≤ k:=by
 induction f generalizing n k with
 | zero=>simp [hexR]
 | succ f ih=>
  unfold hexR
  split
  ·simp
  ·cases k with
   | zero=>simp at h;omega
   | succ k=>
    have:=ih (n / 16) k (by rw [Nat.pow_succ] at h;omega)
    simp;omega
theorem showN_forms (n:Nat) (h10:¬ n < 10) (hn:n ≤ 65535):∃ d a,0 < d∧d < 16∧(hexR 5 n).reverse=hexD d :: a∧a.length ≤ 3 ∧
  ((9 < d∧showN n=48 :: hexD d :: (a ++ [72])) ∨ (d ≤ 9∧showN n=hexD d :: (a ++ [72]))):=by
 obtain ⟨d,a,h1,h2,h3⟩:=hexR_last 5 n (by omega) (by omega)
 have hl:=hexR_short 5 n 4 (by omega)
 refine ⟨d,a.reverse,h1,h2,by rw [h3];simp,by rw [h3] at hl;simp at hl ⊢;omega,?_⟩
 unfold showN
 rw [if_neg h10,h3]
 have hlast:(72 :: (a ++ [hexD d])).getLastD 0=hexD d:=by rw [← List.cons_append,List.getLastD_concat]
 simp only [hlast]
 by_cases h9:9 < d
 ·left
  refine ⟨h9,?_⟩
  rw [if_pos (hexD_big d h9 h2).2]
  simp
 ·right
  refine ⟨by omega,?_⟩
  rw [if_neg (hexD_small d h9).2]
  simp
theorem foldl_top (l:List UInt8) (n:Nat) (h:l.foldl (parseStep 16) (some 65536)=some n):n=65536:=by
 induction l generalizing n with
 | nil=>simp at h;omega
 | cons c r ih=>
  rw [List.foldl_cons] at h
  by_cases hd:digV c < 16
  ·have:parseStep 16 (some 65536) c=some 65536:=by
    unfold parseStep;rw [Option.bind_some,if_pos hd];congr 1;omega
   rw [this] at h;exact ih n h
  ·have:parseStep 16 (some 65536) c=none:=by
    unfold parseStep;rw [Option.bind_some,if_neg hd]
   rw [this,foldl_none] at h;cases h
theorem foldl_lt (l:List UInt8) (a b n:Nat) (hab:a < b) (h:l.foldl (parseStep 16) (some b)=some n) (hn:n ≤ 65535):∃ m,l.foldl (parseStep 16) (some a)=some m∧m < n:=by
 induction l generalizing a b with
 | nil=>simp at h;exact ⟨a,rfl,by omega⟩
 | cons c r ih=>
  rw [List.foldl_cons] at h ⊢
  by_cases hd:digV c < 16
  ·have ha:parseStep 16 (some a) c=some (min (a * 16 + digV c) 65536):=by unfold parseStep;rw [Option.bind_some,if_pos hd]
   have hb:parseStep 16 (some b) c=some (min (b * 16 + digV c) 65536):=by unfold parseStep;rw [Option.bind_some,if_pos hd]
   rw [hb] at h
   rw [ha]
   by_cases ht:b * 16 + digV c < 65536
   ·exact ih _ _ (by omega) h
   ·rw [show min (b * 16 + digV c) 65536=65536 by omega] at h
    have:=foldl_top r n h
    omega
  ·have:parseStep 16 (some b) c=none:=by unfold parseStep;rw [Option.bind_some,if_neg hd]
   rw [this,foldl_none] at h;cases h
theorem show_short (n:Nat) (h10:¬ n < 10) (hn:n ≤ 65535):∃ c r,showN n=c :: r∧r.length ≤ 5∧48 ≤ c.toNat∧c.toNat ≤ 57 ∧
  ((c.toNat=48∧(parse r).2=2) ∨ (c.toNat ≠ 48∧(parse (48 :: r)).1 ≠ n)):=by
 obtain ⟨d,a,h1,h2,h3,h4,h5⟩:=showN_forms n h10 hn
 have hp:=parse_hexR 5 n hn (by omega)
 rw [h3] at hp
 have hu:upper (hexD d :: a)=hexD d :: a:=by rw [← h3,upper_reverse,upper_hexR]
 have hua:upper a=a:=by simpa [upper,upB_hexD d h2] using hu
 rcases h5 with ⟨h9,h5⟩ | ⟨h9,h5⟩
 ·refine ⟨48,hexD d :: (a ++ [72]),h5,by simp;omega,by decide,by decide,.inl ⟨by decide,?_⟩⟩
  unfold parse
  have:upper (hexD d :: (a ++ [72]))=hexD d :: (a ++ [72]):=by
   show upB (hexD d) :: upper (a ++ [72])=_
   rw [upB_hexD d h2,upper_append,hua];rfl
  simp only [this]
  rw [if_pos (.inr (.inr (hexD_big d h9 h2).2))]
 ·refine ⟨hexD d,a ++ [72],h5,by simp;omega,hexD_ge d h2,hexD_ten d (by omega),.inr ⟨fun h=>by have:=hexD_zero d h2 h;omega,?_⟩⟩
  rw [parse_letter _ (48 :: a) 72 (by
   show upB 48 :: upper (a ++ [72])=_
   rw [upper_append,hua];rfl) (by decide) (by simp) (by simp) (by simp)]
  rw [show baseN 72=16 by decide,parseL_cons0 _ _ (by omega)]
  have hst:parseStep 16 (some 0) (hexD d)=some d:=by rw [parseStep_hexD 16 0 d (by omega) h2];congr 1;omega
  have hp':a.foldl (parseStep 16) (some d)=some n:=by
   have:=hp;unfold parseL at this;rw [List.foldl_cons,hst] at this;exact this
  obtain ⟨m,hm1,hm2⟩:=foldl_lt a 0 d n h1 hp' hn
  unfold parseL
  rw [hm1,parseEnd_le m (by omega)]
  simp;omega
end Go.Proofs.YtagplldaooipmaaGreatDoor
/- The byte tests of layer 3: number.begins, and the reference's Letter. -/
namespace Go.Proofs.YtagplldaooipmaaGreatDoor
open Go.RowKit
set_option maxHeartbeats 400000 in
theorem letter_any (c:UInt8) (w:World) :
  Calls Tryz.prog 129 #[.int .u8 (c.toNat:Int)] w fun e w'=>e=.returned (.bool (letB c))∧w=w':=by
 have h0:=c.toNat_lt
 have hl:Hid (letB c=(decide (97 ≤ c.toNat) && decide (c.toNat ≤ 122) || decide (65 ≤ c.toNat) && decide (c.toNat ≤ 90) || c.toNat == 63 || c.toNat == 64 || c.toNat == 95)):=Lib.hid rfl
 generalize letB c=lc at *
 generalize c.toNat=n at *
 go_enter Tryz.func129, Tryz.ntmps129
 go_wp2
 all_goals
  go_ret
  refine ⟨?_,rfl⟩
  rw [hl.out]
  apply ret_bool
  rw [Bool.eq_iff_iff]
  simp <;> omega
theorem begin_bits:∀ n:Fin 256,(decide (97 ≤ bits .or .u8 (n.val:Int) 32) && decide (bits .or .u8 (n.val:Int) 32 ≤ 122))=(decide (97 ≤ n.val) && decide (n.val ≤ 122) || decide (65 ≤ n.val) && decide (n.val ≤ 90)):=by decide +kernel
set_option maxHeartbeats 400000 in
theorem begins_any (c:UInt8) (w:World) :
  Calls Tryz.prog 95 #[.int .u8 (c.toNat:Int)] w fun e w'=>e=.returned (.bool (alphaB c))∧w=w':=by
 have hl:Hid (alphaB c=(decide (97 ≤ bits .or .u8 (c.toNat:Int) 32) && decide (bits .or .u8 (c.toNat:Int) 32 ≤ 122))):=Lib.hid (begin_bits ⟨c.toNat,c.toNat_lt⟩).symm
 generalize alphaB c=lc at *
 go_enter Tryz.func95, Tryz.ntmps95
 go_wp2
 all_goals
  go_ret
  refine ⟨?_,rfl⟩
  rw [hl.out]
  apply ret_bool
  rw [Bool.eq_iff_iff]
  simp <;> omega
end Go.Proofs.YtagplldaooipmaaGreatDoor
/- The byte tests of layer 4, and of its reference. -/
namespace Go.Proofs.YtagplldaooipmaaGreatDoor
open Go.RowKit
end Go.Proofs.YtagplldaooipmaaGreatDoor
/- number.Quote, number.Unquote, number.Value. -/
namespace Go.Proofs.YtagplldaooipmaaGreatDoor
open Go.RowKit
def GW (w:World):Prop:=∃ m:Int,w.cell? ⟨1,0,none⟩=some (.int .i64 m)
theorem GW.below {w w':World} (h:GW w) (hb:Below w.heap.size w w'):GW w':=by
 obtain ⟨m,hm⟩:=h
 exact ⟨m,(hb.cell (World.block_lt_of_cell? w _ hm)).trans hm⟩
theorem countB_le' (s:List UInt8) (old:List UInt8) (h:1 ≤ old.length):Lib.countB ⟨s.toArray⟩ ⟨old.toArray⟩ ≤ s.length:=by
 have:=Lib.countB_le ⟨old.toArray⟩ (by simpa [ByteArray.size] using h) s.length ⟨s.toArray⟩ (by simp [ByteArray.size])
 simpa [ByteArray.size] using this
theorem replace_dbl (s:List UInt8) (w:World) (hg:GW w) (hl:s.length ≤ 1000000) :
  Calls Tryz.prog 100 #[.string ⟨s.toArray⟩,.string ⟨#[39]⟩,.string ⟨#[39,39]⟩] w fun e w'=>e=.returned (.string ⟨(dbl s).toArray⟩)∧Below w.heap.size w w':=by
 obtain ⟨m,hm⟩:=hg
 have hc:=countB_le' s [39] (by simp)
 refine (Tryz.strings_ReplaceAll ⟨s.toArray⟩ ⟨#[39]⟩ ⟨#[39,39]⟩ m w (by simp [ByteArray.size];omega) hm (by simp [ByteArray.size]) (by simp [ByteArray.size];omega)).mono ?_
 rintro e w' ⟨rfl,hb⟩
 refine ⟨?_,hb⟩
 rw [← replaceAll_dbl s]
theorem replace_hal (s:List UInt8) (w:World) (hg:GW w) (hl:s.length ≤ 1000000) :
  Calls Tryz.prog 100 #[.string ⟨s.toArray⟩,.string ⟨#[39,39]⟩,.string ⟨#[39]⟩] w fun e w'=>e=.returned (.string ⟨(hal s).toArray⟩)∧Below w.heap.size w w':=by
 obtain ⟨m,hm⟩:=hg
 have hc:=countB_le' s [39,39] (by simp)
 refine (Tryz.strings_ReplaceAll ⟨s.toArray⟩ ⟨#[39,39]⟩ ⟨#[39]⟩ m w (by simp [ByteArray.size];omega) hm (by simp [ByteArray.size]) (by simp [ByteArray.size];omega)).mono ?_
 rintro e w' ⟨rfl,hb⟩
 refine ⟨?_,hb⟩
 rw [← replaceAll_hal s]
set_option maxHeartbeats 400000 in
theorem quote_any (l:List UInt8) (w:World) (hg:GW w) (hl:l.length ≤ 1000000) :
  Calls Tryz.prog 56 #[.string ⟨l.toArray⟩] w fun e w'=>e=.returned (.string ⟨(quoteL l).toArray⟩)∧Below w.heap.size w w':=by
 have hd:=(dbl_length l).2
 go_enter Tryz.func56, Tryz.ntmps56
 go_wp2_with fail
 refine (replace_dbl l _ hg hl).mono ?_
 rintro e w1 ⟨rfl,hb⟩
 go_wp2_with fail
 go_ret
 exact ⟨rfl,hb⟩
theorem cutP (s:List UInt8):Lib.trimPrefix s [39]=if s.headD 0=39 then s.drop 1 else s:=by
 cases s with
 | nil=>rfl
 | cons c r=>
  by_cases h:c=39
  ·simp [Lib.trimPrefix,Lib.hasPrefix,List.isPrefixOf,h]
  ·simp [Lib.trimPrefix,Lib.hasPrefix,List.isPrefixOf,h,Ne.symm h]
theorem hasP (s:List UInt8):Lib.hasPrefix s [39]=decide (s.headD 0=39):=by
 cases s with
 | nil=>rfl
 | cons c r=>
  by_cases h:c=39
  ·simp [Lib.hasPrefix,List.isPrefixOf,h]
  ·simp [Lib.hasPrefix,List.isPrefixOf,h,Ne.symm h]
theorem hasS (s:List UInt8):Lib.hasSuffix s [39]=decide (s.getLastD 0=39):=by
 unfold Lib.hasSuffix
 rw [Bool.eq_iff_iff,List.isSuffixOf_iff_suffix,decide_eq_true_eq]
 constructor
 ·rintro ⟨t,rfl⟩;simp
 ·intro h
  rcases List.eq_nil_or_concat s with rfl | ⟨a,c,rfl⟩
  ·simp at h
  ·rw [List.concat_eq_append,List.getLastD_concat] at h
   exact ⟨a,by rw [h,List.concat_eq_append]⟩
theorem cutS (s:List UInt8):Lib.trimSuffix s [39]=if s.getLastD 0=39 then s.take (s.length - 1) else s:=by
 unfold Lib.trimSuffix
 rw [hasS];simp
def cut1 (s:List UInt8):List UInt8:=if s.headD 0=39 then s.drop 1 else s
def cut2 (s:List UInt8):List UInt8:=if (cut1 s).getLastD 0=39 then (cut1 s).take ((cut1 s).length - 1) else cut1 s
theorem unquote_no (s:List UInt8) (h:¬ (s.headD 0=39∧(cut1 s).getLastD 0=39)):unquote s=([],2):=by
 unfold unquote
 rw [if_pos]
 by_cases h1:s.headD 0=39
 ·by_cases hl:s.length < 2
  ·exact .inl hl
  ·right;right
   intro h2
   refine h ⟨h1,?_⟩
   unfold cut1
   rw [if_pos h1]
   match s,hl with
   | c :: d :: r,_=>simpa using h2
 ·exact .inr (.inl h1)
theorem unquote_yes (s:List UInt8) (h1:s.headD 0=39) (h2:(cut1 s).getLastD 0=39):unquote s=unqEnd (unq (cut2 s)):=by
 have e1:cut1 s=s.drop 1:=by unfold cut1;rw [if_pos h1]
 match s with
 | []=>simp at h1
 | [c]=>rw [e1] at h2;simp at h2
 | c :: d :: r=>
  have e2:cut2 (c :: d :: r)=inner (c :: d :: r):=by
   unfold cut2 inner
   rw [if_pos h2,e1]
   simp
  unfold unquote
  rw [if_neg,e2]
  rw [not_or,not_or]
  rw [e1] at h2
  exact ⟨by simp,by simpa using h1,by simpa using h2⟩
theorem any_take_step (s:List UInt8) (k w:Nat) (hk:k < s.length) (hw:1 ≤ w) (h:w=1 ∨ oddB s[k]=true):(s.take (k + w)).any oddB=((s.take k).any oddB || oddB s[k]):=by
 have e1:s.take (k + 1)=s.take k ++ [s[k]]:=List.take_succ_eq_append_getElem hk
 rcases h with rfl | h
 ·rw [e1,List.any_append];simp
 ·rw [h,Bool.or_true,List.any_eq_true]
  refine ⟨s[k],?_,h⟩
  have:s.take (k + 1) <+: s.take (k + w):=List.take_prefix_take_left (by omega)
  exact this.subset (e1 ▸ List.mem_append_right _ (List.mem_singleton.2 rfl))
theorem decode_odd (t2:List UInt8) (pos:Nat) (hlt:pos < t2.length):∃ r wd:Nat,Utf8.decode ⟨t2.toArray⟩ pos=(r,wd)∧1 ≤ wd∧(t2.take (pos + wd)).any oddB=((t2.take pos).any oddB || (decide ((r:Int) < 32) || decide ((126:Int) < (r:Int)))):=by
 have hsz:pos < (ByteArray.mk t2.toArray).size:=by simpa [ByteArray.size] using hlt
 by_cases ha:t2[pos].toNat < 128
 ·refine ⟨t2[pos].toNat,1,decode_ascii _ _ hsz ha,Nat.le_refl _,?_⟩
  rw [any_take_step t2 pos 1 hlt (Nat.le_refl _) (.inl rfl)]
  congr 1
  unfold oddB
  rw [Bool.eq_iff_iff];simp;omega
 ·obtain ⟨h1,h2⟩:=decode_high ⟨t2.toArray⟩ pos hsz (by show 128 ≤ t2[pos].toNat;omega)
  have ho:oddB t2[pos]=true:=by unfold oddB;simp;omega
  generalize Utf8.decode ⟨t2.toArray⟩ pos=d at *
  obtain ⟨r,wd⟩:=d
  refine ⟨r,wd,rfl,h2,?_⟩
  rw [any_take_step t2 pos wd hlt h2 (.inr ho),ho]
  congr 1
  symm
  have h1':128 ≤ r:=h1
  rw [Bool.or_eq_true];right;rw [decide_eq_true_eq];omega
set_option maxHeartbeats 1000000 in
theorem unquote_any (l:List UInt8) (w:World) (hg:GW w) (hl:l.length ≤ 1000000) :
  Calls Tryz.prog 55 #[.string ⟨l.toArray⟩] w fun e w'=>e=.returned (.tuple #[.string ⟨(unquote l).1.toArray⟩,.int .i64 (unquote l).2])∧Below w.heap.size w w':=by
 have HN:=Lib.hid (unquote_no l)
 have HY:=Lib.hid (unquote_yes l)
 have hl1:(cut1 l).length ≤ 1000000:=by unfold cut1;split;(simp;omega);exact hl
 have hl2:(cut2 l).length ≤ 1000000:=by unfold cut2;split;(simp;omega);exact hl1
 have e1:=Lib.hid (cutP l)
 have e2:=Lib.hid (hasP l)
 have e3:=Lib.hid (cutS (cut1 l))
 have e4:=Lib.hid (hasS (cut1 l))
 have e5:Hid (Lib.trimPrefix l [39]=cut1 l):=e1
 have e6:Hid (Lib.trimSuffix (cut1 l) [39]=cut2 l):=e3
 clear e1 e3
 generalize unquote l=ul at *
 go_enter Tryz.func55, Tryz.ntmps55
 go_wp2_with fail
 refine (Tryz.strings_CutPrefix ⟨l.toArray⟩ ⟨#[39]⟩ _).mono ?_
 rintro e w' ⟨rfl,rfl⟩
 rw [show (Lib.trimPrefix (ByteArray.mk l.toArray).data.toList (ByteArray.mk #[39]).data.toList)=cut1 l from e5.out,show (Lib.hasPrefix (ByteArray.mk l.toArray).data.toList (ByteArray.mk #[39]).data.toList)=_ from e2.out]
 generalize cut1 l=t1 at *
 generalize cut2 l=t2 at *
 generalize hp:decide (l.headD 0=39)=p
 have HP:=Lib.hid hp
 clear hp
 go_wp2_with fail
 refine (Tryz.strings_CutSuffix ⟨t1.toArray⟩ ⟨#[39]⟩ _ (by simp [ByteArray.size];omega)).mono ?_
 rintro e w' ⟨rfl,rfl⟩
 rw [show (Lib.trimSuffix (ByteArray.mk t1.toArray).data.toList (ByteArray.mk #[39]).data.toList)=t2 from e6.out,show (Lib.hasSuffix (ByteArray.mk t1.toArray).data.toList (ByteArray.mk #[39]).data.toList)=_ from e4.out]
 generalize hq:decide (t1.getLastD 0=39)=q
 have HQ:=Lib.hid hq
 clear hq
 go_wp2_with fail
 refine (replace_hal t2 _ hg hl2).mono ?_
 rintro e w1 ⟨rfl,hb1⟩
 have hg1:=hg.below hb1
 clear hg
 have HD:=Lib.hid (unq_eq t2)
 have hh:=hal_length _ t2 (Nat.le_refl _)
 go_wp2_with fail
 go_loopw [8] (fun o wr=>∃ pos:Nat,wr=w1.iter ⟨t2.toArray⟩ pos∧o=.bool ((t2.take pos).any oddB)) (fun _ wr=>t2.length - wr.iterPos w1.heap.size)
 case atStart=>exact ⟨0,rfl,rfl⟩
 case round=>
  obtain ⟨pos,rfl,rfl⟩:=hrel
  by_cases hlt:pos < t2.length
  ·have hnx:∀ ty,(Instr.next (.pointer (some ⟨w1.heap.size,0,none⟩)) true ty).run Tryz.prog (w1.iter ⟨t2.toArray⟩ pos)=_:=fun ty=>run_next_any w1 ⟨t2.toArray⟩ pos ty (by simpa [ByteArray.size] using hlt)
   have hdc:=decode_odd t2 pos hlt
   obtain ⟨r,wd,hr1,hr2,hr3⟩:=hdc
   rw [hr1] at hnx
   have HR:=Lib.hid hr3
   clear hr1 hr3
   generalize (List.take pos t2).any oddB=ob at *
   go_wp2_with fail
   all_goals
    go_roundw
    case rel=>exact ⟨pos + wd,rfl,by rw [HR.out];first | (simp [*];done) | (simp [*];omega)⟩
    case measure=>simp;omega
  ·have hnx:∀ ty,(Instr.next (.pointer (some ⟨w1.heap.size,0,none⟩)) true ty).run Tryz.prog (w1.iter ⟨t2.toArray⟩ pos)=_:=fun ty=>run_next_end w1 ⟨t2.toArray⟩ pos ty (by simpa [ByteArray.size] using hlt)
   have ht:t2.take pos=t2:=List.take_of_length_le (by omega)
   rw [ht]
   have HT:=Lib.hid ht
   clear ht
   have hbi:Below w1.heap.size w1 (w1.iter ⟨t2.toArray⟩ pos):=(Below.refl _ _).alloc (Nat.le_refl _) _
   have hgi:=hg1.below hbi
   have hbw:=bthen hb1 hbi
   cases p with
   | false=>
    have hf:Hid (ul=([],2)):=Lib.hid (HN.out (fun h=>of_decide_eq_false HP.out h.1))
    go_wp2_with fail
    go_ret2
    rw [hf.out]
    exact ⟨rfl,hbw⟩
   | true=>
    cases q with
    | false=>
     have hf:Hid (ul=([],2)):=Lib.hid (HN.out (fun h=>of_decide_eq_false HQ.out h.2))
     go_wp2_with fail
     go_ret2
     rw [hf.out]
     exact ⟨rfl,hbw⟩
    | true=>
     have HU:=Lib.hid (HY.out (of_decide_eq_true HP.out) (of_decide_eq_true HQ.out))
     cases ho:t2.any oddB with
     | true=>
      have hf:Hid (ul=([],2)):=by rw [HU.out,HD.out,if_pos (.inl ho)];exact Lib.hid rfl
      clear ho
      go_wp2_with fail
      go_ret2
      rw [hf.out]
      exact ⟨rfl,hbw⟩
     | false=>
      have HO:=Lib.hid ho
      clear ho
      go_wp2_with fail
      refine (replace_dbl (hal t2) _ hgi (by omega)).mono ?_
      rintro e w2 ⟨rfl,hb2⟩
      have hb3:=bthen hbw hb2
      clear hbw hb2 hgi hg1
      by_cases he:dbl (hal t2)=t2
      ·have hf:Hid (ul=(hal t2,0)):=by rw [HU.out,HD.out,if_neg (by simp [HO.out,he])];exact Lib.hid rfl
       rw [he]
       clear he
       go_wp2_with fail
       go_ret2
       rw [hf.out]
       exact ⟨rfl,hb3⟩
      ·have hf:Hid (ul=([],2)):=by rw [HU.out,HD.out,if_pos (.inr he)];exact Lib.hid rfl
       have hne:(dbl (hal t2) == t2)=false:=by simpa using he
       clear he
       go_wp2_with fail
       go_ret2
       rw [hf.out]
       exact ⟨rfl,hb3⟩
end Go.Proofs.YtagplldaooipmaaGreatDoor
/- token.span, token.quoted; the reference's mark. -/
namespace Go.Proofs.YtagplldaooipmaaGreatDoor
open Go.RowKit
end Go.Proofs.YtagplldaooipmaaGreatDoor
/- number.Upper: what it returns. -/
namespace Go.Proofs.YtagplldaooipmaaGreatDoor
open Go.RowKit
def upRow (l:List UInt8) (pad:List Value) (k:Nat):Array Value:=(((l.take k).map upB ++ l.drop k).map bv ++ pad).toArray
theorem upRow_zero (l:List UInt8) (cap:Nat):bytesRow ⟨l.toArray⟩ cap=upRow l (List.replicate (cap - l.length) (.int .u8 0)) 0:=by
 simp [bytesRow,upRow,bv,ByteArray.size]
theorem upRow_size (l:List UInt8) (pad:List Value) (k:Nat):(upRow l pad k).size=l.length + pad.length:=by
 simp [upRow];omega
theorem upRow_at (l:List UInt8) (pad:List Value) (k:Nat) (hk:k < l.length):(upRow l pad k)[k]? = some (bv l[k]):=by
 have h1:min k l.length=k:=by omega
 have h2:0 < l.length - k:=by omega
 simp [upRow,h1,List.getElem?_append,h2]
theorem upRow_end (l:List UInt8) (pad:List Value) (j:Nat) (hj:j < (upper l).length):(upRow l pad l.length)[j]? = some (bv (upper l)[j]):=by
 have hj':j < l.length:=by simpa [upper] using hj
 simp [upRow,upper,List.getElem?_append,hj']
theorem up_take (l:List UInt8) (k:Nat) (hk:k < l.length):(l.take (k + 1)).map upB=(l.take k).map upB ++ [upB l[k]]:=by
 rw [List.take_succ_eq_append_getElem hk,List.map_append];rfl
theorem upRow_keep (l:List UInt8) (pad:List Value) (k:Nat) (hk:k < l.length) (h:upB l[k]=l[k]):upRow l pad (k + 1)=upRow l pad k:=by
 unfold upRow;rw [up_take l k hk,List.drop_eq_getElem_cons hk,h,List.append_assoc];rfl
theorem set_mid (a b:List Value) (x y:Value) (pad:List Value) (k:Nat) (h:a.length=k):(a ++ x :: b ++ pad).toArray.setIfInBounds k y=(a ++ y :: b ++ pad).toArray:=by
 subst h;simp
theorem upRow_set (l:List UInt8) (pad:List Value) (k:Nat) (hk:k < l.length):(upRow l pad k).setIfInBounds k (bv (upB l[k]))=upRow l pad (k + 1):=by
 unfold upRow
 rw [up_take l k hk,List.drop_eq_getElem_cons hk,List.append_assoc,List.map_append,List.map_cons,set_mid _ _ _ _ _ k (by simp;omega),List.map_append,List.map_append]
 rfl
theorem up_val (c:UInt8) (h:97 ≤ c.toNat) (h':c.toNat ≤ 122):Value.int .u8 ((c.toNat:Int) - 97 + 65)=bv (upB c):=by
 have:(upB c).toNat=c.toNat - 32:=by
  unfold upB;rw [if_pos ⟨h,h'⟩,UInt8.toNat_sub_of_le];rfl
  rw [UInt8.le_iff_toNat_le];show 32 ≤ c.toNat;omega
 unfold bv;rw [this];congr 1;omega
theorem up_no (c:UInt8) (h:¬ (97 ≤ c.toNat∧c.toNat ≤ 122)):upB c=c:=by unfold upB;rw [if_neg h]
set_option maxHeartbeats 400000 in
theorem upper_any (l:List UInt8) (w:World) (hl:l.length ≤ 1000000) :
  Calls Tryz.prog 50 #[.string ⟨l.toArray⟩] w fun e w'=>e=.returned (.string ⟨(upper l).toArray⟩)∧Below w.heap.size w w':=by
 have hcv:=fun W=>run_bytes_of_string (P:=Tryz.prog) W 9 22 5 ⟨l.toArray⟩ Tryz.underlying9 Tryz.underlying22 Tryz.underlying5
 go_enter Tryz.func50, Tryz.ntmps50
 go_wp2
 clear hcv
 obtain ⟨pad,hpad⟩:∃ pad,bytesRow ⟨l.toArray⟩ (grownCap w l.length 0 5)=upRow l pad 0:=⟨_,upRow_zero _ _⟩
 rw [hpad];clear hpad
 generalize grownCap w l.length 0 5=cap
 generalize hN:(upRow l pad 0).size=N
 have HN:Hid (N=l.length + pad.length):=by rw [← hN,upRow_size];rfl
 clear hN
 go_loopw [10] (fun i wr=>∃ k:Nat,k ≤ l.length∧i=.int .i64 k∧wr.heap[w.heap.size]? = some (.cells (upRow l pad k) 5 (N,N + 1))∧Below w.heap.size w wr) (fun i _=>l.length - (intOf i).toNat)
 case atStart=>exact ⟨0,Nat.zero_le _,rfl,heap_alloc_new w _,((Below.refl _ _).alloc (Nat.le_refl _) _).drew⟩
 case round=>
  obtain ⟨k,hk,rfl,hh,hb⟩:=hrel
  by_cases hlt:k < l.length
  ·have hcell:wr.cell? ⟨w.heap.size,k,none⟩=some (.int .u8 ((l[k].toNat:Nat):Int)):=by rw [cell_of_heap hh,upRow_at l pad k hlt];rfl
   have hfz:wr.frozen? ⟨w.heap.size,k,none⟩=false:=by rw [frozen_of_heap hh];have:=HN.out;simp;omega
   have H1:=Lib.hid hh;clear hh
   by_cases hc:97 ≤ l[k].toNat∧l[k].toNat ≤ 122
   ·obtain ⟨h1,h2⟩:=hc
    have h1':(97:Int) ≤ (l[k].toNat:Int):=by omega
    have h2':(l[k].toNat:Int) ≤ 122:=by omega
    go_wp2
    go_roundw
    case rel=>exact ⟨k + 1,by omega,by go_num,by rw [heap_set _ H1.out,up_val _ h1 h2,upRow_set l pad k hlt],hb.setCell (by simp) _⟩
    case measure=>simp [intOf];omega
   ·have hno:=Lib.hid (up_no _ hc)
    rcases (show l[k].toNat < 97 ∨ (97 ≤ l[k].toNat∧122 < l[k].toNat) from by omega) with h1 | ⟨h1,h2⟩
    ·clear hc
     have h1':(l[k].toNat:Int) < 97:=by omega
     go_wp2
     go_roundw
     case rel=>exact ⟨k + 1,by omega,by go_num,by rw [upRow_keep l pad k hlt hno.out];exact H1.out,hb⟩
     case measure=>simp [intOf];omega
    ·clear hc
     have h1':(97:Int) ≤ (l[k].toNat:Int):=by omega
     have h2':(122:Int) < (l[k].toNat:Int):=by omega
     go_wp2
     go_roundw
     case rel=>exact ⟨k + 1,by omega,by go_num,by rw [upRow_keep l pad k hlt hno.out];exact H1.out,hb⟩
     case measure=>simp [intOf];omega
  ·obtain rfl:k=l.length:=by omega
   have hcv:=conv_back (P:=Tryz.prog) wr 22 9 5 w.heap.size 0 cap l.length (upper l) Tryz.underlying22 Tryz.underlying5 Tryz.underlying9 (by simp [upper]) (fun j hj=>by rw [Nat.zero_add,cell_of_heap hh,upRow_end l pad j hj])
   clear hh
   go_wp2
   go_ret
   exact ⟨rfl,hb⟩
end Go.Proofs.YtagplldaooipmaaGreatDoor
/- number.based, and the reference's digit. -/
namespace Go.Proofs.YtagplldaooipmaaGreatDoor
open Go.RowKit
end Go.Proofs.YtagplldaooipmaaGreatDoor
/- number.Parse. -/
namespace Go.Proofs.YtagplldaooipmaaGreatDoor
open Go.RowKit
end Go.Proofs.YtagplldaooipmaaGreatDoor
/- token.first. -/
namespace Go.Proofs.YtagplldaooipmaaGreatDoor
open Go.RowKit
end Go.Proofs.YtagplldaooipmaaGreatDoor
/- Tokens' cells. -/
namespace Go.Proofs.YtagplldaooipmaaGreatDoor
open Go.RowKit
def tokCells (t:Tok):List Value:=[.int .i64 t.1,.string ⟨t.2.1.toArray⟩,.int .u16 t.2.2]
def tokRow (ts:List Tok):List Value:=ts.flatMap tokCells
theorem ne_byte {c:UInt8} {n:Nat} (hn:n < 256) (h:c ≠ UInt8.ofNat n):((c.toNat:Int) == (n:Int))=false:=by
 rw [beq_eq_false_iff_ne];intro e;apply h;apply UInt8.toNat.inj;rw [UInt8.toNat_ofNat'];omega
end Go.Proofs.YtagplldaooipmaaGreatDoor
/- token.Line. -/
namespace Go.Proofs.YtagplldaooipmaaGreatDoor
open Go.RowKit
end Go.Proofs.YtagplldaooipmaaGreatDoor
/- A slice that reads as a list of cells; tokens' slices; Back, Own and Same. -/
namespace Go.Proofs.YtagplldaooipmaaGreatDoor
open Go.RowKit
def Rd (w:World) (B:Nat) (v:Value) (n:Nat) (xs:List Value):Prop:=
 ∃ A c,v=.slice A n c∧n ≤ c∧(0 < n → ∃ g o,A=some ⟨g,o,none⟩∧g < B∧∀ (j:Nat) (u:Value),xs[j]? = some u → w.cell? ⟨g,o + j,none⟩=some u)
theorem Rd.keep {w w':World} {B n:Nat} {v:Value} {xs:List Value} (h:Rd w B v n xs) (hk:∀ p:Addr,p.block < B → w'.cell? p=w.cell? p):Rd w' B v n xs:=by
 obtain ⟨A,c,h1,h2,h3⟩:=h
 refine ⟨A,c,h1,h2,fun hn=>?_⟩
 obtain ⟨g,o,h4,h5,h6⟩:=h3 hn
 exact ⟨g,o,h4,h5,fun j u hu=>(hk _ h5).trans (h6 j u hu)⟩
theorem Rd.below {w w':World} {B n:Nat} {v:Value} {xs:List Value} (h:Rd w B v n xs) (hb:Below B w w'):Rd w' B v n xs:=h.keep fun _ hp=>hb.cell hp
theorem Rd.more {w:World} {B B' n:Nat} {v:Value} {xs:List Value} (h:Rd w B v n xs) (hB:B ≤ B'):Rd w B' v n xs:=by
 obtain ⟨A,c,h1,h2,h3⟩:=h
 refine ⟨A,c,h1,h2,fun hn=>?_⟩
 obtain ⟨g,o,h4,h5,h6⟩:=h3 hn
 exact ⟨g,o,h4,by omega,h6⟩
theorem addr_add (g o j:Nat):Addr.add ⟨g,o,none⟩ j=⟨g,o + j,none⟩:=by
 unfold Addr.add;split
 ·rename_i h;subst h;rfl
 ·rfl
theorem Rd.of_own {w:World} {base size n:Nat} {e:TypeId} {v:Value} {xs:List Value} (h:w.ownsRow base e size v n xs):Rd w w.heap.size v n xs:=by
 rcases Joins.ownsRow_forms h with ⟨rfl,rfl⟩ | ⟨g,cap,rfl⟩
 ·exact ⟨none,0,rfl,by omega,fun h=>absurd h (by omega)⟩
 ·obtain ⟨_,h1 | ⟨g',cap',cur,h1,_,_,h3,_⟩⟩:=id h
  ·simp at h1
  ·injection h1 with _ _ h1c
   subst h1c
   refine ⟨_,cap,rfl,h3,fun hn=>⟨g,0,rfl,(h.lt g rfl).2,fun j u hu=>?_⟩⟩
   have:=h.cells (g:=g) rfl j u hu
   rw [addr_add] at this
   simpa using this
theorem tokRow_length (ts:List Tok):(tokRow ts).length=ts.length * 3:=by
 induction ts with
 | nil=>rfl
 | cons t ts ih=>simp only [tokRow,List.flatMap_cons,List.length_append,List.length_cons] at ih ⊢;rw [ih];simp [tokCells];omega
theorem Rd.form {w:World} {B n:Nat} {v:Value} {xs:List Value} (h:Rd w B v n xs):∃ A c,v=.slice A n c∧n ≤ c:=by
 obtain ⟨A,c,h1,h2,_⟩:=h;exact ⟨A,c,h1,h2⟩
end Go.Proofs.YtagplldaooipmaaGreatDoor
/- append of a slice that only reads, guarded or not. -/
namespace Go.Proofs.YtagplldaooipmaaGreatDoor
open Go.RowKit
theorem append_of_nil {P:Program} (w:World) (base:Nat) (t ty e:TypeId) (i:TypeInfo) (size:Nat) (ht:P.underlying t=some (.slice e)) (hi:P.info? e=some i)
  (v:Value) (n:Nat) (xs:List Value) (hown:w.ownsRow base e size v n xs) (c:Nat):(Builtin.append_ #[t,t] ty #[v,.slice none 0 c]).run P w=.ok v w:=by
 rcases hown.2 with ⟨rfl,rfl⟩ | ⟨g,cap,cur,rfl,_,_,hnc,_⟩
 ·simp [Builtin.append_,run_underlying ht,sizeOf,typeInfo,hi,Builtin.lenOf,Builtin.firstCells]
 ·simp [Builtin.append_,run_underlying ht,sizeOf,typeInfo,hi,Builtin.lenOf,Builtin.firstCells,hnc,storeCells]
theorem append_rd {P:Program} (w:World) (base:Nat) (t ty e:TypeId) (z:Value) (size bytes:Nat) (ht:P.underlying t=some (.slice e)) (hinfo:(P.info? e).map (fun i=>(i.zero,i.size,i.bytes))=some (some z,size,bytes))
  (hzs:z.cells.size=size) (hsz:0 < size) (v:Value) (n:Nat) (xs:List Value) (hown:w.ownsRow base e size v n xs)
  (B:Nat) (x:Value) (m:Nat) (news:List Value) (hr:Rd w B x m news) (hl:news.length=m * size) (h1:∀ u ∈ news,u.oneCell'=true)
  (hn:n + m ≤ 1000000000) (hby:bytes ≤ 1000) (hbase:base ≤ w.heap.size) :
  ∃ v' w',(Builtin.append_ #[t,t] ty #[v,x]).run P w=.ok v' w'∧w'.ownsRow base e size v' (n + m) (xs ++ news)∧w.grownBy w' v.ownBlock∧(v'.ownBlock=v.ownBlock ∨ v'.ownBlock=some w.heap.size):=by
 obtain ⟨i,hi,hz0,hz1,hz2⟩:=info_parts hinfo
 obtain ⟨A,c,rfl,hc,h3⟩:=hr
 have hmul:(n + m) * bytes ≤ 1000000000 * 1000:=Nat.mul_le_mul hn hby
 rcases A with _ | ad
 ·have hm:m=0:=by
   rcases Nat.eq_zero_or_pos m with h0 | h0
   ·exact h0
   ·obtain ⟨g,o,h,_⟩:=h3 h0
    cases h
  subst hm
  have hn:news = []:=List.eq_nil_of_length_eq_zero (by simpa using hl)
  subst hn
  exact ⟨v,w,append_of_nil w base t ty e i size ht hi v n xs hown c,by simpa using hown,World.grownBy.refl w _,.inl rfl⟩
 ·have hcells:∀ j u,news[j]? = some u → w.cell? (ad.add j)=some u:=by
   intro j u hu
   rcases Nat.eq_zero_or_pos m with h0 | h0
   ·subst h0
    have hn:news = []:=List.eq_nil_of_length_eq_zero (by simpa using hl)
    subst hn
    simp at hu
   ·obtain ⟨g,o,h,_,hc⟩:=h3 h0
    injection h with h
    subst h
    rw [addr_add]
    exact hc j u hu
  obtain ⟨v',w',hrun,h2,h3,_,h5⟩:=run_append_own_at (P:=P) w base t ty e i z size bytes ht hi hz0 hz1 hz2 hzs hsz v n xs hown ad m c news hl hcells h1 (by unfold maxLen;omega) (by omega) hbase
  exact ⟨v',w',hrun,h2,h3,h5⟩
theorem wp_append_rd {P:Program} (w:World) {o:Oper} {a:Act} {K:Act → World → Prop} {Q:Exit → Act → World → Prop} (s x:Operand) (t:TypeId)
  (ho:o.op=.call { callee:=.builtin .append,args:=#[s,x],argTypes:=#[t,t] })
  (base:Nat) (e:TypeId) (z:Value) (size bytes:Nat) (ht:P.underlying t=some (.slice e)) (hinfo:(P.info? e).map (fun i=>(i.zero,i.size,i.bytes))=some (some z,size,bytes))
  (hzs:z.cells.size=size) (hsz:0 < size) {v:Value} {n:Nat} {xs:List Value} (hown:w.ownsRow base e size v n xs) (hs:a.eval s=v)
  {B:Nat} {y:Value} {m:Nat} {news:List Value} (hr:Rd w B y m news) (hx:a.eval x=y) (hl:news.length=m * size) (h1:∀ u ∈ news,u.oneCell'=true)
  (hn:n + m ≤ 1000000000) (hby:bytes ≤ 1000) (hbase:base ≤ w.heap.size)
  (h:∀ v' w',w'.ownsRow base e size v' (n + m) (xs ++ news) → Below base w w' → w.grownBy w' v.ownBlock → K (a.put o.dst v') w'):o.wp P a w K Q:=by
 obtain ⟨v',w',hrun,h2,h3,h4⟩:=append_rd (P:=P) w base t o.type e z size bytes ht hinfo hzs hsz v n xs hown B y m news hr hl h1 hn hby hbase
 unfold Oper.wp execOp
 simp only [ho,resolve,invoke,builtin,Sem.run_bind,Sem.run_pure,Result.andThen_ok,List.map_toArray,List.map_cons,List.map_nil,hs,hx,hrun]
 exact h v' w' h2 (below_of_own hown (Below.refl _ _) h3 hbase) h3
theorem wpList_append_rd {P:Program} (w:World) {ops:Array Oper} {rest:List Oper} {o:Oper} {a:Act} {Q:Exit → Act → World → Prop} (hw:Region.wanted o (yielded ops a.tmps)=true) (s x:Operand) (t:TypeId)
  (ho:o.op=.call { callee:=.builtin .append,args:=#[s,x],argTypes:=#[t,t] })
  (base:Nat) (e:TypeId) (z:Value) (size bytes:Nat) (ht:P.underlying t=some (.slice e)) (hinfo:(P.info? e).map (fun i=>(i.zero,i.size,i.bytes))=some (some z,size,bytes))
  (hzs:z.cells.size=size) (hsz:0 < size) {v:Value} {n:Nat} {xs:List Value} (hown:w.ownsRow base e size v n xs) (hs:a.eval s=v)
  {B:Nat} {y:Value} {m:Nat} {news:List Value} (hr:Rd w B y m news) (hx:a.eval x=y) (hl:news.length=m * size) (h1:∀ u ∈ news,u.oneCell'=true)
  (hn:n + m ≤ 1000000000) (hby:bytes ≤ 1000) (hbase:base ≤ w.heap.size)
  (h:∀ v' w',w'.ownsRow base e size v' (n + m) (xs ++ news) → Below base w w' → w.grownBy w' v.ownBlock → wpList P ops Q rest (a.put o.dst v') w'):wpList P ops Q (o :: rest) a w:=
 wpList_step fun K hK=>by
  rw [if_pos hw]
  exact wp_append_rd w s x t ho base e z size bytes ht hinfo hzs hsz hown hs hr hx hl h1 hn hby hbase fun v' w' h2 h3 h4=>hK _ _ (h v' w' h2 h3 h4)
theorem Rd.new (w:World) (cs:List Value) (T:TypeId):Rd (w.alloc (.cells cs.toArray T)) (w.heap.size + 1) (.slice (some ⟨w.heap.size,0,none⟩) 1 1) 1 cs:=by
 refine ⟨_,1,rfl,Nat.le_refl _,fun _=>⟨w.heap.size,0,rfl,by omega,fun j u hu=>?_⟩⟩
 have:=cells_new w cs T j u hu
 rwa [addr_add] at this
theorem new_at (w:World) (cs:List Value) (T:TypeId) (j:Nat) (u:Value) (h:cs[j]? = some u):(w.alloc (.cells cs.toArray T)).cell? ⟨w.heap.size,j,none⟩=some u:=by
 have:=cells_new w cs T j u h
 rwa [addr_add,Nat.zero_add] at this
end Go.Proofs.YtagplldaooipmaaGreatDoor
/- Layer 4 in plain Lean: what tokens are good, lines joined, tokens shown. -/
namespace Go.Proofs.YtagplldaooipmaaGreatDoor
def wordT (t:Tok):List UInt8:=if t.1=2 then showN t.2.2 else if t.1=3 then quoteL t.2.1 else t.2.1
theorem wordT_length (t:Tok) (hn:t.2.2 ≤ 65535):(wordT t).length ≤ 2 * t.2.1.length + 8:=by
 unfold wordT
 split
 ·by_cases h:t.2.2 < 10
  ·unfold showN;rw [if_pos h];simp
  ·obtain ⟨c,r,h1,h2,_⟩:=show_short _ h hn
   rw [h1];simp;omega
 ·split
  ·have:=(dbl_length t.2.1).2;unfold quoteL;simp;omega
  ·omega
end Go.Proofs.YtagplldaooipmaaGreatDoor
/- Rows of bytes. -/
namespace Go.Proofs.YtagplldaooipmaaGreatDoor
open Go.RowKit
theorem info_u8:(Tryz.prog.info? 5).map (fun i=>(i.zero,i.size,i.bytes))=some (some (.int .u8 0),1,1):=by kernel_rfl
theorem up_snoc (l:List UInt8) (k:Nat) (hk:k < l.length):(upper (l.take (k + 1))).map bv=(upper (l.take k)).map bv ++ [bv (upB l[k])]:=by
 unfold upper;rw [List.take_succ_eq_append_getElem hk,List.map_append,List.map_append];rfl
theorem up_val32 (c:UInt8) (h:97 ≤ c.toNat) (h':c.toNat ≤ 122):Value.int .u8 ((c.toNat:Int) - 32)=bv (upB c):=by
 have:(upB c).toNat=c.toNat - 32:=by
  unfold upB;rw [if_pos ⟨h,h'⟩,UInt8.toNat_sub_of_le];rfl
  rw [UInt8.le_iff_toNat_le];show 32 ≤ c.toNat;omega
 unfold bv;rw [this];congr 1;omega
theorem conv_own {P:Program} (w:World) (src dst e:TypeId) (base n:Nat) (v:Value) (l:List UInt8) (hs:P.underlying src=some (.slice e)) (he:P.underlying e=some (.int .u8)) (hd:P.underlying dst=some .string)
  (hn:l.length=n) (h:w.ownsRow base e 1 v n (l.map bv)):(convert src dst v).run P w=.ok (.string ⟨l.toArray⟩) w:=by
 rcases h.2 with ⟨rfl,rfl⟩ | ⟨g,cap,cur,rfl,_,hg,_,_,_,ht⟩
 ·obtain rfl:l = []:=List.eq_nil_of_length_eq_zero hn
  exact run_convert_bytes_nil w src e hs he 0 0 dst hd
 ·refine conv_back w src dst e g 0 cap n l hs he hd hn fun j hj=>?_
  rw [Nat.zero_add,cell_of_heap hg]
  have:(cur.toList.take (n * 1))[j]? = some (bv l[j]):=by rw [ht];simp [hj]
  rw [List.getElem?_take] at this
  split at this
  ·simpa using this
  ·cases this
theorem append_byte {ops:Array Oper} {rest:List Oper} {o:Oper} {a:Act} {Q:Exit → Act → World → Prop} (wr:World) (hgd:o.guard=none) (s x:Operand)
  (ho:o.op=.call { callee:=.builtin .append,args:=#[s,x],argTypes:=#[22,22] })
  (base:Nat) {v:Value} {n:Nat} {xs:List UInt8} (hown:wr.ownsRow base 5 1 v n (xs.map bv)) (hs:a.eval s=v)
  (c:Int) (c':UInt8) (hc:c=(c'.toNat:Int)) (hx:a.eval x=.slice (some ⟨wr.heap.size,0,none⟩) 1 1) (hn:n ≤ 1000000000) (hbase:base ≤ wr.heap.size)
  (h:∀ v' w',w'.ownsRow base 5 1 v' (n + 1) ((xs ++ [c']).map bv) → Below base wr w' → wpList Tryz.prog ops Q rest (a.put o.dst v') w'):wpList Tryz.prog ops Q (o :: rest) a (wr.alloc (.cells #[.int .u8 c] 5)):=by
 subst hc
 refine wpList_append_one wr hgd s x 22 ho base 5 (.int .u8 0) 1 1 Tryz.underlying22 info_u8 rfl (by decide) v n (xs.map bv) hs hown [bv c'] 5 hx rfl (by intro u hu;simp at hu;subst hu;rfl) hn (by decide) hbase ?_
 intro v' w' h1 h2
 exact h v' w' (by rw [List.map_append];exact h1) h2
end Go.Proofs.YtagplldaooipmaaGreatDoor
/- number.Value. -/
namespace Go.Proofs.YtagplldaooipmaaGreatDoor
open Go.RowKit
end Go.Proofs.YtagplldaooipmaaGreatDoor
/- number.Name, and the reference's. -/
namespace Go.Proofs.YtagplldaooipmaaGreatDoor
open Go.RowKit
theorem byte_ways (c:UInt8) :
  (alphaB c=true∧(c.toNat:Int) < 128∧letB c=true) ∨
  (alphaB c=false∧((c.toNat:Int) == 63)=true∧letB c=true) ∨
  (alphaB c=false∧((c.toNat:Int) == 63)=false∧((c.toNat:Int) == 64)=true∧letB c=true) ∨
  (alphaB c=false∧((c.toNat:Int) == 63)=false∧((c.toNat:Int) == 64)=false∧((c.toNat:Int) == 95)=true∧letB c=true) ∨
  (alphaB c=false∧((c.toNat:Int) == 63)=false∧((c.toNat:Int) == 64)=false∧((c.toNat:Int) == 95)=false∧(48:Int) ≤ (c.toNat:Int)∧(c.toNat:Int) ≤ 57∧letB c=false∧numB c=true) ∨
  (alphaB c=false∧((c.toNat:Int) == 63)=false∧((c.toNat:Int) == 64)=false∧((c.toNat:Int) == 95)=false∧(c.toNat:Int) < 48∧letB c=false∧numB c=false) ∨
  (alphaB c=false∧((c.toNat:Int) == 63)=false∧((c.toNat:Int) == 64)=false∧((c.toNat:Int) == 95)=false∧(48:Int) ≤ (c.toNat:Int)∧(57:Int) < (c.toNat:Int)∧letB c=false∧numB c=false):=by
 have:∀ n:Fin 256, 
  (alphaB (UInt8.ofNat n.val)=true∧(n.val:Int) < 128∧letB (UInt8.ofNat n.val)=true) ∨
  (alphaB (UInt8.ofNat n.val)=false∧((n.val:Int) == 63)=true∧letB (UInt8.ofNat n.val)=true) ∨
  (alphaB (UInt8.ofNat n.val)=false∧((n.val:Int) == 63)=false∧((n.val:Int) == 64)=true∧letB (UInt8.ofNat n.val)=true) ∨
  (alphaB (UInt8.ofNat n.val)=false∧((n.val:Int) == 63)=false∧((n.val:Int) == 64)=false∧((n.val:Int) == 95)=true∧letB (UInt8.ofNat n.val)=true) ∨
  (alphaB (UInt8.ofNat n.val)=false∧((n.val:Int) == 63)=false∧((n.val:Int) == 64)=false∧((n.val:Int) == 95)=false∧(48:Int) ≤ (n.val:Int)∧(n.val:Int) ≤ 57∧letB (UInt8.ofNat n.val)=false∧numB (UInt8.ofNat n.val)=true) ∨
  (alphaB (UInt8.ofNat n.val)=false∧((n.val:Int) == 63)=false∧((n.val:Int) == 64)=false∧((n.val:Int) == 95)=false∧(n.val:Int) < 48∧letB (UInt8.ofNat n.val)=false∧numB (UInt8.ofNat n.val)=false) ∨
  (alphaB (UInt8.ofNat n.val)=false∧((n.val:Int) == 63)=false∧((n.val:Int) == 64)=false∧((n.val:Int) == 95)=false∧(48:Int) ≤ (n.val:Int)∧(57:Int) < (n.val:Int)∧letB (UInt8.ofNat n.val)=false∧numB (UInt8.ofNat n.val)=false):=by decide +kernel
 have h:=this ⟨c.toNat,c.toNat_lt⟩
 simpa only [UInt8.ofNat_toNat] using h
def nameTo (l:List UInt8) (k:Nat):Bool:=(l.take k).all (fun c=>letB c || numB c) && (k == 0 || letB (l.headD 0))
theorem nameTo_step (l:List UInt8) (k:Nat) (hk:k < l.length) (h:nameTo l k=true) (hc:letB l[k]=true ∨ (0 < k∧numB l[k]=true)):nameTo l (k + 1)=true:=by
 unfold nameTo at *
 rw [List.take_succ_eq_append_getElem hk]
 simp only [Bool.and_eq_true,List.all_append,List.all_cons,List.all_nil,Bool.and_true,Bool.or_eq_true] at h ⊢
 refine ⟨⟨h.1,by rcases hc with h | h;exact .inl h;exact .inr h.2⟩,.inr ?_⟩
 rcases Nat.eq_zero_or_pos k with rfl | h0
 ·rcases hc with hc | hc
  ·cases l with
   | nil=>simp at hk
   | cons c r=>exact hc
  ·omega
 ·rcases h.2 with h2 | h2
  ·simp at h2;omega
  ·exact h2
theorem nameTo_no (l:List UInt8) (k:Nat) (hk:k < l.length) (hc:letB l[k]=false) (hn:k=0 ∨ numB l[k]=false):nameB l=false:=by
 unfold nameB
 rcases hn with rfl | hn
 ·have:letB (l.headD 0)=false:=by
   cases l with
   | nil=>simp at hk
   | cons c r=>exact hc
  rw [this];simp
 ·have:(l.all fun c=>letB c || numB c)=false:=by
   rw [List.all_eq_false]
   exact ⟨l[k],List.getElem_mem hk,by simp [hc,hn]⟩
  rw [this];simp
theorem nameTo_end (l:List UInt8) (h1:1 ≤ l.length) (h2:l.length ≤ 16) (h:nameTo l l.length=true):nameB l=true:=by
 unfold nameTo at h
 unfold nameB
 rw [List.take_length] at h
 simp only [Bool.and_eq_true,Bool.or_eq_true,decide_eq_true_eq] at h ⊢
 refine ⟨⟨⟨h1,h2⟩,?_⟩,h.1⟩
 rcases h.2 with h2 | h2
 ·simp at h2;subst h2;simp at h1
 ·exact h2
set_option maxHeartbeats 1000000 in
theorem name_any (l:List UInt8) (w:World) (hl:l.length ≤ 1000000) :
  Calls Tryz.prog 49 #[.string ⟨l.toArray⟩] w fun e w'=>e=.returned (.bool (nameB l))∧w=w':=by
 by_cases h0:l = []
 ·subst h0
  go_enter Tryz.func49, Tryz.ntmps49
  go_wp2_with fail
  go_ret
  exact ⟨rfl,rfl⟩
 have h1:1 ≤ l.length:=by cases l with | nil=>simp at h0 | cons c r=>simp
 have he:l.isEmpty=false:=by cases l with | nil=>simp at h0 | cons c r=>rfl
 by_cases h16:16 < l.length
 ·have h16':(16:Int) < (l.length:Int):=by omega
  have hf:Hid (nameB l=false):=Lib.hid (by unfold nameB;rw [show decide (l.length ≤ 16)=false by simp;omega];simp)
  clear h0
  generalize nameB l=r at *
  go_enter Tryz.func49, Tryz.ntmps49
  go_wp2_with fail
  go_ret
  rw [hf.out]
  exact ⟨rfl,rfl⟩
 have h16':(l.length:Int) ≤ 16:=by omega
 have d16:decide ((16:Int) < (l.length:Int))=false:=by simp;omega
 have hE:=fun h=>Lib.hid (nameTo_end l h1 (by omega) h)
 have hE':=Lib.hid hE
 have hN:=Lib.hid (nameTo_no l)
 clear hE h0
 generalize nameB l=r at *
 go_enter Tryz.func49, Tryz.ntmps49
 go_wp2_with fail
 go_loop [14] (fun i=>∃ k:Nat,k ≤ l.length∧i=.int .i64 k∧nameTo l k=true) (fun i=>l.length - (intOf i).toNat)
 case atStart=>exact ⟨0,Nat.zero_le _,rfl,rfl⟩
 case round=>
  obtain ⟨k,hk,rfl,hnt⟩:=hrel
  have HT:=Lib.hid hnt
  clear hnt
  by_cases hlt:k < l.length
  ·go_wp2_with fail
   refine (begins_any _ _).mono ?_
   rintro e w' ⟨rfl,rfl⟩
   rcases byte_ways l[k] with ⟨e1,e2,b1⟩ | ⟨e1,e2,b1⟩ | ⟨e1,e2,e3,b1⟩ | ⟨e1,e2,e3,e4,b1⟩ | ⟨e1,e2,e3,e4,e5,e6,b1,b2⟩ | ⟨e1,e2,e3,e4,e5,b1,b2⟩ | ⟨e1,e2,e3,e4,e5,e6,b1,b2⟩
   iterate 4
    ·have HS:=Lib.hid (nameTo_step l k hlt HT.out (.inl b1))
     clear b1
     go_wp2_with fail
     go_round
     case rel=>exact ⟨k + 1,by omega,by go_num,HS.out⟩
     case measure=>simp [intOf];omega
   ·by_cases hk0:0 < k
    ·have HS:=Lib.hid (nameTo_step l k hlt HT.out (.inr ⟨hk0,b2⟩))
     have hk0':(0:Int) < (k:Int):=by omega
     clear b1 b2
     go_wp2_with fail
     go_round
     case rel=>exact ⟨k + 1,by omega,by go_num,HS.out⟩
     case measure=>simp [intOf];omega
    ·have HS:=Lib.hid (hN.out k hlt b1 (.inl (by omega)))
     obtain rfl:k=0:=by omega
     clear b1 b2
     go_wp2_with fail
     go_ret
     rw [HS.out]
     exact ⟨rfl,rfl⟩
   iterate 2
    ·have HS:=Lib.hid (hN.out k hlt b1 (.inr b2))
     clear b1 b2
     by_cases hk0:0 < k
     ·have hk0':(0:Int) < (k:Int):=by omega
      go_wp2_with fail
      go_ret
      rw [HS.out]
      exact ⟨rfl,rfl⟩
     ·obtain rfl:k=0:=by omega
      go_wp2_with fail
      go_ret
      rw [HS.out]
      exact ⟨rfl,rfl⟩
  ·obtain rfl:k=l.length:=by omega
   have HS:=Lib.hid (hE'.out HT.out).out
   go_wp2_with fail
   go_ret
   rw [HS.out]
   exact ⟨rfl,rfl⟩
end Go.Proofs.YtagplldaooipmaaGreatDoor
/- token.Cut's closure: is the token one of these marks? -/
namespace Go.Proofs.YtagplldaooipmaaGreatDoor
open Go.RowKit
def isT (t:Tok) (ls:List (List UInt8)):Bool:=decide (t.1=4) && decide (t.2.1 ∈ ls)
end Go.Proofs.YtagplldaooipmaaGreatDoor
/- token.Cut. -/
namespace Go.Proofs.YtagplldaooipmaaGreatDoor
open Go.RowKit
def cutF (sep:List UInt8):List Tok → Nat → List Tok → List (List Tok) → List (List Tok)
 | [],_,cur,acc=>acc ++ [cur]
 | t :: r,d,cur,acc=>
  let d1:=if isT t [[41],[93]] then d - 1 else d
  let d2:=if isT t [[40],[91]] then d1 + 1 else d1
  if isT t [sep] && d1 == 0 then cutF sep r d2 [] (acc ++ [cur]) else cutF sep r d2 (cur ++ [t]) acc
end Go.Proofs.YtagplldaooipmaaGreatDoor
/- The parts between marks, in plain Lean. -/
namespace Go.Proofs.YtagplldaooipmaaGreatDoor
def d1F (t:Tok) (d:Nat):Nat:=if isT t [[41],[93]] then d - 1 else d
def d2F (t:Tok) (d:Nat):Nat:=if isT t [[40],[91]] then d1F t d + 1 else d1F t d
theorem cutF_eq (sep:List UInt8) (t:Tok) (r:List Tok) (d:Nat) (cur:List Tok) (acc:List (List Tok)):cutF sep (t :: r) d cur acc=if (isT t [sep] && d1F t d == 0)=true then cutF sep r (d2F t d) [] (acc ++ [cur]) else cutF sep r (d2F t d) (cur ++ [t]) acc:=rfl
end Go.Proofs.YtagplldaooipmaaGreatDoor
/- Rows that the call owns, whose elements hold further memory. -/
namespace Go.Proofs.YtagplldaooipmaaGreatDoor
open Go.RowKit
def rowV {α:Type} (f:α → Value → List Value):List α → List Value → List Value
 | a :: l,v :: vs=>f a v ++ rowV f l vs
 | _,_=>[]
theorem rowV_snoc {α:Type} {f:α → Value → List Value} (l:List α) (a:α) (v:Value):∀ vs:List Value,vs.length=l.length → rowV f (l ++ [a]) (vs ++ [v])=rowV f l vs ++ f a v:=by
 induction l with
 | nil=>intro vs h;cases vs <;> simp_all [rowV]
 | cons b l ih=>
  intro vs h
  cases vs with
  | nil=>simp at h
  | cons u vs=>simp [rowV,ih vs (by simpa using h)]
theorem rowV_get {α:Type} {f:α → Value → List Value} {C:Nat} (hC:∀ a v,(f a v).length=C) (l:List α):∀ vs:List Value,vs.length=l.length → ∀ i (hi:i < l.length) j u,(f l[i] (vs.getD i (.slice none 0 0)))[j]? = some u → (rowV f l vs)[i * C + j]? = some u:=by
 induction l with
 | nil=>intro vs h i hi;simp at hi
 | cons a l ih=>
  intro vs h i hi j u hu
  cases vs with
  | nil=>simp at h
  | cons v vs=>
   cases i with
   | zero=>
    simp at hu
    have hj:j < (f a v).length:=(List.getElem?_eq_some_iff.1 hu).1
    simp only [rowV,Nat.zero_mul,Nat.zero_add]
    rw [List.getElem?_append_left hj]
    exact hu
   | succ i=>
    simp only [List.getElem_cons_succ,List.getD_cons_succ] at hu
    have:=ih vs (by simpa using h) i (by simpa using hi) j u hu
    simp only [rowV]
    rw [List.getElem?_append_right (by rw [hC,Nat.succ_mul];omega),hC,show (i + 1) * C + j - C=i * C + j by rw [Nat.succ_mul];omega]
    exact this
def OwnV {α:Type} (f:α → Value → List Value) (sub:World → (Nat → Prop) → Value → α → Prop) (E:TypeId) (C:Nat) (w:World) (base:Nat) (v:Value) (l:List α) (vs:List Value):Prop:=
 vs.length=l.length∧w.ownsRow base E C v l.length (rowV f l vs)∧∀ i (hi:i < l.length),sub w (fun g=>base ≤ g∧g < w.heap.size∧v.ownBlock ≠ some g) (vs.getD i (.slice none 0 0)) l[i]
section
variable {α:Type} {f:α → Value → List Value} {sub:World → (Nat → Prop) → Value → α → Prop} {E:TypeId} {C:Nat}
theorem OwnV.nil (w:World) (base:Nat):OwnV f sub E C w base (.slice none 0 0) [] []:=⟨rfl,⟨by simp [rowV],.inl ⟨rfl,rfl⟩⟩,fun i hi=>absurd hi (by simp)⟩
theorem OwnV.snoc (hkeep:∀ w w' S S' v a,sub w S v a → (∀ p:Addr,S p.block → w'.cell? p=w.cell? p) → (∀ g,S g → S' g) → sub w' S' v a)
  {w w0 w':World} {base:Nat} {v v' u:Value} {l:List α} {a:α} {vs:List Value} (h:OwnV f sub E C w base v l vs) (h0:Below w.heap.size w w0)
  (hs:sub w0 (fun g=>base ≤ g∧g < w0.heap.size∧v.ownBlock ≠ some g) u a)
  (hown:w'.ownsRow base E C v' (l.length + 1) (rowV f l vs ++ f a u)) (hg:w0.grownBy w' v.ownBlock) (hv:v'.ownBlock=v.ownBlock ∨ v'.ownBlock=some w0.heap.size) :
  OwnV f sub E C w' base v' (l ++ [a]) (vs ++ [u]):=by
 obtain ⟨h1,h2,h3⟩:=h
 refine ⟨by simp [h1],by rw [rowV_snoc l a u vs h1];simpa using hown,fun i hi=>?_⟩
 have hS:∀ g,(base ≤ g∧g < w0.heap.size∧v.ownBlock ≠ some g) → (base ≤ g∧g < w'.heap.size∧v'.ownBlock ≠ some g):=by
  rintro g ⟨g1,g2,g3⟩
  refine ⟨g1,Nat.lt_of_lt_of_le g2 hg.size,?_⟩
  rcases hv with hv | hv <;> rw [hv]
  ·exact g3
  ·intro h;injection h with h;omega
 have hK:∀ p:Addr,(base ≤ p.block∧p.block < w0.heap.size∧v.ownBlock ≠ some p.block) → w'.cell? p=w0.cell? p:=fun p hp=>hg.cell_far p hp.2.1 (fun h=>hp.2.2 h.symm)
 by_cases hil:i < l.length
 ·have e1:(l ++ [a])[i]=l[i]:=List.getElem_append_left hil
  have e2:(vs ++ [u]).getD i (.slice none 0 0)=vs.getD i (.slice none 0 0):=by
   rw [List.getD_eq_getElem?_getD,List.getD_eq_getElem?_getD,List.getElem?_append_left (by omega)]
  rw [e1,e2]
  have h4:=hkeep w w0 _ (fun g=>base ≤ g∧g < w0.heap.size∧v.ownBlock ≠ some g) _ _ (h3 i hil) (fun p hp=>h0.cell hp.2.1) (fun g hg=>⟨hg.1,Nat.lt_of_lt_of_le hg.2.1 h0.size,hg.2.2⟩)
  exact hkeep w0 w' _ _ _ _ h4 hK hS
 ·have hie:i=l.length:=by simp at hi;omega
  subst hie
  have e1:(l ++ [a])[l.length]=a:=by simp
  have e2:(vs ++ [u]).getD l.length (.slice none 0 0)=u:=by
   rw [List.getD_eq_getElem?_getD,List.getElem?_append_right (by omega)];simp [h1]
  rw [e1,e2]
  exact hkeep w0 w' _ _ _ _ hs hK hS
theorem OwnV.keep (hkeep:∀ w w' S S' v a,sub w S v a → (∀ p:Addr,S p.block → w'.cell? p=w.cell? p) → (∀ g,S g → S' g) → sub w' S' v a)
  {w w':World} {base:Nat} {v:Value} {l:List α} {vs:List Value} (h:OwnV f sub E C w base v l vs) (hb:Below w.heap.size w w'):OwnV f sub E C w' base v l vs:=by
 obtain ⟨h1,h2,h3⟩:=h
 refine ⟨h1,⟨h2.1,?_⟩,fun i hi=>hkeep w w' _ _ _ _ (h3 i hi) (fun p hp=>hb.cell hp.2.1) (fun g hg=>⟨hg.1,Nat.lt_of_lt_of_le hg.2.1 hb.size,hg.2.2⟩)⟩
 rcases h2.2 with h4 | ⟨g,cap,cur,h4,h5,h6,h7⟩
 ·exact .inl h4
 ·exact .inr ⟨g,cap,cur,h4,h5,(hb.block g (lt_of_heap h6)).trans h6,h7⟩
end
theorem wpList_append_to {P:Program} (w:World) {ops:Array Oper} {rest:List Oper} {o:Oper} {a:Act} {Q:Exit → Act → World → Prop} (hw:Region.wanted o (yielded ops a.tmps)=true) (s x:Operand) (t:TypeId)
  (ho:o.op=.call { callee:=.builtin .append,args:=#[s,x],argTypes:=#[t,t] })
  (base:Nat) (e:TypeId) (z:Value) (size bytes:Nat) (ht:P.underlying t=some (.slice e)) (hinfo:(P.info? e).map (fun i=>(i.zero,i.size,i.bytes))=some (some z,size,bytes))
  (hzs:z.cells.size=size) (hsz:0 < size) {v:Value} {n:Nat} {xs:List Value} (hown:w.ownsRow base e size v n xs) (hs:a.eval s=v)
  {B:Nat} {y:Value} {m:Nat} {news:List Value} (hr:Rd w B y m news) (hx:a.eval x=y) (hl:news.length=m * size) (h1:∀ u ∈ news,u.oneCell'=true)
  (hn:n + m ≤ 1000000000) (hby:bytes ≤ 1000) (hbase:base ≤ w.heap.size)
  (h:∀ v' w',w'.ownsRow base e size v' (n + m) (xs ++ news) → Below base w w' → w.grownBy w' v.ownBlock → (v'.ownBlock=v.ownBlock ∨ v'.ownBlock=some w.heap.size) → wpList P ops Q rest (a.put o.dst v') w'):wpList P ops Q (o :: rest) a w:=
 wpList_step fun K hK=>by
  rw [if_pos hw]
  obtain ⟨v',w',hrun,h2,h3,h4⟩:=append_rd (P:=P) w base t o.type e z size bytes ht hinfo hzs hsz v n xs hown B y m news hr hl h1 hn hby hbase
  unfold Oper.wp execOp
  simp only [ho,resolve,invoke,builtin,Sem.run_bind,Sem.run_pure,Result.andThen_ok,List.map_toArray,List.map_cons,List.map_nil,hs,hx,hrun]
  exact hK _ _ (h v' w' h2 (below_of_own hown (Below.refl _ _) h3 hbase) h3 h4)
end Go.Proofs.YtagplldaooipmaaGreatDoor
/- The words of layer 9: plain lists, no program. -/
namespace Go.Proofs.YtagplldaooipmaaGreatDoor
def plainW:List (List UInt8):=[[77,79,86],[65,68,68],[79,82],[65,68,67],[83,66,66],[65,78,68],[83,85,66],[88,79,82],[67,77,80],[73,78,67],[68,69,67],[82,79,76],[82,79,82],[82,67,76],[82,67,82],[78,79,84],[88,67,72,71],[80,85,83,72],[80,79,80],[76,65,72,70],[83,65,72,70],[68,65,65],[67,77,67],[83,84,67],[67,76,67],[83,84,73],[67,76,73],[72,76,84],[78,79,80],[73,78],[79,85,84],[74,77,80],[74,77,80,83],[67,65,76,76],[82,69,84]]
def equalW:List (List UInt8):=[[74,66],[74,78,66],[74,90],[74,78,90]]
def signW:List (List UInt8):=[[74,83],[74,78,83],[74,80],[74,78,80]]
def argsW:List (List UInt8):=[[65,76],[67,76],[68,76],[66,76],[65,72],[67,72],[68,72],[66,72],[65,88],[67,88],[68,88],[66,88],[83,80],[66,80],[83,73],[68,73],[91,66,88,93],[91,83,73,93],[91,110,110,93],[110,110]]
def namesR:List (List UInt8):=[[],[77,79,86],[65,68,68],[79,82],[65,68,67],[83,66,66],[65,78,68],[83,85,66],[88,79,82],[67,77,80],[73,78,67],[68,69,67],[82,79,76],[82,79,82],[82,67,76],[82,67,82],[78,79,84],[88,67,72,71],[80,85,83,72],[80,79,80],[76,65,72,70],[83,65,72,70],[68,65,65],[67,77,67],[83,84,67],[67,76,67],[83,84,73],[67,76,73],[72,76,84],[78,79,80],[73,78],[79,85,84],[74,77,80],[74,77,80,83],[67,65,76,76],[82,69,84],[],[],[],[],[],[],[74,66],[74,78,66],[74,90],[74,78,90],[],[],[74,83],[74,78,83],[74,80],[74,78,80]]
def argsR:List (List UInt8):=[[],[65,76],[67,76],[68,76],[66,76],[65,72],[67,72],[68,72],[66,72],[65,88],[67,88],[68,88],[66,88],[83,80],[66,80],[83,73],[68,73],[91,66,88,93],[91,83,73,93],[91,110,110,93],[110,110]]
def ofL (ws:List (List UInt8)) (f c:Int):List UInt8:=if c < f ∨ (ws.length:Int) ≤ c - f then [] else ws.getD (c - f).toNat []
def idxL:List (List UInt8) → List UInt8 → Nat → Int
 | [],_,_=>-1
 | z :: zs,x,i=>if z=x then i else idxL zs x (i + 1)
def codeL (ws:List (List UInt8)) (f:Int) (s:List UInt8):Int × Bool:=if idxL ws s 0 < 0 ∨ s = [] then (0,false) else (f + idxL ws s 0,true)
def nameL (op:Int):List UInt8:=ofL plainW 1 op ++ ofL equalW 42 op ++ ofL signW 48 op
def opL (s:List UInt8):Int × Bool:=if (codeL plainW 1 s).2 then codeL plainW 1 s else if (codeL equalW 42 s).2 then codeL equalW 42 s else if (codeL signW 48 s).2 then codeL signW 48 s else (0,false)
def argL (c:Int):List UInt8:=ofL argsW 1 c
def acodeL (s:List UInt8):Int × Bool:=codeL argsW 1 s
theorem ofL_lo (ws:List (List UInt8)) (f c:Int) (h:c < f):ofL ws f c = []:=by unfold ofL;rw [if_pos (.inl h)]
theorem ofL_hi (ws:List (List UInt8)) (f c:Int) (h:(ws.length:Int) + f ≤ c):ofL ws f c = []:=by unfold ofL;rw [if_pos (.inr (by omega))]
theorem range_of (c:Int) (n:Nat):c < 0 ∨ (n:Int) ≤ c ∨ ∃ k:Fin n,c=(k.val:Int):=by
 by_cases h:c < 0
 ·exact .inl h
 ·by_cases h':(n:Int) ≤ c
  ·exact .inr (.inl h')
  ·exact .inr (.inr ⟨⟨c.toNat,by omega⟩,by simp;omega⟩)
theorem name_out (op:Int) (h:op < 0 ∨ 52 ≤ op):nameL op = []:=by
 unfold nameL
 rcases h with h | h
 ·rw [ofL_lo _ _ _ (by omega),ofL_lo _ _ _ (by omega),ofL_lo _ _ _ (by omega)];rfl
 ·rw [ofL_hi _ _ _ (by simp [plainW];omega),ofL_hi _ _ _ (by simp [equalW];omega),ofL_hi _ _ _ (by simp [signW];omega)];rfl
theorem arg_out (c:Int) (h:c < 0 ∨ 21 ≤ c):argL c = []:=by
 unfold argL
 rcases h with h | h
 ·rw [ofL_lo _ _ _ (by omega)]
 ·rw [ofL_hi _ _ _ (by simp [argsW];omega)]
theorem name_fin:∀ k:Fin 52,nameL (k.val:Int)=ofL namesR 0 (k.val:Int)∧(nameL (k.val:Int) = [] ∨ opL (nameL (k.val:Int))=((k.val:Int),true)):=by decide +kernel
theorem arg_fin:∀ k:Fin 21,argL (k.val:Int)=ofL argsR 0 (k.val:Int)∧(argL (k.val:Int) = [] ∨ acodeL (argL (k.val:Int))=((k.val:Int),true)):=by decide +kernel
theorem name_ref (op:Int):ofL namesR 0 op=nameL op:=by
 rcases range_of op 52 with h | h | ⟨k,rfl⟩
 ·rw [name_out op (.inl h),ofL_lo _ _ _ h]
 ·rw [name_out op (.inr h),ofL_hi _ _ _ (by simp [namesR];omega)]
 ·exact (name_fin k).1.symm
theorem arg_ref (c:Int):ofL argsR 0 c=argL c:=by
 rcases range_of c 21 with h | h | ⟨k,rfl⟩
 ·rw [arg_out c (.inl h),ofL_lo _ _ _ h]
 ·rw [arg_out c (.inr h),ofL_hi _ _ _ (by simp [argsR];omega)]
 ·exact (arg_fin k).1.symm
end Go.Proofs.YtagplldaooipmaaGreatDoor

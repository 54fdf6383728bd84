/- Ka. -/
import Derived.WalkKit
import Derived.WalkSpells
import Derived.WalkLawsBesides
import Derived.Laws.IdiomStrings
import Derived.Lib.Hide
import Derived.RegionTactic
import Derived.Deep.RegionLaw
import Derived.Deep.RegionHeld3
import Derived.Deep.DrawnRows
import Derived.Lib.Replace
import Derived.Test.YtbdnbfacalfciaaGreatDoorRows
import Derived.Test.YtbdnbfacalfciaaGreatDoorShelf
import Derived.Deep.QuietTactic
import Derived.BigQuiet
import Derived.StillTailTactics
import Derived.Lib.SmallJoins
import Derived.Maps.AppendAt
import Derived.Deep.AppendLies
import Derived.OwnWalk
import Derived.Lib.SlBytesConst
namespace Go.Proofs.YtbdnbfacalfciaaGreatDoor
set_option maxHeartbeats 4000000
open Go.RowKit
theorem LH {p : Prop} (h : p) : Go.RowKit.Hid p := Go.Lib.hid h
def bv (c:UInt8):Value:=.int .u8 (c.toNat:Int)
def byteOf (c:Int):UInt8:=UInt8.ofNat c.toNat
theorem bcell {W w1:World} (hb:Below W.heap.size W w1):(∀ b o,b<W.heap.size->w1.cell? ⟨b,o,none⟩=W.cell? ⟨b,o,none⟩)/\(∀ b o,b<W.heap.size->w1.frozen? ⟨b,o,none⟩=W.frozen? ⟨b,o,none⟩):=
 ⟨fun b o h=>hb.cell (p:=⟨b,o,none⟩) h,fun b o h=>hb.frozen (p:=⟨b,o,none⟩) h⟩
theorem conv_back {P:Program} (w:World) (src dst e:TypeId) (b off cap n:Nat) (l:List UInt8) (hs:P.underlying src=some (.slice e)) (he:P.underlying e=some (.int .u8)) (hd:P.underlying dst=some .string)
  (hn:l.length=n) (hc:∀ j (hj:j<l.length),w.cell? ⟨b,off+j,none⟩=some (bv l[j])) :
  (convert src dst (.slice (some ⟨b,off,none⟩) n cap)).run P w=.ok (.string ⟨l.toArray⟩) w:=by
 subst hn
 refine run_convert_bytes_back w src dst e _ cap l hs he hd fun j hj=>?_
 have hplain:(⟨b,off,none⟩:Addr).add j=⟨b,off+j,none⟩:=by unfold Addr.add;split <;> simp_all
 rw [hplain,hc j hj];rfl
theorem ba_extract (l:List UInt8) (a b:Nat):(⟨l.toArray⟩:ByteArray).extract a b=⟨((l.take b).drop a).toArray⟩:=by
 apply ByteArray.ext
 simp [ByteArray.extract,ByteArray.copySlice,List.drop_take]
theorem ba_get (l:List UInt8) (i:Nat) (h:i<(⟨l.toArray⟩:ByteArray).size):(⟨l.toArray⟩:ByteArray)[i]'h=l[i]'(by simpa [ByteArray.size] using h):=rfl
theorem ba_append (a b:List UInt8):(⟨a.toArray⟩:ByteArray)++(⟨b.toArray⟩:ByteArray)=⟨(a++b).toArray⟩:=by
 apply ByteArray.ext
 simp [ByteArray.data_append]
attribute [go_sem] ba_extract ba_get ba_append
theorem heap_set {w:World} {g i:Nat} {cs:Array Value} {t:TypeId} {fr:Nat × Nat} (u:Value) (h:w.heap[g]? = some (.cells cs t fr)) :
  (w.setCell ⟨g,i,none⟩ u).heap[g]? = some (.cells (cs.setIfInBounds i u) t fr):=by
 simp [World.setCell,Array.getElem?_modify,h]
theorem coh {w:World} {g i:Nat} {cs:Array Value} {t:TypeId} {fr:Nat × Nat} (h:w.heap[g]? = some (.cells cs t fr)):w.cell? ⟨g,i,none⟩=cs[i]?:=cell_of_row w g i cs t fr h
theorem foh {w:World} {g i lo hi:Nat} {cs:Array Value} {t:TypeId} (h:w.heap[g]? = some (.cells cs t (lo,hi))):w.frozen? ⟨g,i,none⟩=(decide (lo<=i) && decide (i<hi)):=by
 unfold World.frozen?;rw [h]
theorem loh {w:World} {g:Nat} {o:Obj} (h:w.heap[g]? = some o):g<w.heap.size:=(Array.getElem?_eq_some_iff.1 h).1
theorem only_drew {a w:World} {row:Option Nat} (h:a.grownBy w row):a.grownBy w.drew row:=⟨h.os,h.tape,h.output,h.size,h.block⟩
theorem only_alloc {a w:World} {row:Option Nat} (h:a.grownBy w row) (o:Obj):a.grownBy (w.alloc o) row:=
 ⟨h.os,h.tape,h.output,Nat.le_trans h.size (by simp),fun i hi hne=>(Below.heap_alloc w o i (Nat.lt_of_lt_of_le hi h.size)).trans (h.block i hi hne)⟩
theorem only_setCell {a w:World} {g:Nat} (h:a.grownBy w (some g)) {p:Addr} (hp:p.block=g∨a.heap.size<=p.block) (u:Value):a.grownBy (w.setCell p u) (some g):=
 ⟨h.os,h.tape,h.output,by simpa [World.setCell] using h.size,fun i hi hne=>(Below.heap_setCell w p u i (by
  rintro rfl
  rcases hp with hp | hp
  ·exact hne (by rw [hp])
  ·omega)).trans (h.block i hi hne)⟩
theorem below_of_own {w0 w w':World} {base:Nat} {e:TypeId} {size n:Nat} {v:Value} {xs:List Value} (hown:w.ownsRow base e size v n xs) (hb:Below base w0 w) (hg:w.grownBy w' v.ownBlock) (hbase:base<=w.heap.size):Below base w0 w':=
 hb.grown hg hbase (fun g h=>(hown.lt g h).1)
theorem cells_new (w:World) (cs:List Value) (t:TypeId):∀ j u,cs[j]? = some u->(w.alloc (.cells cs.toArray t)).cell? ((⟨w.heap.size,0,none⟩:Addr).add j)=some u:=by
 intro j u hu
 have hadd:(⟨w.heap.size,0,none⟩:Addr).add j=⟨w.heap.size,j,none⟩:=by unfold Addr.add;split <;> simp_all
 rw [hadd,coh (heap_alloc_new w _)]
 simpa using hu
theorem wpList_append_one {P:Program} {ops:Array Oper} {rest:List Oper} {o:Oper} {a:Act} {Q:Exit->Act->World->Prop} (wr:World) (hgd:o.guard=none) (s x:Operand) (t:TypeId)
  (ho:o.op=.call { callee:=.builtin .append,args:=#[s,x],argTypes:=#[t,t] })
  (base:Nat) (e:TypeId) (z:Value) (size bytes:Nat) (ht:P.underlying t=some (.slice e)) (hinfo:(P.info? e).map (fun i=>(i.zero,i.size,i.bytes))=some (some z,size,bytes)) (hzs:z.cells.size=size) (hsz:0<size)
  (v:Value) (n:Nat) (xs:List Value) (hs:a.eval s=v) (hown:wr.ownsRow base e size v n xs)
  (cs:List Value) (e':TypeId) (hx:a.eval x=.slice (some ⟨wr.heap.size,0,none⟩) 1 1) (hl:cs.length=size) (h1:∀ u∈cs,u.oneCell'=true)
  (hn:n<=1000000000) (hby:bytes<=1000) (hbase:base<=wr.heap.size)
  (h:∀ v' w',w'.ownsRow base e size v' (n+1) (xs++cs)->Below base wr w'->wpList P ops Q rest (a.put o.dst v') w'):wpList P ops Q (o :: rest) a (wr.alloc (.cells cs.toArray e')):=by
 obtain ⟨i,hi,hz0,hz1,hz2⟩:=info_parts hinfo
 have hmul:(n+1) * bytes<=1000000001 * 1000:=Nat.mul_le_mul (by omega) hby
 refine wpList_append_own _ hgd s x t ho base e i z size bytes ht hi hz0 hz1 hz2 hzs hsz v n xs hs (hown.alloc _) ⟨wr.heap.size,0,none⟩ 1 1 cs hx (by omega) (cells_new _ _ _) h1 (by unfold maxLen;omega) (by omega) (by simp;omega) ?_
 intro v' w' h2 h3 _
 exact h v' w' h2 (below_of_own (hown.alloc _) ((Below.refl _ _).alloc hbase _) h3 (by simp;omega))
theorem own_block {w:World} {base:Nat} {e:TypeId} {v:Value} {n:Nat} {xs:List UInt8} (h:w.ownsRow base e 1 v n (xs.map bv)) (hn:0<n) :
  ∃ g cap pad,v=.slice (some ⟨g,0,none⟩) n cap/\base<=g/\w.heap[g]? = some (.cells (xs.map bv++pad).toArray e (0,0))/\n<=cap:=by
 rcases h.2 with ⟨_,rfl⟩ | ⟨g,cap,cur,rfl,hb,hg,hc,_,_,ht⟩
 ·omega
 ·refine ⟨g,cap,cur.toList.drop (n * 1),rfl,hb,?_,hc⟩
  rw [← ht,List.take_append_drop];simpa using hg
theorem conv_block {P:Program} (w:World) (src dst e:TypeId) (g cap n:Nat) (l:List UInt8) (pad:List Value) (fr:Nat × Nat) (hs:P.underlying src=some (.slice e)) (he:P.underlying e=some (.int .u8)) (hd:P.underlying dst=some .string)
  (hn:l.length=n) (hg:w.heap[g]? = some (.cells (l.map bv++pad).toArray e fr)) :
  (convert src dst (.slice (some ⟨g,0,none⟩) n cap)).run P w=.ok (.string ⟨l.toArray⟩) w:=by
 refine conv_back w src dst e g 0 cap n l hs he hd hn fun j hj=>?_
 rw [Nat.zero_add,coh hg]
 simp [List.getElem?_append,hj]
theorem bthen {w w1 w2:World} (h1:Below w.heap.size w w1) (h2:Below w1.heap.size w1 w2):Below w.heap.size w w2:=h1.trans (h2.mono h1.size)
theorem only_of_below {a w:World} (h:Below a.heap.size a w) (row:Option Nat):a.grownBy w row:=⟨h.os,h.tape,h.output,h.size,fun i hi _=>h.block i hi⟩
theorem below_dn {B:Nat} {a w:World} (h:Below B a w) (n:Nat):Below B a (w.drewN n):=h.trans ⟨rfl,rfl,rfl,Nat.le_refl _,fun _ _=>rfl⟩
theorem ret_int {k:IntKind} {a b:Int} (h:a=b):Ending.returned (.int k a)=.returned (.int k b):=by rw [h]
theorem ret_bool {a b:Bool} (h:a=b):Ending.returned (.bool a)=.returned (.bool b):=by rw [h]
theorem ret_str {a b:List UInt8} (h:a=b):Ending.returned (.string ⟨a.toArray⟩)=.returned (.string ⟨b.toArray⟩):=by rw [h]
theorem ret_2int {k k':IntKind} {a b c d:Int} (h:a=b) (h':c=d):Ending.returned (.tuple #[.int k a,.int k' c])=.returned (.tuple #[.int k b,.int k' d]):=by rw [h,h']
theorem wpList_append_at {P:Program} {ops:Array Oper} {rest:List Oper} {o:Oper} {a:Act} {Q:Exit->Act->World->Prop} (wr:World) (H:Nat) (hH:wr.heap.size=H) (hgd:o.guard=none) (s x:Operand) (t:TypeId)
  (ho:o.op=.call { callee:=.builtin .append,args:=#[s,x],argTypes:=#[t,t] })
  (base:Nat) (e:TypeId) (z:Value) (size bytes:Nat) (ht:P.underlying t=some (.slice e)) (hinfo:(P.info? e).map (fun i=>(i.zero,i.size,i.bytes))=some (some z,size,bytes)) (hzs:z.cells.size=size) (hsz:0<size)
  {v:Value} {n:Nat} {xs:List Value} (hown:wr.ownsRow base e size v n xs) (hs:a.eval s=v)
  (cs:List Value) (e':TypeId) (hx:a.eval x=.slice (some ⟨H,0,none⟩) 1 1) (hl:cs.length=size) (h1:∀ u∈cs,u.oneCell'=true)
  (hn:n<=1000000000) (hby:bytes<=1000) (hbase:base<=wr.heap.size)
  (h:∀ v' w',w'.ownsRow base e size v' (n+1) (xs++cs)->Below base wr w'->wpList P ops Q rest (a.put o.dst v') w'):wpList P ops Q (o :: rest) a (wr.alloc (.cells cs.toArray e')):=by
 subst hH
 exact wpList_append_one wr hgd s x t ho base e z size bytes ht hinfo hzs hsz v n xs hs hown cs e' hx hl h1 hn hby hbase h
theorem step_append_at {P:Program} {ops:Array Oper} {o:Oper} {a:Act} {K:Act->World->Prop} {Q:Exit->Act->World->Prop} {E:Prop} (w:World) (hgd:o.guard=none) (s x:Operand) (t:TypeId)
  (ho:o.op=.call { callee:=.builtin .append,args:=#[s,x],argTypes:=#[t,t] })
  (base:Nat) (e:TypeId) (z:Value) (size bytes:Nat) (ht:P.underlying t=some (.slice e)) (hinfo:(P.info? e).map (fun i=>(i.zero,i.size,i.bytes))=some (some z,size,bytes)) (hzs:z.cells.size=size) (hsz:0<size)
  {v:Value} {n:Nat} {xs:List Value} (hown:w.ownsRow base e size v n xs) (hs:a.eval s=v)
  (ad:Addr) (cs:List Value) (hx:a.eval x=.slice (some ad) 1 1) (hl:cs.length=size) (hnews:∀ j u,cs[j]? = some u->w.cell? (ad.add j)=some u) (h1:∀ u∈cs,u.oneCell'=true)
  (hn:n<=1000000000) (hby:bytes<=1000) (hbase:base<=w.heap.size)
  (h:∀ v' w',w'.ownsRow base e size v' (n+1) (xs++cs)->Below base w w'->w.grownBy w' v.ownBlock->K (a.put o.dst v') w') :
  if Region.wanted o (yielded ops a.tmps)=true then Oper.wp P o a w K Q else E:=by
 have hw:Region.wanted o (yielded ops a.tmps)=true:=by simp [Region.wanted,hgd]
 rw [if_pos hw]
 obtain ⟨i,hi,hz0,hz1,hz2⟩:=info_parts hinfo
 have hmul:(n+1) * bytes<=1000000001 * 1000:=Nat.mul_le_mul (by omega) hby
 refine wp_append_own w s x t ho base e i z size bytes ht hi hz0 hz1 hz2 hzs hsz v n xs hs hown ad 1 1 cs hx (by omega) hnews h1 (by unfold maxLen;omega) (by omega) hbase ?_
 intro v' w' h2 h3 _
 exact h v' w' h2 (below_of_own hown (Below.refl _ _) h3 hbase) h3
def upB (c:UInt8):UInt8:=if 97<=c.toNat/\c.toNat<=122 then c - 32 else c
def upper (l:List UInt8):List UInt8:=l.map upB
def digV (c:UInt8):Nat:=if 48<=c.toNat/\c.toNat<=57 then c.toNat - 48 else if 65<=c.toNat/\c.toNat<=70 then c.toNat - 55 else 99
def baseN (c:UInt8):Nat:=bif (c.toNat:Int) == 72 then 16 else bif (c.toNat:Int) == 79 then 8 else bif (c.toNat:Int) == 81 then 8 else bif (c.toNat:Int) == 66 then 2 else 10
def baseC (c:UInt8):Bool:=(c.toNat:Int) == 72 || (c.toNat:Int) == 79 || (c.toNat:Int) == 81 || (c.toNat:Int) == 66 || (c.toNat:Int) == 68
def baseD (l:List UInt8):List UInt8:=if baseC (l.getLastD 0) then l.dropLast else l
def parseStep (b:Nat) (n:Option Nat) (c:UInt8):Option Nat:=n.bind fun n=>if digV c<b then some (min (n * b+digV c) 65536) else none
def parseL (b:Nat) (l:List UInt8):Option Nat:=l.foldl (parseStep b) (some 0)
def parseEnd:Option Nat->Nat × Nat
 | none=>(0,2)
 | some n=>if 65535<n then (0,5) else (n,0)
def parse (l:List UInt8):Nat × Nat:=
 let t:=upper l
 if t = []∨(t.headD 0).toNat<48∨57<(t.headD 0).toNat then (0,2) else parseEnd (parseL (baseN (t.getLastD 0)) (baseD t))
def hexD (d:Nat):UInt8:=UInt8.ofNat (if d<10 then 48+d else 55+d)
def hexR:Nat->Nat->List UInt8
 | 0,_=>[]
 | f+1,n=>if n=0 then [] else hexD (n % 16) :: hexR f (n / 16)
def showN (n:Nat):List UInt8:=
 if n<10 then [UInt8.ofNat (48+n)] else (let x:=72 :: hexR 5 n;if 57<(x.getLastD 0).toNat then x++[48] else x).reverse
def alphaB (c:UInt8):Bool:=decide (97<=c.toNat) && decide (c.toNat<=122) || decide (65<=c.toNat) && decide (c.toNat<=90)
def letB (c:UInt8):Bool:=alphaB c || c.toNat == 63 || c.toNat == 64 || c.toNat == 95
def numB (c:UInt8):Bool:=decide (48<=c.toNat) && decide (c.toNat<=57)
def nameB (l:List UInt8):Bool:=decide (1<=l.length) && decide (l.length<=16) && letB (l.headD 0) && l.all fun c=>letB c || numB c
theorem parseL_snoc (b:Nat) (l:List UInt8) (c:UInt8):parseL b (l++[c])=parseStep b (parseL b l) c:=by simp [parseL]
theorem foldl_none (b:Nat) (l:List UInt8):l.foldl (parseStep b) none=none:=by
 induction l with
 | nil=>rfl
 | cons c r ih=>simpa [parseStep] using ih
theorem parseL_none (b:Nat) (a r:List UInt8) (h:parseL b a=none):parseL b (a++r)=none:=by
 unfold parseL at *;rw [List.foldl_append,h];exact foldl_none b r
theorem snoc_ind {α:Type} {p:List α->Prop} (h0:p []) (h1:∀ a c,p a->p (a++[c])) (l:List α):p l:=by
 have:∀ m:List α,p m.reverse:=by
  intro m
  induction m with
  | nil=>exact h0
  | cons c r ih=>rw [List.reverse_cons];exact h1 _ _ ih
 simpa using this l.reverse
theorem parseL_le (b:Nat) (l:List UInt8):∀ (n:Nat),parseL b l=some n->n<=65536:=by
 refine snoc_ind (p:=fun l=>∀ n,parseL b l=some n->n<=65536) ?_ ?_ l
 ·intro n h;simp [parseL] at h;omega
 ·intro a c ih n h
  rw [parseL_snoc] at h
  cases hp:parseL b a with
  | none=>simp [parseStep,hp] at h
  | some m=>
   simp only [parseStep,hp,Option.bind_some] at h
   split at h
   ·simp at h;omega
   ·cases h
theorem parse_le (l:List UInt8):(parse l).1<=65535/\(parse l).2<=5:=by
 unfold parse
 simp only
 split
 ·simp
 ·unfold parseEnd
  split
  ·simp
  ·split <;> simp;omega
theorem baseN_cases (c:UInt8):baseN c=16∨baseN c=8∨baseN c=2∨baseN c=10:=by
 unfold baseN
 cases (c.toNat:Int) == 72 <;> cases (c.toNat:Int) == 79 <;> cases (c.toNat:Int) == 81 <;> cases (c.toNat:Int) == 66 <;> simp
theorem last_get (l:List UInt8) (h:1<=l.length):l.getLastD 0=l[l.length - 1]'(by omega):=by
 rw [List.getLastD_eq_getLast?,List.getLast?_eq_getElem?,List.getElem?_eq_getElem (by omega)];rfl
theorem hexR_zero (f:Nat):hexR f 0 = []:=by cases f <;> rfl
theorem hexR_length (f n:Nat):(hexR f n).length<=f:=by
 induction f generalizing n with
 | zero=>simp [hexR]
 | succ f ih=>
  unfold hexR
  split
  ·simp
  ·have:=ih (n / 16);simp;omega
theorem hexR_step {f m:Nat} {xs full:List UInt8} (h0:0<m) (hm:m<16 ^ f) (hx:xs++hexR f m=full):∃ f',m / 16<16 ^ f'/\(xs++[hexD (m % 16)])++hexR f' (m / 16)=full:=by
 cases f with
 | zero=>simp at hm;omega
 | succ f=>
  refine ⟨f,?_,?_⟩
  ·rw [Nat.pow_succ] at hm;omega
  ·rw [← hx,hexR,if_neg (by omega),List.append_assoc];rfl
theorem hexD_big (d:Nat) (h:9<d) (h':d<16):UInt8.ofNat (65+d - 10)=hexD d/\57<(hexD d).toNat:=by
 unfold hexD;rw [if_neg (by omega),show 65+d - 10=55+d by omega]
 refine ⟨rfl,?_⟩
 rw [UInt8.toNat_ofNat'];omega
theorem hexD_small (d:Nat) (h:¬ 9<d):UInt8.ofNat (48+d)=hexD d/\¬ 57<(hexD d).toNat:=by
 unfold hexD;rw [if_pos (by omega)]
 refine ⟨rfl,?_⟩
 rw [UInt8.toNat_ofNat'];omega
theorem upper_length (l:List UInt8):(upper l).length=l.length:=by simp [upper]
def dbl:List UInt8->List UInt8
 | []=>[]
 | c :: r=>if c=39 then 39 :: 39 :: dbl r else c :: dbl r
def hal:List UInt8->List UInt8
 | []=>[]
 | [c]=>[c]
 | c :: d :: r=>if c=39/\d=39 then 39 :: hal r else c :: hal (d :: r)
def quoteL (l:List UInt8):List UInt8:=39 :: (dbl l++[39])
def oddB (c:UInt8):Bool:=decide (c.toNat<32) || decide (126<c.toNat)
def unq:List UInt8->Option (List UInt8)
 | []=>some []
 | [c]=>if oddB c then none else if c=39 then none else some [c]
 | c :: d :: r=>if oddB c then none else if c=39 then (if d=39 then (unq r).map (39 :: ·) else none) else (unq (d :: r)).map (c :: ·)
def unqEnd:Option (List UInt8)->List UInt8 × Nat
 | none=>([],2)
 | some x=>(x,0)
def inner (l:List UInt8):List UInt8:=(l.take (l.length - 1)).drop 1
def unquote (l:List UInt8):List UInt8 × Nat:=
 if l.length<2∨l.headD 0≠39∨l.getLastD 0≠39 then ([],2) else unqEnd (unq (inner l))
def valueL:List UInt8->Nat × Nat
 | [c]=>(c.toNat,0)
 | [c,d]=>(c.toNat * 256+d.toNat,0)
 | _=>(0,5)
theorem index_cons_no (b:UInt8) (l sub:List UInt8) (h:sub.isPrefixOf (b :: l)=false):Lib.index (b :: l) sub=if Lib.index l sub = -1 then -1 else Lib.index l sub+1:=by
 rw [Lib.index,h];simp
theorem index_cons_yes (b:UInt8) (l sub:List UInt8) (h:sub.isPrefixOf (b :: l)=true):Lib.index (b :: l) sub=0:=by
 rw [Lib.index,h];rfl
def repl (old new:List UInt8) (s:List UInt8):List UInt8:=Lib.replaceK old new (Lib.count s old) s
theorem repl_nil (old new:List UInt8) (ho:old≠[]):repl old new [] = []:=by
 have h:Lib.index [] old = -1:=by cases old with | nil=>simp at ho | cons c r=>rfl
 unfold repl
 rw [Lib.count_miss h];rfl
theorem repl_no (old new:List UInt8) (b:UInt8) (l:List UInt8) (ho:old≠[]) (h:old.isPrefixOf (b :: l)=false):repl old new (b :: l)=b :: repl old new l:=by
 have hi:=index_cons_no b l old h
 unfold repl
 rcases Lib.index_spec l old with ⟨h1,_⟩ | ⟨i,h1,_⟩
 ·rw [h1,if_pos rfl] at hi
  rw [Lib.count_miss hi,Lib.count_miss h1];rfl
 ·rw [h1,if_neg (by omega)] at hi
  have hi':Lib.index (b :: l) old=((i+1:Nat):Int):=by rw [hi];omega
  rw [Lib.count_hit ho hi',Lib.count_hit ho h1,Nat.add_comm 1,Lib.replaceK_hit old new _ _ _ hi',Nat.add_comm 1,Lib.replaceK_hit old new _ _ _ h1]
  have e:(b :: l).drop (i+1+old.length)=l.drop (i+old.length):=by rw [show i+1+old.length=(i+old.length)+1 by omega];rfl
  rw [e];rfl
theorem repl_yes (old new:List UInt8) (s:List UInt8) (ho:old≠[]):repl old new (old++s)=new++repl old new s:=by
 have hi:Lib.index (old++s) old=((0:Nat):Int):=by
  cases old with
  | nil=>simp at ho
  | cons c r=>rw [List.cons_append];exact index_cons_yes _ _ _ (by rw [← List.cons_append];simp [List.isPrefixOf_iff_prefix])
 unfold repl
 rw [Lib.count_hit ho hi,Nat.add_comm 1,Lib.replaceK_hit old new _ _ _ hi]
 simp
theorem replaceAll_eq (s old new:List UInt8) (h:old≠new):Lib.replaceAll s old new=repl old new s:=by
 unfold Lib.replaceAll Lib.replace repl Lib.replaceNum
 rw [if_neg (by simpa using h),if_pos (.inl (by decide))]
theorem repl_dbl (s:List UInt8):repl [39] [39,39] s=dbl s:=by
 induction s with
 | nil=>exact repl_nil _ _ (by simp)
 | cons c r ih=>
  unfold dbl
  by_cases hc:c=39
  ·subst hc
   rw [if_pos rfl,← ih]
   exact repl_yes [39] [39,39] r (by simp)
  ·rw [if_neg hc,← ih]
   exact repl_no _ _ _ _ (by simp) (by simp [List.isPrefixOf,Ne.symm hc])
theorem repl_hal (n:Nat):∀ s:List UInt8,s.length<=n->repl [39,39] [39] s=hal s:=by
 induction n with
 | zero=>
  intro s h
  obtain rfl:s = []:=List.eq_nil_of_length_eq_zero (by omega)
  exact repl_nil _ _ (by simp)
 | succ n ih=>
  intro s h
  match s,h with
  | [],_=>exact repl_nil _ _ (by simp)
  | [c],_=>
   rw [repl_no _ _ _ _ (by simp) (by simp [List.isPrefixOf]),repl_nil _ _ (by simp)];rfl
  | c :: d :: r,h=>
   rw [hal]
   by_cases hc:c=39/\d=39
   ·obtain ⟨rfl,rfl⟩:=hc
    rw [if_pos ⟨rfl,rfl⟩,← ih r (by simp at h;omega)]
    exact repl_yes [39,39] [39] r (by simp)
   ·rw [if_neg hc,← ih (d :: r) (by simp at h ⊢;omega)]
    refine repl_no _ _ _ _ (by simp) ?_
    by_cases h1:c=39
    ·have h2:¬ d=39:=fun e=>hc ⟨h1,e⟩
     simp [List.isPrefixOf,Ne.symm h2]
    ·simp [List.isPrefixOf,Ne.symm h1]
theorem replaceAll_dbl (s:List UInt8):Lib.replaceAll s [39] [39,39]=dbl s:=by rw [replaceAll_eq _ _ _ (by decide),repl_dbl]
theorem replaceAll_hal (s:List UInt8):Lib.replaceAll s [39,39] [39]=hal s:=by rw [replaceAll_eq _ _ _ (by decide),repl_hal _ s (Nat.le_refl _)]
theorem dbl_length (s:List UInt8):s.length<=(dbl s).length/\(dbl s).length<=2 * s.length:=by
 induction s with
 | nil=>simp [dbl]
 | cons c r ih=>unfold dbl;split <;> simp <;> omega
theorem hal_length:∀ (n:Nat) (s:List UInt8),s.length<=n->(hal s).length<=s.length:=by
 intro n
 induction n with
 | zero=>intro s h;obtain rfl:s = []:=List.eq_nil_of_length_eq_zero (by omega);simp [hal]
 | succ n ih=>
  intro s h
  match s,h with
  | [],_=>simp [hal]
  | [c],_=>simp [hal]
  | c :: d :: r,h=>
   rw [hal];split
   ·have:=ih r (by simp at h;omega);simp;omega
   ·have:=ih (d :: r) (by simp at h ⊢;omega);simp at this ⊢;omega
theorem unq_iff (n:Nat):∀ s:List UInt8,s.length<=n->unq s=if (s.any oddB=true)∨dbl (hal s)≠s then none else some (hal s):=by
 induction n with
 | zero=>
  intro s h
  obtain rfl:s = []:=List.eq_nil_of_length_eq_zero (by omega)
  simp [unq,hal,dbl]
 | succ n ih=>
  intro s h
  match s,h with
  | [],_=>simp [unq,hal,dbl]
  | [c],_=>
   unfold unq hal dbl
   by_cases ho:oddB c=true
   ·simp [ho]
   ·by_cases hc:c=39 <;> simp [ho,hc,dbl]
  | c :: d :: r,h=>
   by_cases ho:oddB c=true
   ·have hu:unq (c :: d :: r)=none:=by rw [unq,if_pos ho]
    rw [hu,if_pos (.inl (by simp [ho]))]
   by_cases hc:c=39
   ·by_cases hd:d=39
    ·subst hc;subst hd
     have o39:oddB 39=false:=by decide
     have hu:unq (39 :: 39 :: r)=(unq r).map (39 :: ·):=by rw [unq,if_neg ho,if_pos rfl,if_pos rfl]
     have hh:hal (39 :: 39 :: r)=39 :: hal r:=by rw [hal,if_pos ⟨rfl,rfl⟩]
     have e:dbl (39 :: hal r)=39 :: 39 :: dbl (hal r):=by rw [dbl,if_pos rfl]
     rw [hu,hh,e,ih r (by simp at h;omega)]
     simp only [List.any_cons,o39,Bool.false_or,ne_eq,List.cons.injEq,true_and]
     by_cases hp:r.any oddB=true ∨ ¬ dbl (hal r)=r
     ·rw [if_pos hp,if_pos hp];rfl
     ·rw [if_neg hp,if_neg hp];rfl
    ·subst hc
     have hu:unq (39 :: d :: r)=none:=by rw [unq,if_neg ho,if_pos rfl,if_neg hd]
     have hh:hal (39 :: d :: r)=39 :: hal (d :: r):=by rw [hal,if_neg (fun h=>hd h.2)]
     rw [hu,hh,if_pos]
     right
     rw [dbl,if_pos rfl]
     intro e
     injection e with _ e
     injection e with e _
     exact hd e.symm
   ·have ho':oddB c=false:=by simpa using ho
    have hu:unq (c :: d :: r)=(unq (d :: r)).map (c :: ·):=by rw [unq,if_neg ho,if_neg hc]
    have hh:hal (c :: d :: r)=c :: hal (d :: r):=by rw [hal,if_neg (fun h=>hc h.1)]
    have e:dbl (c :: hal (d :: r))=c :: dbl (hal (d :: r)):=by rw [dbl,if_neg hc]
    rw [hu,hh,e,ih (d :: r) (by simp at h ⊢;omega)]
    simp only [List.any_cons (a:=c),ho',Bool.false_or,ne_eq,List.cons.injEq,true_and]
    by_cases hp:(d :: r).any oddB=true ∨ ¬ dbl (hal (d :: r))=d :: r
    ·rw [if_pos hp,if_pos hp];rfl
    ·rw [if_neg hp,if_neg hp];rfl
theorem unq_eq (s:List UInt8):unq s=if (s.any oddB=true)∨dbl (hal s)≠s then none else some (hal s):=unq_iff _ s (Nat.le_refl _)
theorem hal_dbl (s:List UInt8):hal (dbl s)=s:=by
 induction s with
 | nil=>rfl
 | cons c r ih=>
  unfold dbl
  by_cases hc:c=39
  ·rw [if_pos hc,hal,if_pos ⟨rfl,rfl⟩,ih,hc]
  ·rw [if_neg hc]
   cases h:dbl r with
   | nil=>
    rw [h] at ih
    rw [hal];congr 1
   | cons d t=>rw [hal,if_neg (fun h=>hc h.1),← h,ih]
theorem dbl_any (s:List UInt8):(dbl s).any oddB=s.any oddB:=by
 induction s with
 | nil=>rfl
 | cons c r ih=>
  unfold dbl
  split
  ·rename_i h;subst h
   simp only [List.any_cons,ih,show oddB 39=false by decide,Bool.false_or]
  ·simp only [List.any_cons,ih]
theorem quote_back (s:List UInt8):unquote (quoteL s)=if s.any oddB then ([],2) else (s,0):=by
 have hi:inner (quoteL s)=dbl s:=by
  unfold inner quoteL
  simp
 unfold unquote
 have hl:(quoteL s).getLastD 0=39:=by unfold quoteL;rw [← List.cons_append,List.getLastD_concat]
 rw [if_neg (by rw [hl];unfold quoteL;simp),hi,unq_eq,dbl_any,hal_dbl]
 by_cases h:s.any oddB=true
 ·rw [if_pos (.inl h),if_pos h];rfl
 ·rw [if_neg (by simp [h]),if_neg h];rfl
abbrev Tok:=Int × List UInt8 × Nat
def tok0:Tok:=(0,[],0)
def tailB (c:UInt8):Bool:=letB c || numB c
def alnumB (c:UInt8):Bool:=alphaB c || numB c
def marks:List UInt8:=[44,40,41,91,93,43,45,42,47,58,36]
def markB (c:UInt8):Bool:=marks.contains c
def spanL (p:UInt8->Bool):List UInt8->Nat
 | []=>0
 | c :: r=>if p c then spanL p r+1 else 0
def qlen:List UInt8->Nat->Nat
 | [],_=>0
 | [c],n=>if c=39 then n+1 else 0
 | c :: d :: r,n=>if c=39 then (if d=39 then qlen r (n+2) else n+1) else qlen (d :: r) (n+1)
def quotedL (s:List UInt8):Nat:=qlen (s.drop 1) 1
def firstT (s:List UInt8):Tok × Nat × Nat:=
 let c:=s.headD 0
 if letB c then (if 16<spanL tailB s then (tok0,0,11) else ((1,upper (s.take (spanL tailB s)),0),spanL tailB s,0))
 else if numB c then ((2,[],(parse (s.take (spanL alnumB s))).1),spanL alnumB s,(parse (s.take (spanL alnumB s))).2)
 else if c=39 then (if quotedL s=0 then (tok0,0,2) else ((3,(unquote (s.take (quotedL s))).1,0),quotedL s,(unquote (s.take (quotedL s))).2))
 else if markB c then ((4,[c],0),1,0)
 else (tok0,0,2)
def lineF:Nat->List UInt8->List Tok->List Tok × Nat
 | 0,_,acc=>(acc,0)
 | _+1,[],acc=>(acc,0)
 | f+1,c :: r,acc=>
  if c=32∨c=9 then lineF f r acc
  else if c=59 then (acc,0)
  else if (firstT (c :: r)).2.2=0 then lineF f ((c :: r).drop (firstT (c :: r)).2.1) (acc++[(firstT (c :: r)).1])
  else ([],(firstT (c :: r)).2.2)
def lineL (s:List UInt8):List Tok × Nat:=if 200<s.length then ([],11) else lineF (s.length+1) s []
theorem spanL_le (p:UInt8->Bool) (s:List UInt8):spanL p s<=s.length:=by
 induction s with
 | nil=>simp [spanL]
 | cons c r ih=>unfold spanL;split <;> simp;omega
theorem spanL_pos (p:UInt8->Bool) (s:List UInt8) (h:s≠[]) (hc:p (s.headD 0)=true):1<=spanL p s:=by
 cases s with
 | nil=>simp at h
 | cons c r=>unfold spanL;rw [if_pos (by simpa using hc)];omega
theorem spanL_stop (p:UInt8->Bool) (s:List UInt8) (k:Nat) (hk:k<s.length) (h:∀ j (hj:j<s.length),j<k->p s[j]=true) (hn:p s[k]=false):spanL p s=k:=by
 induction s generalizing k with
 | nil=>simp at hk
 | cons c r ih=>
  unfold spanL
  cases k with
  | zero=>rw [if_neg (by have:p c=false:=hn;simp [this])]
  | succ k=>
   rw [if_pos (show p c=true from h 0 (by simp) (by omega)),ih k (by simpa using hk) (fun j hj hjk=>h (j+1) (by simpa using hj) (by omega)) hn]
theorem spanL_all (p:UInt8->Bool) (s:List UInt8) (h:∀ j (hj:j<s.length),p s[j]=true):spanL p s=s.length:=by
 induction s with
 | nil=>rfl
 | cons c r ih=>
  unfold spanL
  rw [if_pos (show p c=true from h 0 (by simp)),ih (fun j hj=>h (j+1) (by simpa using hj))];simp
theorem qlen_le (n:Nat):∀ (s:List UInt8) (k:Nat),s.length<=n->qlen s k=0∨(k+1<=qlen s k/\qlen s k<=k+s.length):=by
 induction n with
 | zero=>intro s k h;obtain rfl:s = []:=List.eq_nil_of_length_eq_zero (by omega);left;rfl
 | succ n ih=>
  intro s k h
  match s,h with
  | [],_=>left;rfl
  | [c],_=>unfold qlen;split <;> simp
  | c :: d :: r,h=>
   unfold qlen
   split
   ·split
    ·rcases ih r (k+2) (by simp at h;omega) with h1 | h1
     ·exact .inl h1
     ·right;simp;omega
    ·right;simp
   ·rcases ih (d :: r) (k+1) (by simp at h ⊢;omega) with h1 | h1
    ·exact .inl h1
    ·right;simp at h1 ⊢;omega
theorem quotedL_le (s:List UInt8) (h:s≠[]):quotedL s=0∨(2<=quotedL s/\quotedL s<=s.length):=by
 unfold quotedL
 have hl:1<=s.length:=by cases s with | nil=>simp at h | cons c r=>simp
 rcases qlen_le _ (s.drop 1) 1 (Nat.le_refl _) with h1 | h1
 ·exact .inl h1
 ·right;rw [List.length_drop] at h1;omega
theorem firstT_len (s:List UInt8) (h:s≠[]) (hk:(firstT s).2.2=0):1<=(firstT s).2.1/\(firstT s).2.1<=s.length:=by
 unfold firstT at hk ⊢
 have h1:=spanL_le tailB s
 have h2:=spanL_le alnumB s
 have h3:=quotedL_le s h
 have h0:1<=s.length:=by cases s with | nil=>simp at h | cons c r=>simp
 simp only at hk ⊢
 split
 ·rename_i hl
  rw [if_pos hl] at hk
  split
  ·rename_i h16;rw [if_pos h16] at hk;simp at hk
  ·exact ⟨spanL_pos tailB s h (by unfold tailB;rw [hl];rfl),h1⟩
 ·rename_i hl
  rw [if_neg hl] at hk
  split
  ·rename_i hn
   exact ⟨spanL_pos alnumB s h (by unfold alnumB;rw [hn,Bool.or_true]),h2⟩
  ·rename_i hn
   rw [if_neg hn] at hk
   split
   ·rename_i hq
    rw [if_pos hq] at hk
    split
    ·rename_i hz;rw [if_pos hz] at hk;simp at hk
    ·rename_i hz;show 1<=quotedL s/\quotedL s<=s.length;omega
   ·rename_i hq
    rw [if_neg hq] at hk
    split
    ·exact ⟨Nat.le_refl _,h0⟩
    ·rename_i hm;rw [if_neg hm] at hk;simp at hk
theorem digV_hexD (d:Nat) (h:d<16):digV (hexD d)=d:=by
 have:∀ d:Fin 16,digV (hexD d.val)=d.val:=by decide +kernel
 exact this ⟨d,h⟩
theorem upB_hexD (d:Nat) (h:d<16):upB (hexD d)=hexD d:=by
 have:∀ d:Fin 16,upB (hexD d.val)=hexD d.val:=by decide +kernel
 exact this ⟨d,h⟩
theorem hexD_ge (d:Nat) (h:d<16):48<=(hexD d).toNat:=by
 have:∀ d:Fin 16,48<=(hexD d.val).toNat:=by decide +kernel
 exact this ⟨d,h⟩
theorem hexD_ten (d:Nat) (h:d<10):(hexD d).toNat<=57:=by
 have:∀ d:Fin 10,(hexD d.val).toNat<=57:=by decide +kernel
 exact this ⟨d,h⟩
theorem hexD_zero (d:Nat) (h:d<16) (h0:(hexD d).toNat=48):d=0:=by
 have:∀ d:Fin 16,(hexD d.val).toNat=48->d.val=0:=by decide +kernel
 exact this ⟨d,h⟩ h0
theorem parseStep_hexD (b n d:Nat) (hb:b<=16) (hd:d<b):parseStep b (some n) (hexD d)=some (min (n * b+d) 65536):=by
 unfold parseStep
 rw [Option.bind_some,digV_hexD d (by omega),if_pos hd]
theorem parse_hexR (f n:Nat) (hn:n<=65535) (hf:n<16 ^ f):parseL 16 (hexR f n).reverse=some n:=by
 induction f generalizing n with
 | zero=>simp at hf;subst hf;rfl
 | succ f ih=>
  unfold hexR
  split
  ·rename_i h;subst h;rfl
  ·rw [List.reverse_cons,parseL_snoc,ih (n / 16) (by omega) (by rw [Nat.pow_succ] at hf;omega),parseStep_hexD 16 _ _ (by omega) (by omega)]
   congr 1;omega
theorem parseL_cons0 (b:Nat) (l:List UInt8) (hb:0<b):parseL b (48 :: l)=parseL b l:=by
 unfold parseL
 rw [List.foldl_cons]
 have:parseStep b (some 0) 48=some 0:=by
  unfold parseStep
  have:digV 48=0:=by decide
  simp [this,hb]
 rw [this]
theorem upper_reverse (l:List UInt8):upper l.reverse=(upper l).reverse:=by simp [upper]
theorem upper_append (a b:List UInt8):upper (a++b)=upper a++upper b:=by simp [upper]
theorem upper_hexR (f n:Nat):upper (hexR f n)=hexR f n:=by
 induction f generalizing n with
 | zero=>rfl
 | succ f ih=>
  unfold hexR
  split
  ·rfl
  ·show upB _ :: upper _=_
   rw [upB_hexD _ (by omega),ih]
theorem parse_letter (l s:List UInt8) (c:UInt8) (h:upper l=s++[c]) (hc:baseC c=true) (h1:s≠[]) (h2:48<=(s.headD 0).toNat) (h3:(s.headD 0).toNat<=57) :
  parse l=parseEnd (parseL (baseN c) s):=by
 unfold parse
 have hh:(s++[c]).headD 0=s.headD 0:=by cases s with | nil=>simp at h1 | cons a r=>rfl
 simp only [h]
 rw [if_neg (by rw [hh,not_or,not_or];exact ⟨by simp,by omega,by omega⟩)]
 unfold baseD
 simp [hc]
theorem parseEnd_le (n:Nat) (h:n<=65535):parseEnd (some n)=(n,0):=by
 show (if 65535<n then (0,5) else (n,0))=_;rw [if_neg (by omega)]
theorem hexR_last (f n:Nat) (h0:0<n) (hf:n<16 ^ f):∃ d a,0<d/\d<16/\hexR f n=a++[hexD d]:=by
 induction f generalizing n with
 | zero=>simp at hf;omega
 | succ f ih=>
  unfold hexR
  rw [if_neg (by omega)]
  by_cases h:n / 16=0
  ·refine ⟨n % 16,[],by omega,by omega,?_⟩
   rw [h,hexR_zero];rfl
  ·obtain ⟨d,a,h1,h2,h3⟩:=ih (n / 16) (by omega) (by rw [Nat.pow_succ] at hf;omega)
   exact ⟨d,hexD (n % 16) :: a,h1,h2,by rw [h3];rfl⟩
theorem hexR_short (f n k:Nat) (h:n<16 ^ k):(hexR f n).length<=k:=by
 induction f generalizing n k with
 | zero=>simp [hexR]
 | succ f ih=>
  unfold hexR
  split
  ·simp
  ·cases k with
   | zero=>simp at h;omega
   | succ k=>
    have:=ih (n / 16) k (by rw [Nat.pow_succ] at h;omega)
    simp;omega
theorem showN_forms (n:Nat) (h10:¬ n<10) (hn:n<=65535):∃ d a,0<d/\d<16/\(hexR 5 n).reverse=hexD d :: a/\a.length<=3 /\
  ((9<d/\showN n=48 :: hexD d :: (a++[72]))∨(d<=9/\showN n=hexD d :: (a++[72]))):=by
 obtain ⟨d,a,h1,h2,h3⟩:=hexR_last 5 n (by omega) (by omega)
 have hl:=hexR_short 5 n 4 (by omega)
 refine ⟨d,a.reverse,h1,h2,by rw [h3];simp,by rw [h3] at hl;simp at hl ⊢;omega,?_⟩
 unfold showN
 rw [if_neg h10,h3]
 have hlast:(72 :: (a++[hexD d])).getLastD 0=hexD d:=by rw [← List.cons_append,List.getLastD_concat]
 simp only [hlast]
 by_cases h9:9<d
 ·left
  refine ⟨h9,?_⟩
  rw [if_pos (hexD_big d h9 h2).2]
  simp
 ·right
  refine ⟨by omega,?_⟩
  rw [if_neg (hexD_small d h9).2]
  simp
theorem foldl_top (l:List UInt8) (n:Nat) (h:l.foldl (parseStep 16) (some 65536)=some n):n=65536:=by
 induction l generalizing n with
 | nil=>simp at h;omega
 | cons c r ih=>
  rw [List.foldl_cons] at h
  by_cases hd:digV c<16
  ·have:parseStep 16 (some 65536) c=some 65536:=by
    unfold parseStep;rw [Option.bind_some,if_pos hd];congr 1;omega
   rw [this] at h;exact ih n h
  ·have:parseStep 16 (some 65536) c=none:=by
    unfold parseStep;rw [Option.bind_some,if_neg hd]
   rw [this,foldl_none] at h;cases h
theorem foldl_lt (l:List UInt8) (a b n:Nat) (hab:a<b) (h:l.foldl (parseStep 16) (some b)=some n) (hn:n<=65535):∃ m,l.foldl (parseStep 16) (some a)=some m/\m<n:=by
 induction l generalizing a b with
 | nil=>simp at h;exact ⟨a,rfl,by omega⟩
 | cons c r ih=>
  rw [List.foldl_cons] at h ⊢
  by_cases hd:digV c<16
  ·have ha:parseStep 16 (some a) c=some (min (a * 16+digV c) 65536):=by unfold parseStep;rw [Option.bind_some,if_pos hd]
   have hb:parseStep 16 (some b) c=some (min (b * 16+digV c) 65536):=by unfold parseStep;rw [Option.bind_some,if_pos hd]
   rw [hb] at h
   rw [ha]
   by_cases ht:b * 16+digV c<65536
   ·exact ih _ _ (by omega) h
   ·rw [show min (b * 16+digV c) 65536=65536 by omega] at h
    have:=foldl_top r n h
    omega
  ·have:parseStep 16 (some b) c=none:=by unfold parseStep;rw [Option.bind_some,if_neg hd]
   rw [this,foldl_none] at h;cases h
theorem show_short (n:Nat) (h10:¬ n<10) (hn:n<=65535):∃ c r,showN n=c :: r/\r.length<=5/\48<=c.toNat/\c.toNat<=57 /\
  ((c.toNat=48/\(parse r).2=2)∨(c.toNat≠48/\(parse (48 :: r)).1≠n)):=by
 obtain ⟨d,a,h1,h2,h3,h4,h5⟩:=showN_forms n h10 hn
 have hp:=parse_hexR 5 n hn (by omega)
 rw [h3] at hp
 have hu:upper (hexD d :: a)=hexD d :: a:=by rw [← h3,upper_reverse,upper_hexR]
 have hua:upper a=a:=by simpa [upper,upB_hexD d h2] using hu
 rcases h5 with ⟨h9,h5⟩ | ⟨h9,h5⟩
 ·refine ⟨48,hexD d :: (a++[72]),h5,by simp;omega,by decide,by decide,.inl ⟨by decide,?_⟩⟩
  unfold parse
  have:upper (hexD d :: (a++[72]))=hexD d :: (a++[72]):=by
   show upB (hexD d) :: upper (a++[72])=_
   rw [upB_hexD d h2,upper_append,hua];rfl
  simp only [this]
  rw [if_pos (.inr (.inr (hexD_big d h9 h2).2))]
 ·refine ⟨hexD d,a++[72],h5,by simp;omega,hexD_ge d h2,hexD_ten d (by omega),.inr ⟨fun h=>by have:=hexD_zero d h2 h;omega,?_⟩⟩
  rw [parse_letter _ (48 :: a) 72 (by
   show upB 48 :: upper (a++[72])=_
   rw [upper_append,hua];rfl) (by decide) (by simp) (by simp) (by simp)]
  rw [show baseN 72=16 by decide,parseL_cons0 _ _ (by omega)]
  have hst:parseStep 16 (some 0) (hexD d)=some d:=by rw [parseStep_hexD 16 0 d (by omega) h2];congr 1;omega
  have hp':a.foldl (parseStep 16) (some d)=some n:=by
   have:=hp;unfold parseL at this;rw [List.foldl_cons,hst] at this;exact this
  obtain ⟨m,hm1,hm2⟩:=foldl_lt a 0 d n h1 hp' hn
  unfold parseL
  rw [hm1,parseEnd_le m (by omega)]
  simp;omega
theorem begin_bits:∀ n:Fin 256,(decide (97<=bits .or .u8 (n.val:Int) 32) && decide (bits .or .u8 (n.val:Int) 32<=122))=(decide (97<=n.val) && decide (n.val<=122) || decide (65<=n.val) && decide (n.val<=90)):=by decide +kernel
theorem begins_any (c:UInt8) (w:World) :
  Calls Tryz.prog 189 #[.int .u8 (c.toNat:Int)] w fun e w'=>e=.returned (.bool (alphaB c))/\w=w':=by
 have hl:Hid (alphaB c=(decide (97<=bits .or .u8 (c.toNat:Int) 32) && decide (bits .or .u8 (c.toNat:Int) 32<=122))):=LH (begin_bits ⟨c.toNat,c.toNat_lt⟩).symm
 generalize alphaB c=lc at *
 go_enter Tryz.func189, Tryz.ntmps189
 go_wp2
 all_goals
  go_ret
  refine ⟨?_,rfl⟩
  rw [hl.out]
  apply ret_bool
  rw [Bool.eq_iff_iff]
  simp <;> omega
theorem tletter_any (c:UInt8) (w:World) :
  Calls Tryz.prog 165 #[.int .u8 (c.toNat:Int)] w fun e w'=>e=.returned (.bool (alphaB c))/\w=w':=by
 have h0:=c.toNat_lt
 have hl:Hid (alphaB c=(decide (97<=c.toNat) && decide (c.toNat<=122) || decide (65<=c.toNat) && decide (c.toNat<=90))):=LH rfl
 generalize alphaB c=lc at *
 generalize c.toNat=n at *
 go_enter Tryz.func165, Tryz.ntmps165
 go_wp2
 all_goals
  go_ret
  refine ⟨?_,rfl⟩
  rw [hl.out]
  apply ret_bool
  rw [Bool.eq_iff_iff]
  simp <;> omega
theorem tdigit_any (c:UInt8) (w:World) :
  Calls Tryz.prog 163 #[.int .u8 (c.toNat:Int)] w fun e w'=>e=.returned (.bool (numB c))/\w=w':=by
 have h0:=c.toNat_lt
 have hl:Hid (numB c=(decide (48<=c.toNat) && decide (c.toNat<=57))):=LH rfl
 generalize numB c=lc at *
 generalize c.toNat=n at *
 go_enter Tryz.func163, Tryz.ntmps163
 go_wp2
 all_goals
  go_ret
  refine ⟨?_,rfl⟩
  rw [hl.out]
  apply ret_bool
  rw [Bool.eq_iff_iff]
  simp <;> omega
theorem tbegin_any (c:UInt8) (w:World) :
  Calls Tryz.prog 160 #[.int .u8 (c.toNat:Int)] w fun e w'=>e=.returned (.bool (letB c))/\w=w':=by
 have h0:=c.toNat_lt
 have hl:Hid (letB c=(alphaB c || c.toNat == 63 || c.toNat == 64 || c.toNat == 95)):=LH rfl
 generalize letB c=lc at *
 go_enter Tryz.func160, Tryz.ntmps160
 go_wp2_with fail
 refine (tletter_any c _).mono ?_
 rintro e w' ⟨rfl,rfl⟩
 generalize alphaB c=b at *
 generalize c.toNat=n at *
 cases b
 all_goals
  go_wp2_with fail
  all_goals
   go_ret
   refine ⟨?_,rfl⟩
   rw [hl.out]
   apply ret_bool
   rw [Bool.eq_iff_iff]
   simp <;> omega
theorem isTail_any (c:UInt8) (w:World) :
  Calls Tryz.prog 162 #[.int .u8 (c.toNat:Int)] w fun e w'=>e=.returned (.bool (tailB c))/\w=w':=by
 have hl:Hid (tailB c=(letB c || numB c)):=LH rfl
 generalize tailB c=lc at *
 go_enter Tryz.func162, Tryz.ntmps162
 go_wp2_with fail
 refine (tbegin_any c _).mono ?_
 rintro e w' ⟨rfl,rfl⟩
 cases h:letB c
 ·rw [h,Bool.false_or] at hl
  clear h
  go_wp2_with fail
  refine (tdigit_any c _).mono ?_
  rintro e w' ⟨rfl,rfl⟩
  go_wp2_with fail
  go_ret
  rw [hl.out]
  exact ⟨rfl,rfl⟩
 ·rw [h,Bool.true_or] at hl
  clear h
  go_wp2_with fail
  go_ret
  rw [hl.out]
  exact ⟨rfl,rfl⟩
theorem isAlnum_any (c:UInt8) (w:World) :
  Calls Tryz.prog 164 #[.int .u8 (c.toNat:Int)] w fun e w'=>e=.returned (.bool (alnumB c))/\w=w':=by
 have hl:Hid (alnumB c=(alphaB c || numB c)):=LH rfl
 generalize alnumB c=lc at *
 go_enter Tryz.func164, Tryz.ntmps164
 go_wp2_with fail
 refine (tletter_any c _).mono ?_
 rintro e w' ⟨rfl,rfl⟩
 cases h:alphaB c
 ·rw [h,Bool.false_or] at hl
  clear h
  go_wp2_with fail
  refine (tdigit_any c _).mono ?_
  rintro e w' ⟨rfl,rfl⟩
  go_wp2_with fail
  go_ret
  rw [hl.out]
  exact ⟨rfl,rfl⟩
 ·rw [h,Bool.true_or] at hl
  clear h
  go_wp2_with fail
  go_ret
  rw [hl.out]
  exact ⟨rfl,rfl⟩
def GW (w:World):Prop:=∃ m:Int,w.cell? ⟨0,0,none⟩=some (.int .i64 m)
theorem GW.below {w w':World} (h:GW w) (hb:Below w.heap.size w w'):GW w':=by
 obtain ⟨m,hm⟩:=h
 exact ⟨m,(hb.cell (World.block_lt_of_cell? w _ hm)).trans hm⟩
theorem countB_le' (s:List UInt8) (old:List UInt8) (h:1<=old.length):Lib.countB ⟨s.toArray⟩ ⟨old.toArray⟩<=s.length:=by
 have:=Lib.countB_le ⟨old.toArray⟩ (by simpa [ByteArray.size] using h) s.length ⟨s.toArray⟩ (by simp [ByteArray.size])
 simpa [ByteArray.size] using this
theorem replace_dbl (s:List UInt8) (w:World) (hg:GW w) (hl:s.length<=1000000) :
  Calls Tryz.prog 147 #[.string ⟨s.toArray⟩,.string ⟨#[39]⟩,.string ⟨#[39,39]⟩] w fun e w'=>e=.returned (.string ⟨(dbl s).toArray⟩)/\Below w.heap.size w w':=by
 obtain ⟨m,hm⟩:=hg
 have hc:=countB_le' s [39] (by simp)
 refine (Tryz.strings_ReplaceAll ⟨s.toArray⟩ ⟨#[39]⟩ ⟨#[39,39]⟩ m w (by simp [ByteArray.size];omega) hm (by simp [ByteArray.size]) (by simp [ByteArray.size];omega)).mono ?_
 rintro e w' ⟨rfl,hb⟩
 refine ⟨?_,hb⟩
 rw [← replaceAll_dbl s]
theorem replace_hal (s:List UInt8) (w:World) (hg:GW w) (hl:s.length<=1000000) :
  Calls Tryz.prog 147 #[.string ⟨s.toArray⟩,.string ⟨#[39,39]⟩,.string ⟨#[39]⟩] w fun e w'=>e=.returned (.string ⟨(hal s).toArray⟩)/\Below w.heap.size w w':=by
 obtain ⟨m,hm⟩:=hg
 have hc:=countB_le' s [39,39] (by simp)
 refine (Tryz.strings_ReplaceAll ⟨s.toArray⟩ ⟨#[39,39]⟩ ⟨#[39]⟩ m w (by simp [ByteArray.size];omega) hm (by simp [ByteArray.size]) (by simp [ByteArray.size];omega)).mono ?_
 rintro e w' ⟨rfl,hb⟩
 refine ⟨?_,hb⟩
 rw [← replaceAll_hal s]
theorem quote_any (l:List UInt8) (w:World) (hg:GW w) (hl:l.length<=1000000) :
  Calls Tryz.prog 103 #[.string ⟨l.toArray⟩] w fun e w'=>e=.returned (.string ⟨(quoteL l).toArray⟩)/\Below w.heap.size w w':=by
 have hd:=(dbl_length l).2
 go_enter Tryz.func103, Tryz.ntmps103
 go_wp2_with fail
 refine (replace_dbl l _ hg hl).mono ?_
 rintro e w1 ⟨rfl,hb⟩
 go_wp2_with fail
 go_ret
 exact ⟨rfl,hb⟩
theorem cutP (s:List UInt8):Lib.trimPrefix s [39]=if s.headD 0=39 then s.drop 1 else s:=by
 cases s with
 | nil=>rfl
 | cons c r=>
  by_cases h:c=39
  ·simp [Lib.trimPrefix,Lib.hasPrefix,List.isPrefixOf,h]
  ·simp [Lib.trimPrefix,Lib.hasPrefix,List.isPrefixOf,h,Ne.symm h]
theorem hasP (s:List UInt8):Lib.hasPrefix s [39]=decide (s.headD 0=39):=by
 cases s with
 | nil=>rfl
 | cons c r=>
  by_cases h:c=39
  ·simp [Lib.hasPrefix,List.isPrefixOf,h]
  ·simp [Lib.hasPrefix,List.isPrefixOf,h,Ne.symm h]
theorem hasS (s:List UInt8):Lib.hasSuffix s [39]=decide (s.getLastD 0=39):=by
 unfold Lib.hasSuffix
 rw [Bool.eq_iff_iff,List.isSuffixOf_iff_suffix,decide_eq_true_eq]
 constructor
 ·rintro ⟨t,rfl⟩;simp
 ·intro h
  rcases List.eq_nil_or_concat s with rfl | ⟨a,c,rfl⟩
  ·simp at h
  ·rw [List.concat_eq_append,List.getLastD_concat] at h
   exact ⟨a,by rw [h,List.concat_eq_append]⟩
theorem cutS (s:List UInt8):Lib.trimSuffix s [39]=if s.getLastD 0=39 then s.take (s.length - 1) else s:=by
 unfold Lib.trimSuffix
 rw [hasS];simp
def cut1 (s:List UInt8):List UInt8:=if s.headD 0=39 then s.drop 1 else s
def cut2 (s:List UInt8):List UInt8:=if (cut1 s).getLastD 0=39 then (cut1 s).take ((cut1 s).length - 1) else cut1 s
theorem unquote_no (s:List UInt8) (h:¬ (s.headD 0=39/\(cut1 s).getLastD 0=39)):unquote s=([],2):=by
 unfold unquote
 rw [if_pos]
 by_cases h1:s.headD 0=39
 ·by_cases hl:s.length<2
  ·exact .inl hl
  ·right;right
   intro h2
   refine h ⟨h1,?_⟩
   unfold cut1
   rw [if_pos h1]
   match s,hl with
   | c :: d :: r,_=>simpa using h2
 ·exact .inr (.inl h1)
theorem unquote_yes (s:List UInt8) (h1:s.headD 0=39) (h2:(cut1 s).getLastD 0=39):unquote s=unqEnd (unq (cut2 s)):=by
 have e1:cut1 s=s.drop 1:=by unfold cut1;rw [if_pos h1]
 match s with
 | []=>simp at h1
 | [c]=>rw [e1] at h2;simp at h2
 | c :: d :: r=>
  have e2:cut2 (c :: d :: r)=inner (c :: d :: r):=by
   unfold cut2 inner
   rw [if_pos h2,e1]
   simp
  unfold unquote
  rw [if_neg,e2]
  rw [not_or,not_or]
  rw [e1] at h2
  exact ⟨by simp,by simpa using h1,by simpa using h2⟩
theorem any_take_step (s:List UInt8) (k w:Nat) (hk:k<s.length) (hw:1<=w) (h:w=1∨oddB s[k]=true):(s.take (k+w)).any oddB=((s.take k).any oddB || oddB s[k]):=by
 have e1:s.take (k+1)=s.take k++[s[k]]:=List.take_succ_eq_append_getElem hk
 rcases h with rfl | h
 ·rw [e1,List.any_append];simp
 ·rw [h,Bool.or_true,List.any_eq_true]
  refine ⟨s[k],?_,h⟩
  have:s.take (k+1) <+: s.take (k+w):=List.take_prefix_take_left (by omega)
  exact this.subset (e1 ▸ List.mem_append_right _ (List.mem_singleton.2 rfl))
theorem decode_odd (t2:List UInt8) (pos:Nat) (hlt:pos<t2.length):∃ r wd:Nat,Utf8.decode ⟨t2.toArray⟩ pos=(r,wd)/\1<=wd/\(t2.take (pos+wd)).any oddB=((t2.take pos).any oddB || (decide ((r:Int)<32) || decide ((126:Int)<(r:Int)))):=by
 have hsz:pos<(ByteArray.mk t2.toArray).size:=by simpa [ByteArray.size] using hlt
 by_cases ha:t2[pos].toNat<128
 ·refine ⟨t2[pos].toNat,1,decode_ascii _ _ hsz ha,Nat.le_refl _,?_⟩
  rw [any_take_step t2 pos 1 hlt (Nat.le_refl _) (.inl rfl)]
  congr 1
  unfold oddB
  rw [Bool.eq_iff_iff];simp;omega
 ·obtain ⟨h1,h2⟩:=decode_high ⟨t2.toArray⟩ pos hsz (by show 128<=t2[pos].toNat;omega)
  have ho:oddB t2[pos]=true:=by unfold oddB;simp;omega
  generalize Utf8.decode ⟨t2.toArray⟩ pos=d at *
  obtain ⟨r,wd⟩:=d
  refine ⟨r,wd,rfl,h2,?_⟩
  rw [any_take_step t2 pos wd hlt h2 (.inr ho),ho]
  congr 1
  symm
  have h1':128<=r:=h1
  rw [Bool.or_eq_true];right;rw [decide_eq_true_eq];omega
theorem unquote_any (l:List UInt8) (w:World) (hg:GW w) (hl:l.length<=1000000) :
  Calls Tryz.prog 144 #[.string ⟨l.toArray⟩] w fun e w'=>e=.returned (.tuple #[.string ⟨(unquote l).1.toArray⟩,.int .i64 (unquote l).2])/\Below w.heap.size w w':=by
 have HN:=LH (unquote_no l)
 have HY:=LH (unquote_yes l)
 have hl1:(cut1 l).length<=1000000:=by unfold cut1;split;(simp;omega);exact hl
 have hl2:(cut2 l).length<=1000000:=by unfold cut2;split;(simp;omega);exact hl1
 have e1:=LH (cutP l)
 have e2:=LH (hasP l)
 have e3:=LH (cutS (cut1 l))
 have e4:=LH (hasS (cut1 l))
 have e5:Hid (Lib.trimPrefix l [39]=cut1 l):=e1
 have e6:Hid (Lib.trimSuffix (cut1 l) [39]=cut2 l):=e3
 clear e1 e3
 generalize unquote l=ul at *
 go_enter Tryz.func144, Tryz.ntmps144
 go_wp2_with fail
 refine (Tryz.strings_CutPrefix ⟨l.toArray⟩ ⟨#[39]⟩ _).mono ?_
 rintro e w' ⟨rfl,rfl⟩
 rw [show (Lib.trimPrefix (ByteArray.mk l.toArray).data.toList (ByteArray.mk #[39]).data.toList)=cut1 l from e5.out,show (Lib.hasPrefix (ByteArray.mk l.toArray).data.toList (ByteArray.mk #[39]).data.toList)=_ from e2.out]
 generalize cut1 l=t1 at *
 generalize cut2 l=t2 at *
 generalize hp:decide (l.headD 0=39)=p
 have HP:=LH hp
 clear hp
 go_wp2_with fail
 refine (Tryz.strings_CutSuffix ⟨t1.toArray⟩ ⟨#[39]⟩ _ (by simp [ByteArray.size];omega)).mono ?_
 rintro e w' ⟨rfl,rfl⟩
 rw [show (Lib.trimSuffix (ByteArray.mk t1.toArray).data.toList (ByteArray.mk #[39]).data.toList)=t2 from e6.out,show (Lib.hasSuffix (ByteArray.mk t1.toArray).data.toList (ByteArray.mk #[39]).data.toList)=_ from e4.out]
 generalize hq:decide (t1.getLastD 0=39)=q
 have HQ:=LH hq
 clear hq
 go_wp2_with fail
 refine (replace_hal t2 _ hg hl2).mono ?_
 rintro e w1 ⟨rfl,hb1⟩
 have hg1:=hg.below hb1
 clear hg
 have HD:=LH (unq_eq t2)
 have hh:=hal_length _ t2 (Nat.le_refl _)
 go_wp2_with fail
 go_loopw [8] (fun o wr=>∃ pos:Nat,wr=w1.iter ⟨t2.toArray⟩ pos/\o=.bool ((t2.take pos).any oddB)) (fun _ wr=>t2.length - wr.iterPos w1.heap.size)
 case atStart=>exact ⟨0,rfl,rfl⟩
 case round=>
  obtain ⟨pos,rfl,rfl⟩:=hrel
  by_cases hlt:pos<t2.length
  ·have hnx:∀ ty,(Instr.next (.pointer (some ⟨w1.heap.size,0,none⟩)) true ty).run Tryz.prog (w1.iter ⟨t2.toArray⟩ pos)=_:=fun ty=>run_next_any w1 ⟨t2.toArray⟩ pos ty (by simpa [ByteArray.size] using hlt)
   have hdc:=decode_odd t2 pos hlt
   obtain ⟨r,wd,hr1,hr2,hr3⟩:=hdc
   rw [hr1] at hnx
   have HR:=LH hr3
   clear hr1 hr3
   generalize (List.take pos t2).any oddB=ob at *
   go_wp2_with fail
   all_goals
    go_roundw
    case rel=>exact ⟨pos+wd,rfl,by rw [HR.out];first | (simp [*];done) | (simp [*];omega)⟩
    case measure=>simp;omega
  ·have hnx:∀ ty,(Instr.next (.pointer (some ⟨w1.heap.size,0,none⟩)) true ty).run Tryz.prog (w1.iter ⟨t2.toArray⟩ pos)=_:=fun ty=>run_next_end w1 ⟨t2.toArray⟩ pos ty (by simpa [ByteArray.size] using hlt)
   have ht:t2.take pos=t2:=List.take_of_length_le (by omega)
   rw [ht]
   have HT:=LH ht
   clear ht
   have hbi:Below w1.heap.size w1 (w1.iter ⟨t2.toArray⟩ pos):=(Below.refl _ _).alloc (Nat.le_refl _) _
   have hgi:=hg1.below hbi
   have hbw:=bthen hb1 hbi
   cases p with
   | false=>
    have hf:Hid (ul=([],2)):=LH (HN.out (fun h=>of_decide_eq_false HP.out h.1))
    go_wp2_with fail
    go_ret2
    rw [hf.out]
    exact ⟨rfl,hbw⟩
   | true=>
    cases q with
    | false=>
     have hf:Hid (ul=([],2)):=LH (HN.out (fun h=>of_decide_eq_false HQ.out h.2))
     go_wp2_with fail
     go_ret2
     rw [hf.out]
     exact ⟨rfl,hbw⟩
    | true=>
     have HU:=LH (HY.out (of_decide_eq_true HP.out) (of_decide_eq_true HQ.out))
     cases ho:t2.any oddB with
     | true=>
      have hf:Hid (ul=([],2)):=by rw [HU.out,HD.out,if_pos (.inl ho)];exact LH rfl
      clear ho
      go_wp2_with fail
      go_ret2
      rw [hf.out]
      exact ⟨rfl,hbw⟩
     | false=>
      have HO:=LH ho
      clear ho
      go_wp2_with fail
      refine (replace_dbl (hal t2) _ hgi (by omega)).mono ?_
      rintro e w2 ⟨rfl,hb2⟩
      have hb3:=bthen hbw hb2
      clear hbw hb2 hgi hg1
      by_cases he:dbl (hal t2)=t2
      ·have hf:Hid (ul=(hal t2,0)):=by rw [HU.out,HD.out,if_neg (by simp [HO.out,he])];exact LH rfl
       rw [he]
       clear he
       go_wp2_with fail
       go_ret2
       rw [hf.out]
       exact ⟨rfl,hb3⟩
      ·have hf:Hid (ul=([],2)):=by rw [HU.out,HD.out,if_pos (.inr he)];exact LH rfl
       have hne:(dbl (hal t2) == t2)=false:=by simpa using he
       clear he
       go_wp2_with fail
       go_ret2
       rw [hf.out]
       exact ⟨rfl,hb3⟩
theorem span_tail (l:List UInt8) (w:World) (hl:l.length<=1000000) :
  Calls Tryz.prog 161 #[.string ⟨l.toArray⟩,.func (.func 162) #[] #[]] w fun e w'=>e=.returned (.int .i64 (spanL tailB l))/\w=w':=by
 have HS:=LH (spanL_stop tailB l)
 have HA:=LH (spanL_all tailB l)
 generalize spanL tailB l=sl at *
 go_enter Tryz.func161, Tryz.ntmps161
 go_wp2_with fail
 go_loop [8] (fun i=>∃ k:Nat,k<=l.length/\i=.int .i64 k/\∀ j (hj:j<l.length),j<k->tailB l[j]=true) (fun i=>l.length - (intOf i).toNat)
 case atStart=>exact ⟨0,Nat.zero_le _,rfl,fun j _ h=>absurd h (by omega)⟩
 case round=>
  obtain ⟨k,hk,rfl,hp⟩:=hrel
  have HP:=LH hp
  clear hp
  by_cases hlt:k<l.length
  ·go_wp2_with fail
   refine (isTail_any l[k] _).mono ?_
   rintro e w' ⟨rfl,rfl⟩
   cases h:tailB l[k]
   ·have hf:=LH (HS.out k hlt HP.out h)
    clear h
    go_wp2_with fail
    go_ret
    rw [hf.out]
    exact ⟨rfl,rfl⟩
   ·have H:=LH h
    clear h
    go_wp2_with fail
    go_round
    case rel=>exact ⟨k+1,by omega,by go_num,fun j hj hjk=>by
     rcases Nat.lt_or_eq_of_le (Nat.le_of_lt_succ hjk) with h | h
     ·exact HP.out j hj h
     ·subst h;exact H.out⟩
    case measure=>simp [intOf];omega
  ·obtain rfl:k=l.length:=by omega
   have hf:=LH (HA.out (fun j hj=>HP.out j hj hj))
   go_wp2_with fail
   go_ret
   rw [hf.out]
   exact ⟨rfl,rfl⟩
theorem span_alnum (l:List UInt8) (w:World) (hl:l.length<=1000000) :
  Calls Tryz.prog 161 #[.string ⟨l.toArray⟩,.func (.func 164) #[] #[]] w fun e w'=>e=.returned (.int .i64 (spanL alnumB l))/\w=w':=by
 have HS:=LH (spanL_stop alnumB l)
 have HA:=LH (spanL_all alnumB l)
 generalize spanL alnumB l=sl at *
 go_enter Tryz.func161, Tryz.ntmps161
 go_wp2_with fail
 go_loop [8] (fun i=>∃ k:Nat,k<=l.length/\i=.int .i64 k/\∀ j (hj:j<l.length),j<k->alnumB l[j]=true) (fun i=>l.length - (intOf i).toNat)
 case atStart=>exact ⟨0,Nat.zero_le _,rfl,fun j _ h=>absurd h (by omega)⟩
 case round=>
  obtain ⟨k,hk,rfl,hp⟩:=hrel
  have HP:=LH hp
  clear hp
  by_cases hlt:k<l.length
  ·go_wp2_with fail
   refine (isAlnum_any l[k] _).mono ?_
   rintro e w' ⟨rfl,rfl⟩
   cases h:alnumB l[k]
   ·have hf:=LH (HS.out k hlt HP.out h)
    clear h
    go_wp2_with fail
    go_ret
    rw [hf.out]
    exact ⟨rfl,rfl⟩
   ·have H:=LH h
    clear h
    go_wp2_with fail
    go_round
    case rel=>exact ⟨k+1,by omega,by go_num,fun j hj hjk=>by
     rcases Nat.lt_or_eq_of_le (Nat.le_of_lt_succ hjk) with h | h
     ·exact HP.out j hj h
     ·subst h;exact H.out⟩
    case measure=>simp [intOf];omega
  ·obtain rfl:k=l.length:=by omega
   have hf:=LH (HA.out (fun j hj=>HP.out j hj hj))
   go_wp2_with fail
   go_ret
   rw [hf.out]
   exact ⟨rfl,rfl⟩
theorem indexByte_spec (l:List UInt8) (c:UInt8):(Lib.indexByte l c = -1/\∀ d∈l,d≠c)∨(∃ i:Nat,Lib.indexByte l c=i/\∃ h:i<l.length,l[i]=c/\∀ j (hj:j<l.length),j<i->l[j]≠c):=by
 induction l with
 | nil=>left;exact ⟨rfl,fun d hd=>by simp at hd⟩
 | cons b r ih=>
  by_cases hb:b=c
  ·right
   refine ⟨0,by unfold Lib.indexByte;simp [hb],by simp,hb,fun j _ h=>absurd h (by omega)⟩
  ·have e:Lib.indexByte (b :: r) c=if Lib.indexByte r c == -1 then -1 else Lib.indexByte r c+1:=by
    rw [Lib.indexByte];simp [hb]
   rcases ih with ⟨h1,h2⟩ | ⟨i,h1,h2,h3,h4⟩
   ·left
    refine ⟨by rw [e,h1];rfl,fun d hd=>?_⟩
    rcases List.mem_cons.1 hd with rfl | hd
    ·exact hb
    ·exact h2 d hd
   ·right
    refine ⟨i+1,?_,by simp;exact h2,h3,fun j hj hji=>?_⟩
    ·rw [e,h1,if_neg (by rw [beq_iff_eq];omega)];omega
    ·cases j with
     | zero=>exact hb
     | succ j=>exact h4 j (by simpa using hj) (by omega)
theorem qlen_none (t:List UInt8) (n:Nat) (h:∀ d∈t,d≠39):qlen t n=0:=by
 induction t generalizing n with
 | nil=>rfl
 | cons c r ih=>
  cases r with
  | nil=>unfold qlen;rw [if_neg (h c (by simp))]
  | cons d r=>unfold qlen;rw [if_neg (h c (by simp))];exact ih (n+1) (fun x hx=>h x (by simp [hx]))
theorem qlen_skip (i:Nat):∀ (t:List UInt8) (n:Nat),i<t.length->(∀ j (hj:j<t.length),j<i->t[j]≠39)->qlen t n=qlen (t.drop i) (n+i):=by
 induction i with
 | zero=>intro t n _ _;rfl
 | succ i ih=>
  intro t n hi h
  match t,hi,h with
  | [c],hi,_=>simp at hi
  | c :: d :: r,hi,h=>
   have hc:c≠39:=h 0 (by simp) (by omega)
   rw [show qlen (c :: d :: r) n=qlen (d :: r) (n+1) by rw [qlen,if_neg hc],ih (d :: r) (n+1) (by simpa using hi) (fun j hj hji=>h (j+1) (by simpa using hj) (by omega))]
   rw [show n+1+i=n+(i+1) by omega];rfl
theorem qlen_at (t:List UInt8) (n:Nat) (h:t.headD 0=39):qlen t n=if (t.drop 1).headD 0=39 then qlen (t.drop 2) (n+2) else n+1:=by
 match t,h with
 | [c],h=>have:c=39:=h;subst this;rfl
 | c :: d :: r,h=>
  have:c=39:=h
  subst this
  rw [qlen,if_pos rfl];rfl
theorem quoted_any (l:List UInt8) (w:World) (hne:1<=l.length) (hl:l.length<=1000000) :
  Calls Tryz.prog 167 #[.string ⟨l.toArray⟩] w fun e w'=>e=.returned (.int .i64 (quotedL l))/\w=w':=by
 have HQ:Hid (quotedL l=qlen (l.drop 1) 1):=LH rfl
 generalize quotedL l=ql at *
 go_enter Tryz.func167, Tryz.ntmps167
 go_wp2_with fail
 go_loop [3] (fun a=>∃ k:Nat,1<=k/\k<=l.length/\a=.int .i64 k/\ql=qlen (l.drop k) k) (fun a=>l.length+1 - (intOf a).toNat)
 case atStart=>exact ⟨1,Nat.le_refl _,hne,rfl,HQ.out⟩
 case round=>
  obtain ⟨k,hk1,hk,rfl,hq⟩:=hrel
  have HK:=LH hq
  clear hq
  have hk':(k:Int)<=(l.length:Int):=by omega
  go_wp2_with fail
  refine (Tryz.strings_IndexByte ⟨(l.drop k).toArray⟩ 39 _).mono ?_
  rintro e w' ⟨rfl,rfl⟩
  rcases indexByte_spec (l.drop k) 39 with ⟨h1,h2⟩ | ⟨i,h1,h2,h3,h4⟩
  ·have hf:Hid (ql=0):=LH (by rw [HK.out,qlen_none _ _ h2])
   rw [show Lib.indexByte (ByteArray.mk (l.drop k).toArray).data.toList (39:Int).toNat.toUInt8 = -1 from h1]
   clear h1 h2
   go_wp2_with fail
   go_ret
   rw [hf.out]
   exact ⟨rfl,rfl⟩
  ·rw [show Lib.indexByte (ByteArray.mk (l.drop k).toArray).data.toList (39:Int).toNat.toUInt8=(i:Int) from h1]
   have hi:k+i<l.length:=by rw [List.length_drop] at h2;omega
   have hsk:=qlen_skip i (l.drop k) k h2 h4
   have hhd:((l.drop k).drop i).headD 0=39:=by rw [List.drop_eq_getElem_cons h2];exact h3
   rw [qlen_at _ _ hhd] at hsk
   simp only [List.drop_drop] at hsk
   have HS:=LH (HK.out.trans hsk)
   clear h1 h2 h3 h4 hsk hhd
   have hi':(k:Int)+((i:Int)+1)<=(l.length:Int):=by omega
   have hi0:(0:Int)<=(i:Int):=by omega
   go_wp2_with fail
   refine (Tryz.strings_HasPrefix ⟨(l.drop (k+(i+1))).toArray⟩ ⟨#[39]⟩ _).mono ?_
   rintro e w' ⟨rfl,rfl⟩
   rw [show Lib.hasPrefix (ByteArray.mk (l.drop (k+(i+1))).toArray).data.toList (ByteArray.mk #[39]).data.toList=_ from hasP (l.drop (k+(i+1)))]
   by_cases hh:(l.drop (k+(i+1))).headD 0=39
   ·have hn:k+i+2<=l.length:=by
     rcases Nat.lt_or_ge (k+(i+1)) l.length with h | h
     ·omega
     ·rw [List.drop_of_length_le h] at hh;simp at hh
    have hf:Hid (ql=qlen (l.drop (k+i+2)) (k+i+2)):=LH (by have:=HS.out;rw [if_pos (by rw [show k+i+1=k+(i+1) by omega];exact hh)] at this;exact this)
    rw [show decide ((l.drop (k+(i+1))).headD 0=39)=true by simpa using hh]
    clear hh
    go_wp2_with fail
    go_round
    case rel=>exact ⟨k+i+2,by omega,hn,by go_num,hf.out⟩
    case measure=>simp [intOf];omega
   ·have hf:Hid (ql=k+i+1):=LH (by have:=HS.out;rw [if_neg (by rw [show k+i+1=k+(i+1) by omega];exact hh)] at this;exact this)
    rw [show decide ((l.drop (k+(i+1))).headD 0=39)=false by simpa using hh]
    clear hh
    go_wp2_with fail
    go_ret
    rw [hf.out]
    exact ⟨ret_int (by omega),rfl⟩
def upRow (l:List UInt8) (pad:List Value) (k:Nat):Array Value:=(((l.take k).map upB++l.drop k).map bv++pad).toArray
theorem upRow_zero (l:List UInt8) (cap:Nat):bytesRow ⟨l.toArray⟩ cap=upRow l (List.replicate (cap - l.length) (.int .u8 0)) 0:=by
 simp [bytesRow,upRow,bv,ByteArray.size]
theorem upRow_size (l:List UInt8) (pad:List Value) (k:Nat):(upRow l pad k).size=l.length+pad.length:=by
 simp [upRow];omega
theorem upRow_at (l:List UInt8) (pad:List Value) (k:Nat) (hk:k<l.length):(upRow l pad k)[k]? = some (bv l[k]):=by
 have h1:min k l.length=k:=by omega
 have h2:0<l.length - k:=by omega
 simp [upRow,h1,List.getElem?_append,h2]
theorem upRow_end (l:List UInt8) (pad:List Value) (j:Nat) (hj:j<(upper l).length):(upRow l pad l.length)[j]? = some (bv (upper l)[j]):=by
 have hj':j<l.length:=by simpa [upper] using hj
 simp [upRow,upper,List.getElem?_append,hj']
theorem up_take (l:List UInt8) (k:Nat) (hk:k<l.length):(l.take (k+1)).map upB=(l.take k).map upB++[upB l[k]]:=by
 rw [List.take_succ_eq_append_getElem hk,List.map_append];rfl
theorem upRow_keep (l:List UInt8) (pad:List Value) (k:Nat) (hk:k<l.length) (h:upB l[k]=l[k]):upRow l pad (k+1)=upRow l pad k:=by
 unfold upRow;rw [up_take l k hk,List.drop_eq_getElem_cons hk,h,List.append_assoc];rfl
theorem set_mid (a b:List Value) (x y:Value) (pad:List Value) (k:Nat) (h:a.length=k):(a++x :: b++pad).toArray.setIfInBounds k y=(a++y :: b++pad).toArray:=by
 subst h;simp
theorem upRow_set (l:List UInt8) (pad:List Value) (k:Nat) (hk:k<l.length):(upRow l pad k).setIfInBounds k (bv (upB l[k]))=upRow l pad (k+1):=by
 unfold upRow
 rw [up_take l k hk,List.drop_eq_getElem_cons hk,List.append_assoc,List.map_append,List.map_cons,set_mid _ _ _ _ _ k (by simp;omega),List.map_append,List.map_append]
 rfl
theorem up_val (c:UInt8) (h:97<=c.toNat) (h':c.toNat<=122):Value.int .u8 ((c.toNat:Int) - 97+65)=bv (upB c):=by
 have:(upB c).toNat=c.toNat - 32:=by
  unfold upB;rw [if_pos ⟨h,h'⟩,UInt8.toNat_sub_of_le];rfl
  rw [UInt8.le_iff_toNat_le];show 32<=c.toNat;omega
 unfold bv;rw [this];congr 1;omega
theorem up_no (c:UInt8) (h:¬ (97<=c.toNat/\c.toNat<=122)):upB c=c:=by unfold upB;rw [if_neg h]
theorem upper_any (l:List UInt8) (w:World) (hl:l.length<=1000000) :
  Calls Tryz.prog 142 #[.string ⟨l.toArray⟩] w fun e w'=>e=.returned (.string ⟨(upper l).toArray⟩)/\Below w.heap.size w w':=by
 have hcv:=fun W=>run_bytes_of_string (P:=Tryz.prog) W 9 75 5 ⟨l.toArray⟩ Tryz.underlying9 Tryz.underlying75 Tryz.underlying5
 go_enter Tryz.func142, Tryz.ntmps142
 go_wp2
 clear hcv
 obtain ⟨pad,hpad⟩:∃ pad,bytesRow ⟨l.toArray⟩ (grownCap w l.length 0 5)=upRow l pad 0:=⟨_,upRow_zero _ _⟩
 rw [hpad];clear hpad
 generalize grownCap w l.length 0 5=cap
 generalize hN:(upRow l pad 0).size=N
 have HN:Hid (N=l.length+pad.length):=by rw [← hN,upRow_size];rfl
 clear hN
 go_loopw [10] (fun i wr=>∃ k:Nat,k<=l.length/\i=.int .i64 k/\wr.heap[w.heap.size]? = some (.cells (upRow l pad k) 5 (N,N+1))/\Below w.heap.size w wr) (fun i _=>l.length - (intOf i).toNat)
 case atStart=>exact ⟨0,Nat.zero_le _,rfl,heap_alloc_new w _,((Below.refl _ _).alloc (Nat.le_refl _) _).drew⟩
 case round=>
  obtain ⟨k,hk,rfl,hh,hb⟩:=hrel
  by_cases hlt:k<l.length
  ·have hcell:wr.cell? ⟨w.heap.size,k,none⟩=some (.int .u8 ((l[k].toNat:Nat):Int)):=by rw [coh hh,upRow_at l pad k hlt];rfl
   have hfz:wr.frozen? ⟨w.heap.size,k,none⟩=false:=by rw [foh hh];have:=HN.out;simp;omega
   have H1:=LH hh;clear hh
   by_cases hc:97<=l[k].toNat/\l[k].toNat<=122
   ·obtain ⟨h1,h2⟩:=hc
    have h1':(97:Int)<=(l[k].toNat:Int):=by omega
    have h2':(l[k].toNat:Int)<=122:=by omega
    go_wp2
    go_roundw
    case rel=>exact ⟨k+1,by omega,by go_num,by rw [heap_set _ H1.out,up_val _ h1 h2,upRow_set l pad k hlt],hb.setCell (by simp) _⟩
    case measure=>simp [intOf];omega
   ·have hno:=LH (up_no _ hc)
    rcases (show l[k].toNat<97∨(97<=l[k].toNat/\122<l[k].toNat) from by omega) with h1 | ⟨h1,h2⟩
    ·clear hc
     have h1':(l[k].toNat:Int)<97:=by omega
     go_wp2
     go_roundw
     case rel=>exact ⟨k+1,by omega,by go_num,by rw [upRow_keep l pad k hlt hno.out];exact H1.out,hb⟩
     case measure=>simp [intOf];omega
    ·clear hc
     have h1':(97:Int)<=(l[k].toNat:Int):=by omega
     have h2':(122:Int)<(l[k].toNat:Int):=by omega
     go_wp2
     go_roundw
     case rel=>exact ⟨k+1,by omega,by go_num,by rw [upRow_keep l pad k hlt hno.out];exact H1.out,hb⟩
     case measure=>simp [intOf];omega
  ·obtain rfl:k=l.length:=by omega
   have hcv:=conv_back (P:=Tryz.prog) wr 75 9 5 w.heap.size 0 cap l.length (upper l) Tryz.underlying75 Tryz.underlying5 Tryz.underlying9 (by simp [upper]) (fun j hj=>by rw [Nat.zero_add,coh hh,upRow_end l pad j hj])
   clear hh
   go_wp2
   go_ret
   exact ⟨rfl,hb⟩
theorem based_any (l:List UInt8) (w:World) (hne:1<=l.length) (hl:l.length<=1000000) :
  Calls Tryz.prog 213 #[.string ⟨l.toArray⟩] w fun e w'=>e=.returned (.tuple #[.string ⟨(baseD l).toArray⟩,.int .i64 (baseN (l.getLastD 0))])/\Below w.heap.size w w':=by
 have h1:(1:Int)<=(l.length:Int):=by omega
 have h2:(0:Int)<=(l.length:Int) - 1:=by omega
 have h3:(l.length:Int) - 1<=(l.length:Int):=by omega
 have h4:(l.length:Int) - 1<(l.length:Int):=by omega
 have h5:((l.length:Int) - 1).toNat=l.length - 1:=by omega
 have h6:IntKind.i64.wrap ((l.length:Int) - 1)=(l.length:Int) - 1:=IntWalk.i64_in _ (by omega)
 go_enter Tryz.func213, Tryz.ntmps213
 go_wp2
 go_quiet (fail)
 have HL:=LH (last_get l hne)
 have HD:=LH (List.dropLast_eq_take (l:=l))
 go_wp2
 all_goals
  go_ret2
  refine ⟨?_,below_dn (Below.refl _ _) _⟩
  rw [HL.out]
  unfold baseD
  rw [HL.out,HD.out]
  simp [baseN,baseC, *]
def digs:List UInt8:=[48,49,50,51,52,53,54,55,56,57,65,66,67,68,69,70]
theorem index_digs_all:∀ n:Fin 256,∀ b∈[16,8,2,10],Lib.indexByte (digs.take b) (UInt8.ofNat n.val)=if digV (UInt8.ofNat n.val)<b then (digV (UInt8.ofNat n.val):Int) else -1:=by decide +kernel
theorem index_digs (c:UInt8) (b:Nat) (hb:b=16∨b=8∨b=2∨b=10):Lib.indexByte (digs.take b) c=if digV c<b then (digV c:Int) else -1:=by
 have:=index_digs_all ⟨c.toNat,c.toNat_lt⟩ b (by simpa using hb)
 simpa using this
theorem min_cast (m b d:Nat):min ((m:Int) * (b:Int)+(d:Int)) 65536=((min (m * b+d) 65536:Nat):Int):=by
 rw [← Int.natCast_mul];omega
theorem index_call (c:UInt8) (b:Nat) (w:World) (hb:b=16∨b=8∨b=2∨b=10) (v:Int) (hv:(if digV c<b then (digV c:Int) else -1)=v) :
  Calls Tryz.prog 168 #[.string ⟨(List.take b [48,49,50,51,52,53,54,55,56,57,65,66,67,68,69,70]).toArray⟩,.int .u8 (c.toNat:Int)] w fun e w'=>e=.returned (.int .i64 v)/\w'=w:=by
 refine (Tryz.strings_IndexByte _ _ w).mono ?_
 rintro e w' ⟨rfl,rfl⟩
 refine ⟨ret_int ?_,rfl⟩
 rw [← hv,← index_digs c b hb]
 simp [digs]
theorem parse_any (l:List UInt8) (w:World) (hl:l.length<=1000000) :
  Calls Tryz.prog 166 #[.string ⟨l.toArray⟩] w fun e w'=>e=.returned (.tuple #[.int .u16 (parse l).1,.int .i64 (parse l).2])/\Below w.heap.size w w':=by
 have HP:Hid (parse l=if upper l = []∨((upper l).headD 0).toNat<48∨57<((upper l).headD 0).toNat then (0,2) else parseEnd (parseL (baseN ((upper l).getLastD 0)) (baseD (upper l)))):=rfl
 have hlen:(upper l).length<=1000000:=by rw [upper_length];exact hl
 generalize parse l=pl at *
 go_enter Tryz.func166, Tryz.ntmps166
 go_wp2_with fail
 refine (upper_any _ _ hl).mono ?_
 rintro e w1 ⟨rfl,hb1⟩
 generalize upper l=t at *
 by_cases ht:t = []
 ·have hp:=LH (HP.out.trans (if_pos (.inl ht)))
  clear HP
  subst ht
  go_wp2_with fail
  go_ret2
  rw [hp.out]
  exact ⟨rfl,hb1⟩
 obtain ⟨c,r,rfl⟩:=List.exists_cons_of_ne_nil ht
 have he:((c :: r).toArray.toList.isEmpty)=false:=rfl
 by_cases h1:(c.toNat:Int)<48
 ·have hp:=LH (HP.out.trans (if_pos (.inr (.inl (by simp;omega)))))
  clear HP
  go_wp2_with fail
  go_ret2
  rw [hp.out]
  exact ⟨rfl,hb1⟩
 by_cases h2:(57:Int)<(c.toNat:Int)
 ·have hp:=LH (HP.out.trans (if_pos (.inr (.inr (by simp;omega)))))
  clear HP
  go_wp2_with fail
  go_ret2
  rw [hp.out]
  exact ⟨rfl,hb1⟩
 have HQ:=LH (HP.out.trans (if_neg (by simp;omega)))
 clear HP
 have d1:decide ((c.toNat:Int)<48)=false:=by simp;omega
 have d2:decide ((57:Int)<(c.toNat:Int))=false:=by simp;omega
 clear h1 h2
 go_wp2_with fail
 refine (based_any _ _ (by simp) hlen).mono ?_
 rintro e w2 ⟨rfl,hb2⟩
 have hb:Below w.heap.size w w2:=hb1.trans (hb2.mono hb1.size)
 have hdl:(baseD (c :: r)).length<=1000000:=by
  unfold baseD;split
  ·simp at hlen ⊢;omega
  ·exact hlen
 have HB:=LH (baseN_cases ((c :: r).getLastD 0))
 generalize baseD (c :: r)=s at *
 generalize baseN ((c :: r).getLastD 0)=b at *
 clear hb1 hb2
 have b0:(0:Int)<=(b:Int):=by omega
 have b1:(b:Int)<=16:=by have:=HB.out;omega
 go_wp2_with fail
 go_loopw [5,29] (fun n i wr=>∃ k m:Nat,k<=s.length/\i=.int .i64 k/\n=.int .i64 m/\parseL b (s.take k)=some m/\Below w.heap.size w wr) (fun _ i _=>s.length - (intOf i).toNat)
 case atStart=>exact ⟨0,0,Nat.zero_le _,rfl,rfl,rfl,hb⟩
 case round=>
  clear hb
  obtain ⟨k,m,hk,rfl,rfl,hm0,hb⟩:=hrel
  have hm1:=parseL_le _ _ _ hm0
  have hm:=LH hm0
  clear hm0
  by_cases hlt:k<s.length
  ·have hsn:=parseL_snoc b (s.take k) s[k]
   rw [← List.take_succ_eq_append_getElem hlt,hm.out] at hsn
   by_cases hd:digV s[k]<b
   ·have hst:parseStep b (some m) s[k]=some (min (m * b+digV s[k]) 65536):=by simp [parseStep,hd]
    have HS:=LH (hsn.trans hst)
    clear hsn hst
    have hmul:m * b<=65536 * 16:=Nat.mul_le_mul hm1 (by omega)
    have hm2:(0:Int)<=(m:Int) * (b:Int):=by rw [← Int.natCast_mul];omega
    have hm3:(m:Int) * (b:Int)<=1048576:=by rw [← Int.natCast_mul];omega
    have hic:=fun w=>index_call s[k] b w HB.out (digV s[k]:Int) (if_pos hd)
    have HI:=LH hic
    clear hic
    have hd0:(0:Int)<=(digV s[k]:Int):=by omega
    have hd1:(digV s[k]:Int)<=16:=by omega
    have hd2:decide ((digV s[k]:Int)<0)=false:=by simp
    generalize digV s[k]=d at *
    go_wp2_with fail
    go_quiet ((go_at_call 168;exact Calls.quiet_of_same (HI.out _)))
    go_wp2_with fail
    go_roundw
    case rel=>exact ⟨k+1,min (m * b+d) 65536,by omega,by go_num,by rw [min_cast],HS.out,below_dn hb _⟩
    case measure=>simp [intOf];omega
   ·have hst:parseStep b (some m) s[k]=none:=by simp [parseStep,hd]
    have HS:=LH (hsn.trans hst)
    clear hsn hst
    have HI:=LH (fun w=>index_call s[k] b w HB.out (-1) (if_neg hd))
    go_wp2_with fail
    go_quiet ((go_at_call 168;exact Calls.quiet_of_same (HI.out _)))
    go_wp2_with fail
    go_ret2
    have hfin:pl=(0,2):=by
     have:=parseL_none b _ (s.drop (k+1)) HS.out
     rw [List.take_append_drop] at this
     rw [HQ.out,this];rfl
    rw [hfin]
    exact ⟨rfl,below_dn hb _⟩
  ·obtain rfl:k=s.length:=by omega
   have hq:Hid (pl=parseEnd (some m)):=by rw [HQ.out,← hm.out,List.take_length];exact LH rfl
   by_cases h6:65535<m
   ·have h6':(65535:Int)<(m:Int):=by omega
    go_wp2_with fail
    go_ret2
    rw [hq.out];simp only [parseEnd];rw [if_pos h6]
    exact ⟨rfl,hb⟩
   ·have h6':(m:Int)<=65535:=by omega
    go_wp2_with fail
    go_ret2
    rw [hq.out];simp only [parseEnd];rw [if_neg h6]
    exact ⟨rfl,hb⟩
def tokV (t:Tok):Value:=.agg #[.int .i64 t.1,.string ⟨t.2.1.toArray⟩,.int .u16 t.2.2]
theorem index_marks:∀ n:Fin 256,(0<=Lib.indexByte [44,40,41,91,93,43,45,42,47,58,36] (UInt8.ofNat n.val)) ↔ markB (UInt8.ofNat n.val)=true:=by decide +kernel
theorem zero_cells {w w1:World} {T:TypeId} {a b c:Value} (hb:Below (w.heap.size+1) (w.alloc (.cells #[a,b,c] T)) w1) :
  w1.cell? ⟨w.heap.size,0,none⟩=some a/\w1.cell? ⟨w.heap.size,1,none⟩=some b/\w1.cell? ⟨w.heap.size,2,none⟩=some c /\
  w1.frozen? ⟨w.heap.size,0,none⟩=false/\w1.frozen? ⟨w.heap.size,1,none⟩=false/\w1.frozen? ⟨w.heap.size,2,none⟩=false/\w.heap.size<w1.heap.size:=by
 have h:=hb.block w.heap.size (by omega)
 rw [heap_alloc_new] at h
 refine ⟨?_,?_,?_,?_,?_,?_,loh h⟩
 ·rw [coh h];rfl
 ·rw [coh h];rfl
 ·rw [coh h];rfl
 ·rw [foh h];simp
 ·rw [foh h];simp
 ·rw [foh h];simp
theorem bset {B:Nat} {a w:World} (h:Below B a w) (i:Nat) (u:Value):Below B a (w.setCell ⟨B,i,none⟩ u):=h.setCell (Nat.le_refl _) u
theorem first_any (l:List UInt8) (w:World) (hg:GW w) (hne:1<=l.length) (hl:l.length<=1000000) :
  Calls Tryz.prog 112 #[.string ⟨l.toArray⟩] w fun e w'=>e=.returned (.tuple #[tokV (firstT l).1,.int .i64 (firstT l).2.1,.int .i64 (firstT l).2.2])/\Below w.heap.size w w':=by
 have hhd:l.headD 0=l[0]:=by cases l with | nil=>simp at hne | cons c r=>rfl
 have HF:Hid (firstT l=if letB l[0] then (if 16<spanL tailB l then (tok0,0,11) else ((1,upper (l.take (spanL tailB l)),0),spanL tailB l,0))
  else if numB l[0] then ((2,[],(parse (l.take (spanL alnumB l))).1),spanL alnumB l,(parse (l.take (spanL alnumB l))).2)
  else if l[0]=39 then (if quotedL l=0 then (tok0,0,2) else ((3,(unquote (l.take (quotedL l))).1,0),quotedL l,(unquote (l.take (quotedL l))).2))
  else if markB l[0] then ((4,[l[0]],0),1,0)
  else (tok0,0,2)):=by rw [← hhd];exact LH rfl
 clear hhd
 have hlt:(0:Int)<(l.length:Int):=by omega
 generalize firstT l=ft at *
 cases hL:letB l[0] with
 | true=>
  rw [if_pos hL] at HF
  have HL:=LH hL
  have hs:=spanL_le tailB l
  clear hL
  by_cases h16:16<spanL tailB l
  ·have hf:=LH (HF.out.trans (if_pos h16))
   have h16':(16:Int)<(spanL tailB l:Int):=by omega
   go_enter Tryz.func112, Tryz.ntmps112
   go_wp2_with fail
   refine (tbegin_any l[0] _).mono ?_
   rintro e w' ⟨rfl,rfl⟩
   rw [HL.out]
   go_wp2_with fail
   refine (span_tail l _ hl).mono ?_
   rintro e w' ⟨rfl,rfl⟩
   go_wp2_with fail
   rw [hf.out]
   refine bodyPost_ret (v:=.tuple #[.agg #[.int .i64 0,.string ⟨#[]⟩,.int .u16 0],.int .i64 0,.int .i64 11]) (by simp [results,Tryz.results112,go_sem]) rfl ⟨rfl,?_⟩
   exact (Below.refl _ _).alloc (Nat.le_refl _) _
  ·have hf:=LH (HF.out.trans (if_neg h16))
   have h16':(spanL tailB l:Int)<=16:=by omega
   have hsl:(spanL tailB l:Int)<=(l.length:Int):=by omega
   go_enter Tryz.func112, Tryz.ntmps112
   go_wp2_with fail
   refine (tbegin_any l[0] _).mono ?_
   rintro e w' ⟨rfl,rfl⟩
   rw [HL.out]
   go_wp2_with fail
   refine (span_tail l _ hl).mono ?_
   rintro e w' ⟨rfl,rfl⟩
   go_wp2_with fail
   refine (upper_any _ _ (by simp;omega)).mono ?_
   rintro e w1 ⟨rfl,hb1⟩
   obtain ⟨z0,z1,z2,f0,f1,f2,hz⟩:=zero_cells (by simpa using hb1)
   have hb2:=((Below.refl w.heap.size w).alloc (Nat.le_refl _) _).trans (hb1.mono (by simp))
   clear hb1
   go_wp2_with fail
   rw [hf.out]
   refine bodyPost_ret (v:=.tuple #[.agg #[.int .i64 1,.string ⟨(upper (l.take (spanL tailB l))).toArray⟩,.int .u16 0],.int .i64 (spanL tailB l),.int .i64 0]) (by simp [results,Tryz.results112,go_sem,z0,z1,z2]) rfl ⟨rfl,?_⟩
   repeat (first | exact hb2 | apply bset)
 | false=>
  rw [if_neg (by rw [hL];simp)] at HF
  have HL:=LH hL
  clear hL
  cases hN:numB l[0] with
  | true=>
   have hf:=LH (HF.out.trans (if_pos hN))
   have HN:=LH hN
   have hs:=spanL_le alnumB l
   have hsl:(spanL alnumB l:Int)<=(l.length:Int):=by omega
   have hsl0:(0:Int)<=(spanL alnumB l:Int):=by omega
   clear hN HF
   go_enter Tryz.func112, Tryz.ntmps112
   go_wp2_with fail
   refine (tbegin_any l[0] _).mono ?_
   rintro e w' ⟨rfl,rfl⟩
   rw [HL.out]
   go_wp2_with fail
   refine (tdigit_any l[0] _).mono ?_
   rintro e w' ⟨rfl,rfl⟩
   rw [HN.out]
   go_wp2_with fail
   refine (span_alnum l _ hl).mono ?_
   rintro e w' ⟨rfl,rfl⟩
   go_wp2_with fail
   refine (parse_any _ _ (by simp;omega)).mono ?_
   rintro e w1 ⟨rfl,hb1⟩
   generalize spanL alnumB l=n at *
   generalize parse (l.take n)=pn at *
   obtain ⟨z0,z1,z2,f0,f1,f2,hz⟩:=zero_cells (by simpa using hb1)
   have hb2:=((Below.refl w.heap.size w).alloc (Nat.le_refl _) _).trans (hb1.mono (by simp))
   clear hb1
   go_wp2_with fail
   rw [hf.out]
   refine bodyPost_ret (v:=.tuple #[.agg #[.int .i64 2,.string ⟨#[]⟩,.int .u16 pn.1],.int .i64 n,.int .i64 pn.2]) (by simp [results,Tryz.results112,go_sem,z0,z1,z2]) rfl ⟨rfl,?_⟩
   repeat (first | exact hb2 | apply bset)
  | false=>
   rw [if_neg (by rw [hN];simp)] at HF
   have HN:=LH hN
   clear hN
   by_cases hq:l[0]=39
   ·rw [if_pos hq] at HF
    have e39:((l[0].toNat:Int) == 39)=true:=by rw [hq];rfl
    have hql:=quotedL_le l (by intro h;subst h;simp at hne)
    clear hq
    by_cases hz:quotedL l=0
    ·have hf:=LH (HF.out.trans (if_pos hz))
     have HZ:=LH hz
     clear hz hql HF
     go_enter Tryz.func112, Tryz.ntmps112
     go_wp2_with fail
     refine (tbegin_any l[0] _).mono ?_
     rintro e w' ⟨rfl,rfl⟩
     rw [HL.out]
     go_wp2_with fail
     refine (tdigit_any l[0] _).mono ?_
     rintro e w' ⟨rfl,rfl⟩
     rw [HN.out]
     go_wp2_with fail
     refine (quoted_any l _ hne hl).mono ?_
     rintro e w' ⟨rfl,rfl⟩
     rw [HZ.out]
     go_wp2_with fail
     rw [hf.out]
     refine bodyPost_ret (v:=.tuple #[.agg #[.int .i64 0,.string ⟨#[]⟩,.int .u16 0],.int .i64 0,.int .i64 2]) (by simp [results,Tryz.results112,go_sem]) rfl ⟨rfl,?_⟩
     exact (Below.refl _ _).alloc (Nat.le_refl _) _
    ·have hf:=LH (HF.out.trans (if_neg hz))
     have hz':((quotedL l:Int) == 0)=false:=by rw [beq_eq_false_iff_ne];omega
     have hq1:(2:Int)<=(quotedL l:Int):=by omega
     have hq2:(quotedL l:Int)<=(l.length:Int):=by omega
     have hq3:quotedL l<=l.length:=by omega
     clear hz hql HF
     go_enter Tryz.func112, Tryz.ntmps112
     go_wp2_with fail
     refine (tbegin_any l[0] _).mono ?_
     rintro e w' ⟨rfl,rfl⟩
     rw [HL.out]
     go_wp2_with fail
     refine (tdigit_any l[0] _).mono ?_
     rintro e w' ⟨rfl,rfl⟩
     rw [HN.out]
     go_wp2_with fail
     refine (quoted_any l _ hne hl).mono ?_
     rintro e w' ⟨rfl,rfl⟩
     generalize quotedL l=n at *
     go_wp2_with fail
     refine (unquote_any (l.take n) _ (hg.below ((Below.refl _ _).alloc (Nat.le_refl _) _)) (by simp;omega)).mono ?_
     rintro e w1 ⟨rfl,hb1⟩
     generalize unquote (l.take n)=pn at *
     obtain ⟨z0,z1,z2,f0,f1,f2,hz⟩:=zero_cells (by simpa using hb1)
     have hb2:=((Below.refl w.heap.size w).alloc (Nat.le_refl _) _).trans (hb1.mono (by simp))
     clear hb1
     go_wp2_with fail
     rw [hf.out]
     refine bodyPost_ret (v:=.tuple #[.agg #[.int .i64 3,.string ⟨pn.1.toArray⟩,.int .u16 0],.int .i64 n,.int .i64 pn.2]) (by simp [results,Tryz.results112,go_sem,z0,z1,z2]) rfl ⟨rfl,?_⟩
     repeat (first | exact hb2 | apply bset)
   ·rw [if_neg hq] at HF
    have e39:((l[0].toNat:Int) == 39)=false:=by
     rw [beq_eq_false_iff_ne];intro h;apply hq;apply UInt8.toNat.inj;show l[0].toNat=39;omega
    have him:=index_marks ⟨l[0].toNat,l[0].toNat_lt⟩
    simp only [UInt8.ofNat_toNat] at him
    have h1:1<=l.length:=hne
    cases hM:markB l[0] with
    | true=>
     have hf:=LH (HF.out.trans (if_pos hM))
     have hix:decide ((0:Int)<=Lib.indexByte [44,40,41,91,93,43,45,42,47,58,36] l[0])=true:=by simpa using him.2 hM
     have HT:Hid (List.take 1 l = [l[0]]):=by cases l with | nil=>simp at hne | cons c r=>exact LH rfl
     clear hM HF him hq
     go_enter Tryz.func112, Tryz.ntmps112
     go_wp2_with fail
     refine (tbegin_any l[0] _).mono ?_
     rintro e w' ⟨rfl,rfl⟩
     rw [HL.out]
     go_wp2_with fail
     refine (tdigit_any l[0] _).mono ?_
     rintro e w' ⟨rfl,rfl⟩
     rw [HN.out]
     go_wp2_with fail
     refine (Tryz.strings_IndexByte ⟨#[44,40,41,91,93,43,45,42,47,58,36]⟩ (l[0].toNat:Int) _).mono ?_
     rintro e w' ⟨rfl,rfl⟩
     rw [show Lib.indexByte (ByteArray.mk #[44,40,41,91,93,43,45,42,47,58,36]).data.toList (l[0].toNat:Int).toNat.toUInt8=Lib.indexByte [44,40,41,91,93,43,45,42,47,58,36] l[0] by simp]
     generalize Lib.indexByte [44,40,41,91,93,43,45,42,47,58,36] l[0]=ix at *
     go_wp2_with fail
     rw [hf.out]
     refine bodyPost_ret (v:=.tuple #[.agg #[.int .i64 4,.string ⟨[l[0]].toArray⟩,.int .u16 0],.int .i64 1,.int .i64 0]) (by rw [← HT.out];simp [results,Tryz.results112,go_sem]) rfl ⟨rfl,?_⟩
     exact (Below.refl _ _).alloc (Nat.le_refl _) _
    | false=>
     have hf:=LH (HF.out.trans (if_neg (by rw [hM];simp)))
     have hix:decide ((0:Int)<=Lib.indexByte [44,40,41,91,93,43,45,42,47,58,36] l[0])=false:=by
      rw [decide_eq_false_iff_not];intro h;rw [him.1 h] at hM;cases hM
     clear hM HF him hq
     go_enter Tryz.func112, Tryz.ntmps112
     go_wp2_with fail
     refine (tbegin_any l[0] _).mono ?_
     rintro e w' ⟨rfl,rfl⟩
     rw [HL.out]
     go_wp2_with fail
     refine (tdigit_any l[0] _).mono ?_
     rintro e w' ⟨rfl,rfl⟩
     rw [HN.out]
     go_wp2_with fail
     refine (Tryz.strings_IndexByte ⟨#[44,40,41,91,93,43,45,42,47,58,36]⟩ (l[0].toNat:Int) _).mono ?_
     rintro e w' ⟨rfl,rfl⟩
     rw [show Lib.indexByte (ByteArray.mk #[44,40,41,91,93,43,45,42,47,58,36]).data.toList (l[0].toNat:Int).toNat.toUInt8=Lib.indexByte [44,40,41,91,93,43,45,42,47,58,36] l[0] by simp]
     generalize Lib.indexByte [44,40,41,91,93,43,45,42,47,58,36] l[0]=ix at *
     go_wp2_with fail
     rw [hf.out]
     refine bodyPost_ret (v:=.tuple #[.agg #[.int .i64 0,.string ⟨#[]⟩,.int .u16 0],.int .i64 0,.int .i64 2]) (by simp [results,Tryz.results112,go_sem]) rfl ⟨rfl,?_⟩
     exact (Below.refl _ _).alloc (Nat.le_refl _) _
def tokCells (t:Tok):List Value:=[.int .i64 t.1,.string ⟨t.2.1.toArray⟩,.int .u16 t.2.2]
def tokRow (ts:List Tok):List Value:=ts.flatMap tokCells
theorem tokRow_snoc (ts:List Tok) (t:Tok):tokRow (ts++[t])=tokRow ts++tokCells t:=by simp [tokRow]
theorem tokCells_one (t:Tok):∀ u∈tokCells t,u.oneCell'=true:=by
 intro u hu
 simp [tokCells] at hu
 rcases hu with rfl | rfl | rfl <;> rfl
theorem tokV_eq (t:Tok):tokV t=.agg #[.int .i64 t.1,.string ⟨t.2.1.toArray⟩,.int .u16 t.2.2]:=rfl
theorem lineF_nil (f:Nat) (ts:List Tok):lineF f [] ts=(ts,0):=by cases f <;> rfl
theorem lineF_space (f:Nat) (c:UInt8) (r:List UInt8) (ts:List Tok) (h:c=32∨c=9):lineF (f+1) (c :: r) ts=lineF f r ts:=by rw [lineF,if_pos h]
theorem lineF_note (f:Nat) (c:UInt8) (r:List UInt8) (ts:List Tok) (h:c=59):lineF (f+1) (c :: r) ts=(ts,0):=by
 rw [lineF,if_neg (by subst h;decide),if_pos h]
theorem lineF_tok (f:Nat) (c:UInt8) (r:List UInt8) (ts:List Tok) (h1:c≠32) (h2:c≠9) (h3:c≠59) :
  lineF (f+1) (c :: r) ts=if (firstT (c :: r)).2.2=0 then lineF f ((c :: r).drop (firstT (c :: r)).2.1) (ts++[(firstT (c :: r)).1]) else ([],(firstT (c :: r)).2.2):=by
 rw [lineF,if_neg (by rintro (h | h);exact h1 h;exact h2 h),if_neg h3]
theorem ne_byte {c:UInt8} {n:Nat} (hn:n<256) (h:c≠UInt8.ofNat n):((c.toNat:Int) == (n:Int))=false:=by
 rw [beq_eq_false_iff_ne];intro e;apply h;apply UInt8.toNat.inj;rw [UInt8.toNat_ofNat'];omega
theorem info_tok:(Tryz.prog.info? 153).map (fun i=>(i.zero,i.size,i.bytes))=some (some (.agg #[.int .i64 0,.string ⟨#[]⟩,.int .u16 0]),3,32):=by kernel_rfl
theorem cells_new2 (w:World) (o:Obj) (cs:List Value) (T:TypeId):∀ (j:Nat) (u:Value),cs[j]? = some u->((w.alloc o).alloc (.cells cs.toArray T)).drew.cell? (Addr.add ⟨w.heap.size+1,0,none⟩ j)=some u:=by
 intro j u h
 have h1:=cells_new (w.alloc o) cs T j u h
 have h2:(w.alloc o).heap.size=w.heap.size+1:=by simp
 rw [h2] at h1
 exact h1
theorem line_any (l:List UInt8) (w:World) (hg:GW w) (hl:l.length<=1000000) :
  Calls Tryz.prog 63 #[.string ⟨l.toArray⟩] w fun e w'=>∃ v,e=.returned (.tuple #[v,.int .i64 (lineL l).2])/\w'.ownsRow w.heap.size 153 3 v (lineL l).1.length (tokRow (lineL l).1)/\Below w.heap.size w w':=by
 have HL:Hid (lineL l=if 200<l.length then ([],11) else lineF (l.length+1) l []):=LH rfl
 generalize lineL l=res at *
 by_cases h200:200<l.length
 ·have h200':(200:Int)<(l.length:Int):=by omega
  have hf:=LH (HL.out.trans (if_pos h200))
  go_enter Tryz.func63, Tryz.ntmps63
  go_wp2_with fail
  go_step3
  go_wp2_with fail
  rw [Exit.noGoto_ret]
  go_ret2
  rw [hf.out]
  exact ⟨_,rfl,World.ownsRow_nil _ _ _ _,Below.refl _ _⟩
 have h200':(l.length:Int)<=200:=by omega
 have d200:decide ((200:Int)<(l.length:Int))=false:=by simp;omega
 have HF:=LH (HL.out.trans (if_neg h200))
 clear HL
 go_enter Tryz.func63, Tryz.ntmps63
 go_wp2_with fail
 go_step3
 go_wp2_with fail
 go_step3
 go_wp2_with fail
 go_loopw [0,2] (fun s v wr=>∃ (f:Nat) (t:List UInt8) (ts:List Tok),s=.string ⟨t.toArray⟩/\t.length<f/\t.length<=200/\ts.length+t.length<=200/\res=lineF f t ts/\wr.ownsRow w.heap.size 153 3 v ts.length (tokRow ts)/\Below w.heap.size w wr) (fun s _ _=>match s with | .string b=>b.size | _=>0)
 case atStart=>exact ⟨l.length+1,l,[],rfl,by omega,by omega,by simp;omega,HF.out,World.ownsRow_nil _ _ _ _,Below.refl _ _⟩
 case round=>
  clear HF
  obtain ⟨f,t,ts,rfl,hf1,hf2,hf3,hres,hown,hb⟩:=hrel
  have HR:=LH hres
  clear hres
  have hsz:=hb.size
  match t,f with
  | [],f=>
   have hfin:=LH (HR.out.trans (lineF_nil f ts))
   go_wp2_with fail
   rw [Exit.noGoto_ret]
   go_ret2
   rw [hfin.out]
   exact ⟨_,rfl,hown,hb⟩
  | c :: r,f+1=>
   by_cases h32:c=32
   ·subst h32
    have hfin:=LH (HR.out.trans (lineF_space f 32 r ts (.inl rfl)))
    go_wp2_with fail
    go_roundw
    case rel=>exact ⟨f,r,ts,rfl,by simp at hf1;omega,by simp at hf2;omega,by simp at hf3;omega,hfin.out,hown,hb⟩
    case measure=>simp [ByteArray.size]
   by_cases h9:c=9
   ·subst h9
    have hfin:=LH (HR.out.trans (lineF_space f 9 r ts (.inr rfl)))
    go_wp2_with fail
    go_roundw
    case rel=>exact ⟨f,r,ts,rfl,by simp at hf1;omega,by simp at hf2;omega,by simp at hf3;omega,hfin.out,hown,hb⟩
    case measure=>simp [ByteArray.size]
   by_cases h59:c=59
   ·subst h59
    have hfin:=LH (HR.out.trans (lineF_note f 59 r ts rfl))
    go_wp2_with fail
    rw [Exit.noGoto_ret]
    go_ret2
    rw [hfin.out]
    exact ⟨_,rfl,hown,hb⟩
   have hlt:=lineF_tok f c r ts h32 h9 h59
   have e1:((c.toNat:Int) == 32)=false:=ne_byte (n:=32) (by omega) h32
   have e2:((c.toNat:Int) == 9)=false:=ne_byte (n:=9) (by omega) h9
   have e3:((c.toNat:Int) == 59)=false:=ne_byte (n:=59) (by omega) h59
   have HT:=LH (HR.out.trans hlt)
   have hlen:=firstT_len (c :: r) (by simp)
   clear hlt h32 h9 h59
   go_wp2_with fail
   refine (first_any (c :: r) _ (hg.below hb) (by simp) (by simp at hf2 ⊢;omega)).mono ?_
   rintro e w1 ⟨rfl,hb1⟩
   rw [tokV_eq]
   generalize firstT (c :: r)=ft at *
   obtain ⟨tk,n,k⟩:=ft
   by_cases hk:k=0
   ·subst hk
    obtain ⟨hn1,hn2⟩:=hlen rfl
    have HT2:=LH (HT.out.trans (if_pos rfl))
    clear HT hlen
    have hb2:=hb.trans (hb1.mono hsz)
    have hsz2:=hb2.size
    have hown2:w1.ownsRow w.heap.size 153 3 u2 ts.length (tokRow ts):=hown.kept (only_of_below hb1 none) (by cases u2.ownBlock <;> simp)
    replace hn1:1<=n:=hn1
    replace hn2:n<=(c :: r).length:=hn2
    have hnl:(n:Int)<=(r.length:Int)+1:=by simp at hn2;omega
    have hdl:((c :: r).drop n).length+n=(c :: r).length:=by rw [List.length_drop];omega
    clear hown hb hb1
    go_wp2_with fail
    go_region_law (first | (refine step_append_at _ (by rfl) _ _ _ (by rfl) w.heap.size 153 _ 3 32 Tryz.underlying145 info_tok rfl (by decide) (((hown2.alloc _).alloc _).drew) (by rfl) ⟨w1.heap.size+1,0,none⟩ (tokCells tk) (by rfl) (by rfl) (cells_new2 w1 _ (tokCells tk) _) (tokCells_one _) (by omega) (by omega) (by simp;omega) ?_;intro v' w2 hown3 hb3 hgr3))
    have hb4:=((hb2.alloc hsz2 _).alloc (by simp;omega) _).drew.trans hb3
    have H3:Hid (w2.ownsRow w.heap.size 153 3 v' (ts++[tk]).length (tokRow (ts++[tk]))):=LH (by rw [List.length_append,tokRow_snoc];exact hown3)
    clear hown2 hown3 hb3 hb2
    go_simp
    refine ⟨?_,?measure⟩
    apply Exists.intro
    apply Exists.intro
    apply Exists.intro
    (repeat apply Exists.intro)
    refine ⟨?rel,rfl⟩
    case rel=>exact ⟨f,(c :: r).drop n,ts++[tk],rfl,by omega,by omega,by simp at hdl hf3 ⊢;omega,HT2.out,H3.out,hb4⟩
    case measure=>show ((c :: r).drop n).length<(c :: r).length;omega
   ·have hfin:=LH (HT.out.trans (if_neg hk))
    have hk':((k:Int) != 0)=true:=by rw [bne_iff_ne];omega
    have hb2:=hb.trans (hb1.mono hsz)
    clear hlen hown HT
    go_wp2_with fail
    rw [Exit.noGoto_ret]
    go_ret2
    rw [hfin.out]
    exact ⟨_,rfl,World.ownsRow_nil _ _ _ _,hb2.alloc hb2.size _⟩
def Rd (w:World) (B:Nat) (v:Value) (n:Nat) (xs:List Value):Prop:=
 ∃ A c,v=.slice A n c/\n<=c/\(0<n->∃ g o,A=some ⟨g,o,none⟩/\g<B/\∀ (j:Nat) (u:Value),xs[j]? = some u->w.cell? ⟨g,o+j,none⟩=some u)
theorem Rd.keep {w w':World} {B n:Nat} {v:Value} {xs:List Value} (h:Rd w B v n xs) (hk:∀ p:Addr,p.block<B->w'.cell? p=w.cell? p):Rd w' B v n xs:=by
 obtain ⟨A,c,h1,h2,h3⟩:=h
 refine ⟨A,c,h1,h2,fun hn=>?_⟩
 obtain ⟨g,o,h4,h5,h6⟩:=h3 hn
 exact ⟨g,o,h4,h5,fun j u hu=>(hk _ h5).trans (h6 j u hu)⟩
theorem Rd.below {w w':World} {B n:Nat} {v:Value} {xs:List Value} (h:Rd w B v n xs) (hb:Below B w w'):Rd w' B v n xs:=h.keep fun _ hp=>hb.cell hp
theorem Rd.more {w:World} {B B' n:Nat} {v:Value} {xs:List Value} (h:Rd w B v n xs) (hB:B<=B'):Rd w B' v n xs:=by
 obtain ⟨A,c,h1,h2,h3⟩:=h
 refine ⟨A,c,h1,h2,fun hn=>?_⟩
 obtain ⟨g,o,h4,h5,h6⟩:=h3 hn
 exact ⟨g,o,h4,by omega,h6⟩
theorem addr_add (g o j:Nat):Addr.add ⟨g,o,none⟩ j=⟨g,o+j,none⟩:=by
 unfold Addr.add;split
 ·rename_i h;subst h;rfl
 ·rfl
theorem Rd.of_own {w:World} {base size n:Nat} {e:TypeId} {v:Value} {xs:List Value} (h:w.ownsRow base e size v n xs):Rd w w.heap.size v n xs:=by
 rcases Joins.ownsRow_forms h with ⟨rfl,rfl⟩ | ⟨g,cap,rfl⟩
 ·exact ⟨none,0,rfl,by omega,fun h=>absurd h (by omega)⟩
 ·obtain ⟨_,h1 | ⟨g',cap',cur,h1,_,_,h3,_⟩⟩:=id h
  ·simp at h1
  ·injection h1 with _ _ h1c
   subst h1c
   refine ⟨_,cap,rfl,h3,fun hn=>⟨g,0,rfl,(h.lt g rfl).2,fun j u hu=>?_⟩⟩
   have:=h.cells (g:=g) rfl j u hu
   rw [addr_add] at this
   simpa using this
theorem tokRow_length (ts:List Tok):(tokRow ts).length=ts.length * 3:=by
 induction ts with
 | nil=>rfl
 | cons t ts ih=>simp only [tokRow,List.flatMap_cons,List.length_append,List.length_cons] at ih ⊢;rw [ih];simp [tokCells];omega
theorem tokRow_get (ts:List Tok) (k:Nat) (hk:k<ts.length):(tokRow ts)[k * 3]? = some (.int .i64 ts[k].1)/\(tokRow ts)[k * 3+1]? = some (.string ⟨ts[k].2.1.toArray⟩)/\(tokRow ts)[k * 3+2]? = some (.int .u16 ts[k].2.2):=by
 induction ts generalizing k with
 | nil=>simp at hk
 | cons t ts ih=>
  cases k with
  | zero=>simp [tokRow,tokCells]
  | succ k=>
   have:=ih k (by simpa using hk)
   have e:tokRow (t :: ts)=tokCells t++tokRow ts:=by simp [tokRow]
   rw [e]
   have hl:(tokCells t).length=3:=rfl
   refine ⟨?_,?_,?_⟩ <;> rw [List.getElem?_append_right (by rw [hl];omega),hl]
   ·rw [show (k+1) * 3 - 3=k * 3 by omega];exact this.1
   ·rw [show (k+1) * 3+1 - 3=k * 3+1 by omega];exact this.2.1
   ·rw [show (k+1) * 3+2 - 3=k * 3+2 by omega];exact this.2.2
theorem Rd.tok {w:World} {B c:Nat} {A:Option Addr} {ts:List Tok} (h:Rd w B (.slice A ts.length c) ts.length (tokRow ts)) (k:Nat) (hk:k<ts.length) :
  ∃ g o,A=some ⟨g,o,none⟩/\g<B/\w.cell? ⟨g,o+k * 3,none⟩=some (.int .i64 ts[k].1)/\w.cell? ⟨g,o+k * 3+1,none⟩=some (.string ⟨ts[k].2.1.toArray⟩)/\w.cell? ⟨g,o+k * 3+2,none⟩=some (.int .u16 ts[k].2.2):=by
 obtain ⟨A',c',h1,h2,h3⟩:=h
 injection h1 with h1 _ _
 subst h1
 obtain ⟨g,o,h4,h5,h6⟩:=h3 (by omega)
 have ⟨g1,g2,g3⟩:=tokRow_get ts k hk
 exact ⟨g,o,h4,h5,h6 _ _ g1,by simpa [Nat.add_assoc] using h6 _ _ g2,by simpa [Nat.add_assoc] using h6 _ _ g3⟩
theorem Rd.form {w:World} {B n:Nat} {v:Value} {xs:List Value} (h:Rd w B v n xs):∃ A c,v=.slice A n c/\n<=c:=by
 obtain ⟨A,c,h1,h2,_⟩:=h;exact ⟨A,c,h1,h2⟩
theorem append_of_nil {P:Program} (w:World) (base:Nat) (t ty e:TypeId) (i:TypeInfo) (size:Nat) (ht:P.underlying t=some (.slice e)) (hi:P.info? e=some i)
  (v:Value) (n:Nat) (xs:List Value) (hown:w.ownsRow base e size v n xs) (c:Nat):(Builtin.append_ #[t,t] ty #[v,.slice none 0 c]).run P w=.ok v w:=by
 rcases hown.2 with ⟨rfl,rfl⟩ | ⟨g,cap,cur,rfl,_,_,hnc,_⟩
 ·simp [Builtin.append_,run_underlying ht,sizeOf,typeInfo,hi,Builtin.lenOf,Builtin.firstCells]
 ·simp [Builtin.append_,run_underlying ht,sizeOf,typeInfo,hi,Builtin.lenOf,Builtin.firstCells,hnc,storeCells]
theorem append_rd {P:Program} (w:World) (base:Nat) (t ty e:TypeId) (z:Value) (size bytes:Nat) (ht:P.underlying t=some (.slice e)) (hinfo:(P.info? e).map (fun i=>(i.zero,i.size,i.bytes))=some (some z,size,bytes))
  (hzs:z.cells.size=size) (hsz:0<size) (v:Value) (n:Nat) (xs:List Value) (hown:w.ownsRow base e size v n xs)
  (B:Nat) (x:Value) (m:Nat) (news:List Value) (hr:Rd w B x m news) (hl:news.length=m * size) (h1:∀ u∈news,u.oneCell'=true)
  (hn:n+m<=1000000000) (hby:bytes<=1000) (hbase:base<=w.heap.size) :
  ∃ v' w',(Builtin.append_ #[t,t] ty #[v,x]).run P w=.ok v' w'/\w'.ownsRow base e size v' (n+m) (xs++news)/\w.grownBy w' v.ownBlock/\(v'.ownBlock=v.ownBlock∨v'.ownBlock=some w.heap.size):=by
 obtain ⟨i,hi,hz0,hz1,hz2⟩:=info_parts hinfo
 obtain ⟨A,c,rfl,hc,h3⟩:=hr
 have hmul:(n+m) * bytes<=1000000000 * 1000:=Nat.mul_le_mul hn hby
 rcases A with _ | ad
 ·have hm:m=0:=by
   rcases Nat.eq_zero_or_pos m with h0 | h0
   ·exact h0
   ·obtain ⟨g,o,h,_⟩:=h3 h0
    cases h
  subst hm
  have hn:news = []:=List.eq_nil_of_length_eq_zero (by simpa using hl)
  subst hn
  exact ⟨v,w,append_of_nil w base t ty e i size ht hi v n xs hown c,by simpa using hown,World.grownBy.refl w _,.inl rfl⟩
 ·have hcells:∀ j u,news[j]? = some u->w.cell? (ad.add j)=some u:=by
   intro j u hu
   rcases Nat.eq_zero_or_pos m with h0 | h0
   ·subst h0
    have hn:news = []:=List.eq_nil_of_length_eq_zero (by simpa using hl)
    subst hn
    simp at hu
   ·obtain ⟨g,o,h,_,hc⟩:=h3 h0
    injection h with h
    subst h
    rw [addr_add]
    exact hc j u hu
  obtain ⟨v',w',hrun,h2,h3,_,h5⟩:=run_append_own_at (P:=P) w base t ty e i z size bytes ht hi hz0 hz1 hz2 hzs hsz v n xs hown ad m c news hl hcells h1 (by unfold maxLen;omega) (by omega) hbase
  exact ⟨v',w',hrun,h2,h3,h5⟩
theorem wp_append_rd {P:Program} (w:World) {o:Oper} {a:Act} {K:Act->World->Prop} {Q:Exit->Act->World->Prop} (s x:Operand) (t:TypeId)
  (ho:o.op=.call { callee:=.builtin .append,args:=#[s,x],argTypes:=#[t,t] })
  (base:Nat) (e:TypeId) (z:Value) (size bytes:Nat) (ht:P.underlying t=some (.slice e)) (hinfo:(P.info? e).map (fun i=>(i.zero,i.size,i.bytes))=some (some z,size,bytes))
  (hzs:z.cells.size=size) (hsz:0<size) {v:Value} {n:Nat} {xs:List Value} (hown:w.ownsRow base e size v n xs) (hs:a.eval s=v)
  {B:Nat} {y:Value} {m:Nat} {news:List Value} (hr:Rd w B y m news) (hx:a.eval x=y) (hl:news.length=m * size) (h1:∀ u∈news,u.oneCell'=true)
  (hn:n+m<=1000000000) (hby:bytes<=1000) (hbase:base<=w.heap.size)
  (h:∀ v' w',w'.ownsRow base e size v' (n+m) (xs++news)->Below base w w'->w.grownBy w' v.ownBlock->K (a.put o.dst v') w'):o.wp P a w K Q:=by
 obtain ⟨v',w',hrun,h2,h3,h4⟩:=append_rd (P:=P) w base t o.type e z size bytes ht hinfo hzs hsz v n xs hown B y m news hr hl h1 hn hby hbase
 unfold Oper.wp execOp
 simp only [ho,resolve,invoke,builtin,Sem.run_bind,Sem.run_pure,Result.andThen_ok,List.map_toArray,List.map_cons,List.map_nil,hs,hx,hrun]
 exact h v' w' h2 (below_of_own hown (Below.refl _ _) h3 hbase) h3
theorem wpList_append_rd {P:Program} (w:World) {ops:Array Oper} {rest:List Oper} {o:Oper} {a:Act} {Q:Exit->Act->World->Prop} (hw:Region.wanted o (yielded ops a.tmps)=true) (s x:Operand) (t:TypeId)
  (ho:o.op=.call { callee:=.builtin .append,args:=#[s,x],argTypes:=#[t,t] })
  (base:Nat) (e:TypeId) (z:Value) (size bytes:Nat) (ht:P.underlying t=some (.slice e)) (hinfo:(P.info? e).map (fun i=>(i.zero,i.size,i.bytes))=some (some z,size,bytes))
  (hzs:z.cells.size=size) (hsz:0<size) {v:Value} {n:Nat} {xs:List Value} (hown:w.ownsRow base e size v n xs) (hs:a.eval s=v)
  {B:Nat} {y:Value} {m:Nat} {news:List Value} (hr:Rd w B y m news) (hx:a.eval x=y) (hl:news.length=m * size) (h1:∀ u∈news,u.oneCell'=true)
  (hn:n+m<=1000000000) (hby:bytes<=1000) (hbase:base<=w.heap.size)
  (h:∀ v' w',w'.ownsRow base e size v' (n+m) (xs++news)->Below base w w'->w.grownBy w' v.ownBlock->wpList P ops Q rest (a.put o.dst v') w'):wpList P ops Q (o :: rest) a w:=
 wpList_step fun K hK=>by
  rw [if_pos hw]
  exact wp_append_rd w s x t ho base e z size bytes ht hinfo hzs hsz hown hs hr hx hl h1 hn hby hbase fun v' w' h2 h3 h4=>hK _ _ (h v' w' h2 h3 h4)
theorem own_apart {w:World} {b1 b2 s1 s2 n1 n2:Nat} {e1 e2:TypeId} {v1 v2:Value} {x1 x2:List Value} (h1:w.ownsRow b1 e1 s1 v1 n1 x1) (h2:w.ownsRow b2 e2 s2 v2 n2 x2) (hne:e1≠e2):v1.ownBlock=none∨v1.ownBlock≠v2.ownBlock:=by
 rcases h1.2 with ⟨rfl,_⟩ | ⟨g1,c1,u1,rfl,_,hg1,_⟩
 ·exact .inl rfl
 ·right
  rcases h2.2 with ⟨rfl,_⟩ | ⟨g2,c2,u2,rfl,_,hg2,_⟩
  ·simp [Value.ownBlock]
  ·intro h
   have h:g1=g2:=by simpa [Value.ownBlock] using h
   subst h
   rw [hg1] at hg2
   injection hg2 with hg2
   injection hg2 with _ hg2
   exact hne hg2
theorem own_one {w:World} {b s n:Nat} {e:TypeId} {v:Value} {x:List Value} (h:w.ownsRow b e s v n x):∀ u∈[v],u.oneCell'=true:=by
 intro u hu
 simp at hu
 subst hu
 rcases h.2 with ⟨rfl,_⟩ | ⟨g1,c1,u1,rfl,_⟩ <;> rfl
theorem Rd.new (w:World) (cs:List Value) (T:TypeId):Rd (w.alloc (.cells cs.toArray T)) (w.heap.size+1) (.slice (some ⟨w.heap.size,0,none⟩) 1 1) 1 cs:=by
 refine ⟨_,1,rfl,Nat.le_refl _,fun _=>⟨w.heap.size,0,rfl,by omega,fun j u hu=>?_⟩⟩
 have:=cells_new w cs T j u hu
 rwa [addr_add] at this
theorem new_at (w:World) (cs:List Value) (T:TypeId) (j:Nat) (u:Value) (h:cs[j]? = some u):(w.alloc (.cells cs.toArray T)).cell? ⟨w.heap.size,j,none⟩=some u:=by
 have:=cells_new w cs T j u h
 rwa [addr_add,Nat.zero_add] at this
theorem new_keep {w:World} {p:Addr} {u:Value} {o:Obj} (h:w.cell? p=some u):(w.alloc o).cell? p=some u:=by rw [World.cell?_alloc_some w p o (by rw [h];rfl)];exact h
theorem strs_new (w:World) (ls:List (List UInt8)) (T:TypeId):∀ j (hj:j<ls.length),(w.alloc (.cells (ls.map fun s=>Value.string ⟨s.toArray⟩).toArray T)).cell? ⟨w.heap.size,j,none⟩=some (.string ⟨ls[j].toArray⟩):=by
 intro j hj
 exact new_at w _ T j _ (by rw [List.getElem?_map,List.getElem?_eq_getElem hj];rfl)
theorem spanL_cons (p:UInt8->Bool) (c:UInt8) (r:List UInt8):spanL p (c :: r)=if p c then spanL p r+1 else 0:=rfl
theorem spanL_take (p:UInt8->Bool) (s:List UInt8):(s.take (spanL p s)).all p=true:=by
 induction s with
 | nil=>rfl
 | cons c r ih=>
  rw [spanL_cons]
  split
  ·rename_i h;simp [h];simpa using ih
  ·simp
theorem tail_up:∀ n:Fin 256,tailB (upB (UInt8.ofNat n.val))=tailB (UInt8.ofNat n.val):=by decide +kernel
theorem let_up:∀ n:Fin 256,letB (upB (UInt8.ofNat n.val))=letB (UInt8.ofNat n.val):=by decide +kernel
theorem up_up:∀ n:Fin 256,upB (upB (UInt8.ofNat n.val))=upB (UInt8.ofNat n.val):=by decide +kernel
theorem of_fin {p:UInt8->Prop} (h:∀ n:Fin 256,p (UInt8.ofNat n.val)) (c:UInt8):p c:=by
 have:=h ⟨c.toNat,c.toNat_lt⟩
 simpa using this
def goodT (t:Tok):Prop:=
 (t.1=1/\nameB t.2.1=true/\upper t.2.1=t.2.1/\t.2.2=0)∨(t.1=2/\t.2.1 = []/\t.2.2<=65535)∨(t.1=3/\t.2.1.any oddB=false/\t.2.2=0)∨(t.1=4/\(∃ c,t.2.1 = [c]/\markB c=true)/\t.2.2=0)
theorem unquote_plain (l:List UInt8) (h:(unquote l).2=0):(unquote l).1.any oddB=false:=by
 unfold unquote at *
 split at h
 ·simp at h
 ·rename_i hc
  rw [if_neg hc]
  rw [unq_eq] at *
  split at h
  ·simp [unqEnd] at h
  ·rename_i hu
   rw [if_neg hu]
   simp only [not_or] at hu
   have h1:=hu.1
   have h2:dbl (hal (inner l))=inner l:=by simpa using hu.2
   rw [← h2,dbl_any] at h1
   simpa [unqEnd] using h1
theorem name_good (s:List UInt8) (h:s≠[]) (h1:letB (s.headD 0)=true) (h2:¬ 16<spanL tailB s):nameB (upper (s.take (spanL tailB s)))=true:=by
 have hp:=spanL_pos tailB s h (by unfold tailB;rw [h1];rfl)
 have hle:=spanL_le tailB s
 have hall:=spanL_take tailB s
 unfold nameB
 simp only [Bool.and_eq_true,decide_eq_true_eq]
 refine ⟨⟨⟨by rw [upper_length,List.length_take];omega,by rw [upper_length,List.length_take];omega⟩,?_⟩,?_⟩
 ·obtain ⟨c,r,rfl⟩:∃ c r,s=c :: r:=by cases s with | nil=>exact absurd rfl h | cons c r=>exact ⟨c,r,rfl⟩
  obtain ⟨k,hk⟩:∃ k,spanL tailB (c :: r)=k+1:=⟨spanL tailB (c :: r) - 1,by omega⟩
  rw [hk]
  have:=of_fin (p:=fun c=>letB (upB c)=letB c) let_up c
  simpa [upper,this] using h1
 ·rw [List.all_eq_true]
  intro c hc
  simp only [upper,List.mem_map] at hc
  obtain ⟨d,hd,rfl⟩:=hc
  have h3:=of_fin (p:=fun c=>tailB (upB c)=tailB c) tail_up d
  have h4:=List.all_eq_true.mp hall d hd
  exact h3.trans h4
theorem firstT_good (s:List UInt8) (h:s≠[]) (hk:(firstT s).2.2=0):goodT (firstT s).1:=by
 unfold firstT at *
 by_cases h1:letB (s.headD 0)=true
 ·simp only [h1,if_true] at hk ⊢
  by_cases h2:16<spanL tailB s
  ·rw [if_pos h2] at hk;simp at hk
  ·rw [if_neg h2]
   refine .inl ⟨rfl,name_good s h h1 h2,?_,rfl⟩
   simp only [upper,List.map_map]
   congr 1
   funext c
   exact of_fin (p:=fun c=>upB (upB c)=upB c) up_up c
 ·simp only [h1,if_false,Bool.false_eq_true] at hk ⊢
  by_cases h3:numB (s.headD 0)=true
  ·simp only [h3,if_true] at hk ⊢
   exact .inr (.inl ⟨rfl,rfl,(parse_le _).1⟩)
  ·simp only [h3,if_false,Bool.false_eq_true] at hk ⊢
   by_cases h4:s.headD 0=39
   ·rw [if_pos h4] at hk ⊢
    by_cases h5:quotedL s=0
    ·rw [if_pos h5] at hk;simp at hk
    ·rw [if_neg h5] at hk ⊢
     exact .inr (.inr (.inl ⟨rfl,unquote_plain _ hk,rfl⟩))
   ·rw [if_neg h4] at hk ⊢
    by_cases h5:markB (s.headD 0)=true
    ·simp only [h5,if_true] at hk ⊢
     exact .inr (.inr (.inr ⟨rfl,⟨_,rfl,h5⟩,rfl⟩))
    ·simp only [h5,if_false,Bool.false_eq_true] at hk;simp at hk
theorem lineF_good (f:Nat) (s:List UInt8) (ts:List Tok) (h:s.length<f) (hg:∀ t∈ts,goodT t):∀ t∈(lineF f s ts).1,goodT t:=by
 induction f generalizing s ts with
 | zero=>omega
 | succ f ih=>
  match s with
  | []=>rw [lineF_nil];exact hg
  | c :: r=>
   simp at h
   by_cases h1:c=32∨c=9
   ·rw [lineF_space _ _ _ _ h1];exact ih r ts (by omega) hg
   by_cases h2:c=59
   ·rw [lineF_note _ _ _ _ h2];exact hg
   rw [lineF_tok _ _ _ _ (fun e=>h1 (.inl e)) (fun e=>h1 (.inr e)) h2]
   split
   ·rename_i hk
    have hlen:=firstT_len (c :: r) (by simp) hk
    refine ih _ _ (by simp at hlen ⊢;omega) ?_
    intro t ht
    rcases List.mem_append.mp ht with ht | ht
    ·exact hg t ht
    ·simp at ht;subst ht;exact firstT_good _ (by simp) hk
   ·simp
theorem lineL_good (l:List UInt8):∀ t∈(lineL l).1,goodT t:=by
 unfold lineL
 split
 ·simp
 ·exact lineF_good _ _ _ (by omega) (by simp)
def wordT (t:Tok):List UInt8:=if t.1=2 then showN t.2.2 else if t.1=3 then quoteL t.2.1 else t.2.1
theorem wordT_length (t:Tok) (hn:t.2.2<=65535):(wordT t).length<=2 * t.2.1.length+8:=by
 unfold wordT
 split
 ·by_cases h:t.2.2<10
  ·unfold showN;rw [if_pos h];simp
  ·obtain ⟨c,r,h1,h2,_⟩:=show_short _ h hn
   rw [h1];simp;omega
 ·split
  ·have:=(dbl_length t.2.1).2;unfold quoteL;simp;omega
  ·omega
theorem info_u8:(Tryz.prog.info? 5).map (fun i=>(i.zero,i.size,i.bytes))=some (some (.int .u8 0),1,1):=by kernel_rfl
theorem append_byte {ops:Array Oper} {rest:List Oper} {o:Oper} {a:Act} {Q:Exit->Act->World->Prop} (wr:World) (hgd:o.guard=none) (s x:Operand)
  (ho:o.op=.call { callee:=.builtin .append,args:=#[s,x],argTypes:=#[75,75] })
  (base:Nat) {v:Value} {n:Nat} {xs:List UInt8} (hown:wr.ownsRow base 5 1 v n (xs.map bv)) (hs:a.eval s=v)
  (c:Int) (c':UInt8) (hc:c=(c'.toNat:Int)) (hx:a.eval x=.slice (some ⟨wr.heap.size,0,none⟩) 1 1) (hn:n<=1000000000) (hbase:base<=wr.heap.size)
  (h:∀ v' w',w'.ownsRow base 5 1 v' (n+1) ((xs++[c']).map bv)->Below base wr w'->wpList Tryz.prog ops Q rest (a.put o.dst v') w'):wpList Tryz.prog ops Q (o :: rest) a (wr.alloc (.cells #[.int .u8 c] 5)):=by
 subst hc
 refine wpList_append_one wr hgd s x 75 ho base 5 (.int .u8 0) 1 1 Tryz.underlying75 info_u8 rfl (by decide) v n (xs.map bv) hs hown [bv c'] 5 hx rfl (by intro u hu;simp at hu;subst hu;rfl) hn (by decide) hbase ?_
 intro v' w' h1 h2
 exact h v' w' (by rw [List.map_append];exact h1) h2
theorem value_long (l:List UInt8) (h:2<l.length):valueL l=(0,5):=by
 match l,h with
 | c :: d :: e :: r,_=>rfl
theorem or_low (a b:Nat) (ha:a<256) (hb:b<256):bits .or .u16 ((a:Int) * 256) (b:Int)=((a * 256+b:Nat):Int):=by
 show IntKind.u16.wrap ((BitVec.ofInt 16 ((a:Int) * 256) ||| BitVec.ofInt 16 (b:Int)).toNat:Int)=_
 have h1:(BitVec.ofInt 16 ((a:Int) * 256)).toNat=a * 256:=by
  rw [show (a:Int) * 256=((a * 256:Nat):Int) by simp,BitVec.ofInt_natCast,BitVec.toNat_ofNat];exact Nat.mod_eq_of_lt (by omega)
 have h2:(BitVec.ofInt 16 (b:Int)).toNat=b:=by rw [BitVec.ofInt_natCast,BitVec.toNat_ofNat];exact Nat.mod_eq_of_lt (by omega)
 rw [BitVec.toNat_or,h1,h2,show a * 256=a <<< 8 by rw [Nat.shiftLeft_eq],← Nat.shiftLeft_add_eq_or_of_lt (by simpa using hb),Nat.shiftLeft_eq]
 exact IntWalk.u16_in _ (by omega)
theorem value_any (l:List UInt8) (w:World) (hl:l.length<=1000000) :
  Calls Tryz.prog 277 #[.string ⟨l.toArray⟩] w fun e w'=>e=.returned (.tuple #[.int .u16 (valueL l).1,.int .i64 (valueL l).2])/\Below w.heap.size w w':=by
 by_cases h2:2<l.length
 ·have hv:=LH (value_long l h2)
  have e1:(2:Int)<(l.length:Int):=by omega
  have e2:l.isEmpty=false:=by cases l with | nil=>simp at h2 | cons c r=>rfl
  generalize valueL l=v at *
  go_enter Tryz.func277, Tryz.ntmps277
  go_wp2_with fail
  go_ret2
  rw [hv.out]
  exact ⟨rfl,Below.refl _ _⟩
 ·match l with
  | []=>
   clear hl h2
   go_enter Tryz.func277, Tryz.ntmps277
   go_wp2_with fail
   go_ret2
   exact ⟨rfl,Below.refl _ _⟩
  | [c]=>
   clear hl h2
   have hcv:=fun W=>run_bytes_of_string (P:=Tryz.prog) W 9 75 5 ⟨[c].toArray⟩ Tryz.underlying9 Tryz.underlying75 Tryz.underlying5
   have h1:=c.toNat_lt
   go_enter Tryz.func277, Tryz.ntmps277
   go_wp2_with fail
   have hc0:((w.alloc (Obj.cells (bytesRow ⟨#[c]⟩ (grownCap w 1 0 5)) 5 ((bytesRow ⟨#[c]⟩ (grownCap w 1 0 5)).size,(bytesRow ⟨#[c]⟩ (grownCap w 1 0 5)).size+1))).drew).cell? ⟨w.heap.size,0,none⟩=some (.int .u8 (c.toNat:Int)):=
    (World.cell?_alloc_mark w _ _ _ 0).trans (bytesRow_at ⟨#[c]⟩ _ 0 (by simp))
   have hbel:Below w.heap.size w (w.alloc (Obj.cells (bytesRow ⟨#[c]⟩ (grownCap w 1 0 5)) 5 ((bytesRow ⟨#[c]⟩ (grownCap w 1 0 5)).size,(bytesRow ⟨#[c]⟩ (grownCap w 1 0 5)).size+1))).drew:=((Below.refl _ _).alloc (Nat.le_refl _) _).drew
   generalize (w.alloc (Obj.cells (bytesRow ⟨#[c]⟩ (grownCap w 1 0 5)) 5 ((bytesRow ⟨#[c]⟩ (grownCap w 1 0 5)).size,(bytesRow ⟨#[c]⟩ (grownCap w 1 0 5)).size+1))).drew=w1 at *
   have ho:bits .or .u16 0 (c.toNat:Int)=(c.toNat:Int):=by have:=or_low 0 c.toNat (by omega) h1;simpa using this
   refine wp_loop_rounds 2 ?_
   rw [rounds_succ]
   go_wp2_with fail
   rw [rounds_succ]
   go_wp2_with fail
   go_ret2
   exact ⟨rfl,hbel⟩
  | [c,d]=>
   clear hl h2
   have hcv:=fun W=>run_bytes_of_string (P:=Tryz.prog) W 9 75 5 ⟨[c,d].toArray⟩ Tryz.underlying9 Tryz.underlying75 Tryz.underlying5
   have h1:=c.toNat_lt
   have h2:=d.toNat_lt
   go_enter Tryz.func277, Tryz.ntmps277
   go_wp2_with fail
   have hc0:((w.alloc (Obj.cells (bytesRow ⟨#[c,d]⟩ (grownCap w 2 0 5)) 5 ((bytesRow ⟨#[c,d]⟩ (grownCap w 2 0 5)).size,(bytesRow ⟨#[c,d]⟩ (grownCap w 2 0 5)).size+1))).drew).cell? ⟨w.heap.size,0,none⟩=some (.int .u8 (c.toNat:Int)):=
    (World.cell?_alloc_mark w _ _ _ 0).trans (bytesRow_at ⟨#[c,d]⟩ _ 0 (by simp))
   have hc1:((w.alloc (Obj.cells (bytesRow ⟨#[c,d]⟩ (grownCap w 2 0 5)) 5 ((bytesRow ⟨#[c,d]⟩ (grownCap w 2 0 5)).size,(bytesRow ⟨#[c,d]⟩ (grownCap w 2 0 5)).size+1))).drew).cell? ⟨w.heap.size,1,none⟩=some (.int .u8 (d.toNat:Int)):=
    (World.cell?_alloc_mark w _ _ _ 1).trans (bytesRow_at ⟨#[c,d]⟩ _ 1 (by simp))
   have hbel:Below w.heap.size w (w.alloc (Obj.cells (bytesRow ⟨#[c,d]⟩ (grownCap w 2 0 5)) 5 ((bytesRow ⟨#[c,d]⟩ (grownCap w 2 0 5)).size,(bytesRow ⟨#[c,d]⟩ (grownCap w 2 0 5)).size+1))).drew:=((Below.refl _ _).alloc (Nat.le_refl _) _).drew
   generalize (w.alloc (Obj.cells (bytesRow ⟨#[c,d]⟩ (grownCap w 2 0 5)) 5 ((bytesRow ⟨#[c,d]⟩ (grownCap w 2 0 5)).size,(bytesRow ⟨#[c,d]⟩ (grownCap w 2 0 5)).size+1))).drew=w1 at *
   have ho:bits .or .u16 0 (c.toNat:Int)=(c.toNat:Int):=by have:=or_low 0 c.toNat (by omega) h1;simpa using this
   have ho2:=or_low c.toNat d.toNat h1 h2
   refine wp_loop_rounds 3 ?_
   rw [rounds_succ]
   go_wp2_with fail
   rw [rounds_succ]
   go_wp2_with fail
   rw [rounds_succ]
   go_wp2_with fail
   go_ret2
   exact ⟨rfl,hbel⟩
  | c :: d :: e :: r=>exact absurd (by simp) h2
theorem byte_ways (c:UInt8) :
  (alphaB c=true/\(c.toNat:Int)<128/\letB c=true) ∨
  (alphaB c=false/\((c.toNat:Int) == 63)=true/\letB c=true) ∨
  (alphaB c=false/\((c.toNat:Int) == 63)=false/\((c.toNat:Int) == 64)=true/\letB c=true) ∨
  (alphaB c=false/\((c.toNat:Int) == 63)=false/\((c.toNat:Int) == 64)=false/\((c.toNat:Int) == 95)=true/\letB c=true) ∨
  (alphaB c=false/\((c.toNat:Int) == 63)=false/\((c.toNat:Int) == 64)=false/\((c.toNat:Int) == 95)=false/\(48:Int)<=(c.toNat:Int)/\(c.toNat:Int)<=57/\letB c=false/\numB c=true) ∨
  (alphaB c=false/\((c.toNat:Int) == 63)=false/\((c.toNat:Int) == 64)=false/\((c.toNat:Int) == 95)=false/\(c.toNat:Int)<48/\letB c=false/\numB c=false) ∨
  (alphaB c=false/\((c.toNat:Int) == 63)=false/\((c.toNat:Int) == 64)=false/\((c.toNat:Int) == 95)=false/\(48:Int)<=(c.toNat:Int)/\(57:Int)<(c.toNat:Int)/\letB c=false/\numB c=false):=by
 have:∀ n:Fin 256, 
  (alphaB (UInt8.ofNat n.val)=true/\(n.val:Int)<128/\letB (UInt8.ofNat n.val)=true) ∨
  (alphaB (UInt8.ofNat n.val)=false/\((n.val:Int) == 63)=true/\letB (UInt8.ofNat n.val)=true) ∨
  (alphaB (UInt8.ofNat n.val)=false/\((n.val:Int) == 63)=false/\((n.val:Int) == 64)=true/\letB (UInt8.ofNat n.val)=true) ∨
  (alphaB (UInt8.ofNat n.val)=false/\((n.val:Int) == 63)=false/\((n.val:Int) == 64)=false/\((n.val:Int) == 95)=true/\letB (UInt8.ofNat n.val)=true) ∨
  (alphaB (UInt8.ofNat n.val)=false/\((n.val:Int) == 63)=false/\((n.val:Int) == 64)=false/\((n.val:Int) == 95)=false/\(48:Int)<=(n.val:Int)/\(n.val:Int)<=57/\letB (UInt8.ofNat n.val)=false/\numB (UInt8.ofNat n.val)=true) ∨
  (alphaB (UInt8.ofNat n.val)=false/\((n.val:Int) == 63)=false/\((n.val:Int) == 64)=false/\((n.val:Int) == 95)=false/\(n.val:Int)<48/\letB (UInt8.ofNat n.val)=false/\numB (UInt8.ofNat n.val)=false) ∨
  (alphaB (UInt8.ofNat n.val)=false/\((n.val:Int) == 63)=false/\((n.val:Int) == 64)=false/\((n.val:Int) == 95)=false/\(48:Int)<=(n.val:Int)/\(57:Int)<(n.val:Int)/\letB (UInt8.ofNat n.val)=false/\numB (UInt8.ofNat n.val)=false):=by decide +kernel
 have h:=this ⟨c.toNat,c.toNat_lt⟩
 simpa only [UInt8.ofNat_toNat] using h
def nameTo (l:List UInt8) (k:Nat):Bool:=(l.take k).all (fun c=>letB c || numB c) && (k == 0 || letB (l.headD 0))
theorem nameTo_step (l:List UInt8) (k:Nat) (hk:k<l.length) (h:nameTo l k=true) (hc:letB l[k]=true∨(0<k/\numB l[k]=true)):nameTo l (k+1)=true:=by
 unfold nameTo at *
 rw [List.take_succ_eq_append_getElem hk]
 simp only [Bool.and_eq_true,List.all_append,List.all_cons,List.all_nil,Bool.and_true,Bool.or_eq_true] at h ⊢
 refine ⟨⟨h.1,by rcases hc with h | h;exact .inl h;exact .inr h.2⟩,.inr ?_⟩
 rcases Nat.eq_zero_or_pos k with rfl | h0
 ·rcases hc with hc | hc
  ·cases l with
   | nil=>simp at hk
   | cons c r=>exact hc
  ·omega
 ·rcases h.2 with h2 | h2
  ·simp at h2;omega
  ·exact h2
theorem nameTo_no (l:List UInt8) (k:Nat) (hk:k<l.length) (hc:letB l[k]=false) (hn:k=0∨numB l[k]=false):nameB l=false:=by
 unfold nameB
 rcases hn with rfl | hn
 ·have:letB (l.headD 0)=false:=by
   cases l with
   | nil=>simp at hk
   | cons c r=>exact hc
  rw [this];simp
 ·have:(l.all fun c=>letB c || numB c)=false:=by
   rw [List.all_eq_false]
   exact ⟨l[k],List.getElem_mem hk,by simp [hc,hn]⟩
  rw [this];simp
theorem nameTo_end (l:List UInt8) (h1:1<=l.length) (h2:l.length<=16) (h:nameTo l l.length=true):nameB l=true:=by
 unfold nameTo at h
 unfold nameB
 rw [List.take_length] at h
 simp only [Bool.and_eq_true,Bool.or_eq_true,decide_eq_true_eq] at h ⊢
 refine ⟨⟨⟨h1,h2⟩,?_⟩,h.1⟩
 rcases h.2 with h2 | h2
 ·simp at h2;subst h2;simp at h1
 ·exact h2
theorem name_any (l:List UInt8) (w:World) (hl:l.length<=1000000) :
  Calls Tryz.prog 141 #[.string ⟨l.toArray⟩] w fun e w'=>e=.returned (.bool (nameB l))/\w=w':=by
 by_cases h0:l = []
 ·subst h0
  go_enter Tryz.func141, Tryz.ntmps141
  go_wp2_with fail
  go_ret
  exact ⟨rfl,rfl⟩
 have h1:1<=l.length:=by cases l with | nil=>simp at h0 | cons c r=>simp
 have he:l.isEmpty=false:=by cases l with | nil=>simp at h0 | cons c r=>rfl
 by_cases h16:16<l.length
 ·have h16':(16:Int)<(l.length:Int):=by omega
  have hf:Hid (nameB l=false):=LH (by unfold nameB;rw [show decide (l.length<=16)=false by simp;omega];simp)
  clear h0
  generalize nameB l=r at *
  go_enter Tryz.func141, Tryz.ntmps141
  go_wp2_with fail
  go_ret
  rw [hf.out]
  exact ⟨rfl,rfl⟩
 have h16':(l.length:Int)<=16:=by omega
 have d16:decide ((16:Int)<(l.length:Int))=false:=by simp;omega
 have hE:=fun h=>LH (nameTo_end l h1 (by omega) h)
 have hE':=LH hE
 have hN:=LH (nameTo_no l)
 clear hE h0
 generalize nameB l=r at *
 go_enter Tryz.func141, Tryz.ntmps141
 go_wp2_with fail
 go_loop [14] (fun i=>∃ k:Nat,k<=l.length/\i=.int .i64 k/\nameTo l k=true) (fun i=>l.length - (intOf i).toNat)
 case atStart=>exact ⟨0,Nat.zero_le _,rfl,rfl⟩
 case round=>
  obtain ⟨k,hk,rfl,hnt⟩:=hrel
  have HT:=LH hnt
  clear hnt
  by_cases hlt:k<l.length
  ·go_wp2_with fail
   refine (begins_any _ _).mono ?_
   rintro e w' ⟨rfl,rfl⟩
   rcases byte_ways l[k] with ⟨e1,e2,b1⟩ | ⟨e1,e2,b1⟩ | ⟨e1,e2,e3,b1⟩ | ⟨e1,e2,e3,e4,b1⟩ | ⟨e1,e2,e3,e4,e5,e6,b1,b2⟩ | ⟨e1,e2,e3,e4,e5,b1,b2⟩ | ⟨e1,e2,e3,e4,e5,e6,b1,b2⟩
   iterate 4
    ·have HS:=LH (nameTo_step l k hlt HT.out (.inl b1))
     clear b1
     go_wp2_with fail
     go_round
     case rel=>exact ⟨k+1,by omega,by go_num,HS.out⟩
     case measure=>simp [intOf];omega
   ·by_cases hk0:0<k
    ·have HS:=LH (nameTo_step l k hlt HT.out (.inr ⟨hk0,b2⟩))
     have hk0':(0:Int)<(k:Int):=by omega
     clear b1 b2
     go_wp2_with fail
     go_round
     case rel=>exact ⟨k+1,by omega,by go_num,HS.out⟩
     case measure=>simp [intOf];omega
    ·have HS:=LH (hN.out k hlt b1 (.inl (by omega)))
     obtain rfl:k=0:=by omega
     clear b1 b2
     go_wp2_with fail
     go_ret
     rw [HS.out]
     exact ⟨rfl,rfl⟩
   iterate 2
    ·have HS:=LH (hN.out k hlt b1 (.inr b2))
     clear b1 b2
     by_cases hk0:0<k
     ·have hk0':(0:Int)<(k:Int):=by omega
      go_wp2_with fail
      go_ret
      rw [HS.out]
      exact ⟨rfl,rfl⟩
     ·obtain rfl:k=0:=by omega
      go_wp2_with fail
      go_ret
      rw [HS.out]
      exact ⟨rfl,rfl⟩
  ·obtain rfl:k=l.length:=by omega
   have HS:=LH (hE'.out HT.out).out
   go_wp2_with fail
   go_ret
   rw [HS.out]
   exact ⟨rfl,rfl⟩
def isT (t:Tok) (ls:List (List UInt8)):Bool:=decide (t.1=4) && decide (t.2.1∈ls)
theorem cutIs_any (t:Tok) (ls:List (List UInt8)) (g n h:Nat) (w:World) (hn:n=ls.length) (hl:ls.length<=1000)
  (hc:∀ j (hj:j<ls.length),w.cell? ⟨g,j,none⟩=some (.string ⟨ls[j].toArray⟩))
  (h0:w.cell? ⟨h,0,none⟩=some (.int .i64 t.1)) (h1:w.cell? ⟨h,1,none⟩=some (.string ⟨t.2.1.toArray⟩)) :
  Calls Tryz.prog 114 #[.slice (some ⟨g,0,none⟩) n n,.pointer (some ⟨h,0,none⟩)] w fun e w'=>e=.returned (.bool (isT t ls))/\w'=w:=by
 subst hn
 have HC:=LH hc
 clear hc
 obtain ⟨tk,tS,tn⟩:=t
 simp only at h0 h1
 go_enter Tryz.func114, Tryz.ntmps114
 go_wp2_with fail
 go_loop [8] (fun i=>∃ k:Nat,k<=ls.length/\i=.int .i64 k/\(tk=4->tS∉ls.take k)) (fun i=>ls.length - (intOf i).toNat)
 case atStart=>exact ⟨0,Nat.zero_le _,rfl,by simp⟩
 case round=>
  obtain ⟨k,hk,rfl,hno⟩:=hrel
  have HNO:=LH hno
  clear hno
  by_cases hlt:k<ls.length
  ·have c1:=HC.out k hlt
   have hrow:ls.take (k+1)=ls.take k++[ls[k]]:=List.take_succ_eq_append_getElem hlt
   have hmem:ls[k]∈ls:=List.getElem_mem _
   have HM:=LH hmem
   clear hmem
   generalize ls[k]=s at *
   by_cases h4:tk=4
   ·subst h4
    by_cases hs:tS=s
    ·have HI:Hid (isT (4,tS,tn) ls=true):=LH (by unfold isT;simp [hs,HM.out])
     clear hrow
     subst hs
     go_wp2_with fail
     go_ret
     rw [HI.out]
     exact ⟨rfl,rfl⟩
    ·have HN:Hid ((4:Int)=4->tS∉ls.take (k+1)):=LH (fun _=>by rw [hrow];simp only [List.mem_append,List.mem_singleton,not_or];exact ⟨HNO.out rfl,hs⟩)
     have hsb:(tS == s)=false:=by simp [hs]
     clear hrow
     go_wp2_with fail
     go_round
     case rel=>exact ⟨k+1,by omega,by go_num,fun _=>HN.out rfl⟩
     case measure=>simp [intOf];omega
   ·have e4:(tk == 4)=false:=by simp [h4]
    clear hrow
    go_wp2_with fail
    go_round
    case rel=>exact ⟨k+1,by omega,by go_num,fun e=>absurd e h4⟩
    case measure=>simp [intOf];omega
  ·obtain rfl:k=ls.length:=by omega
   have HI:Hid (isT (tk,tS,tn) ls=false):=LH (by
    have:=HNO.out
    rw [List.take_length] at this
    unfold isT
    by_cases h4:tk=4
    ·simp [this h4]
    ·simp [h4])
   go_wp2_with fail
   go_ret
   rw [HI.out]
   exact ⟨rfl,rfl⟩
def cutF (sep:List UInt8):List Tok->Nat->List Tok->List (List Tok)->List (List Tok)
 | [],_,cur,acc=>acc++[cur]
 | t :: r,d,cur,acc=>
  let d1:=if isT t [[41],[93]] then d - 1 else d
  let d2:=if isT t [[40],[91]] then d1+1 else d1
  if isT t [sep] && d1 == 0 then cutF sep r d2 [] (acc++[cur]) else cutF sep r d2 (cur++[t]) acc
def cutL (sep:List UInt8) (ts:List Tok):List (List Tok):=if ts = [] then [] else cutF sep ts 0 [] []
theorem cutF_cons (sep:List UInt8) (t:Tok) (r:List Tok) (d:Nat) (cur:List Tok) (acc:List (List Tok)) (a1 a2 a3:Bool) (h1:isT t [[41],[93]]=a1) (h2:isT t [sep]=a2) (h3:isT t [[40],[91]]=a3) (d1:Nat) (hd:d1=if a1 then d - 1 else d) :
  cutF sep (t :: r) d cur acc=if a2 && d1 == 0 then cutF sep r (if a3 then d1+1 else d1) [] (acc++[cur]) else cutF sep r (if a3 then d1+1 else d1) (cur++[t]) acc:=by
 subst hd h1 h2 h3
 rfl
def Parts (w:World) (B:Nat) (vs:List Value) (ps:List (List Tok)):Prop:=
 vs.length=ps.length/\∀ (i:Nat) (v:Value) (p:List Tok),vs[i]? = some v->ps[i]? = some p->(∃ base,w.ownsRow base 153 3 v p.length (tokRow p))/\∀ g,v.ownBlock=some g->g<B
theorem Parts.keep {w w':World} {B B':Nat} {vs:List Value} {ps:List (List Tok)} {row:Option Nat} (h:Parts w B vs ps) (hg:w.grownBy w' row) (hB:B<=B') (hr:∀ b v n x,w.ownsRow b 153 3 v n x->(∀ g,v.ownBlock=some g->g<B)->v.ownBlock=none∨v.ownBlock≠row):Parts w' B' vs ps:=by
 refine ⟨h.1,fun i v p hv hp=>?_⟩
 obtain ⟨⟨base,h1⟩,h2⟩:=h.2 i v p hv hp
 exact ⟨⟨base,h1.kept hg (hr base v _ _ h1 h2)⟩,fun g hgg=>Nat.lt_of_lt_of_le (h2 g hgg) hB⟩
theorem Parts.snoc {w:World} {B b:Nat} {vs:List Value} {ps:List (List Tok)} {v:Value} {p:List Tok} (h:Parts w B vs ps) (hv:w.ownsRow b 153 3 v p.length (tokRow p)) (hB:∀ g,v.ownBlock=some g->g<B):Parts w B (vs++[v]) (ps++[p]):=by
 refine ⟨by simp [h.1],fun i v' p' hv' hp'=>?_⟩
 rcases Nat.lt_trichotomy i vs.length with hi | hi | hi
 ·rw [List.getElem?_append_left hi] at hv'
  rw [List.getElem?_append_left (by rw [← h.1];exact hi)] at hp'
  exact h.2 i v' p' hv' hp'
 ·subst hi
  rw [List.getElem?_append_right (Nat.le_refl _),Nat.sub_self] at hv'
  rw [List.getElem?_append_right (by rw [← h.1];exact Nat.le_refl _),h.1,Nat.sub_self] at hp'
  simp at hv' hp'
  subst hv' hp'
  exact ⟨⟨b,hv⟩,hB⟩
 ·rw [List.getElem?_eq_none (by simp;omega)] at hv'
  simp at hv'
theorem Parts.nil (w:World) (B:Nat):Parts w B [] []:=⟨rfl,fun i v p h=>by simp at h⟩
theorem Parts.below {w w':World} {B:Nat} {vs:List Value} {ps:List (List Tok)} (h:Parts w B vs ps) (hb:Below w.heap.size w w'):Parts w' B vs ps:=
 h.keep (only_of_below hb none) (Nat.le_refl _) (fun _ v _ _ _ _=>by cases v.ownBlock <;> simp)
theorem Parts.alloc {w:World} {B:Nat} {vs:List Value} {ps:List (List Tok)} (h:Parts w B vs ps) (o:Obj):Parts (w.alloc o) B vs ps:=h.below ((Below.refl _ _).alloc (Nat.le_refl _) o)
theorem info_toks:(Tryz.prog.info? 145).map (fun i=>(i.zero,i.size,i.bytes))=some (some (.slice none 0 0),1,24):=by kernel_rfl
theorem max_pred (d:Nat):max ((d:Int) - 1) 0=((d - 1:Nat):Int):=by omega
set_option maxRecDepth 100000 in
theorem cut_any (sep:List UInt8) (ts:List Tok) (v:Value) (w:World) (hr:Rd w w.heap.size v ts.length (tokRow ts)) (hl:ts.length<=1000) :
  Calls Tryz.prog 67 #[v,.string ⟨sep.toArray⟩] w fun e w'=>∃ v' vs,e=.returned v'/\w'.ownsRow w.heap.size 145 1 v' (cutL sep ts).length vs/\Parts w' w'.heap.size vs (cutL sep ts)/\Below w.heap.size w w':=by
 obtain ⟨A,c,rfl,hc⟩:=hr.form
 have HR:=LH hr
 clear hr
 have HC:Hid (cutL sep ts=if ts = [] then [] else cutF sep ts 0 [] []):=LH rfl
 generalize cutL sep ts=res at *
 by_cases h0:ts = []
 ·have hres:=HC.out.trans (if_pos h0)
  subst h0 hres
  clear HC
  go_enter Tryz.func67, Tryz.ntmps67
  go_wp2_with fail
  go_ret
  exact ⟨_,[],rfl,World.ownsRow_nil _ _ _ _,Parts.nil _ _,Below.refl _ _⟩
 have HF:=LH (HC.out.trans (if_neg h0))
 have hpos:ts.length≠0:=fun h=>h0 (List.eq_nil_of_length_eq_zero h)
 have hpos':((ts.length:Int) == 0)=false:=by rw [beq_eq_false_iff_ne];omega
 clear HC
 go_enter Tryz.func67, Tryz.ntmps67
 go_wp2_with fail
 go_loopw [4,5,6,15] (fun vo vp dp i wr=>∃ (k d:Nat) (cur:List Tok) (acc:List (List Tok)) (vs:List Value) (B:Nat),k<=ts.length/\i=.int .i64 k/\dp=.int .i64 d/\d<=k/\acc.length<=k/\cur.length<=k/\res=cutF sep (ts.drop k) d cur acc/\w.heap.size<=B/\B<=wr.heap.size /\
   wr.ownsRow w.heap.size 145 1 vo acc.length vs/\Parts wr B vs acc/\wr.ownsRow B 153 3 vp cur.length (tokRow cur)/\Below w.heap.size w wr) (fun _ _ _ i _=>ts.length - (intOf i).toNat)
 case atStart=>exact ⟨0,0,[],[],[],w.heap.size,Nat.zero_le _,rfl,rfl,Nat.le_refl _,Nat.le_refl _,Nat.le_refl _,HF.out,Nat.le_refl _,Nat.le_refl _,World.ownsRow_nil _ _ _ _,Parts.nil _ _,World.ownsRow_nil _ _ _ _,Below.refl _ _⟩
 case round=>
  clear HF
  obtain ⟨k,d,cur,acc,vs,B,hk,rfl,rfl,hdk,hak,hck,hres,hB1,hB2,ho,hp,hq,hb⟩:=hrel
  have hsz:=hb.size
  have HX:=LH hres
  clear hres
  by_cases hlt:k<ts.length
  ·obtain ⟨g,o,rfl,hg',c1,c2,c3⟩:=HR.out.tok k hlt
   have hdrop:ts.drop k=ts[k] :: ts.drop (k+1):=List.drop_eq_getElem_cons hlt
   rw [hdrop] at HX
   generalize ts[k]=t at *
   have d1:=(hb.cell (p:=⟨g,o+k * 3,none⟩) hg').trans c1
   have d2:=(hb.cell (p:=⟨g,o+k * 3+1,none⟩) hg').trans c2
   have d3:=(hb.cell (p:=⟨g,o+k * 3+2,none⟩) hg').trans c3
   clear c1 c2 c3 hdrop
   obtain ⟨a1,h1⟩:∃ b,isT t [[41],[93]]=b:=⟨_,rfl⟩
   obtain ⟨a2,h2⟩:∃ b,isT t [sep]=b:=⟨_,rfl⟩
   obtain ⟨a3,h3⟩:∃ b,isT t [[40],[91]]=b:=⟨_,rfl⟩
   obtain ⟨dn,hdn⟩:∃ n,n=if a1 then d - 1 else d:=⟨_,rfl⟩
   have HZ:=LH (HX.out.trans (cutF_cons sep t _ d cur acc a1 a2 a3 h1 h2 h3 dn hdn))
   have hdn2:dn<=k:=by rw [hdn];split <;> omega
   clear HX
   have ho_ne:some wr.heap.size≠u4.ownBlock:=fun h=>absurd (ho.lt _ h.symm).2 (by omega)
   have hq_ne:some wr.heap.size≠u5.ownBlock:=fun h=>absurd (hq.lt _ h.symm).2 (by omega)
   go_wp2_with fail
   refine (cutIs_any t [[41],[93]] (wr.heap.size+1) 2 wr.heap.size _ rfl (by simp) (by have:=strs_new (wr.alloc (.cells (tokCells t).toArray 153)) [[41],[93]] 9;rwa [show (wr.alloc (.cells (tokCells t).toArray 153)).heap.size=wr.heap.size+1 by simp] at this) (new_keep (new_at wr (tokCells t) _ 0 _ rfl)) (new_keep (new_at wr (tokCells t) _ 1 _ rfl))).mono ?_
   rintro e w1 ⟨rfl,hw1⟩
   have hb1:Below w.heap.size w w1:=by rw [hw1];exact (hb.alloc hsz _).alloc (by simp;omega) _
   have ho1:=hw1 ▸ (ho.alloc (.cells (tokCells t).toArray 153)).alloc (.cells #[.string ⟨#[41]⟩,.string ⟨#[93]⟩] 9)
   have hp1:=hw1 ▸ (hp.alloc (.cells (tokCells t).toArray 153)).alloc (.cells #[.string ⟨#[41]⟩,.string ⟨#[93]⟩] 9)
   have hq1:=hw1 ▸ (hq.alloc (.cells (tokCells t).toArray 153)).alloc (.cells #[.string ⟨#[41]⟩,.string ⟨#[93]⟩] 9)
   have hBs1:B<=w1.heap.size:=by rw [hw1];simp;omega
   have hH1:wr.heap.size<w1.heap.size:=by rw [hw1];simp;omega
   have R0:w1.cell? ⟨wr.heap.size,0,none⟩=some (.int .i64 t.1):=by rw [hw1];exact new_keep (new_at wr (tokCells t) _ 0 _ rfl)
   have R1:w1.cell? ⟨wr.heap.size,1,none⟩=some (.string ⟨t.2.1.toArray⟩):=by rw [hw1];exact new_keep (new_at wr (tokCells t) _ 1 _ rfl)
   have R2:w1.cell? ⟨wr.heap.size,2,none⟩=some (.int .u16 t.2.2):=by rw [hw1];exact new_keep (new_at wr (tokCells t) _ 2 _ rfl)
   clear hw1 ho hp hq d1 d2 d3
   rw [h1]
   have hmx:=max_pred d
   cases a1
   all_goals (
    first | (have hdd:dn=d:=hdn;clear hdn;subst hdd) | (have hdd:dn=d - 1:=hdn;clear hdn;rw [← hdd] at hmx;clear hdd)
    go_wp2_with fail
    refine (cutIs_any t [sep] w1.heap.size 1 wr.heap.size _ rfl (by simp) (strs_new w1 [sep] _) (new_keep R0) (new_keep R1)).mono ?_
    rintro e w2 ⟨rfl,hw2⟩
    have hb2:Below w.heap.size w w2:=by rw [hw2];exact hb1.alloc hb1.size _
    have ho2:=hw2 ▸ ho1.alloc (.cells #[.string ⟨sep.toArray⟩] 9)
    have hp2:=hw2 ▸ hp1.alloc (.cells #[.string ⟨sep.toArray⟩] 9)
    have hq2:=hw2 ▸ hq1.alloc (.cells #[.string ⟨sep.toArray⟩] 9)
    have hBs2:B<=w2.heap.size:=by rw [hw2];simp;omega
    have hH2:wr.heap.size<w2.heap.size:=by rw [hw2];simp;omega
    have S0:w2.cell? ⟨wr.heap.size,0,none⟩=some (.int .i64 t.1):=by rw [hw2];exact new_keep R0
    have S1:w2.cell? ⟨wr.heap.size,1,none⟩=some (.string ⟨t.2.1.toArray⟩):=by rw [hw2];exact new_keep R1
    have S2:w2.cell? ⟨wr.heap.size,2,none⟩=some (.int .u16 t.2.2):=by rw [hw2];exact new_keep R2
    clear hw2 ho1 hp1 hq1 R0 R1 R2 hb1 hH1 hBs1
    rw [h2]
    by_cases hcut:(a2 && dn == 0)=true
    ·have hdz:dn=0:=by simp at hcut;exact hcut.2
     have ha2:a2=true:=by simp at hcut;exact hcut.1
     have hdz':((dn:Int) == 0)=true:=by rw [hdz];rfl
     have HY0:=LH (HZ.out.trans (if_pos hcut))
     clear HZ hcut
     rw [ha2]
     have hone:=own_one hq2
     obtain ⟨pA,pc,hpv,_⟩:=(Rd.of_own hq2).form
     subst hpv
     go_wp2_with (at_builtin;refine wpList_append_rd (w2.alloc (.cells #[.slice pA cur.length pc] 145)) (by rfl) _ _ 155 rfl w.heap.size 145 _ 1 24 Tryz.underlying155 info_toks rfl (by decide) (ho2.alloc _) rfl (Rd.new w2 [.slice pA cur.length pc] _) rfl rfl hone (by omega) (by omega) (by simp;omega) ?_)
     intro v3 w3 ho3 hb3' hgr3
     have hb3:=(hb2.alloc hb2.size _).trans hb3'
     have hsz3:w2.heap.size<w3.heap.size:=by have:=hgr3.size;simp at this;omega
     have hpart:=(hq2.alloc (.cells #[.slice pA cur.length pc] 145)).kept hgr3 (own_apart hq2 ho2 (by decide))
     have hp3:Parts w3 w3.heap.size (vs++[.slice pA cur.length pc]) (acc++[cur]):=
      ((hp2.alloc _).keep hgr3 (by omega) (fun b v n x hv _=>own_apart hv (ho2.alloc _) (by decide))).snoc hpart (fun g hg=>(hpart.lt g hg).2)
     have T0:=hgr3.cell (new_keep S0) ho_ne
     have T1:=hgr3.cell (new_keep S1) ho_ne
     obtain ⟨cur3,hcur3⟩:∃ x:List Tok,x = []:=⟨_,rfl⟩
     obtain ⟨acc3,hacc3⟩:∃ x,x=acc++[cur]:=⟨_,rfl⟩
     obtain ⟨vs3,hvs3⟩:∃ x,x=vs++[Value.slice pA cur.length pc]:=⟨_,rfl⟩
     obtain ⟨B3,hB3⟩:∃ x,x=w3.heap.size:=⟨_,rfl⟩
     have hq3:w3.ownsRow B3 153 3 (.slice none 0 0) cur3.length (tokRow cur3):=by rw [hcur3];exact World.ownsRow_nil _ _ _ _
     have HY:=LH (HY0.out)
     rw [← hcur3,← hacc3] at HY
     rw [← hacc3,← hvs3,← hB3] at hp3
     have ho3':w3.ownsRow w.heap.size 145 1 v3 acc3.length vs3:=by rw [hacc3,hvs3,List.length_append];exact ho3
     replace ho3:=ho3'
     have hl1:acc3.length<=k+1:=by rw [hacc3];simp;omega
     have hl2:cur3.length<=k+1:=by rw [hcur3];simp
     have hB31:w.heap.size<=B3:=by have:=hb2.size;omega
     have hB32:B3<=w3.heap.size:=by omega
     clear hcur3 hacc3 hvs3 hB3 ho3' ho2 hp2 hq2 hpart hgr3 hb3' HY0 S0 S1 S2 hone
     go_wp2_with fail
     refine (cutIs_any t [[40],[91]] w3.heap.size 2 wr.heap.size _ rfl (by simp) (strs_new w3 [[40],[91]] _) (new_keep T0) (new_keep T1)).mono ?_
     rintro e w4 ⟨rfl,hw4⟩
     have hb4:Below w.heap.size w w4:=by rw [hw4];exact hb3.alloc hb3.size _
     have ho4:=hw4 ▸ ho3.alloc (.cells #[.string ⟨#[40]⟩,.string ⟨#[91]⟩] 9)
     have hp4:=hw4 ▸ hp3.alloc (.cells #[.string ⟨#[40]⟩,.string ⟨#[91]⟩] 9)
     have hq4:=hw4 ▸ hq3.alloc (.cells #[.string ⟨#[40]⟩,.string ⟨#[91]⟩] 9)
     have hB4:B3<=w4.heap.size:=by rw [hw4];simp;omega
     clear hw4 ho3 hp3 hq3
     rw [h3]
     cases a3
     ·go_wp2_with fail
      go_roundw
      case rel=>exact ⟨k+1,dn,cur3,acc3,vs3,B3,by omega,by go_num,(by first | rfl | (rw [hdz];rfl)),by omega,by omega,by omega,HY.out,hB31,hB4,ho4,hp4,hq4,hb4⟩
      case measure=>simp [intOf];omega
     ·go_wp2_with fail
      go_roundw
      case rel=>exact ⟨k+1,dn+1,cur3,acc3,vs3,B3,by omega,by go_num,by go_num,by omega,by omega,by omega,HY.out,hB31,hB4,ho4,hp4,hq4,hb4⟩
      case measure=>simp [intOf];omega
    ·have HY0:=LH (HZ.out.trans (if_neg hcut))
     have hsplit:a2=false∨(a2=true/\((dn:Int) == 0)=false):=by
      cases a2
      ·exact .inl rfl
      ·right
       refine ⟨rfl,?_⟩
       simp at hcut
       rw [beq_eq_false_iff_ne];omega
     clear HZ hcut
     rcases hsplit with ha2 | ⟨ha2,hdz'⟩
     all_goals (
      rw [ha2]
      go_wp2_with (at_builtin;refine wpList_append_rd (w2.alloc (.cells (tokCells t).toArray 153)) (by rfl) _ _ 145 rfl B 153 _ 3 32 Tryz.underlying145 info_tok rfl (by decide) (hq2.alloc _) rfl (Rd.new w2 (tokCells t) _) rfl rfl (tokCells_one _) (by omega) (by omega) (by simp;omega) ?_)
      intro v3 w3 hq3' hb3' hgr3
      have hb3:Below w.heap.size w w3:=(hb2.alloc hb2.size _).trans (hb3'.mono hB1)
      have hsz3:w2.heap.size<w3.heap.size:=by have:=hgr3.size;simp at this;omega
      have ho3:=(ho2.alloc (.cells (tokCells t).toArray 153)).kept hgr3 (own_apart ho2 hq2 (by decide))
      have hp3:Parts w3 B vs acc:=(hp2.alloc _).keep hgr3 (Nat.le_refl _) (fun b v n x hv hlt=>by
       cases hob:v.ownBlock with
       | none=>exact .inl rfl
       | some g=>
        right
        intro h
        have h1:=hlt g hob
        have h2:=(hq2.lt g h.symm).1
        omega)
      have T0:=hgr3.cell (new_keep S0) hq_ne
      have T1:=hgr3.cell (new_keep S1) hq_ne
      obtain ⟨cur3,hcur3⟩:∃ x,x=cur++[t]:=⟨_,rfl⟩
      have hq3:w3.ownsRow B 153 3 v3 cur3.length (tokRow cur3):=by rw [hcur3,tokRow_snoc,List.length_append];exact hq3'
      have HY:=LH (HY0.out)
      rw [← hcur3] at HY
      have hl2:cur3.length<=k+1:=by rw [hcur3];simp;omega
      clear hcur3 hq3' ho2 hp2 hq2 hgr3 hb3' HY0 S0 S1 S2
      go_wp2_with fail
      refine (cutIs_any t [[40],[91]] w3.heap.size 2 wr.heap.size _ rfl (by simp) (strs_new w3 [[40],[91]] _) (new_keep T0) (new_keep T1)).mono ?_
      rintro e w4 ⟨rfl,hw4⟩
      have hb4:Below w.heap.size w w4:=by rw [hw4];exact hb3.alloc hb3.size _
      have ho4:=hw4 ▸ ho3.alloc (.cells #[.string ⟨#[40]⟩,.string ⟨#[91]⟩] 9)
      have hp4:=hw4 ▸ hp3.alloc (.cells #[.string ⟨#[40]⟩,.string ⟨#[91]⟩] 9)
      have hq4:=hw4 ▸ hq3.alloc (.cells #[.string ⟨#[40]⟩,.string ⟨#[91]⟩] 9)
      have hB4:B<=w4.heap.size:=by rw [hw4];simp;omega
      clear hw4 ho3 hp3 hq3
      rw [h3]
      cases a3
      ·go_wp2_with fail
       go_roundw
       case rel=>exact ⟨k+1,dn,cur3,acc,vs,B,by omega,by go_num,(by first | rfl | (rw [hdz];rfl)),by omega,by omega,by omega,HY.out,hB1,hB4,ho4,hp4,hq4,hb4⟩
       case measure=>simp [intOf];omega
      ·go_wp2_with fail
       go_roundw
       case rel=>exact ⟨k+1,dn+1,cur3,acc,vs,B,by omega,by go_num,by go_num,by omega,by omega,by omega,HY.out,hB1,hB4,ho4,hp4,hq4,hb4⟩
       case measure=>simp [intOf];omega)
    )
  ·obtain rfl:k=ts.length:=by omega
   rw [List.drop_length] at HX
   have hres:res=acc++[cur]:=HX.out
   clear HX
   have hone:=own_one hq
   obtain ⟨pA,pc,rfl,_⟩:=(Rd.of_own hq).form
   go_wp2_with (at_builtin;refine wpList_append_rd (wr.alloc (.cells #[.slice pA cur.length pc] 145)) (by rfl) _ _ 155 rfl w.heap.size 145 _ 1 24 Tryz.underlying155 info_toks rfl (by decide) (ho.alloc _) rfl (Rd.new wr [.slice pA cur.length pc] _) rfl rfl hone (by omega) (by omega) (by simp;omega) ?_)
   intro v3 w3 ho3 hb3 hgr3
   have hp3:Parts w3 w3.heap.size (vs++[.slice pA cur.length pc]) (acc++[cur]):=by
    have hg2:=hgr3
    have hsz3:B<=w3.heap.size:=by have:=hgr3.size;simp at this;omega
    refine ((hp.alloc _).keep hgr3 hsz3 (fun b v n x hv _=>own_apart hv (ho.alloc _) (by decide))).snoc ((hq.alloc _).kept hgr3 (own_apart hq ho (by decide))) ?_
    intro g hg
    exact ((hq.alloc (.cells #[.slice pA cur.length pc] 145)).kept hgr3 (own_apart hq ho (by decide))).lt g hg |>.2
   have hb4:=(hb.alloc hsz _).trans hb3
   subst hres
   clear ho hp hq hgr3 hb3
   go_wp2_with fail
   go_ret
   exact ⟨_,_,rfl,by rw [List.length_append];exact ho3,hp3,hb4⟩
def d1F (t:Tok) (d:Nat):Nat:=if isT t [[41],[93]] then d - 1 else d
def d2F (t:Tok) (d:Nat):Nat:=if isT t [[40],[91]] then d1F t d+1 else d1F t d
theorem cutF_eq (sep:List UInt8) (t:Tok) (r:List Tok) (d:Nat) (cur:List Tok) (acc:List (List Tok)):cutF sep (t :: r) d cur acc=if (isT t [sep] && d1F t d == 0)=true then cutF sep r (d2F t d) [] (acc++[cur]) else cutF sep r (d2F t d) (cur++[t]) acc:=rfl
def rowV {α:Type} (f:α->Value->List Value):List α->List Value->List Value
 | a :: l,v :: vs=>f a v++rowV f l vs
 | _,_=>[]
theorem rowV_snoc {α:Type} {f:α->Value->List Value} (l:List α) (a:α) (v:Value):∀ vs:List Value,vs.length=l.length->rowV f (l++[a]) (vs++[v])=rowV f l vs++f a v:=by
 induction l with
 | nil=>intro vs h;cases vs <;> simp_all [rowV]
 | cons b l ih=>
  intro vs h
  cases vs with
  | nil=>simp at h
  | cons u vs=>simp [rowV,ih vs (by simpa using h)]
theorem rowV_get {α:Type} {f:α->Value->List Value} {C:Nat} (hC:∀ a v,(f a v).length=C) (l:List α):∀ vs:List Value,vs.length=l.length->∀ i (hi:i<l.length) j u,(f l[i] (vs.getD i (.slice none 0 0)))[j]? = some u->(rowV f l vs)[i * C+j]? = some u:=by
 induction l with
 | nil=>intro vs h i hi;simp at hi
 | cons a l ih=>
  intro vs h i hi j u hu
  cases vs with
  | nil=>simp at h
  | cons v vs=>
   cases i with
   | zero=>
    simp at hu
    have hj:j<(f a v).length:=(List.getElem?_eq_some_iff.1 hu).1
    simp only [rowV,Nat.zero_mul,Nat.zero_add]
    rw [List.getElem?_append_left hj]
    exact hu
   | succ i=>
    simp only [List.getElem_cons_succ,List.getD_cons_succ] at hu
    have:=ih vs (by simpa using h) i (by simpa using hi) j u hu
    simp only [rowV]
    rw [List.getElem?_append_right (by rw [hC,Nat.succ_mul];omega),hC,show (i+1) * C+j - C=i * C+j by rw [Nat.succ_mul];omega]
    exact this
theorem rowV_one {α:Type} {f:α->Value->List Value} (l:List α):∀ vs:List Value,(∀ a v,v∈vs->∀ u∈f a v,u.oneCell'=true)->∀ u∈rowV f l vs,u.oneCell'=true:=by
 induction l with
 | nil=>intro vs _ u hu;cases vs <;> simp [rowV] at hu
 | cons a l ih=>
  intro vs h u hu
  cases vs with
  | nil=>simp [rowV] at hu
  | cons v vs=>
   simp only [rowV,List.mem_append] at hu
   rcases hu with hu | hu
   ·exact h a v (by simp) u hu
   ·exact ih vs (fun a w hw=>h a w (by simp [hw])) u hu
def OwnV {α:Type} (f:α->Value->List Value) (sub:World->(Nat->Prop)->Value->α->Prop) (E:TypeId) (C:Nat) (w:World) (base:Nat) (v:Value) (l:List α) (vs:List Value):Prop:=
 vs.length=l.length/\w.ownsRow base E C v l.length (rowV f l vs)/\∀ i (hi:i<l.length),sub w (fun g=>base<=g/\g<w.heap.size/\v.ownBlock≠some g) (vs.getD i (.slice none 0 0)) l[i]
section
variable {α:Type} {f:α->Value->List Value} {sub:World->(Nat->Prop)->Value->α->Prop} {E:TypeId} {C:Nat}
theorem OwnV.nil (w:World) (base:Nat):OwnV f sub E C w base (.slice none 0 0) [] []:=⟨rfl,⟨by simp [rowV],.inl ⟨rfl,rfl⟩⟩,fun i hi=>absurd hi (by simp)⟩
theorem OwnV.snoc (hkeep:∀ w w' S S' v a,sub w S v a->(∀ p:Addr,S p.block->w'.cell? p=w.cell? p)->(∀ g,S g->S' g)->sub w' S' v a)
  {w w0 w':World} {base:Nat} {v v' u:Value} {l:List α} {a:α} {vs:List Value} (h:OwnV f sub E C w base v l vs) (h0:Below w.heap.size w w0)
  (hs:sub w0 (fun g=>base<=g/\g<w0.heap.size/\v.ownBlock≠some g) u a)
  (hown:w'.ownsRow base E C v' (l.length+1) (rowV f l vs++f a u)) (hg:w0.grownBy w' v.ownBlock) (hv:v'.ownBlock=v.ownBlock∨v'.ownBlock=some w0.heap.size) :
  OwnV f sub E C w' base v' (l++[a]) (vs++[u]):=by
 obtain ⟨h1,h2,h3⟩:=h
 refine ⟨by simp [h1],by rw [rowV_snoc l a u vs h1];simpa using hown,fun i hi=>?_⟩
 have hS:∀ g,(base<=g/\g<w0.heap.size/\v.ownBlock≠some g)->(base<=g/\g<w'.heap.size/\v'.ownBlock≠some g):=by
  rintro g ⟨g1,g2,g3⟩
  refine ⟨g1,Nat.lt_of_lt_of_le g2 hg.size,?_⟩
  rcases hv with hv | hv <;> rw [hv]
  ·exact g3
  ·intro h;injection h with h;omega
 have hK:∀ p:Addr,(base<=p.block/\p.block<w0.heap.size/\v.ownBlock≠some p.block)->w'.cell? p=w0.cell? p:=fun p hp=>hg.cell_far p hp.2.1 (fun h=>hp.2.2 h.symm)
 by_cases hil:i<l.length
 ·have e1:(l++[a])[i]=l[i]:=List.getElem_append_left hil
  have e2:(vs++[u]).getD i (.slice none 0 0)=vs.getD i (.slice none 0 0):=by
   rw [List.getD_eq_getElem?_getD,List.getD_eq_getElem?_getD,List.getElem?_append_left (by omega)]
  rw [e1,e2]
  have h4:=hkeep w w0 _ (fun g=>base<=g/\g<w0.heap.size/\v.ownBlock≠some g) _ _ (h3 i hil) (fun p hp=>h0.cell hp.2.1) (fun g hg=>⟨hg.1,Nat.lt_of_lt_of_le hg.2.1 h0.size,hg.2.2⟩)
  exact hkeep w0 w' _ _ _ _ h4 hK hS
 ·have hie:i=l.length:=by simp at hi;omega
  subst hie
  have e1:(l++[a])[l.length]=a:=by simp
  have e2:(vs++[u]).getD l.length (.slice none 0 0)=u:=by
   rw [List.getD_eq_getElem?_getD,List.getElem?_append_right (by omega)];simp [h1]
  rw [e1,e2]
  exact hkeep w0 w' _ _ _ _ hs hK hS
theorem OwnV.keep (hkeep:∀ w w' S S' v a,sub w S v a->(∀ p:Addr,S p.block->w'.cell? p=w.cell? p)->(∀ g,S g->S' g)->sub w' S' v a)
  {w w':World} {base:Nat} {v:Value} {l:List α} {vs:List Value} (h:OwnV f sub E C w base v l vs) (hb:Below w.heap.size w w'):OwnV f sub E C w' base v l vs:=by
 obtain ⟨h1,h2,h3⟩:=h
 refine ⟨h1,⟨h2.1,?_⟩,fun i hi=>hkeep w w' _ _ _ _ (h3 i hi) (fun p hp=>hb.cell hp.2.1) (fun g hg=>⟨hg.1,Nat.lt_of_lt_of_le hg.2.1 hb.size,hg.2.2⟩)⟩
 rcases h2.2 with h4 | ⟨g,cap,cur,h4,h5,h6,h7⟩
 ·exact .inl h4
 ·exact .inr ⟨g,cap,cur,h4,h5,(hb.block g (loh h6)).trans h6,h7⟩
end
theorem wpList_append_to {P:Program} (w:World) {ops:Array Oper} {rest:List Oper} {o:Oper} {a:Act} {Q:Exit->Act->World->Prop} (hw:Region.wanted o (yielded ops a.tmps)=true) (s x:Operand) (t:TypeId)
  (ho:o.op=.call { callee:=.builtin .append,args:=#[s,x],argTypes:=#[t,t] })
  (base:Nat) (e:TypeId) (z:Value) (size bytes:Nat) (ht:P.underlying t=some (.slice e)) (hinfo:(P.info? e).map (fun i=>(i.zero,i.size,i.bytes))=some (some z,size,bytes))
  (hzs:z.cells.size=size) (hsz:0<size) {v:Value} {n:Nat} {xs:List Value} (hown:w.ownsRow base e size v n xs) (hs:a.eval s=v)
  {B:Nat} {y:Value} {m:Nat} {news:List Value} (hr:Rd w B y m news) (hx:a.eval x=y) (hl:news.length=m * size) (h1:∀ u∈news,u.oneCell'=true)
  (hn:n+m<=1000000000) (hby:bytes<=1000) (hbase:base<=w.heap.size)
  (h:∀ v' w',w'.ownsRow base e size v' (n+m) (xs++news)->Below base w w'->w.grownBy w' v.ownBlock->(v'.ownBlock=v.ownBlock∨v'.ownBlock=some w.heap.size)->wpList P ops Q rest (a.put o.dst v') w'):wpList P ops Q (o :: rest) a w:=
 wpList_step fun K hK=>by
  rw [if_pos hw]
  obtain ⟨v',w',hrun,h2,h3,h4⟩:=append_rd (P:=P) w base t o.type e z size bytes ht hinfo hzs hsz v n xs hown B y m news hr hl h1 hn hby hbase
  unfold Oper.wp execOp
  simp only [ho,resolve,invoke,builtin,Sem.run_bind,Sem.run_pure,Result.andThen_ok,List.map_toArray,List.map_cons,List.map_nil,hs,hx,hrun]
  exact hK _ _ (h v' w' h2 (below_of_own hown (Below.refl _ _) h3 hbase) h3 h4)
def plainW:List (List UInt8):=[[77,79,86],[65,68,68],[79,82],[65,68,67],[83,66,66],[65,78,68],[83,85,66],[88,79,82],[67,77,80],[73,78,67],[68,69,67],[82,79,76],[82,79,82],[82,67,76],[82,67,82],[78,79,84],[88,67,72,71],[80,85,83,72],[80,79,80],[76,65,72,70],[83,65,72,70],[68,65,65],[67,77,67],[83,84,67],[67,76,67],[83,84,73],[67,76,73],[72,76,84],[78,79,80],[73,78],[79,85,84],[74,77,80],[74,77,80,83],[67,65,76,76],[82,69,84]]
def equalW:List (List UInt8):=[[74,66],[74,78,66],[74,90],[74,78,90]]
def signW:List (List UInt8):=[[74,83],[74,78,83],[74,80],[74,78,80]]
def argsW:List (List UInt8):=[[65,76],[67,76],[68,76],[66,76],[65,72],[67,72],[68,72],[66,72],[65,88],[67,88],[68,88],[66,88],[83,80],[66,80],[83,73],[68,73],[91,66,88,93],[91,83,73,93],[91,110,110,93],[110,110]]
def idxL:List (List UInt8)->List UInt8->Nat->Int
 | [],_,_=>-1
 | z :: zs,x,i=>if z=x then i else idxL zs x (i+1)
def codeL (ws:List (List UInt8)) (f:Int) (s:List UInt8):Int × Bool:=if idxL ws s 0<0∨s = [] then (0,false) else (f+idxL ws s 0,true)
theorem idxL_bound (x:List UInt8):∀ (zs:List (List UInt8)) (i:Nat),-1<=idxL zs x i/\idxL zs x i<=i+zs.length
 | [],i=>by rw [idxL];constructor <;> (try simp) <;> omega
 | z :: zs,i=>by
  rw [idxL]
  split
  ·simp;omega
  ·have:=idxL_bound x zs (i+1);simp at this ⊢;omega
def opL (s:List UInt8):Int × Bool:=if (codeL plainW 1 s).2 then codeL plainW 1 s else if (codeL equalW 42 s).2 then codeL equalW 42 s else if (codeL signW 48 s).2 then codeL signW 48 s else (0,false)
def acodeL (s:List UInt8):Int × Bool:=codeL argsW 1 s
end Go.Proofs.YtbdnbfacalfciaaGreatDoor

/- Xi. -/
import Derived.Test.YtijgppokofganaaGreatDoorXh
namespace Go.Proofs.YtijgppokofganaaGreatDoor
open Go.RowKit
def OutAt (w:World) (bc base:Nat) (acc:List UInt8):Prop:=∃ u,w.heap[bc]? = some (.cells #[u] 78 (0,0))/\w.ownsRow base 5 1 u acc.length (acc.map bv)
def DataR (w:World) (R:List UInt8 × Nat) (e:Ending) (w':World):Prop:=∃ u,e=.returned (.tuple #[u,.int .i64 (R.2:Nat)])/\(∃ A c,u=.slice A R.1.length c)/\BytS w' (fun g=>w.heap.size<=g/\g<w'.heap.size) u R.1/\Below w.heap.size w w'
theorem DataR.bad {w w':World} {R:List UInt8 × Nat} (k:Nat) (hR:R=([],k)) (hb:Below w.heap.size w w'):DataR w R (.returned (.tuple #[.slice none 0 0,.int .i64 (k:Nat)])) w':=by
 subst hR
 exact ⟨_,rfl,⟨none,0,rfl⟩,⟨none,0,rfl,Nat.le_refl _,fun h0=>absurd h0 (by simp)⟩,hb⟩
theorem OutAt.keep {w w':World} {bc base:Nat} {acc:List UInt8} (h:OutAt w bc base acc) (hb:Below w.heap.size w w'):OutAt w' bc base acc:=by
 obtain ⟨u,h1,h2⟩:=h
 exact ⟨u,(hb.block bc (loh h1)).trans h1,row_keep h2 (fun k hk=>hb.block k (h2.lt k hk).2)⟩
theorem OutAt.lt {w:World} {bc base:Nat} {acc:List UInt8} (h:OutAt w bc base acc):bc<w.heap.size:=by
 obtain ⟨u,h1,_⟩:=h
 exact loh h1
def DataI (w:World) (sbox:Obj) (sec:Bool) (ev:Ex->Nat × Nat) (op:List UInt8) (args:List Ar) (R:List UInt8 × Nat) (k:Nat) (wr:World):Prop:=
 ∃ acc,acc.length<=1000 * k/\dataL sec ev op (args.drop k) acc=R/\Below w.heap.size w wr/\wr.heap[w.heap.size]? = some sbox/\OutAt wr (w.heap.size+1) (w.heap.size+2) acc
theorem DataI.next {w wr w1 w2:World} {sbox:Obj} {sec:Bool} {ev:Ex->Nat × Nat} {op:List UInt8} {args:List Ar} {R:List UInt8 × Nat} {k:Nat} {acc l:List UInt8}
  (ha:acc.length<=1000 * k) (hl:l.length<=1000) (hR:dataL sec ev op (args.drop (k+1)) (acc++l)=R) (hb:Below w.heap.size w wr) (hs:wr.heap[w.heap.size]? = some sbox) (h1:Below wr.heap.size wr w1) (h2:OutAt w2 (w.heap.size+1) (w.heap.size+2) (acc++l)) (h3:But (w.heap.size+2) (w.heap.size+1) w1 w2) (hos:Still w1 w2) :
  DataI w sbox sec ev op args R (k+1) w2:=by
 have hz:=loh hs
 have hz1:=h1.size
 refine ⟨acc++l,by simp;omega,hR,?_,?_,h2⟩
 ·have hb1:=bthen hb h1
  exact ⟨hos.1.trans hb1.os,hos.2.1.trans hb1.tape,hos.2.2.trans hb1.output,Nat.le_trans hb1.size h3.1,fun j hj=>(h3.2 j (by omega) (by omega)).trans (hb1.block j hj)⟩
 ·exact ((h3.2 w.heap.size (by omega) (by omega)).trans (h1.block _ hz)).trans hs
theorem bv_nat (n:Nat) (h:n<256):bv (UInt8.ofNat n)=.int .u8 (n:Int):=by
 unfold bv
 rw [UInt8.toNat_ofNat']
 congr 1
 omega
theorem RdB.two (w:World) (n1 n2:Nat) (h1:n1<256) (h2:n2<256):RdB (w.alloc (.cells #[.int .u8 (n1:Int),.int .u8 (n2:Int)] 5)) (w.heap.size+1) (.slice (some ⟨w.heap.size,0,none⟩) 2 2) [UInt8.ofNat n1,UInt8.ofNat n2]:=by
 have:=RdB.lit w [UInt8.ofNat n1,UInt8.ofNat n2] (by simp)
 simp only [List.map_cons,List.map_nil,bv_nat n1 h1,bv_nat n2 h2] at this
 exact this
theorem RdB.one (w:World) (n1:Nat) (h1:n1<256):RdB (w.alloc (.cells #[.int .u8 (n1:Int)] 5)) (w.heap.size+1) (.slice (some ⟨w.heap.size,0,none⟩) 1 1) [UInt8.ofNat n1]:=by
 have:=RdB.lit w [UInt8.ofNat n1] (by simp)
 simp only [List.map_cons,List.map_nil,bv_nat n1 h1] at this
 exact this
theorem OutAt.res {w:World} {bc base:Nat} {acc:List UInt8} (h:OutAt w bc base acc):∃ u,(∃ A c,u=.slice A acc.length c)/\w.heap[bc]? = some (.cells #[u] 78 (0,0))/\BytS w (fun g=>base<=g/\g<w.heap.size) u acc:=by
 obtain ⟨u,h1,h2⟩:=h
 obtain ⟨A,c,rfl,hc,hm,hrow⟩:=own_slice h2 (by omega)
 refine ⟨_,⟨A,c,rfl⟩,h1,A,c,rfl,hc,fun h0=>?_⟩
 obtain ⟨g,rfl,g1,g2,_,g3⟩:=hrow h0
 exact ⟨g,0,rfl,⟨g1,g2⟩,fun j u hu=>by rw [Nat.zero_add];exact g3 j u hu⟩
abbrev StS (w:World) (E:EgA) (v:Value) (args:List Ar):Prop:=ArAt w (fun k=>k<w.heap.size/\k∉E.own) v args
theorem StS.lt {w:World} {E:EgA} {v:Value} {args:List Ar} (h:StS w E v args):ArAt w (· < w.heap.size) v args:=h.keep (fun _ _=>rfl) (fun _ hk=>hk.1)
end Go.Proofs.YtijgppokofganaaGreatDoor

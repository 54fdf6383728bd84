/- Xb. -/
import Derived.Test.YtbdnbfacalfciaaGreatDoorKa
import Derived.Test.YtbdnbfacalfciaaGreatDoorXa
import Derived.StringKeys
import Derived.Lib.SlMapFilter
import Derived.Maps.Ext
import Derived.Maps.RangeWalk
import Derived.Laws.IdiomRangeMap
import Derived.Deep.LoopGhost
import Derived.Test.YtbdnbfacalfciaaGreatDoorMaps
namespace Go.Proofs.YtbdnbfacalfciaaGreatDoor
set_option maxRecDepth 100000
set_option maxHeartbeats 4000000
open Go.RowKit
def Still (w w':World):Prop:=w'.os=w.os/\w'.tape=w.tape/\w'.output=w.output
theorem Still.refl (w:World):Still w w:=⟨rfl,rfl,rfl⟩
theorem Still.trans {w w1 w2:World} (h:Still w w1) (h2:Still w1 w2):Still w w2:=⟨h2.1.trans h.1,h2.2.1.trans h.2.1,h2.2.2.trans h.2.2⟩
theorem Still.bel {B:Nat} {w w':World} (h:Below B w w'):Still w w':=⟨h.os,h.tape,h.output⟩
theorem Still.grown {w w':World} {r:Option Nat} (h:w.grownBy w' r):Still w w':=⟨h.os,h.tape,h.output⟩
def Turn (O:List Nat) (w:World) (O':List Nat) (w':World):Prop:=
 w.heap.size<=w'.heap.size/\(∀ k,k∈O'->k∈O∨w.heap.size<=k)/\(∀ k,k<w.heap.size->k∉O->w'.heap[k]? = w.heap[k]?)/\Still w w'
theorem Turn.refl (O:List Nat) (w:World):Turn O w O w:=⟨Nat.le_refl _,fun _ h=>.inl h,fun _ _ _=>rfl,Still.refl _⟩
theorem Turn.trans {O O1 O2:List Nat} {w w1 w2:World} (h:Turn O w O1 w1) (h2:Turn O1 w1 O2 w2):Turn O w O2 w2:=by
 refine ⟨Nat.le_trans h.1 h2.1,fun k hk=>?_,fun k hk hn=>?_,h.2.2.2.trans h2.2.2.2⟩
 ·rcases h2.2.1 k hk with h3 | h3
  ·exact h.2.1 k h3
  ·exact .inr (Nat.le_trans h.1 h3)
 ·refine (h2.2.2.1 k (Nat.lt_of_lt_of_le hk h.1) (fun h3=>?_)).trans (h.2.2.1 k hk hn)
  rcases h.2.1 k h3 with h4 | h4
  ·exact hn h4
  ·omega
theorem Turn.of_below {O:List Nat} {w w':World} (h:Below w.heap.size w w'):Turn O w O w':=⟨h.size,fun _ hk=>.inl hk,fun k hk _=>h.block k hk,Still.bel h⟩
theorem Turn.bel {O O1:List Nat} {w w1 w2:World} (h:Turn O w O1 w1) (hb:Below w1.heap.size w1 w2):Turn O w O1 w2:=h.trans (Turn.of_below hb)
theorem Turn.drew {O O1:List Nat} {w w1:World} (h:Turn O w O1 w1):Turn O w O1 w1.drew:=h
theorem Turn.drewN {O O1:List Nat} {w w1:World} (h:Turn O w O1 w1) (n:Nat):Turn O w O1 (w1.drewN n):=h
theorem Turn.set {O O1:List Nat} {w w1:World} (h:Turn O w O1 w1) (b i:Nat) (u:Value) (hb:b∈O1∨w.heap.size<=b):Turn O w O1 (w1.setCell ⟨b,i,none⟩ u):=by
 refine ⟨by simpa using h.1,h.2.1,fun k hk hn=>(Below.heap_setCell _ _ _ k (fun e=>?_)).trans (h.2.2.1 k hk hn),h.2.2.2⟩
 have e2:k=b:=e
 rcases hb with hb | hb
 ·rcases h.2.1 b hb with h4 | h4
  ·exact hn (e2 ▸ h4)
  ·omega
 ·omega
theorem Turn.alloc {O O1:List Nat} {w w1:World} (h:Turn O w O1 w1) (o:Obj):Turn O w O1 (w1.alloc o):=h.bel ((Below.refl _ _).alloc (Nat.le_refl _) o)
theorem Turn.below {O O1:List Nat} {w w1:World} (h:Turn O w O1 w1) (N:Nat) (hO:∀ k,k∈O->N<=k) (hN:N<=w.heap.size):Below N w w1:=
 ⟨h.2.2.2.1,h.2.2.2.2.1,h.2.2.2.2.2,h.1,fun k hk=>h.2.2.1 k (Nat.lt_of_lt_of_le hk hN) (fun hm=>by have:=hO k hm;omega)⟩
def symR:Value->Option (DU × List MemPlace)
 | .agg ⟨[.string s,.int .u16 n,.int .i64 k]⟩=>some (.agg [.lit (.string s.data.toList),.lit (.int .u16 n),.lit (.int .i64 k)],[])
 | _=>none
abbrev symV (m:List UInt8) (n how:Nat):Value:=.agg #[.string ⟨m.toArray⟩,.int .u16 n,.int .i64 how]
theorem symR_v (m:List UInt8) (n how:Nat):symR (symV m n how)=some (symD m n how,[]):=rfl
theorem symR_inv {v:Value} {m:List UInt8} {n how:Nat} {ps:List MemPlace} (h:symR v=some (symD m n how,ps)):v=symV m n how:=by
 unfold symR at h
 split at h
 ·next s a b=>
  simp only [Option.some.injEq,Prod.mk.injEq,DataW.agg.injEq,List.cons.injEq,DataW.lit.injEq,Lit.string.injEq,Lit.int.injEq] at h
  obtain ⟨⟨h1,⟨_,h2⟩,⟨_,h3⟩,_⟩,_⟩:=h
  subst h2 h3
  rw [← h1]
 ·cases h
theorem str_key:Maps.Keyed Tryz.prog 9:=Maps.string_keyed Tryz.underlying9
theorem zero_sym (w:World):(zeroValue 115).run Tryz.prog w=.ok (symV [] 0 0) w:=by kernel_rfl
theorem key_str (m:List UInt8) (h:m.length<=1000):keyOf Tryz.prog 9 (.string ⟨m.toArray⟩)=some (litS m):=
 WideMaps.keyOf_string_mk Tryz.underlying9 (s:=⟨m.toArray⟩) (Nat.le_trans h (by decide))
def TabAt (w:World) (tb mb:Nat) (t:Tb):Prop:=
 w.heap[tb]? = some (.cells #[.map (some mb)] 235 (0,0))/\∃ D,w.ownsMap Tryz.prog 9 symR mb t.length D/\TabD D t
theorem own_size {H:Type} {P:Program} {w:World} {k:TypeId} {R:Value->Option (DataW H × List MemPlace)} {b n:Nat} {D:DataW H} (h:w.ownsMap P k R b n D):w.ownsMap P k R b (Maps.size D) D:=by
 obtain ⟨es,clock,hb,F,hs,rfl⟩:=h
 refine ⟨es,clock,hb,F,?_,rfl⟩
 show es.size<=((es.toList.map _).foldr DataW.insert []).length
 rw [length_sorted]
 simp
theorem own_keep {H:Type} {P:Program} {w w':World} {k:TypeId} {R:Value->Option (DataW H × List MemPlace)} {b n:Nat} {D:DataW H} (h:w.ownsMap P k R b n D) (hk:w'.heap[b]? = w.heap[b]?):w'.ownsMap P k R b n D:=by
 obtain ⟨es,clock,hb,F,hs,hD⟩:=h
 exact ⟨es,clock,hk.trans hb,F,hs,hD⟩
theorem TabAt.keep {w w':World} {tb mb:Nat} {t:Tb} (h:TabAt w tb mb t) (h1:w'.heap[tb]? = w.heap[tb]?) (h2:w'.heap[mb]? = w.heap[mb]?):TabAt w' tb mb t:=by
 obtain ⟨a,D,⟨es,clock,hb,F,hs,hD⟩,hd⟩:=h
 exact ⟨h1.trans a,D,⟨es,clock,h2.trans hb,F,hs,hD⟩,hd⟩
theorem TabAt.lt {w:World} {tb mb:Nat} {t:Tb} (h:TabAt w tb mb t):tb<w.heap.size/\mb<w.heap.size:=⟨loh h.1,by obtain ⟨_,D,h2,_⟩:=h;exact h2.lt⟩
theorem TabAt.ne {w:World} {tb mb:Nat} {t:Tb} (h:TabAt w tb mb t):tb≠mb:=by
 obtain ⟨a,D,⟨es,clock,hb,F,hs,hD⟩,hd⟩:=h
 rintro rfl
 rw [hb] at a
 cases a
theorem symNew_any (w:World):Calls Tryz.prog 107 #[] w fun e w'=>e=.returned (.pointer (some ⟨w.heap.size+1,0,none⟩))/\w'=(w.alloc (.map #[] 0)).alloc (.cells #[.map (some w.heap.size)] 235):=by
 have hmk:=@run_makeMap Tryz.prog
 go_enter Tryz.func107, Tryz.ntmps107
 go_wp2_with fail
 go_ret
 exact ⟨by simp,rfl⟩
theorem TabAt.new (w:World):TabAt ((w.alloc (.map #[] 0)).alloc (.cells #[.map (some w.heap.size)] 235)) (w.heap.size+1) w.heap.size []:=by
 refine ⟨?_,.map [],?_,TabD.nil⟩
 ·have:=heap_alloc_new (w.alloc (.map #[] 0)) (.cells #[.map (some w.heap.size)] 235)
  simpa using this
 ·exact (World.ownsMap_made w Tryz.prog 9 symR).alloc _
theorem symGet_any (tb mb:Nat) (t:Tb) (m:List UInt8) (hm:m.length<=1000) (w:World) (h:TabAt w tb mb t) :
  Calls Tryz.prog 254 #[.pointer (some ⟨tb,0,none⟩),.string ⟨m.toArray⟩] w fun e w'=>e=.returned (.tuple #[.int .u16 ((valT t m).1:Nat),.int .i64 ((valT t m).2:Nat)])/\Below w.heap.size w w':=by
 obtain ⟨h1,D,h2,h3⟩:=h
 have k0:=coh (i:=0) h1
 simp at k0
 have hkey:=key_str m hm
 obtain ⟨v,ps,hrun,hv⟩:=h2.look_ok str_key Tryz.underlying233 (zero_sym w) (symR_v [] 0 0) hkey
 rw [h3.has m] at hrun
 rw [h3.at m] at hv
 cases hg:getT t m with
 | none=>
  rw [hg] at hrun hv
  have:=symR_inv hv
  subst this
  have hval:valT t m=(0,3):=by unfold valT;rw [hg]
  rw [hval]
  have hb:=(Below.refl w.heap.size w).alloc (Nat.le_refl _) (.cells #[.string ⟨#[]⟩,.int .u16 0,.int .i64 0] 115)
  clear h1 h2 h3 hkey hv
  simp only [Option.isSome_none] at hrun
  go_enter Tryz.func254, Tryz.ntmps254
  go_wp2_with fail
  go_ret2
  exact ⟨rfl,hb⟩
 | some x=>
  obtain ⟨n,k⟩:=x
  rw [hg] at hrun hv
  have:=symR_inv hv
  subst this
  have hval:valT t m=(n,0):=by unfold valT;rw [hg]
  rw [hval]
  have hb:=(Below.refl w.heap.size w).alloc (Nat.le_refl _) (.cells #[.string ⟨m.toArray⟩,.int .u16 n,.int .i64 k] 115)
  clear h1 h2 h3 hkey hv
  simp only [Option.isSome_some] at hrun
  go_enter Tryz.func254, Tryz.ntmps254
  go_wp2_with fail
  go_ret2
  exact ⟨rfl,hb⟩
theorem TabAt.grown {w w':World} {tb mb:Nat} {t:Tb} {r:Option Nat} (h:TabAt w tb mb t) (hg:w.grownBy w' r) (h1:r≠some tb) (h2:r≠some mb):TabAt w' tb mb t:=
 h.keep (hg.block tb h.lt.1 (fun e=>h1 e.symm)) (hg.block mb h.lt.2 (fun e=>h2 e.symm))
def PutR (tb mb:Nat) (t:Tb) (m:List UInt8) (n how:Nat) (w:World) (e:Ending) (w':World):Prop:=
 e=.returned (.int .i64 (putK t m how:Nat))/\TabAt w' tb mb (if putK t m how=0 then setT t m n how else t)/\w.heap.size<=w'.heap.size/\(∀ k,k<w.heap.size->k≠mb->w'.heap[k]? = w.heap[k]?)/\Still w w'
theorem PutR.bad {tb mb:Nat} {t:Tb} {m:List UInt8} {n how:Nat} {w w':World} (K:Nat) (hK:putK t m how=K) (h0:K≠0) (h:TabAt w tb mb t) (hb:Below w.heap.size w w'):PutR tb mb t m n how w (.returned (.int .i64 (K:Nat))) w':=by
 refine ⟨by rw [hK],?_,hb.size,fun k hk _=>hb.block k hk,Still.bel hb⟩
 rw [hK,if_neg h0]
 exact h.keep (hb.block _ h.lt.1) (hb.block _ h.lt.2)
theorem PutR.good {tb mb:Nat} {t:Tb} {m:List UInt8} {n how:Nat} {w w1 w2:World} (hm:m.length<=1000) (hn16:n<=65535) (hK:putK t m how=0) (h:TabAt w tb mb t) (hb:Below w.heap.size w w1) {D:DU} (hD:TabD D t)
  (ho:w2.ownsMap Tryz.prog 9 symR mb (t.length+1) (D.put (litS m) (symD m n how))) (hg:w1.grownBy w2 (some mb)):PutR tb mb t m n how w (.returned (.int .i64 0)) w2:=by
 have hne:some tb≠some mb:=fun e=>h.ne (Option.some.inj e)
 refine ⟨by rw [hK];rfl,?_,Nat.le_trans hb.size hg.size,fun k hk hn=>(hg.block k (Nat.lt_of_lt_of_le hk hb.size) (fun e=>hn (Option.some.inj e))).trans (hb.block k hk),(Still.bel hb).trans (Still.grown hg)⟩
 rw [hK,if_pos rfl]
 have hs:=hD.put m hm n how hn16
 refine ⟨((hg.block tb (Nat.lt_of_lt_of_le h.lt.1 hb.size) hne).trans (hb.block tb h.lt.1)).trans h.1,_,?_,hs⟩
 rw [← hs.size]
 exact own_size ho
theorem putK_eq (t:Tb) (m:List UInt8) (how:Nat):putK t m how=if nameB m=false then 2 else if (upper m == m)=false then 2 else match getT t m with
  | some (_,h)=>if how=3/\h=3 then 0 else 4
  | none=>if 2048<=t.length then 11 else 0:=by
 unfold putK greatB
 cases nameB m <;> cases (upper m == m) <;> simp <;> (cases getT t m <;> rfl)
theorem symPut_any (tb mb:Nat) (t:Tb) (m:List UInt8) (hm:m.length<=1000) (n how:Nat) (hn16:n<=65535) (h1:1<=how) (h3:how<=3) (ht:t.length<=2048) (w:World) (h:TabAt w tb mb t) :
  Calls Tryz.prog 234 #[.pointer (some ⟨tb,0,none⟩),.string ⟨m.toArray⟩,.int .u16 n,.int .i64 how] w (PutR tb mb t m n how w):=by
 have H:=LH h
 obtain ⟨hc,D,h2,hD⟩:=h
 have k0:=coh (i:=0) hc
 simp at k0
 have hlt:=loh hc
 have hkey:=key_str m hm
 obtain ⟨v,ps,hrun,hv⟩:=h2.look_ok str_key Tryz.underlying233 (zero_sym w) (symR_v [] 0 0) hkey
 have hlen:=fun ty=>h2.len Tryz.underlying233 ty
 rw [hD.has m] at hrun
 rw [hD.at m] at hv
 rw [hD.size] at hlen
 have HO:=LH h2
 have HD:=LH hD
 have HK:=LH (putK_eq t m how)
 have HN:=LH (fun W=>name_any m W (by omega))
 have HU:=LH (fun W=>upper_any m W (by omega))
 have e1:decide ((how:Int)<1)=false:=by simp;omega
 have e2:decide ((3:Int)<(how:Int))=false:=by simp;omega
 clear h2 hD hc
 have e3:((how:Int) != 3)=decide (how≠3):=by rw [Bool.eq_iff_iff];simp;omega
 by_cases hg:∃ n' k,getT t m=some (n',k)
 ·obtain ⟨n',k,hg⟩:=hg
  rw [hg] at hrun hv HK
  obtain rfl:=symR_inv hv
  simp only [Option.isSome_some] at hrun
  clear hv
  have B1:=LH ((Below.refl w.heap.size w).alloc (Nat.le_refl _) (.cells #[.string ⟨m.toArray⟩,.int .u16 n',.int .i64 k] 115))
  cases hnb:nameB m with
  | false=>
   rw [hnb] at HN HK
   clear hlen hkey HO HD HU e3
   go_enter Tryz.func234, Tryz.ntmps234
   go_wp2_with fail
   refine (HN.out _).mono ?_
   rintro e w1 ⟨rfl,rfl⟩
   go_wp2_with fail
   go_ret
   exact PutR.bad 2 (by rw [HK.out];rfl) (by decide) H.out B1.out
  | true=>
   rw [hnb] at HN HK
   cases hub:(upper m == m) with
   | false=>
    have hub2:(upper m != m)=true:=by simpa using hub
    rw [hub] at HK
    generalize upper m=um at *
    clear hlen hkey HO HD e3
    go_enter Tryz.func234, Tryz.ntmps234
    go_wp2_with fail
    refine (HN.out _).mono ?_
    rintro e w1 ⟨rfl,rfl⟩
    go_wp2_with fail
    refine (HU.out _).mono ?_
    rintro e w1 ⟨rfl,hb1⟩
    have B2:=LH (bthen B1.out hb1)
    clear hb1
    go_wp2_with fail
    go_ret
    exact PutR.bad 2 (by rw [HK.out];rfl) (by decide) H.out B2.out
   | true=>
    have hub2:(upper m != m)=false:=by simpa using hub
    rw [hub] at HK
    generalize upper m=um at *
    have O1:=LH (heap_alloc_new w (.cells #[.string ⟨m.toArray⟩,.int .u16 n',.int .i64 k] 115))
    clear hlen
    by_cases h33:how=3/\k=3
    ·obtain ⟨rfl,rfl⟩:=h33
     go_enter Tryz.func234, Tryz.ntmps234
     go_wp2_with fail
     refine (HN.out _).mono ?_
     rintro e w1 ⟨rfl,rfl⟩
     go_wp2_with fail
     refine (HU.out _).mono ?_
     rintro e w1 ⟨rfl,hb1⟩
     have B2:=LH (bthen B1.out hb1)
     have k1:=(B2.out.cell (p:=⟨tb,0,none⟩) hlt).trans k0
     have k2:=coh (i:=2) ((hb1.block w.heap.size (by simp)).trans O1.out)
     simp at k2
     have HOW:=LH (own_keep HO.out (B2.out.block mb H.out.lt.2))
     have hv3:=symR_v m n 3
     go_wp2_with (at_mapUpdate;refine wpList_mapUpdate_own _ rfl _ _ _ 233 rfl 9 115 str_key Tryz.underlying233 symR mb _ D rfl HOW.out (Nat.lt_of_le_of_lt ht (by decide)) _ _ (litS m) rfl rfl hkey (symD m n 3) [] hv3 ?_;intro w3 hown3 hgr3)
     go_ret
     exact PutR.good hm hn16 (by rw [HK.out];rfl) H.out B2.out HD.out hown3 hgr3
    ·have hK4:Hid (putK t m how=4):=LH (by rw [HK.out];simp [h33])
     have e4:((k:Int) != 3)=decide (k≠3):=by rw [Bool.eq_iff_iff];simp;omega
     have h33':(how=3/\k≠3)∨how≠3:=by omega
     clear HK h33
     rcases h33' with ⟨rfl,h5⟩ | h5
     ·rw [decide_eq_true h5] at e4
      clear h5
      go_enter Tryz.func234, Tryz.ntmps234
      go_wp2_with fail
      refine (HN.out _).mono ?_
      rintro e w1 ⟨rfl,rfl⟩
      go_wp2_with fail
      refine (HU.out _).mono ?_
      rintro e w1 ⟨rfl,hb1⟩
      have B2:=LH (bthen B1.out hb1)
      have k2:=coh (i:=2) ((hb1.block w.heap.size (by simp)).trans O1.out)
      simp at k2
      go_wp2_with fail
      go_ret
      exact PutR.bad 4 hK4.out (by decide) H.out B2.out
     ·rw [decide_eq_true h5] at e3
      clear h5 e4
      go_enter Tryz.func234, Tryz.ntmps234
      go_wp2_with fail
      refine (HN.out _).mono ?_
      rintro e w1 ⟨rfl,rfl⟩
      go_wp2_with fail
      refine (HU.out _).mono ?_
      rintro e w1 ⟨rfl,hb1⟩
      have B2:=LH (bthen B1.out hb1)
      go_wp2_with fail
      go_ret
      exact PutR.bad 4 hK4.out (by decide) H.out B2.out
 ·have hg0:getT t m=none:=by
   cases h:getT t m with
   | none=>rfl
   | some x=>exact absurd ⟨x.1,x.2,h⟩ hg
  rw [hg0] at hrun hv HK
  obtain rfl:=symR_inv hv
  simp only [Option.isSome_none] at hrun
  clear hv hg e3
  have B1:=LH ((Below.refl w.heap.size w).alloc (Nat.le_refl _) (.cells #[.string ⟨#[]⟩,.int .u16 0,.int .i64 0] 115))
  cases hnb:nameB m with
  | false=>
   rw [hnb] at HN HK
   clear hlen hkey HO HD HU
   go_enter Tryz.func234, Tryz.ntmps234
   go_wp2_with fail
   refine (HN.out _).mono ?_
   rintro e w1 ⟨rfl,rfl⟩
   go_wp2_with fail
   go_ret
   exact PutR.bad 2 (by rw [HK.out];rfl) (by decide) H.out B1.out
  | true=>
   rw [hnb] at HN HK
   cases hub:(upper m == m) with
   | false=>
    have hub2:(upper m != m)=true:=by simpa using hub
    rw [hub] at HK
    generalize upper m=um at *
    clear hlen hkey HO HD
    go_enter Tryz.func234, Tryz.ntmps234
    go_wp2_with fail
    refine (HN.out _).mono ?_
    rintro e w1 ⟨rfl,rfl⟩
    go_wp2_with fail
    refine (HU.out _).mono ?_
    rintro e w1 ⟨rfl,hb1⟩
    have B2:=LH (bthen B1.out hb1)
    clear hb1
    go_wp2_with fail
    go_ret
    exact PutR.bad 2 (by rw [HK.out];rfl) (by decide) H.out B2.out
   | true=>
    have hub2:(upper m != m)=false:=by simpa using hub
    rw [hub] at HK
    generalize upper m=um at *
    clear hlen
    have hlen:Hid (∀ W,Below w.heap.size w W->∀ ty,(Builtin.len_ #[233] ty #[.map (some mb)]).run Tryz.prog W=.ok (.int .i64 t.length) W):=LH (fun W hW ty=>by rw [(own_keep HO.out (hW.block mb H.out.lt.2)).len Tryz.underlying233 ty,HD.out.size])
    by_cases hfull:2048<=t.length
    ·have e5:(2048:Int)<=(t.length:Int):=by omega
     go_enter Tryz.func234, Tryz.ntmps234
     go_wp2_with fail
     refine (HN.out _).mono ?_
     rintro e w1 ⟨rfl,rfl⟩
     go_wp2_with fail
     refine (HU.out _).mono ?_
     rintro e w1 ⟨rfl,hb1⟩
     have B2:=LH (bthen B1.out hb1)
     have k1:=(B2.out.cell (p:=⟨tb,0,none⟩) hlt).trans k0
     have hl2:=hlen.out _ B2.out
     go_wp2_with fail
     go_ret
     exact PutR.bad 11 (by rw [HK.out];simp [hfull]) (by decide) H.out B2.out
    ·have e5:decide ((2048:Int)<=(t.length:Int))=false:=by simp;omega
     have e6:¬ (2048:Int)<=(t.length:Int):=by omega
     go_enter Tryz.func234, Tryz.ntmps234
     go_wp2_with fail
     refine (HN.out _).mono ?_
     rintro e w1 ⟨rfl,rfl⟩
     go_wp2_with fail
     refine (HU.out _).mono ?_
     rintro e w1 ⟨rfl,hb1⟩
     have B2:=LH (bthen B1.out hb1)
     have k1:=(B2.out.cell (p:=⟨tb,0,none⟩) hlt).trans k0
     have hl2:=hlen.out _ B2.out
     have HOW:=LH (own_keep HO.out (B2.out.block mb H.out.lt.2))
     have hv3:=symR_v m n how
     go_wp2_with (at_mapUpdate;refine wpList_mapUpdate_own _ rfl _ _ _ 233 rfl 9 115 str_key Tryz.underlying233 symR mb _ D rfl HOW.out (Nat.lt_of_le_of_lt ht (by decide)) _ _ (litS m) rfl rfl hkey (symD m n how) [] hv3 ?_;intro w3 hown3 hgr3)
     go_ret
     exact PutR.good hm hn16 (by rw [HK.out];simp [hfull]) H.out B2.out HD.out hown3 hgr3
open Go.RowKit Go.Maps
def pdH (how:Int) (_:Lit):DU->Bool
 | .agg [_,_,.lit (.int _ k)]=>k == how
 | _=>false
theorem symR_shape {v:Value} {z:DU × List MemPlace} (h:symR v=some z):∃ s n k,v=.agg #[.string s,.int .u16 n,.int .i64 k]/\z=(.agg [.lit (.string s.data.toList),.lit (.int .u16 n),.lit (.int .i64 k)],[]):=by
 unfold symR at h
 split at h
 ·next s a b=>exact ⟨s,a,b,rfl,by injection h with h;exact h.symm⟩
 ·cases h
theorem forget1_any (key:Value) (s:ByteArray) (n k how:Int) (bx:Nat) (W:World) (hx:W.cell? ⟨bx,0,none⟩=some (.int .i64 how)) :
  Calls Tryz.prog 199 #[key,.agg #[.string s,.int .u16 n,.int .i64 k],.pointer (some ⟨bx,0,none⟩)] W fun e w'=>e=.returned (.bool (k == how))/\W.grownBy w' none:=by
 have hg:=World.grownBy_alloc W (.cells #[.string s,.int .u16 n,.int .i64 k] 115) none
 have hlt:=World.block_lt_of_cell? _ _ hx
 go_enter Tryz.func199, Tryz.ntmps199
 go_wp2_with fail
 go_ret
 exact ⟨rfl,hg⟩
theorem delF_any (bx:Nat) (how:Int) (b n:Nat) (D:DU) (w:World) (hown:w.ownsMap Tryz.prog 9 symR b n D) (hx:w.cell? ⟨bx,0,none⟩=some (.int .i64 how)) (hbx:bx≠b) :
  Calls Tryz.prog 198 #[.map (some b),.func (.func 199) #[] #[.pointer (some ⟨bx,0,none⟩)]] w
   fun e w'=>e=.returned (.tuple #[])/\w'.ownsMap Tryz.prog 9 symR b n (Lib.deleteFuncD (pdH how) D)/\w.grownBy w' (some b):=by
 obtain ⟨es0,rfl,hap,hkeys⟩:=hown.entries str_key
 have HD:Hid (∀ W key s m k,w.grownBy W (some b)->Calls Tryz.prog 199 #[key,.agg #[.string s,.int .u16 m,.int .i64 k],.pointer (some ⟨bx,0,none⟩)] W fun e w'=>e=.returned (.bool (k == how))/\W.grownBy w' none):=
  LH (fun W key s m k hW=>forget1_any key s m k how bx W (hW.cell hx (fun e=>hbx (Option.some.inj e))))
 have hlb:=World.block_lt_of_cell? _ _ hx
 clear hx
 go_enter Tryz.func198, Tryz.ntmps198
 go_wp2_with (first
  | (at_range;refine wpList_range_own _ rfl _ 233 rfl 9 115 str_key Tryz.underlying233 symR b n _ rfl hown ?_;intro w0 hrg0 hg0 hs0)
  | go_in)
 go_loopw [8] (fun _ wr=>∃ (left:Lit->Bool) (cnt:Nat),wr.ranges Tryz.prog 9 symR b w.heap.size n (Fk (pdH how) es0 left) left cnt/\w.grownBy wr (some b))
  (fun _ wr=>wr.rangeLeft b w.heap.size)
 case atStart=>exact ⟨_,_,by rw [Fk_start hkeys];exact hrg0,hg0.but _⟩
 case round=>
  obtain ⟨left,cnt,hrg,hgw⟩:=hrel
  go_wp2_with (first
   | (at_next;refine wpList_next_ranges _ rfl _ rfl 9 str_key symR id id (fun key _ _=>⟨key,rfl⟩) (fun v _ _=>⟨v,rfl⟩) b w.heap.size n _ _ _ rfl hrg ?_ ?_)
   | go_in)
  ·intro _ hl0
   go_wp2
   go_end0
   exact ⟨rfl,by rw [← Fk_end hl0];exact hrg.owns,hgw⟩
  ·intro x c kl yd yp w1 cnt1 hkey hlx hv hat hrg1 hlt hg1 hs1 hen
   have hgw1:=hgw.andThen hg1 (fun j hj=>by cases hj;exact Or.inl (Nat.le_refl _))
   obtain ⟨s,m,k,rfl,hz⟩:=symR_shape hv
   injection hz with hz1 hz2
   have hp:pdH how kl yd=(k == how):=by rw [hz1];rfl
   have hgA:=World.grownBy_alloc w1 (.cells #[.string s,.int .u16 m,.int .i64 k] 115) none
   have hgw2:=hgw1.andThen hgA (fun j hj=>by cases hj)
   have HC:=LH (HD.out _ x s m k hgw2)
   have hbl:=hrg1.owns.lt
   have hrl:=hrg1.lt
   cases hq:(k == how) with
   | false=>
    rw [hq] at HC hp
    go_wp2_with fail
    refine HC.out.mono ?_
    rintro e w2 ⟨rfl,hg2⟩
    have hgB:=hgA.andThen hg2 (fun j hj=>by cases hj)
    have hrg2:=hrg1.kept hgB (by simp) (by simp)
    go_wp2_with fail
    go_roundw
    case rel=>exact ⟨_,cnt1,by rw [← Fk_stays hap (str_key.key hkey) hlx hp hat];exact hrg2,hgw1.andThen hgB (fun j hj=>by cases hj)⟩
    case measure=>rw [hrg2.left_eq,hrg.left_eq];exact hlt
   | true=>
    rw [hq] at HC hp
    go_wp2_with fail
    refine HC.out.mono ?_
    rintro e w2 ⟨rfl,hg2⟩
    have hgB:=hgA.andThen hg2 (fun j hj=>by cases hj)
    have hrg2:=hrg1.kept hgB (by simp) (by simp)
    go_wp2_with (at_delete;refine wpList_delete_ranges _ rfl _ _ 233 9 rfl 115 str_key Tryz.underlying233 symR b w.heap.size n _ _ _ rfl hrg2 _ _ rfl hkey ?_;intro w3 cnt3 hrg3 hle hturn)
    rw [Maps.strike_twice] at hrg3
    go_frame
    go_roundw
    case rel=>exact ⟨_,cnt3,by rw [← Fk_struck hap (str_key.key hkey) hlx hp hat];exact hrg3,(hgw1.andThen hgB (fun j hj=>by cases hj)).andThen hturn.grown (fun j hj=>by cases hj;exact Or.inr rfl)⟩
    case measure=>rw [hrg3.left_eq,hrg.left_eq];omega
theorem symForget_any (tb mb:Nat) (t:Tb) (how:Nat) (w:World) (h:TabAt w tb mb t) :
  Calls Tryz.prog 151 #[.pointer (some ⟨tb,0,none⟩),.int .i64 how] w fun e w'=>e=.returned (.tuple #[])/\TabAt w' tb mb (t.filter fun x=>x.2.2 != how)/\w.heap.size<=w'.heap.size/\(∀ k,k<w.heap.size->k≠mb->w'.heap[k]? = w.heap[k]?)/\Still w w':=by
 have H:=LH h
 obtain ⟨hc,D,h2,hD⟩:=h
 have k0:=coh (i:=0) hc
 simp at k0
 have hlt:=loh hc
 have B1:=LH ((Below.refl w.heap.size w).alloc (Nat.le_refl _) (.cells #[.int .i64 how] 3))
 have HC:=LH (delF_any w.heap.size (how:Int) mb _ D (w.alloc (.cells #[.int .i64 how] 3)) (own_keep h2 (B1.out.block mb H.out.lt.2)) (by rw [coh (heap_alloc_new w _)];rfl) (by have:=H.out.lt.2;omega))
 have HD:=LH (hD.drop (pdH how) how (fun m n j=>by show ((j:Int) == (how:Int))=(j == how);rw [Bool.eq_iff_iff];simp;omega))
 clear hD h2 hc
 go_enter Tryz.func151, Tryz.ntmps151
 go_wp2_with fail
 refine HC.out.mono ?_
 rintro e w2 ⟨rfl,ho,hg⟩
 go_wp2_with fail
 go_end0
 have hne:some tb≠some mb:=fun e=>H.out.ne (Option.some.inj e)
 have hot:∀ k,k<w.heap.size->k≠mb->w2.heap[k]? = w.heap[k]?:=fun k hk hn=>(hg.block k (Nat.lt_of_lt_of_le hk B1.out.size) (fun e=>hn (Option.some.inj e))).trans (B1.out.block k hk)
 refine ⟨rfl,⟨(hot tb hlt H.out.ne).trans H.out.1,_,?_,HD.out⟩,Nat.le_trans B1.out.size hg.size,hot,(Still.bel B1.out).trans (Still.grown hg)⟩
 rw [← HD.out.size]
 exact own_size ho
open Go.RowKit Go.Maps Go.Sort Go.Shelf
theorem sorts_any (m:Nat):AnyZ.SortsIn Tryz.prog Tryz.sorted153_ren Fence.wide m:=
  ⟨fun blk off cap ss W hH hblk hsz=>callsIn_wide.2 (AnyM.slices_Sort_string Tryz.sort208 blk off cap ss W hH hblk hsz),
   fun p cap W=>callsIn_wide.2 (AnyM.slices_Sort_string_none Tryz.sort208 p cap W)⟩
theorem keys_any (mb:Option Nat) (W:World):Calls Tryz.prog 154 #[.map mb] W fun e w'=>e=.returned (.func (.func 209) #[] #[.pointer (some ⟨W.heap.size,0,none⟩)])/\w'=W.alloc (.cells #[.map mb] 233):=
 (callsIn_wide (n:=5)).1 (AnyZ.keys_in Tryz.keys154 Fence.wide 5 trivial rfl mb W)
theorem sorted_any (b nn:Nat) (D0:DU) (w:World) (hown:w.ownsMap Tryz.prog 9 symR b nn D0) (hmax:Maps.size D0<=2048) :
  Calls Tryz.prog 153 #[.func (.func 209) #[] #[.pointer (some ⟨w.heap.size,0,none⟩)]] (w.alloc (.cells #[.map (some b)] 233)) fun e w'=>∃ (v:Value) (ss:List (List UInt8)),e=.returned v/\ss.Perm (strKeys D0) /\
   w'.ownsRow (w.alloc (.cells #[.map (some b)] 233)).heap.size 9 1 v ss.length ((ss.mergeSort (fun x y=>decide (x<=y))).map encStr)/\Below (w.alloc (.cells #[.map (some b)] 233)).heap.size (w.alloc (.cells #[.map (some b)] 233)) w':=by
 have hbl:=hown.lt
 have hseq:SeqGives Fence.wide 2 Tryz.prog 209 #[.pointer (some ⟨w.heap.size,0,none⟩)] encStr (fun ss=>ss.Perm (strKeys D0)) (Maps.size D0) (w.alloc (.cells #[.map (some b)] 233)):=
  AnyZ.keys_gives (ρ:=Tryz.keys154_ren) { Tryz.keys154 with } Fence.wide _ trivial rfl (by omega) w.heap.size b nn D0 _ (by simp) (by simp) (own_keep hown (Below.heap_alloc _ _ b hbl))
 refine ((callsIn_wide (n:=5)).1 (AnyZ.sorted_in Tryz.sorted153 Fence.wide 5 trivial trivial trivial trivial rfl (by omega) (sorts_any _) (enters_of Tryz.func208 (by kernel_rfl) rfl) 209 #[.pointer (some ⟨w.heap.size,0,none⟩)] trivial (enters_of Tryz.func209 (by kernel_rfl) rfl) _ _ (by unfold maxLen;omega) (by omega) _ hseq)).mono ?_
 rintro e w' ⟨v,ss,rfl,h1,h2,_,h4⟩
 exact ⟨v,ss,rfl,h1,h2,h4⟩
theorem own_base {w:World} {base base' size n:Nat} {e:TypeId} {v:Value} {xs:List Value} (h:w.ownsRow base e size v n xs) (hb:base'<=base):w.ownsRow base' e size v n xs:=by
 refine ⟨h.1,?_⟩
 rcases h.2 with hn | ⟨g,cap,cur,hv,hg,rest⟩
 ·exact .inl hn
 ·exact .inr ⟨g,cap,cur,hv,Nat.le_trans hb hg,rest⟩
theorem info_sym:(Tryz.prog.info? 115).map (fun i=>(i.zero,i.size,i.bytes))=some (some (symV [] 0 0),3,32):=by kernel_rfl
theorem Tab_keys {D:DU} {t:Tb} (h:TabD D t) {ss:List (List UInt8)} (hp:ss.Perm (strKeys D)):ss.Perm (t.map (·.1))/\ss.length=t.length/\∀ x∈ss.mergeSort (fun x y=>decide (x<=y)),x.length<=1000:=by
 obtain ⟨es,rfl,hq,_,hL⟩:=h
 have h1:(strKeys (.map es)).Perm (t.map (·.1)):=by
  have:=hq.map (fun p:Lit × DU=>strOf p.1)
  rw [List.map_map] at this
  exact this
 have h2:=hp.trans h1
 refine ⟨h2,by rw [h2.length_eq,List.length_map],fun x hx=>?_⟩
 have h3:=h2.mem_iff.1 ((List.mergeSort_perm _ _).mem_iff.1 hx)
 obtain ⟨y,hy,rfl⟩:=List.mem_map.1 h3
 exact (hL y hy).1
theorem Rd.strS {w:World} {B c:Nat} {A:Option Addr} {l:List (List UInt8)} (h:Rd w B (.slice A l.length c) l.length (l.map encStr)) (k:Nat) (hk:k<l.length):∃ g o,A=some ⟨g,o,none⟩/\g<B/\w.cell? ⟨g,o+k,none⟩=some (.string ⟨l[k].toArray⟩):=by
 obtain ⟨A',c',h1,h2,h3⟩:=h
 injection h1 with h1 _ _
 subst h1
 obtain ⟨g,o,h4,h5,h6⟩:=h3 (by omega)
 exact ⟨g,o,h4,h5,h6 k _ (by simp [hk])⟩
theorem get_self {t:Tb} (hn:(t.map (·.1)).Nodup) (x:List UInt8 × Nat × Nat) (hx:x∈t):getT t x.1=some x.2:=by
 cases hg:getT t x.1 with
 | none=>exact absurd rfl (getT_none hg x hx)
 | some y=>
  have h1:=tab_uniq t hn _ _ (getT_mem (n:=y.1) (h:=y.2) hg) hx rfl
  rw [← h1]
def symCells (x:List UInt8 × Nat × Nat):List Value:=[.string ⟨x.1.toArray⟩,.int .u16 (x.2.1:Nat),.int .i64 (x.2.2:Nat)]
def SyRow (w:World) (B:Nat) (v:Value) (t:Tb):Prop:=∃ ts:Tb,ts.Perm t/\w.ownsRow B 115 3 v ts.length (ts.flatMap symCells)
theorem SyRow.blk {w w':World} {B:Nat} {v:Value} {t:Tb} (h:SyRow w B v t) (hk:∀ k,v.ownBlock=some k->w'.heap[k]? = w.heap[k]?):SyRow w' B v t:=by
 obtain ⟨ts,h1,h2⟩:=h
 exact ⟨ts,h1,h2.1,h2.2.imp id fun ⟨g,cap,cur,h1,h2,h3,h4⟩=>⟨g,cap,cur,h1,h2,(hk g (by rw [h1];rfl)).trans h3,h4⟩⟩
theorem SyRow.keep {w w':World} {B:Nat} {v:Value} {t:Tb} (h:SyRow w B v t) (hk:∀ k,B<=k->k<w.heap.size->w'.heap[k]? = w.heap[k]?):SyRow w' B v t:=
 h.blk fun k hk2=>by
  obtain ⟨ts,_,h2⟩:=h
  exact hk k (h2.lt k hk2).1 (h2.lt k hk2).2
theorem SyRow.mono {w:World} {B B':Nat} {v:Value} {t:Tb} (h:SyRow w B v t) (hb:B'<=B):SyRow w B' v t:=by
 obtain ⟨ts,h1,h2⟩:=h
 exact ⟨ts,h1,own_base h2 hb⟩
theorem TabD.nodup {D:DU} {t:Tb} (h:TabD D t):(t.map (·.1)).Nodup:=by
 obtain ⟨_,_,_,h3,_⟩:=h
 exact h3
theorem names_perm {D:DU} {t:Tb} (h:TabD D t) {l:List (List UInt8)} (hp:l.Perm (t.map (·.1))):(l.map fun m=>(m,(getT t m).getD (0,0))).Perm t:=by
 have h1:=hp.map (fun m=>(m,(getT t m).getD (0,0)))
 have h2:(t.map (·.1)).map (fun m=>(m,(getT t m).getD (0,0)))=t:=by
  rw [List.map_map]
  have:∀ x∈t,((fun m=>(m,(getT t m).getD (0,0))) ∘ (·.1)) x=x:=fun x hx=>by
   show (x.1,(getT t x.1).getD (0,0))=x
   rw [get_self h.nodup x hx]
   rfl
  rw [List.map_congr_left this]
  simp
 rwa [h2] at h1
theorem symAll_any (tb mb:Nat) (t:Tb) (ht:t.length<=2048) (w:World) (h:TabAt w tb mb t) :
  Calls Tryz.prog 109 #[.pointer (some ⟨tb,0,none⟩)] w fun e w'=>(∃ v,e=.returned v/\SyRow w' w.heap.size v t)/\Below w.heap.size w w':=by
 have H:=LH h
 obtain ⟨hc,D,h2,hD⟩:=h
 have k0:=coh (i:=0) hc
 simp at k0
 have hlt:=loh hc
 have HO:=LH h2
 have HD:=LH hD
 have HK:=LH (fun W=>keys_any (some mb) W)
 have HS:=LH (sorted_any mb _ D w h2 (by rw [hD.size];exact ht))
 clear h2 hD hc
 go_enter Tryz.func109, Tryz.ntmps109
 go_wp2_with fail
 refine (HK.out _).mono ?_
 rintro e w1 ⟨rfl,rfl⟩
 go_wp2_with fail
 refine HS.out.mono ?_
 rintro e w2 ⟨v,ss,rfl,hp,hrow,hb2⟩
 obtain ⟨hpt,hlen,hnames⟩:=Tab_keys HD.out hp
 have B2:=LH (((Below.refl w.heap.size w).alloc (Nat.le_refl _) (.cells #[.map (some mb)] 233)).trans (hb2.mono (by simp)))
 obtain ⟨l,hl⟩:∃ l,l=ss.mergeSort (fun x y=>decide (x<=y)):=⟨_,rfl⟩
 have hll:l.length=ss.length:=by rw [hl,List.length_mergeSort]
 have HPM:=LH (names_perm HD.out ((hl ▸ List.mergeSort_perm ss _:l.Perm ss).trans hpt))
 rw [← hl] at hrow hnames
 rw [← hll] at hrow
 have R2:=LH (Rd.of_own hrow)
 have HNM:=LH hnames
 rw [← hll] at hlen
 clear hp hrow hb2 hl hll hnames HK HS hpt
 obtain ⟨A,c,rfl,hcc⟩:=R2.out.form
 go_wp2_with fail
 go_loopw [2,14] (fun v i wr=>∃ (k:Nat),k<=l.length/\i=.int .i64 k/\wr.ownsRow w2.heap.size 115 3 v k (((l.take k).map fun m=>(m,(getT t m).getD (0,0))).flatMap symCells)/\Below w2.heap.size w2 wr) (fun _ i _=>l.length - (intOf i).toNat)
 case atStart=>exact ⟨0,Nat.zero_le _,rfl,World.ownsRow_nil _ _ _ _,Below.refl _ _⟩
 case round=>
  obtain ⟨k,hk,rfl,hown,hbw⟩:=hrel
  have HOW:=LH hown
  have HBW:=LH hbw
  have BW:=LH (bthen B2.out hbw)
  clear hown hbw
  by_cases hlt2:k<l.length
  ·have i1:(k:Int)<(l.length:Int):=by omega
   obtain ⟨g,o,rfl,hg,hcell⟩:=Rd.strS R2.out k hlt2
   have ck:=(HBW.out.cell (p:=⟨g,o+k,none⟩) hg).trans hcell
   have k1:=(BW.out.cell (p:=⟨tb,0,none⟩) hlt).trans k0
   have hkey:=key_str l[k] (HNM.out _ (List.getElem_mem _))
   obtain ⟨v1,ps,hrun,hv⟩:=(own_keep HO.out (BW.out.block mb H.out.lt.2)).lookup str_key Tryz.underlying233 (zero_sym wr) (symR_v [] 0 0) hkey
   have htk:l.take (k+1)=l.take k++[l[k]]:=List.take_succ_eq_append_getElem hlt2
   rw [HD.out.at] at hv
   obtain rfl:v1=symV l[k] ((getT t l[k]).getD (0,0)).1 ((getT t l[k]).getD (0,0)).2:=by
    cases hg:getT t l[k] with
    | none=>
     have h1:l[k]∈t.map (·.1):=by
      have h2:=HPM.out.map (·.1)
      rw [List.map_map] at h2
      exact h2.mem_iff.1 (by simp)
     obtain ⟨x,hx,he⟩:=List.mem_map.1 h1
     exact absurd he (getT_none hg x hx)
    | some x=>rw [hg] at hv;exact symR_inv hv
   have HTK:=LH htk
   generalize l[k]=name at *
   obtain ⟨⟨n1,k2⟩,hgd⟩:∃ x,(getT t name).getD (0,0)=x:=⟨_,rfl⟩
   rw [hgd] at hrun
   have HGD:=LH hgd
   clear hcell hkey hv htk hgd
   have hone:∀ u∈[Value.string ⟨name.toArray⟩,Value.int .u16 (n1:Nat),Value.int .i64 (k2:Nat)],u.oneCell'=true:=by
    intro u hu
    simp at hu
    rcases hu with rfl | rfl | rfl <;> rfl
   go_wp2_with (at_builtin;refine wpList_append_at wr wr.heap.size rfl rfl (.tmp 18) (.tmp 25) 37 rfl w2.heap.size 115 _ 3 32 Tryz.underlying37 info_sym rfl (by omega) HOW.out rfl [.string ⟨name.toArray⟩,.int .u16 (n1:Nat),.int .i64 (k2:Nat)] 115 rfl rfl hone (by omega) (by omega) HBW.out.size ?_;intro v' w' hown2 hbel2)
   go_roundw
   case rel=>exact ⟨k+1,by omega,by go_num,by
    rw [HTK.out,List.map_append,List.flatMap_append]
    simpa [symCells,HGD.out] using hown2,HBW.out.trans hbel2⟩
   case measure=>simp [intOf];omega
  ·obtain rfl:k=l.length:=by omega
   go_wp2_with fail
   go_ret
   refine ⟨⟨_,rfl,_,HPM.out,?_⟩,BW.out⟩
   have h1:=own_base HOW.out B2.out.size
   rw [List.take_length] at h1
   simpa using h1
end Go.Proofs.YtbdnbfacalfciaaGreatDoor

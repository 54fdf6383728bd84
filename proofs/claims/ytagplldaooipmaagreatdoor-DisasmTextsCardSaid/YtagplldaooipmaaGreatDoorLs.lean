/- Ls. -/
import Derived.Test.YtagplldaooipmaaGreatDoorLr
import Derived.Test.YtagplldaooipmaaGreatDoorKo
import Derived.Deep.QuietTactic
import Derived.BigQuiet
import Derived.StillTailTactics
import Derived.Test.YtagplldaooipmaaGreatDoorKn
import Derived.Test.YtagplldaooipmaaGreatDoorKb
import Derived.Test.YtagplldaooipmaaGreatDoorKa
import Derived.Deep.Cut
import Derived.Deep.CutRange
import Derived.Deep.DeepCutAuto
import Derived.Deep.CutBlock
import Derived.Test.YtagplldaooipmaaGreatDoorKd
import Derived.Test.YtagplldaooipmaaGreatDoorKh
import Derived.Lib.SplitLaws
import Derived.Lib.Split
namespace Go.Proofs.YtagplldaooipmaaGreatDoor
open Go.RowKit
def RdX (w:World) (B R:Nat) (v:Value) (ts:List Tok):Prop:=∃ (A:Option Addr) (c:Nat),v=.slice A ts.length c∧ts.length ≤ c ∧
 (0 < ts.length → ∃ g o,A=some ⟨g,o,none⟩∧B < g∧g < R∧∀ j u,(tokRow ts)[j]? = some u → w.cell? ⟨g,o + j,none⟩=some u)
theorem RdX.keep {w w':World} {B R:Nat} {v:Value} {ts:List Tok} (h:RdX w B R v ts) (hk:∀ p:Addr,B < p.block → p.block < R → w'.cell? p=w.cell? p):RdX w' B R v ts:=by
 obtain ⟨A,c,h1,h2,h3⟩:=h
 refine ⟨A,c,h1,h2,fun h0=>?_⟩
 obtain ⟨g,o,e,b1,b2,h4⟩:=h3 h0
 exact ⟨g,o,e,b1,b2,fun j u hu=>(hk _ b1 b2).trans (h4 j u hu)⟩
theorem RdX.rd {w:World} {B R:Nat} {v:Value} {ts:List Tok} (h:RdX w B R v ts):Rd w R v ts.length (tokRow ts):=by
 obtain ⟨A,c,h1,h2,h3⟩:=h
 refine ⟨A,c,h1,h2,fun h0=>?_⟩
 obtain ⟨g,o,e,b1,b2,h4⟩:=h3 h0
 exact ⟨g,o,e,b2,h4⟩
theorem RdX.of_own {w:World} {base B:Nat} {e:TypeId} {v:Value} {ts:List Tok} (h:w.ownsRow base e 3 v ts.length (tokRow ts)) (hB:B < base):RdX w B w.heap.size v ts:=by
 obtain ⟨A,c,h1,h2,_,h3⟩:=own_slice h (by omega)
 refine ⟨A,c,h1,h2,fun h0=>?_⟩
 obtain ⟨g,e,b1,b2,_,h4⟩:=h3 h0
 exact ⟨g,0,e,by omega,b2,fun j u hu=>by rw [Nat.zero_add];exact h4 j u hu⟩
theorem tokRow_drop (ts:List Tok) (n j:Nat) (u:Value) (h:(tokRow (ts.drop n))[j]? = some u):(tokRow ts)[3 * n + j]? = some u:=by
 have e:ts=ts.take n ++ ts.drop n:=(List.take_append_drop n ts).symm
 rcases Nat.lt_or_ge ts.length n with hn | hn
 ·rw [List.drop_eq_nil_of_le (by omega)] at h
  simp [tokRow] at h
 ·rw [e,tokRow_app,List.getElem?_append_right (by rw [tokRow_length];simp;omega),tokRow_length,List.length_take,Nat.min_eq_left hn]
  rw [show 3 * n + j - n * 3=j by omega]
  exact h
theorem RdX.drop {w:World} {B R g o c:Nat} {ts:List Tok} (n m:Nat) (h:RdX w B R (.slice (some ⟨g,o,none⟩) ts.length c) ts) (hm:m=3 * n) (hn:n ≤ ts.length):RdX w B R (.slice (if c=n then some ⟨g,o,none⟩ else some ⟨g,o + m,none⟩) (ts.length - n) (c - n)) (ts.drop n):=by
 obtain ⟨A',c',hv,hc,h3⟩:=h
 injection hv with hv1 _ hv3
 subst hv1 hv3 hm
 refine ⟨_,c - n,by rw [List.length_drop],by rw [List.length_drop];omega,fun h0=>?_⟩
 rw [List.length_drop] at h0
 obtain ⟨g',o',e,b1,b2,h4⟩:=h3 (by omega)
 injection e with e
 injection e with e1 e2 _
 subst e1 e2
 rw [if_neg (by omega)]
 exact ⟨g,_,rfl,b1,b2,fun j u hu=>by rw [Nat.add_assoc];exact h4 _ u (tokRow_drop ts n j u hu)⟩
def But (N B:Nat) (w w':World):Prop:=w.heap.size ≤ w'.heap.size∧∀ k,k < N → k ≠ B → w'.heap[k]? = w.heap[k]?
theorem But.refl (N B:Nat) (w:World):But N B w w:=⟨Nat.le_refl _,fun _ _ _=>rfl⟩
theorem But.bel {N B:Nat} {w w1 w2:World} (h:But N B w w1) (hb:Below N w1 w2):But N B w w2:=⟨Nat.le_trans h.1 hb.size,fun k h1 h2=>(hb.block k h1).trans (h.2 k h1 h2)⟩
theorem But.set {N B:Nat} {w w1:World} (h:But N B w w1) (i:Nat) (u:Value):But N B w (w1.setCell ⟨B,i,none⟩ u):=⟨by simpa using h.1,fun k h1 h2=>(Below.heap_setCell _ _ _ k h2).trans (h.2 k h1 h2)⟩
theorem OwnV.set {α:Type} {f:α → Value → List Value} {sub:World → (Nat → Prop) → Value → α → Prop} {E:TypeId} {C:Nat} (hkeep:∀ w w' S S' v a,sub w S v a → (∀ p:Addr,S p.block → w'.cell? p=w.cell? p) → (∀ g,S g → S' g) → sub w' S' v a)
  {w:World} {base b i:Nat} {v u:Value} {l:List α} {vs:List Value} (h:OwnV f sub E C w base v l vs) (hb:b < base):OwnV f sub E C (w.setCell ⟨b,i,none⟩ u) base v l vs:=by
 obtain ⟨h1,h2,h3⟩:=h
 exact ⟨h1,ownsRow_setCell_below h2 hb u,fun i hi=>hkeep _ _ _ _ _ _ (h3 i hi) (fun p hp=>World.cell?_of_block (Below.heap_setCell _ _ _ p.block (by simp;omega))) (fun g hg=>⟨hg.1,by simpa using hg.2.1,hg.2.2⟩)⟩
theorem info_ar:(Tryz.prog.info? 41).map (fun i=>(i.zero,i.size,i.bytes))=some (some (.agg #[.string ⟨#[]⟩,.string ⟨#[]⟩,.bool false,.bool false,.string ⟨#[]⟩,.int .u16 0,.string ⟨#[]⟩,.slice none 0 0]),8,104):=by kernel_rfl
end Go.Proofs.YtagplldaooipmaaGreatDoor
/- line: Parse. -/
namespace Go.Proofs.YtagplldaooipmaaGreatDoor
open Go.RowKit
theorem rd_new (w:World) (N:Nat) (hN:w.heap.size=N) (cs:List Value) (T:TypeId):Rd (w.alloc (.cells cs.toArray T)) (N + 1) (.slice (some ⟨N,0,none⟩) 1 1) 1 cs:=by subst hN;exact Rd.new w cs T
end Go.Proofs.YtagplldaooipmaaGreatDoor
/- line: show; words that are joined. -/
namespace Go.Proofs.YtagplldaooipmaaGreatDoor
open Go.RowKit
theorem join_wide (xs:List (List UInt8)) (sep:List UInt8) (v:Value) (w:World) (hr:Rd w w.heap.size v xs.length (xs.map strV)) (hl:xs.length ≤ 1000000) (hlen:(sep.intercalate xs).length ≤ 100000000000000) :
  Calls Tryz.prog 44 #[v,.string ⟨sep.toArray⟩] w fun e w'=>e=.returned (.string ⟨(sep.intercalate xs).toArray⟩)∧Below w.heap.size w w':=by
 obtain ⟨A,c,rfl,hc,h3⟩:=hr
 by_cases h0:xs = []
 ·subst h0
  refine (Tryz.strings_Join_none A c ⟨sep.toArray⟩ w).mono ?_
  rintro e w1 ⟨rfl,rfl⟩
  exact ⟨rfl,Below.refl _ _⟩
 ·have h0':0 < xs.length:=List.length_pos_iff.mpr h0
  obtain ⟨g,o,rfl,hg,hcells⟩:=h3 h0'
  have e1:(xs.map fun t=>(⟨t.toArray⟩:ByteArray)).map (·.data.toList)=xs:=by rw [List.map_map];exact List.map_id xs
  have hj:=Tryz.strings_Join g o c (xs.map fun t=>⟨t.toArray⟩) ⟨sep.toArray⟩ w (fun j x hx=>by
   refine hcells j (.string x) ?_
   rw [List.getElem?_map] at hx ⊢
   cases hq:xs[j]? with
   | none=>rw [hq] at hx;simp at hx
   | some y=>rw [hq] at hx;simp at hx;simp [strV,hx]) hg (by simp;omega) (by simpa using hc) (by
   rw [e1]
   show (sep.intercalate xs).length ≤ _
   omega)
  rw [e1,List.length_map] at hj
  exact hj
theorem showK_len (e:Ex) (hf:fitE e=true):(showK e).length ≤ 600000000:=by
 unfold showK
 split
 ·exact show_len9 e 24 (by omega) (by assumption) hf 1
 ·simp
theorem showA_len (d:Int) (a:Ar) (hf:fitA a):(showA d a).length ≤ 600000010:=by
 obtain ⟨h1,h2,h3⟩:=hf
 have h4:=showK_len a.e h3
 have h5:(quoteL a.t).length ≤ 1000000:=by have:=(dbl_length a.t).2;unfold quoteL;simp;omega
 unfold showK at h4
 unfold showA
 split
 ·omega
 ·split
  ·omega
  ·split
   ·simp;omega
   ·split
    ·simp;omega
    ·omega
set_option maxHeartbeats 2000000 in
theorem ashow_any (d:Int) (a:Ar) (v:Value) (w:World) (hg:GWL w) (hf:fitA a) (hs:SubAt w (· < w.heap.size) v a.e.sub) :
  Calls Tryz.prog 43 #[.int .i64 d,arV a v] w fun e w'=>e=.returned (.string ⟨(showA d a).toArray⟩)∧Below w.heap.size w w':=by
 have HQ:=Lib.hid (fun W (hW:GW W)=>quote_any a.t W hW (Nat.le_trans hf.2.1 (by omega)))
 have HE:=Lib.hid (fun W (hW:Below w.heap.size w W)=>Show_any a.e v W hf.2.2 (hg.below hW).2 (hs.at hW hW.size))
 have HR:Hid (showA d a=if a.w ≠ [] then a.w else if a.is then quoteL a.t else if a.mem=true∧d=2 then [91] ++ showK a.e ++ [93] else if a.mem=true then [40] ++ showK a.e ++ [41] else showK a.e):=Lib.hid rfl
 have hkl:=showK_len a.e hf.2.2
 obtain ⟨A,c,rfl,hc,hm⟩:=hs.form
 have B0:=Lib.hid (fun o=>(Below.refl w.heap.size w).alloc (Nat.le_refl _) o)
 have G0:=Lib.hid (fun o=>(hg.below (B0.out o)).2)
 generalize showA d a=res at *
 generalize showK a.e=sk at *
 generalize rightK a.e=rk at *
 obtain ⟨aw,at1,ais,amem,⟨eo,en,em,es⟩⟩:=a
 unfold arV
 simp only [Ex.op,Ex.n,Ex.name,Ex.sub] at *
 generalize es.length=sl at *
 generalize quoteL at1=qt at *
 have n1:¬ 9223372036854775807 < 1 + sk.length:=by omega
 have n2:¬ 9223372036854775807 < sk.length + 1 + 1:=by omega
 have n3:¬ 9223372036854775807 < 1 + sk.length + 1:=by omega
 clear hs hf hg hc hm
 by_cases h1:aw = []
 ·subst h1
  cases ais with
  | true=>
   have HR':=Lib.hid (HR.out.trans ((if_neg (by simp)).trans (if_pos rfl)))
   clear HR
   go_enter Tryz.func43, Tryz.ntmps43
   go_wp2_with fail
   refine (HQ.out _ (G0.out _)).mono ?_
   rintro e w2 ⟨rfl,hb2⟩
   go_wp2_with fail
   go_ret
   rw [HR'.out]
   exact ⟨rfl,bthen (B0.out _) hb2⟩
  | false=>
   have HR2:=Lib.hid (HR.out.trans ((if_neg (by simp)).trans (if_neg (by simp))))
   clear HR
   cases amem with
   | false=>
    have HR':=Lib.hid (HR2.out.trans ((if_neg (by simp)).trans (if_neg (by simp))))
    clear HR2
    go_enter Tryz.func43, Tryz.ntmps43
    go_wp2_with fail
    refine (HE.out _ (B0.out _)).mono ?_
    rintro e w2 ⟨rfl,hb2⟩
    obtain ⟨hcc,hff⟩:=bcell hb2
    have B2:=Lib.hid (bthen (B0.out _) hb2)
    clear hb2
    go_wp2_with fail
    go_ret
    rw [HR'.out]
    exact ⟨rfl,B2.out⟩
   | true=>
    by_cases h2:d=2
    ·subst h2
     have HR':=Lib.hid (HR2.out.trans (if_pos (by simp)))
     clear HR2
     go_enter Tryz.func43, Tryz.ntmps43
     go_wp2_with fail
     refine (HE.out _ (B0.out _)).mono ?_
     rintro e w2 ⟨rfl,hb2⟩
     obtain ⟨hcc,hff⟩:=bcell hb2
     have B2:=Lib.hid (bthen (B0.out _) hb2)
     clear hb2
     go_wp2_with fail
     go_ret
     rw [HR'.out]
     exact ⟨rfl,B2.out⟩
    ·have HR':=Lib.hid (HR2.out.trans ((if_neg (by simp [h2])).trans (if_pos rfl)))
     have e2:(d == 2)=false:=by simpa using h2
     clear HR2 h2
     go_enter Tryz.func43, Tryz.ntmps43
     go_wp2_with fail
     refine (HE.out _ (B0.out _)).mono ?_
     rintro e w2 ⟨rfl,hb2⟩
     obtain ⟨hcc,hff⟩:=bcell hb2
     have B2:=Lib.hid (bthen (B0.out _) hb2)
     clear hb2
     go_wp2_with fail
     go_ret
     rw [HR'.out]
     exact ⟨rfl,B2.out⟩
 ·have HR':=Lib.hid (HR.out.trans (if_pos h1))
  have e1:(!aw.isEmpty)=true:=by simpa using h1
  clear HR h1
  go_enter Tryz.func43, Tryz.ntmps43
  go_wp2_with fail
  go_ret
  rw [HR'.out]
  exact ⟨rfl,B0.out _⟩
def WordsAt (w:World) (b B:Nat) (l:List (List UInt8)):Prop:=∃ v,w.heap[b]? = some (.cells #[v] 81 (0,0))∧w.ownsRow B 9 1 v l.length (l.map strV)
theorem WordsAt.bel {w w':World} {b B:Nat} {l:List (List UInt8)} (h:WordsAt w b B l) (hb:Below w.heap.size w w'):WordsAt w' b B l:=by
 obtain ⟨v,h1,h2⟩:=h
 refine ⟨v,(hb.block _ (lt_of_heap h1)).trans h1,h2.1,?_⟩
 rcases h2.2 with h3 | ⟨g,cap,cur,e,h4,h5,h6⟩
 ·exact .inl h3
 ·exact .inr ⟨g,cap,cur,e,h4,(hb.block g (lt_of_heap h5)).trans h5,h6⟩
theorem own_but {w w':World} {base b n size:Nat} {e:TypeId} {v:Value} {xs:List Value} (h:w.ownsRow base e size v n xs) (hlt:b < base) (hb:But w.heap.size b w w'):w'.ownsRow base e size v n xs:=by
 refine ⟨h.1,?_⟩
 rcases h.2 with h3 | ⟨g,cap,cur,e,h4,h5,h6⟩
 ·exact .inl h3
 ·exact .inr ⟨g,cap,cur,e,h4,(hb.2 g (lt_of_heap h5) (by omega)).trans h5,h6⟩
set_option maxHeartbeats 2000000 in
theorem addw_any (x:List UInt8) (b B:Nat) (l:List (List UInt8)) (w:World) (hl:l.length ≤ 100) (hbB:b < B) (hB:B ≤ w.heap.size) (h:WordsAt w b B l) :
  Calls Tryz.prog 42 #[.string ⟨x.toArray⟩,.pointer (some ⟨b,0,none⟩)] w fun e w'=>e=.returned (.tuple #[])∧WordsAt w' b B (if x = [] then l else l ++ [x])∧Below b w w'∧But B b w w':=by
 obtain ⟨v,h1,h2⟩:=h
 have H1:=Lib.hid h1
 have H2:=Lib.hid h2
 obtain ⟨A,c,rfl,hc,hm,_⟩:=own_slice h2 (by omega)
 have hb:=lt_of_heap h1
 have k0:=cell_of_heap (i:=0) h1
 have f0:=frozen_of_heap (i:=0) h1
 simp at k0 f0
 clear h1 h2
 by_cases hx:x = []
 ·subst hx
  go_enter Tryz.func42, Tryz.ntmps42
  go_wp2_with fail
  go_end0
  exact ⟨rfl,⟨_,H1.out,H2.out⟩,Below.refl _ _,But.refl _ _ _⟩
 ·rw [if_neg hx]
  have e1:(!x.isEmpty)=true:=by simpa using hx
  have HO:=Lib.hid (H2.out.alloc (.cells #[.string ⟨x.toArray⟩] 9))
  have HN:=Lib.hid (Rd.new w [.string ⟨x.toArray⟩] 9)
  have HC:=Lib.hid ((((Below.refl w.heap.size w).alloc (Nat.le_refl _) (.cells #[.string ⟨x.toArray⟩] 9)).block _ hb).trans H1.out)
  clear hx hm
  go_enter Tryz.func42, Tryz.ntmps42
  go_wp2_with (at_builtin;refine wpList_append_to _ rfl (.tmp 5) (.tmp 7) 81 rfl B 9 _ 1 16 Tryz.underlying81 info_str rfl (by omega) HO.out rfl HN.out rfl rfl (fun u hu=>by simp at hu;subst hu;rfl) (by omega) (by omega) (by simp;omega) ?_;intro v9 w9 hown9 hbel9 hg9 hv9;obtain ⟨A9,c9,rfl,hc9,hm9,_⟩:=own_slice hown9 (by omega);have H9:=Lib.hid hown9;have B9:=Lib.hid hbel9;have C9:=Lib.hid ((hbel9.block _ hbB).trans HC.out);have k9:=cell_of_heap (i:=0) C9.out;have f9:=frozen_of_heap (i:=0) C9.out;simp at k9 f9;clear hown9 hbel9 hg9 hv9 k0 f0)
  go_end0
  have hB9:Below B w w9:=((Below.refl B w).alloc hB _).trans B9.out
  refine ⟨rfl,⟨_,heap_set (i:=0) _ C9.out,?_⟩,(hB9.mono (Nat.le_of_lt hbB)).setCell (Nat.le_refl _) _,((But.refl B b w).bel hB9).set 0 _⟩
  have:=ownsRow_setCell_below H9.out (a:=⟨b,0,none⟩) hbB (.slice A9 (l.length + 1) c9)
  simpa [strV] using this
end Go.Proofs.YtagplldaooipmaaGreatDoor
/- line: Show. -/
namespace Go.Proofs.YtagplldaooipmaaGreatDoor
open Go.RowKit
theorem inter_len (c:UInt8) (M:Nat):∀ l:List (List UInt8),(∀ x ∈ l,x.length ≤ M) → ([c].intercalate l).length ≤ (M + 1) * l.length:=by
 intro l
 induction l with
 | nil=>intro _;simp [List.intercalate]
 | cons a r ih=>
  intro h
  cases r with
  | nil=>
   rw [inter_one]
   have:=h a (by simp)
   simp;omega
  | cons b r=>
   rw [inter_cons]
   have h1:=ih (fun x hx=>h x (by simp [hx]))
   have h2:=h a (by simp)
   simp only [List.length_append,List.length_cons,Nat.mul_add,Nat.add_mul,Nat.mul_one,Nat.one_mul] at *
   omega
theorem filt3 (a b c:List UInt8):(if c = [] then (if b = [] then (if a = [] then ([]:List (List UInt8)) else [] ++ [a]) else (if a = [] then ([]:List (List UInt8)) else [] ++ [a]) ++ [b]) else (if b = [] then (if a = [] then ([]:List (List UInt8)) else [] ++ [a]) else (if a = [] then ([]:List (List UInt8)) else [] ++ [a]) ++ [b]) ++ [c]) = [a,b,c].filter (fun x=>!x.isEmpty):=by
 by_cases ha:a = [] <;> by_cases hb:b = [] <;> by_cases hc:c = [] <;> simp [ha,hb,hc]
theorem labS_len (s:St):(labS s).length ≤ s.label.length + 1:=by unfold labS;split <;> simp
set_option maxHeartbeats 4000000 in
set_option maxRecDepth 100000 in
theorem show12_any (d:Int) (s:St) (v:Value) (w:World) (hg:GWL w) (hf:fitS s) (hs:ArAt w (· < w.heap.size) v s.args) :
  Calls Tryz.prog 23 #[.int .i64 d,stV s v] w fun e w'=>e=.returned (.tuple #[.string ⟨(showS d s).1.toArray⟩,.int .i64 (showS d s).2])∧Below w.heap.size w w':=by
 have HR:=Lib.hid (fun W (hW:Below w.heap.size w W)=>Right12_any d s v W (hg.below hW) hf (hs.at hW hW.size))
 have HS:=Lib.hid (fun W (hW:Below w.heap.size w W)=>hs.at hW hW.size)
 have HRES:Hid (showS d s=if rightS d s ≠ 0 then ([],rightS d s) else if 200 < (textS d s).length then ([],11) else (textS d s,0)):=Lib.hid rfl
 have HFA:=Lib.hid hf.2.2
 have HLen:Hid (rightS d s=0 → s.args.length ≤ 32):=Lib.hid (fun h=>(rightS.form h).few)
 have hll:=hf.1
 have hol:=hf.2.1
 obtain ⟨A,c,rfl,hc,hm⟩:=hs.form
 have HT:Hid (textS d s = [32].intercalate ([labS s,s.op,[44].intercalate (s.args.map (showA d))].filter (fun x=>!x.isEmpty))):=Lib.hid rfl
 have HL:Hid (labS s=if s.colon then s.label ++ [58] else s.label):=Lib.hid rfl
 have hlb:=labS_len s
 generalize showS d s=res at *
 generalize textS d s=txt at *
 generalize rightS d s=rs at *
 generalize labS s=lb at *
 obtain ⟨lab,colon,op,args⟩:=s
 unfold stV
 simp only at *
 have B0:=Lib.hid (fun o=>(Below.refl w.heap.size w).alloc (Nat.le_refl _) o)
 clear hs hf
 by_cases hr:rs=0
 ·subst hr
  have HR2:=Lib.hid ((if_neg (by simp)).symm.trans HRES.out.symm)
  have hn:=HLen.out rfl
  clear HRES HLen hm
  go_enter Tryz.func23, Tryz.ntmps23
  go_wp2_with fail
  refine (HR.out _ (B0.out _)).mono ?_
  rintro e w2 ⟨rfl,hb2⟩
  have B2:=Lib.hid (bthen (B0.out _) hb2)
  have C2:=Lib.hid ((hb2.block w.heap.size (by simp)).trans (heap_alloc_new w _))
  obtain ⟨⟨k0,k1,k2,k3⟩,_,_,_,_⟩:=four C2.out
  have hH:w.heap.size < w2.heap.size:=lt_of_heap C2.out
  have n1:¬ 9223372036854775807 < lab.length + 1:=by omega
  have W3:=Lib.hid (show WordsAt (w2.alloc (.cells #[.slice none 0 0] 81)) w2.heap.size (w2.heap.size + 1) [] from ⟨_,heap_alloc_new w2 _,⟨rfl,.inl ⟨rfl,rfl⟩⟩⟩)
  have B3:=Lib.hid (B2.out.alloc B2.out.size (.cells #[.slice none 0 0] 81))
  have C3:=Lib.hid (((((Below.refl w2.heap.size w2).alloc (Nat.le_refl _) (.cells #[.slice none 0 0] 81))).block _ hH).trans C2.out)
  clear hb2 B2 C2
  cases colon with
  | true=>
   go_wp2_with fail
   go_loopw [8,30] (fun v8 i wr=>∃ k:Nat,k ≤ args.length∧i=.int .i64 k∧wr.ownsRow (w2.heap.size + 1) 9 1 v8 k (((args.take k).map (showA d)).map strV)∧Below (w2.heap.size + 1) (w2.alloc (.cells #[.slice none 0 0] 81)) wr) (fun _ i _=>args.length - (intOf i).toNat)
   case atStart=>exact ⟨0,Nat.zero_le _,rfl,⟨by simp,.inl ⟨rfl,rfl⟩⟩,Below.refl _ _⟩
   case round=>
    obtain ⟨k,hk,rfl,ho8,hb8⟩:=hrel
    have O8:=Lib.hid ho8
    have B8:=Lib.hid hb8
    have BW:=Lib.hid (B3.out.trans (hb8.mono (by omega)))
    have hsz:w2.heap.size + 1 ≤ wr.heap.size:=by have:=hb8.size;simpa using this
    obtain ⟨A8,c8,rfl,hc8,hm8,_⟩:=own_slice ho8 (by omega)
    clear ho8 hb8
    by_cases hlt:k < args.length
    ·obtain ⟨g,o,vk,hA,hgl,c0,c1,c2,c3,c4,c5,c6,c7,hsub⟩:=(HS.out wr BW.out).get k hlt
     subst hA
     obtain ⟨sA,sc,rfl,hsc,hsm⟩:=hsub.form
     have HA:=Lib.hid (fun o=>ashow_any d args[k] _ (wr.alloc o) (hg.below (BW.out.alloc BW.out.size o)) (HFA.out _ (List.getElem_mem hlt)) (hsub.at ((Below.refl _ _).alloc (Nat.le_refl _) o) (by simp)))
     have HTK:=Lib.hid (show ((args.take (k + 1)).map (showA d)).map strV=((args.take k).map (showA d)).map strV ++ [strV (showA d args[k])] by rw [List.take_succ_eq_append_getElem hlt,List.map_append,List.map_append];rfl)
     generalize showA d args[k]=st at *
     generalize args[k]=a at *
     clear hsub hsm hsc
     go_wp2_with fail
     refine (HA.out _).mono ?_
     rintro e w5 ⟨rfl,hb5⟩
     have B5:=Lib.hid (bthen ((Below.refl wr.heap.size wr).alloc (Nat.le_refl _) _) hb5)
     have O5:=Lib.hid (own_but (b:=w2.heap.size) O8.out (by omega) ((But.refl _ _ _).bel B5.out))
     have O6:=Lib.hid (O5.out.alloc (.cells #[.string ⟨st.toArray⟩] 9))
     have N6:=Lib.hid (Rd.new w5 [.string ⟨st.toArray⟩] 9)
     have h5:w2.heap.size + 1 ≤ w5.heap.size:=Nat.le_trans hsz B5.out.size
     have B6:=Lib.hid ((B8.out.trans (B5.out.mono hsz)).alloc h5 (.cells #[.string ⟨st.toArray⟩] 9))
     clear hb5 c0 c1 c2 c3 c4 c5 c6 c7 HA
     go_wp2_with (at_builtin;refine wpList_append_to _ rfl (.tmp 34) (.tmp 38) 81 rfl (w2.heap.size + 1) 9 _ 1 16 Tryz.underlying81 info_str rfl (by omega) O6.out rfl N6.out rfl rfl (fun u hu=>by simp at hu;subst hu;rfl) (by omega) (by omega) (by simp;omega) ?_;intro v9 w9 hown9 hbel9 hg9 hv9;have O9:=Lib.hid hown9;have B9:=Lib.hid (B6.out.trans hbel9);clear hown9 hbel9 hg9 hv9)
     go_roundw
     case rel=>exact ⟨k + 1,by omega,by go_num,by rw [HTK.out];exact O9.out,B9.out⟩
     case measure=>simp [intOf];omega
    ·obtain rfl:k=args.length:=by omega
     rw [List.take_length] at O8
     have hH2:w.heap.size < wr.heap.size:=Nat.lt_of_lt_of_le hH (Nat.le_trans (Nat.le_succ _) hsz)
     have C8:=Lib.hid ((B8.out.block w.heap.size (by omega)).trans C3.out)
     have W8:Hid (WordsAt wr w2.heap.size wr.heap.size []):=Lib.hid (by
      obtain ⟨v0,q1,q2⟩:=W3.out
      have hv0:v0=.slice none 0 0:=by
       have:=heap_alloc_new w2 (.cells #[.slice none 0 0] 81)
       rw [this] at q1
       injection q1 with q1
       injection q1 with q1
       simpa using q1.symm
      exact ⟨v0,(B8.out.block _ (Nat.lt_succ_self _)).trans q1,⟨rfl,.inl ⟨hv0,rfl⟩⟩⟩)
     have HJA:=Lib.hid (fun W (hW:But wr.heap.size w2.heap.size wr W)=>join_wide (args.map (showA d)) [44] _ W (by rw [List.length_map];exact Rd.of_own (own_but O8.out (by omega) hW)) (by simp;omega) (Nat.le_trans (inter_len 44 600000010 _ (fun x hx=>by obtain ⟨a,ha,rfl⟩:=List.mem_map.1 hx;exact showA_len d a (HFA.out a ha))) (by simp;omega)))
     have hjl:([44].intercalate (args.map (showA d))).length ≤ 20000000000:=Nat.le_trans (inter_len 44 600000010 _ (fun x hx=>by obtain ⟨a,ha,rfl⟩:=List.mem_map.1 hx;exact showA_len d a (HFA.out a ha))) (by simp;omega)
     generalize [44].intercalate (args.map (showA d))=jn at *
     generalize args.map (showA d)=sh at *
     clear W3 HS HFA
     go_wp2_with fail
     refine (addw_any (lab ++ [58]) w2.heap.size wr.heap.size [] wr (by simp) (by omega) (Nat.le_refl _) W8.out).mono ?_
     rintro e w4 ⟨rfl,hw4,hb4,hbt4⟩
     have W4:=Lib.hid hw4
     have B4:=Lib.hid (BW.out.trans (hb4.mono (Nat.le_of_lt hH)))
     have BT4:=Lib.hid hbt4
     have C4:=Lib.hid ((hbt4.2 _ hH2 (by omega)).trans C8.out)
     have l1:(if (lab ++ [58]) = [] then ([]:List (List UInt8)) else [] ++ [lab ++ [58]]).length ≤ 1:=by split <;> simp
     obtain ⟨⟨y0,y1,y2,y3⟩,_,_,_,_⟩:=four C4.out
     have hs4:wr.heap.size ≤ w4.heap.size:=hbt4.1
     generalize hw1:(if (lab ++ [58]) = [] then ([]:List (List UInt8)) else [] ++ [lab ++ [58]])=ws1 at *
     have E1:=Lib.hid hw1
     clear hw1
     clear hw4 hb4 hbt4 W8
     go_wp2_with fail
     refine (addw_any op w2.heap.size wr.heap.size ws1 w4 (by omega) (by omega) hs4 W4.out).mono ?_
     rintro e w6 ⟨rfl,hw6,hb6,hbt6⟩
     have W6:=Lib.hid hw6
     have B6:=Lib.hid (B4.out.trans (hb6.mono (Nat.le_of_lt hH)))
     have BT6:Hid (But wr.heap.size w2.heap.size wr w6):=Lib.hid ⟨Nat.le_trans hs4 hbt6.1,fun q h1 h2=>(hbt6.2 q h1 h2).trans (BT4.out.2 q h1 h2)⟩
     have l2:(if op = [] then ws1 else ws1 ++ [op]).length ≤ 2:=by split <;> (try simp) <;> omega
     generalize hw2:(if op = [] then ws1 else ws1 ++ [op])=ws2 at *
     have E2:=Lib.hid hw2
     clear hw2
     clear hw6 hb6 hbt6 W4 y0 y1 y2 y3
     go_wp2_with fail
     refine (HJA.out w6 BT6.out).mono ?_
     rintro e w7 ⟨rfl,hb7⟩
     have W7:=Lib.hid (W6.out.bel hb7)
     have B7:=Lib.hid (bthen B6.out hb7)
     have hs7:wr.heap.size ≤ w7.heap.size:=Nat.le_trans BT6.out.1 hb7.size
     clear hb7 W6
     go_wp2_with fail
     refine (addw_any jn w2.heap.size wr.heap.size ws2 w7 (by omega) (by omega) hs7 W7.out).mono ?_
     rintro e w10 ⟨rfl,hw10,hb10,hbt10⟩
     have B10:=Lib.hid (B7.out.trans (hb10.mono (Nat.le_of_lt hH)))
     obtain ⟨vw,q1,q2⟩:=hw10
     have l3:(if jn = [] then ws2 else ws2 ++ [jn]).length ≤ 3:=by split <;> (try simp) <;> omega
     generalize hw3:(if jn = [] then ws2 else ws2 ++ [jn])=ws3 at *
     have E3:Hid (ws3 = [lab ++ [58],op,jn].filter (fun x=>!x.isEmpty)):=Lib.hid (by rw [← hw3,← E2.out,← E1.out];exact filt3 _ _ _)
     have HM3:∀ x ∈ ws3,x.length ≤ 20000000000:=by
      rw [E3.out]
      intro x hx
      have hx:=(List.mem_filter.1 hx).1
      simp only [List.mem_cons,List.not_mem_nil,or_false] at hx
      rcases hx with rfl | rfl | rfl
      ·simp;omega
      ·omega
      ·exact hjl
     have HJ3:=Lib.hid (join_wide ws3 [32] vw w10 (Rd.of_own q2) (by omega) (Nat.le_trans (inter_len 32 20000000000 ws3 HM3) (by omega)))
     have HTX:Hid ([32].intercalate ws3=txt):=Lib.hid (by rw [E3.out,HT.out];rw [HL.out];simp)
     rw [HTX.out] at HJ3
     obtain ⟨vA,vc,rfl,_,_,_⟩:=own_slice q2 (by omega)
     have k10:=cell_of_heap (i:=0) q1
     simp at k10
     clear q1 q2 hw3 HM3 E1 E2 E3 HTX HJA O8
     go_wp2_with fail
     refine HJ3.out.mono ?_
     rintro e w11 ⟨rfl,hb11⟩
     have B11:=Lib.hid (bthen B10.out hb11)
     clear hb11 HJ3
     by_cases h200:200 < txt.length
     ·obtain rfl:res=([],11):=HR2.out.symm.trans (if_pos h200)
      have h200':(200:Int) < (txt.length:Int):=by omega
      clear HR2
      go_wp2_with fail
      go_ret2
      exact ⟨rfl,B11.out⟩
     ·obtain rfl:res=(txt,0):=HR2.out.symm.trans (if_neg h200)
      have h200':decide ((200:Int) < (txt.length:Int))=false:=by simp;omega
      clear HR2
      go_wp2_with fail
      go_ret2
      exact ⟨rfl,B11.out⟩
  | false=>
   go_wp2_with fail
   go_loopw [8,30] (fun v8 i wr=>∃ k:Nat,k ≤ args.length∧i=.int .i64 k∧wr.ownsRow (w2.heap.size + 1) 9 1 v8 k (((args.take k).map (showA d)).map strV)∧Below (w2.heap.size + 1) (w2.alloc (.cells #[.slice none 0 0] 81)) wr) (fun _ i _=>args.length - (intOf i).toNat)
   case atStart=>exact ⟨0,Nat.zero_le _,rfl,⟨by simp,.inl ⟨rfl,rfl⟩⟩,Below.refl _ _⟩
   case round=>
    obtain ⟨k,hk,rfl,ho8,hb8⟩:=hrel
    have O8:=Lib.hid ho8
    have B8:=Lib.hid hb8
    have BW:=Lib.hid (B3.out.trans (hb8.mono (by omega)))
    have hsz:w2.heap.size + 1 ≤ wr.heap.size:=by have:=hb8.size;simpa using this
    obtain ⟨A8,c8,rfl,hc8,hm8,_⟩:=own_slice ho8 (by omega)
    clear ho8 hb8
    by_cases hlt:k < args.length
    ·obtain ⟨g,o,vk,hA,hgl,c0,c1,c2,c3,c4,c5,c6,c7,hsub⟩:=(HS.out wr BW.out).get k hlt
     subst hA
     obtain ⟨sA,sc,rfl,hsc,hsm⟩:=hsub.form
     have HA:=Lib.hid (fun o=>ashow_any d args[k] _ (wr.alloc o) (hg.below (BW.out.alloc BW.out.size o)) (HFA.out _ (List.getElem_mem hlt)) (hsub.at ((Below.refl _ _).alloc (Nat.le_refl _) o) (by simp)))
     have HTK:=Lib.hid (show ((args.take (k + 1)).map (showA d)).map strV=((args.take k).map (showA d)).map strV ++ [strV (showA d args[k])] by rw [List.take_succ_eq_append_getElem hlt,List.map_append,List.map_append];rfl)
     generalize showA d args[k]=st at *
     generalize args[k]=a at *
     clear hsub hsm hsc
     go_wp2_with fail
     refine (HA.out _).mono ?_
     rintro e w5 ⟨rfl,hb5⟩
     have B5:=Lib.hid (bthen ((Below.refl wr.heap.size wr).alloc (Nat.le_refl _) _) hb5)
     have O5:=Lib.hid (own_but (b:=w2.heap.size) O8.out (by omega) ((But.refl _ _ _).bel B5.out))
     have O6:=Lib.hid (O5.out.alloc (.cells #[.string ⟨st.toArray⟩] 9))
     have N6:=Lib.hid (Rd.new w5 [.string ⟨st.toArray⟩] 9)
     have h5:w2.heap.size + 1 ≤ w5.heap.size:=Nat.le_trans hsz B5.out.size
     have B6:=Lib.hid ((B8.out.trans (B5.out.mono hsz)).alloc h5 (.cells #[.string ⟨st.toArray⟩] 9))
     clear hb5 c0 c1 c2 c3 c4 c5 c6 c7 HA
     go_wp2_with (at_builtin;refine wpList_append_to _ rfl (.tmp 34) (.tmp 38) 81 rfl (w2.heap.size + 1) 9 _ 1 16 Tryz.underlying81 info_str rfl (by omega) O6.out rfl N6.out rfl rfl (fun u hu=>by simp at hu;subst hu;rfl) (by omega) (by omega) (by simp;omega) ?_;intro v9 w9 hown9 hbel9 hg9 hv9;have O9:=Lib.hid hown9;have B9:=Lib.hid (B6.out.trans hbel9);clear hown9 hbel9 hg9 hv9)
     go_roundw
     case rel=>exact ⟨k + 1,by omega,by go_num,by rw [HTK.out];exact O9.out,B9.out⟩
     case measure=>simp [intOf];omega
    ·obtain rfl:k=args.length:=by omega
     rw [List.take_length] at O8
     have hH2:w.heap.size < wr.heap.size:=Nat.lt_of_lt_of_le hH (Nat.le_trans (Nat.le_succ _) hsz)
     have C8:=Lib.hid ((B8.out.block w.heap.size (by omega)).trans C3.out)
     have W8:Hid (WordsAt wr w2.heap.size wr.heap.size []):=Lib.hid (by
      obtain ⟨v0,q1,q2⟩:=W3.out
      have hv0:v0=.slice none 0 0:=by
       have:=heap_alloc_new w2 (.cells #[.slice none 0 0] 81)
       rw [this] at q1
       injection q1 with q1
       injection q1 with q1
       simpa using q1.symm
      exact ⟨v0,(B8.out.block _ (Nat.lt_succ_self _)).trans q1,⟨rfl,.inl ⟨hv0,rfl⟩⟩⟩)
     have HJA:=Lib.hid (fun W (hW:But wr.heap.size w2.heap.size wr W)=>join_wide (args.map (showA d)) [44] _ W (by rw [List.length_map];exact Rd.of_own (own_but O8.out (by omega) hW)) (by simp;omega) (Nat.le_trans (inter_len 44 600000010 _ (fun x hx=>by obtain ⟨a,ha,rfl⟩:=List.mem_map.1 hx;exact showA_len d a (HFA.out a ha))) (by simp;omega)))
     have hjl:([44].intercalate (args.map (showA d))).length ≤ 20000000000:=Nat.le_trans (inter_len 44 600000010 _ (fun x hx=>by obtain ⟨a,ha,rfl⟩:=List.mem_map.1 hx;exact showA_len d a (HFA.out a ha))) (by simp;omega)
     generalize [44].intercalate (args.map (showA d))=jn at *
     generalize args.map (showA d)=sh at *
     clear W3 HS HFA
     go_wp2_with fail
     refine (addw_any (lab) w2.heap.size wr.heap.size [] wr (by simp) (by omega) (Nat.le_refl _) W8.out).mono ?_
     rintro e w4 ⟨rfl,hw4,hb4,hbt4⟩
     have W4:=Lib.hid hw4
     have B4:=Lib.hid (BW.out.trans (hb4.mono (Nat.le_of_lt hH)))
     have BT4:=Lib.hid hbt4
     have C4:=Lib.hid ((hbt4.2 _ hH2 (by omega)).trans C8.out)
     have l1:(if (lab) = [] then ([]:List (List UInt8)) else [] ++ [lab]).length ≤ 1:=by split <;> simp
     obtain ⟨⟨y0,y1,y2,y3⟩,_,_,_,_⟩:=four C4.out
     have hs4:wr.heap.size ≤ w4.heap.size:=hbt4.1
     generalize hw1:(if (lab) = [] then ([]:List (List UInt8)) else [] ++ [lab])=ws1 at *
     have E1:=Lib.hid hw1
     clear hw1
     clear hw4 hb4 hbt4 W8
     go_wp2_with fail
     refine (addw_any op w2.heap.size wr.heap.size ws1 w4 (by omega) (by omega) hs4 W4.out).mono ?_
     rintro e w6 ⟨rfl,hw6,hb6,hbt6⟩
     have W6:=Lib.hid hw6
     have B6:=Lib.hid (B4.out.trans (hb6.mono (Nat.le_of_lt hH)))
     have BT6:Hid (But wr.heap.size w2.heap.size wr w6):=Lib.hid ⟨Nat.le_trans hs4 hbt6.1,fun q h1 h2=>(hbt6.2 q h1 h2).trans (BT4.out.2 q h1 h2)⟩
     have l2:(if op = [] then ws1 else ws1 ++ [op]).length ≤ 2:=by split <;> (try simp) <;> omega
     generalize hw2:(if op = [] then ws1 else ws1 ++ [op])=ws2 at *
     have E2:=Lib.hid hw2
     clear hw2
     clear hw6 hb6 hbt6 W4 y0 y1 y2 y3
     go_wp2_with fail
     refine (HJA.out w6 BT6.out).mono ?_
     rintro e w7 ⟨rfl,hb7⟩
     have W7:=Lib.hid (W6.out.bel hb7)
     have B7:=Lib.hid (bthen B6.out hb7)
     have hs7:wr.heap.size ≤ w7.heap.size:=Nat.le_trans BT6.out.1 hb7.size
     clear hb7 W6
     go_wp2_with fail
     refine (addw_any jn w2.heap.size wr.heap.size ws2 w7 (by omega) (by omega) hs7 W7.out).mono ?_
     rintro e w10 ⟨rfl,hw10,hb10,hbt10⟩
     have B10:=Lib.hid (B7.out.trans (hb10.mono (Nat.le_of_lt hH)))
     obtain ⟨vw,q1,q2⟩:=hw10
     have l3:(if jn = [] then ws2 else ws2 ++ [jn]).length ≤ 3:=by split <;> (try simp) <;> omega
     generalize hw3:(if jn = [] then ws2 else ws2 ++ [jn])=ws3 at *
     have E3:Hid (ws3 = [lab,op,jn].filter (fun x=>!x.isEmpty)):=Lib.hid (by rw [← hw3,← E2.out,← E1.out];exact filt3 _ _ _)
     have HM3:∀ x ∈ ws3,x.length ≤ 20000000000:=by
      rw [E3.out]
      intro x hx
      have hx:=(List.mem_filter.1 hx).1
      simp only [List.mem_cons,List.not_mem_nil,or_false] at hx
      rcases hx with rfl | rfl | rfl
      ·simp;omega
      ·omega
      ·exact hjl
     have HJ3:=Lib.hid (join_wide ws3 [32] vw w10 (Rd.of_own q2) (by omega) (Nat.le_trans (inter_len 32 20000000000 ws3 HM3) (by omega)))
     have HTX:Hid ([32].intercalate ws3=txt):=Lib.hid (by rw [E3.out,HT.out];rw [HL.out];simp)
     rw [HTX.out] at HJ3
     obtain ⟨vA,vc,rfl,_,_,_⟩:=own_slice q2 (by omega)
     have k10:=cell_of_heap (i:=0) q1
     simp at k10
     clear q1 q2 hw3 HM3 E1 E2 E3 HTX HJA O8
     go_wp2_with fail
     refine HJ3.out.mono ?_
     rintro e w11 ⟨rfl,hb11⟩
     have B11:=Lib.hid (bthen B10.out hb11)
     clear hb11 HJ3
     by_cases h200:200 < txt.length
     ·obtain rfl:res=([],11):=HR2.out.symm.trans (if_pos h200)
      have h200':(200:Int) < (txt.length:Int):=by omega
      clear HR2
      go_wp2_with fail
      go_ret2
      exact ⟨rfl,B11.out⟩
     ·obtain rfl:res=(txt,0):=HR2.out.symm.trans (if_neg h200)
      have h200':decide ((200:Int) < (txt.length:Int))=false:=by simp;omega
      clear HR2
      go_wp2_with fail
      go_ret2
      exact ⟨rfl,B11.out⟩
 ·have e1:((rs:Int) != 0)=true:=by rw [bne_iff_ne];omega
  have HR2:=Lib.hid (HRES.out.trans (if_pos hr))
  clear HRES hr HLen
  go_enter Tryz.func23, Tryz.ntmps23
  go_wp2_with fail
  refine (HR.out _ (B0.out _)).mono ?_
  rintro e w2 ⟨rfl,hb2⟩
  have B2:=Lib.hid (bthen (B0.out _) hb2)
  clear hb2
  go_wp2_with fail
  go_ret2
  rw [HR2.out]
  exact ⟨rfl,B2.out⟩
end Go.Proofs.YtagplldaooipmaaGreatDoor
/- line: Source. -/
namespace Go.Proofs.YtagplldaooipmaaGreatDoor
open Go.RowKit
def stCells (s:St) (v:Value):List Value:=[.string ⟨s.label.toArray⟩,.bool s.colon,.string ⟨s.op.toArray⟩,v]
theorem stCells_len (a:St) (v:Value):(stCells a v).length=4:=rfl
def StAt (w:World) (S:Nat → Prop) (v:Value) (l:List St):Prop:=∃ (A:Option Addr) (c:Nat) (vs:Nat → Value),v=.slice A l.length c∧l.length ≤ c∧l.length ≤ maxLen ∧
 (0 < l.length → ∃ g o,A=some ⟨g,o,none⟩∧S g∧∀ i (hi:i < l.length),∀ j u,(stCells l[i] (vs i))[j]? = some u → w.cell? ⟨g,o + i * 4 + j,none⟩=some u) ∧
 ∀ i (hi:i < l.length),ArAt w S (vs i) l[i].args
theorem StAt.keep {w w':World} {S S':Nat → Prop} {v:Value} {l:List St} (h:StAt w S v l) (hk:∀ p:Addr,S p.block → w'.cell? p=w.cell? p) (hS:∀ g,S g → S' g):StAt w' S' v l:=by
 obtain ⟨A,c,vs,h1,h2,h3,h4,h5⟩:=h
 refine ⟨A,c,vs,h1,h2,h3,fun h0=>?_,fun i hi=>(h5 i hi).keep hk hS⟩
 obtain ⟨g,o,g1,g2,g3⟩:=h4 h0
 exact ⟨g,o,g1,hS g g2,fun i hi j u hu=>(hk _ g2).trans (g3 i hi j u hu)⟩
theorem StAt.nil (w:World) (S:Nat → Prop):StAt w S (.slice none 0 0) []:=
 ⟨none,0,fun _=>.slice none 0 0,rfl,Nat.le_refl _,by unfold maxLen;simp,fun h=>absurd h (by simp),fun i hi=>absurd hi (by simp)⟩
theorem StAt.form {w:World} {S:Nat → Prop} {v:Value} {l:List St} (h:StAt w S v l):∃ A c,v=.slice A l.length c∧l.length ≤ c∧l.length ≤ maxLen:=by
 obtain ⟨A,c,vs,h1,h2,h3,h4,h5⟩:=h
 exact ⟨A,c,h1,h2,h3⟩
theorem StAt.at {w w':World} {B B':Nat} {v:Value} {l:List St} (h:StAt w (· < B) v l) (hb:Below B w w') (hB:B ≤ B'):StAt w' (· < B') v l:=h.keep (fun _ hp=>hb.cell hp) (fun x (hx:x < B)=>Nat.lt_of_lt_of_le hx hB)
theorem StAt.get {w:World} {S:Nat → Prop} {A:Option Addr} {c:Nat} {l:List St} (h:StAt w S (.slice A l.length c) l) (i:Nat) (hi:i < l.length) :
  ∃ g o v,A=some ⟨g,o,none⟩∧S g∧w.cell? ⟨g,o + i * 4,none⟩=some (.string ⟨l[i].label.toArray⟩)∧w.cell? ⟨g,o + i * 4 + 1,none⟩=some (.bool l[i].colon)∧w.cell? ⟨g,o + i * 4 + 2,none⟩=some (.string ⟨l[i].op.toArray⟩)∧w.cell? ⟨g,o + i * 4 + 3,none⟩=some v∧ArAt w S v l[i].args:=by
 obtain ⟨A',c',vs,h1,h2,h3,h4,h5⟩:=h
 injection h1 with h1 _ _
 subst h1
 obtain ⟨g,o,g1,g2,g3⟩:=h4 (by omega)
 have g:=g3 i hi
 exact ⟨_,o,vs i,g1,g2,g 0 _ rfl,g 1 _ rfl,g 2 _ rfl,g 3 _ rfl,h5 i hi⟩
theorem info_st:(Tryz.prog.info? 31).map (fun i=>(i.zero,i.size,i.bytes))=some (some (.agg #[.string ⟨#[]⟩,.bool false,.string ⟨#[]⟩,.slice none 0 0]),4,64):=by kernel_rfl
end Go.Proofs.YtagplldaooipmaaGreatDoor
/- line: Source. -/
namespace Go.Proofs.YtagplldaooipmaaGreatDoor
open Go.RowKit
theorem stCells_one (a:St) (v:Value) (h:v.oneCell'=true):∀ u ∈ stCells a v,u.oneCell'=true:=by
 intro u hu
 simp [stCells] at hu
 rcases hu with rfl | rfl | rfl | rfl <;> first | rfl | exact h
end Go.Proofs.YtagplldaooipmaaGreatDoor

/- Wh. -/
import Derived.Test.YtagplldaooipmaaGreatDoorRg6
import Derived.Test.YtagplldaooipmaaGreatDoorKd
import Derived.Test.YtagplldaooipmaaGreatDoorKb
import Derived.Test.YtagplldaooipmaaGreatDoorLs
namespace Go.Proofs.YtagplldaooipmaaGreatDoor
open Go.RowKit
set_option maxHeartbeats 1000000 in
theorem rtext_num (n:Nat) (hn:n ≤ 65535) (A:Option Addr) (c:Nat) (w:World):Calls Tryz.prog 134 #[.agg #[.string ⟨#[35]⟩,.int .u16 n,.string ⟨#[]⟩,.slice A 0 c],.int .i64 1] w fun e w'=>e=.returned (.string ⟨(showN n).toArray⟩)∧Below w.heap.size w w':=by
 have HB:Hid (∀ W,Calls Tryz.prog 175 #[.string ⟨#[35]⟩] W fun e w'=>e=.returned (.tuple #[.int .i64 7,.int .i64 0])∧W=w'):=Lib.hid (fun W=>rank_any sNum W)
 have HS:=Lib.hid (fun W=>refShow_any n W hn)
 generalize showN n=t at *
 go_enter Tryz.func134, Tryz.ntmps134
 go_wp2_with fail
 refine (HB.out _).mono ?_
 rintro e w1 ⟨rfl,rfl⟩
 go_wp2_with fail
 refine (HS.out _).mono ?_
 rintro e w2 ⟨rfl,hb2⟩
 go_wp2_with fail
 go_ret
 exact ⟨rfl,bthen ((Below.refl _ _).alloc (Nat.le_refl _) _) hb2⟩
set_option maxHeartbeats 1000000 in
theorem rtext_name (m:List UInt8) (A:Option Addr) (c:Nat) (w:World):Calls Tryz.prog 134 #[.agg #[.string ⟨#[110]⟩,.int .u16 0,.string ⟨m.toArray⟩,.slice A 0 c],.int .i64 1] w fun e w'=>e=.returned (.string ⟨m.toArray⟩)∧Below w.heap.size w w':=by
 have HB:Hid (∀ W,Calls Tryz.prog 175 #[.string ⟨#[110]⟩] W fun e w'=>e=.returned (.tuple #[.int .i64 7,.int .i64 0])∧W=w'):=Lib.hid (fun W=>rank_any sN W)
 go_enter Tryz.func134, Tryz.ntmps134
 go_wp2_with fail
 refine (HB.out _).mono ?_
 rintro e w1 ⟨rfl,rfl⟩
 go_wp2_with fail
 go_ret
 exact ⟨rfl,(Below.refl _ _).alloc (Nat.le_refl _) _⟩
set_option maxHeartbeats 1000000 in
theorem rtext_here (A:Option Addr) (c:Nat) (w:World):Calls Tryz.prog 134 #[.agg #[.string ⟨#[36]⟩,.int .u16 0,.string ⟨#[]⟩,.slice A 0 c],.int .i64 1] w fun e w'=>e=.returned (.string ⟨#[36]⟩)∧Below w.heap.size w w':=by
 have HB:Hid (∀ W,Calls Tryz.prog 175 #[.string ⟨#[36]⟩] W fun e w'=>e=.returned (.tuple #[.int .i64 7,.int .i64 0])∧W=w'):=Lib.hid (fun W=>rank_any sHere W)
 go_enter Tryz.func134, Tryz.ntmps134
 go_wp2_with fail
 refine (HB.out _).mono ?_
 rintro e w1 ⟨rfl,rfl⟩
 go_wp2_with fail
 go_ret
 exact ⟨rfl,(Below.refl _ _).alloc (Nat.le_refl _) _⟩
theorem rtext_flat (e:Ex) (h:rightE e 24=true) (hf:fitE e=true) (hs:e.sub = []) (A:Option Addr) (c:Nat) (w:World) :
  Calls Tryz.prog 134 #[.agg #[.string ⟨e.op.toArray⟩,.int .u16 e.n,.string ⟨e.name.toArray⟩,.slice A 0 c],.int .i64 1] w fun r w'=>r=.returned (.string ⟨(showE e 1).toArray⟩)∧Below w.heap.size w w':=by
 obtain ⟨o,n,m,s⟩:=e
 have hF:=rightE.form h
 simp only [Ex.sub] at hs
 subst hs
 cases hF with
 | num=>
  have hn:n ≤ 65535:=by simp [fitE] at hf;omega
  exact rtext_num n hn A c w
 | name=>exact rtext_name m A c w
 | here=>exact rtext_here A c w
set_option maxHeartbeats 1000000 in
theorem rshowE_flat (e:Ex) (h:rightE e 24=true) (hf:fitE e=true) (hs:e.sub = []) (v:Value) (w:World) (hv:SubAt w (· < w.heap.size) v e.sub) :
  Calls Tryz.prog 92 #[.agg #[.string ⟨e.op.toArray⟩,.int .u16 e.n,.string ⟨e.name.toArray⟩,v]] w fun r w'=>r=.returned (.tuple #[.string ⟨(showE e 1).toArray⟩,.int .i64 0])∧Below w.heap.size w w':=by
 have HR:=Lib.hid (fun W (hW:Below w.heap.size w W)=>RRight_any e v W hf (hv.at hW hW.size))
 rw [h,if_pos rfl] at HR
 obtain ⟨A,c,rfl,hc,hm⟩:=hv.form
 have hl0:e.sub.length=0:=by rw [hs];rfl
 rw [hl0]
 rw [hl0] at HR
 have HT:=Lib.hid (fun W=>rtext_flat e h hf hs A c W)
 clear hv hc hm h hf hs hl0
 obtain ⟨o,n,m,s⟩:=e
 simp only [Ex.op,Ex.n,Ex.name] at *
 generalize showE _ 1=t at *
 have B1:=Lib.hid ((Below.refl w.heap.size w).alloc (Nat.le_refl _) (.cells #[.string ⟨o.toArray⟩,.int .u16 n,.string ⟨m.toArray⟩,.slice A 0 c] 39))
 go_enter Tryz.func92, Tryz.ntmps92
 go_wp2_with fail
 refine (HR.out _ B1.out).mono ?_
 rintro e w1 ⟨rfl,hb1⟩
 have B2:=Lib.hid (bthen B1.out hb1)
 obtain ⟨c0,c1,c2,c3⟩:=cells4 ((hb1.block w.heap.size (by simp)).trans (heap_alloc_new w _))
 clear hb1
 go_wp2_with fail
 refine (HT.out _).mono ?_
 rintro e w2 ⟨rfl,hb2⟩
 go_wp2_with fail
 go_ret2
 exact ⟨rfl,bthen B2.out hb2⟩
theorem showA_word (d:Int) (a:Ar) (h:a.w ≠ []):showA d a=a.w:=by unfold showA;rw [if_pos h]
theorem showA_expr (d:Int) (a:Ar) (h:a.w = []) (hi:a.is=false) (hr:rightE a.e 24=true):showA d a=if a.mem=true∧d=2 then [91] ++ showE a.e 1 ++ [93] else if a.mem=true then [40] ++ showE a.e 1 ++ [41] else showE a.e 1:=by
 unfold showA;rw [if_neg (by simp [h]),if_neg (by simp [hi]),hr];simp
set_option maxHeartbeats 4000000 in
set_option maxRecDepth 100000 in
theorem rshown_flat (d:Int) (op:List UInt8) (a:Ar) (v:Value) (w:World) (hr:rightA d op a=true) (hi:a.is=false) (hsub:a.e.sub = []) (hf:fitA a) (hs:SubAt w (· < w.heap.size) v a.e.sub) :
  Calls Tryz.prog 47 #[.int .i64 d,arV a v] w fun e w'=>e=.returned (.string ⟨(showA d a).toArray⟩)∧Below w.heap.size w w':=by
 by_cases hw:a.w = []
 ··have hre:rightE a.e 24=true:=by
    unfold rightA at hr
    rw [if_neg (by simp [hw]),if_neg (by simp [hi])] at hr
    split at hr
    ·cases hr
    ·rename_i h
     simp only [not_or,Bool.not_eq_false] at h
     exact h.2.2
   have HE:=Lib.hid (fun W (hW:Below w.heap.size w W)=>rshowE_flat a.e hre hf.2.2 hsub v W (hs.at hW hW.size))
   have HX:=Lib.hid (showA_expr d a hw hi hre)
   generalize showA d a=res at *
   obtain ⟨A,c,rfl,hc,hm⟩:=hs.form
   have hlen:=show_len9 a.e 24 (Nat.le_refl _) hre hf.2.2 1
   clear hr hsub hf hs hc hm hre
   obtain ⟨aw,at1,ais,amem,ae⟩:=a
   simp only at hw hi
   subst hw hi
   unfold arV
   simp only at *
   generalize showE ae 1=t at *
   generalize ae.sub.length=sl at *
   obtain ⟨o,n,m,s⟩:=ae
   simp only [Ex.op,Ex.n,Ex.name] at *
   have B1:=Lib.hid ((Below.refl w.heap.size w).alloc (Nat.le_refl _) (.cells #[.string ⟨#[]⟩,.string ⟨at1.toArray⟩,.bool false,.bool amem,.string ⟨o.toArray⟩,.int .u16 n,.string ⟨m.toArray⟩,.slice A sl c] 41))
   cases amem
   ·have HX2:Hid (res=t):=Lib.hid (by rw [HX.out];simp)
    clear HX
    go_enter Tryz.func47, Tryz.ntmps47
    go_wp2_with fail
    refine (HE.out _ B1.out).mono ?_
    rintro e w1 ⟨rfl,hb1⟩
    have B2:=Lib.hid (bthen B1.out hb1)
    obtain ⟨c0,c1,c2,c3,c4,c5,c6,c7⟩:=cells8 ((hb1.block w.heap.size (by simp)).trans (heap_alloc_new w _))
    clear hb1
    go_wp2_with fail
    go_ret
    rw [HX2.out]
    exact ⟨rfl,B2.out⟩
   ·by_cases hd:d=2
    ·have HX2:Hid (res = [91] ++ t ++ [93]):=Lib.hid (by rw [HX.out];simp [hd])
     subst hd
     clear HX
     go_enter Tryz.func47, Tryz.ntmps47
     go_wp2_with fail
     refine (HE.out _ B1.out).mono ?_
     rintro e w1 ⟨rfl,hb1⟩
     have B2:=Lib.hid (bthen B1.out hb1)
     obtain ⟨c0,c1,c2,c3,c4,c5,c6,c7⟩:=cells8 ((hb1.block w.heap.size (by simp)).trans (heap_alloc_new w _))
     clear hb1
     go_wp2_with fail
     go_ret
     rw [HX2.out]
     exact ⟨rfl,B2.out⟩
    ·have hd1:(d == 2)=false:=by simpa using hd
     have HX2:Hid (res = [40] ++ t ++ [41]):=Lib.hid (by rw [HX.out];simp [hd])
     clear HX hd
     go_enter Tryz.func47, Tryz.ntmps47
     go_wp2_with fail
     refine (HE.out _ B1.out).mono ?_
     rintro e w1 ⟨rfl,hb1⟩
     have B2:=Lib.hid (bthen B1.out hb1)
     obtain ⟨c0,c1,c2,c3,c4,c5,c6,c7⟩:=cells8 ((hb1.block w.heap.size (by simp)).trans (heap_alloc_new w _))
     clear hb1
     go_wp2_with fail
     go_ret
     rw [HX2.out]
     exact ⟨rfl,B2.out⟩
 ·rw [showA_word d a hw]
  have n0:=str_ne hw
  have n0':a.w.isEmpty=false:=by simpa using hw
  obtain ⟨A,c,rfl,hc,hm⟩:=hs.form
  clear hr hsub hf hs hc hm hw
  obtain ⟨aw,at1,ais,amem,ae⟩:=a
  unfold arV
  simp only at *
  go_enter Tryz.func47, Tryz.ntmps47
  go_wp2_with fail
  go_ret
  exact ⟨rfl,(Below.refl _ _).alloc (Nat.le_refl _) _⟩
end Go.Proofs.YtagplldaooipmaaGreatDoor
/- The reference's layer 12: Show, of right statements whose operands are flat. -/
namespace Go.Proofs.YtagplldaooipmaaGreatDoor
open Go.RowKit
def flatA (a:Ar):Prop:=a.is=false∧a.e.sub = []
theorem showN_ne (n:Nat):showN n ≠ []:=by
 intro h
 unfold showN at h
 split at h
 ·cases h
 ·simp only at h
  split at h <;> simp at h
theorem showE_ne (e:Ex) (h:rightE e 24=true) (hs:e.sub = []):showE e 1 ≠ []:=by
 obtain ⟨o,n,m,s⟩:=e
 have hF:=rightE.form h
 simp only [Ex.sub] at hs
 subst hs
 cases hF with
 | num=>exact showN_ne n
 | name m d g1 g2 g3=>show m ≠ [];rintro rfl;simp [nameB] at g1
 | here=>decide
theorem showA_ne (d:Int) (op:List UInt8) (a:Ar) (h:ArF d op a) (hl:flatA a):showA d a ≠ []:=by
 cases h with
 | word s h0 h=>unfold showA;simp only;rw [if_pos h0];exact h0
 | text t ho h=>cases hl.1
 | expr mem e hm h hn=>
  unfold showA
  simp only [ne_eq,not_true_eq_false,if_false,Bool.false_eq_true,h,if_true]
  split
  ·simp
  ·split
   ·simp
   ·exact showE_ne e h hl.2
theorem inter_ne (x:UInt8) (l:List (List UInt8)) (h:∀ a ∈ l,a ≠ []) (h0:l ≠ []):[x].intercalate l ≠ []:=by
 cases l with
 | nil=>exact absurd rfl h0
 | cons a r=>
  have:=h a (by simp)
  cases r with
  | nil=>rw [inter_one];exact this
  | cons b r=>rw [inter_cons];simp
theorem inter_end (x:UInt8) (a:List UInt8):∀ l:List (List UInt8),l ≠ [] → [x].intercalate (l ++ [a]) = [x].intercalate l ++ x :: a
 | [],h=>absurd rfl h
 | [b],_=>by rw [List.singleton_append,inter_cons,inter_one,inter_one]
 | b :: c :: r,_=>by
  rw [List.cons_append,List.cons_append,inter_cons,inter_cons,← List.cons_append,inter_end x a (c :: r) (by simp),List.append_assoc,List.cons_append]
def preS (s:St):List UInt8:=if s.op = [] then labS s else if labS s = [] then s.op else labS s ++ [32] ++ s.op
def accS (d:Int) (s:St) (k:Nat):List UInt8:=if k=0 then preS s else preS s ++ 32 :: [44].intercalate ((s.args.take k).map (showA d))
theorem accS_one (d:Int) (s:St) (h:0 < s.args.length):accS d s 1=preS s ++ ([32]:List UInt8) ++ showA d s.args[0]:=by
 unfold accS
 rw [if_neg (by omega),List.take_succ_eq_append_getElem h,List.take_zero,List.nil_append,List.map_cons,List.map_nil,inter_one]
 simp
theorem accS_more (d:Int) (s:St) (k:Nat) (h0:k ≠ 0) (h:k < s.args.length):accS d s (k + 1)=accS d s k ++ [44] ++ showA d s.args[k]:=by
 unfold accS
 rw [if_neg (by omega),if_neg h0,List.take_succ_eq_append_getElem h,List.map_append,List.map_cons,List.map_nil,inter_end _ _ _ (by
  intro h2
  have h3:((s.args.take k).map (showA d)).length=k:=by rw [List.length_map,List.length_take];omega
  rw [h2] at h3
  exact h0 h3.symm)]
 simp
theorem accS_all (d:Int) (s:St) (h:StF d s) (hl:∀ a ∈ s.args,flatA a):accS d s s.args.length=textS d s:=by
 have hj:s.args ≠ [] → [44].intercalate (s.args.map (showA d)) ≠ []:=fun h0=>inter_ne 44 _ (fun x hx=>by obtain ⟨a,ha,rfl⟩:=List.mem_map.1 hx;exact showA_ne d s.op a (h.args a ha) (hl a ha)) (by simpa using h0)
 unfold accS preS textS wordsS
 rw [List.take_length]
 by_cases h3:s.args = []
 ·by_cases h2:s.op = [] <;> by_cases h1:labS s = [] <;> simp [h1,h2,h3]
 ·have h2:s.op ≠ []:=fun h2=>h3 (h.op0 h2)
  have hn:s.args.length ≠ 0:=by simpa using h3
  by_cases h1:labS s = [] <;> simp [h1,h2,h3,hj h3]
theorem accS_len (d:Int) (s:St) (hf:fitS s) (k:Nat) (hk:k ≤ 32):(accS d s k).length ≤ 30000000000:=by
 have h1:=hf.1
 have h2:=hf.2.1
 have hl:(labS s).length ≤ 1001:=by
  unfold labS
  split
  ·simp;omega
  ·omega
 have hp:(preS s).length ≤ 3000:=by
  unfold preS
  split
  ·omega
  ·split
   ·omega
   ·simp;omega
 unfold accS
 split
 ·omega
 ·have:=inter_len 44 600000010 ((s.args.take k).map (showA d)) (fun x hx=>by
   obtain ⟨a,ha,rfl⟩:=List.mem_map.1 hx
   exact showA_len d a (hf.2.2 a (List.mem_of_mem_take ha)))
  have hm:((s.args.take k).map (showA d)).length ≤ 32:=by simp;omega
  simp at this ⊢
  omega
theorem rightA_of {d:Int} {s:St} (h:rightS d s=0) (a:Ar) (ha:a ∈ s.args):rightA d s.op a=true:=by
 rw [rightS_12] at h
 split at h
 ·cases h
 ·split at h
  ·rename_i h2
   rw [Bool.and_eq_true,List.all_eq_true] at h2
   exact h2.2 a ha
  ·cases h
set_option maxHeartbeats 8000000 in
set_option maxRecDepth 100000 in
theorem rshow12_flat (d:Int) (s:St) (v:Value) (w:World) (hr:rightS d s=0) (hl:∀ a ∈ s.args,flatA a) (hf:fitS s) (hs:ArAt w (· < w.heap.size) v s.args) :
  Calls Tryz.prog 27 #[.int .i64 d,stV s v] w fun e w'=>e=.returned (.tuple #[.string ⟨(showS d s).1.toArray⟩,.int .i64 ((showS d s).2:Nat)])∧Below w.heap.size w w':=by
 have hF:=rightS.form hr
 have HR:=Lib.hid (fun W (hW:Below w.heap.size w W)=>rright12_any d s v W hf (hs.at hW hW.size))
 rw [hr] at HR
 have HA:=Lib.hid (fun (k:Nat) (hk:k < s.args.length) (u:Value) (W:World) (hu:SubAt W (· < W.heap.size) u s.args[k].e.sub)=>rshown_flat d s.op s.args[k] u W (rightA_of hr _ (List.getElem_mem hk)) (hl _ (List.getElem_mem hk)).1 (hl _ (List.getElem_mem hk)).2 (hf.2.2 _ (List.getElem_mem hk)) hu)
 have HALL:=Lib.hid (accS_all d s hF hl)
 have HL:=Lib.hid (accS_len d s hf)
 have HONE:=Lib.hid (accS_one d s)
 have HMORE:=Lib.hid (accS_more d s)
 have HX:Hid (showS d s=if 200 < (textS d s).length then ([],11) else (textS d s,0)):=Lib.hid (by unfold showS;rw [if_neg (by simp [hr])])
 generalize showS d s=res at *
 have H0:Hid (accS d s 0=preS s):=Lib.hid rfl
 have hlab0:Hid (s.label = [] → s.colon=false):=Lib.hid (fun h=>by rw [hF.colon,h];rfl)
 have h32:=hF.few
 have HPRE:Hid (preS s=if s.op = [] then labS s else if labS s = [] then s.op else labS s ++ [32] ++ s.op):=Lib.hid rfl
 have HLAB:Hid (labS s=if s.colon then s.label ++ [58] else s.label):=Lib.hid rfl
 have hl1:=hf.1
 have hl2:=hf.2.1
 generalize textS d s=tx at *
 generalize preS s=pre at *
 generalize accS d s=acc at *
 have HS:=Lib.hid hs
 obtain ⟨A,c,rfl,hc,hm⟩:=hs.form
 unfold maxLen at hm
 clear hs hF hr hl hf hc
 unfold stV at HR
 unfold stV
 generalize hlb:labS s=lb at *
 clear hlb
 obtain ⟨lab,colon,op,args⟩:=s
 simp only at *
 have B1:=Lib.hid ((Below.refl w.heap.size w).alloc (Nat.le_refl _) (.cells #[.string ⟨lab.toArray⟩,.bool colon,.string ⟨op.toArray⟩,.slice A args.length c] 31))
 go_enter Tryz.func27, Tryz.ntmps27
 go_wp2_with fail
 refine (HR.out _ B1.out).mono ?_
 rintro e w1 ⟨rfl,hb1⟩
 have B2:=Lib.hid (bthen B1.out hb1)
 have C2:=Lib.hid ((hb1.block w.heap.size (by simp)).trans (heap_alloc_new w _))
 obtain ⟨c0,c1,c2,c3⟩:=cells4 C2.out
 have hz:w.heap.size < w1.heap.size:=lt_of_heap C2.out
 clear hb1 HR B1
 go_upto_if 18 with (fail)
 go_cut [7] (fun v wx=>v=.string ⟨lb.toArray⟩∧wx=w1)
 case first=>
  cases colon
  ·have h1:Hid (lb=lab):=Lib.hid (by rw [HLAB.out];rfl)
   go_wp2_with fail
   go_meet
   exact ⟨by rw [h1.out],rfl⟩
  ·have h1:Hid (lb=lab ++ [58]):=Lib.hid (by rw [HLAB.out];rfl)
   go_wp2_with fail
   go_meet
   exact ⟨by rw [h1.out],rfl⟩
 case rest=>
  obtain ⟨rfl,rfl⟩:=hcut
  have hlb:lb.length ≤ 1001:=by
   rw [HLAB.out]
   split
   ·simp;omega
   ·omega
  go_upto_if 23 with (fail)
  go_cut [7] (fun v wx=>v=.string ⟨pre.toArray⟩∧wx=wc)
  case first=>
   by_cases h1:op = []
   ·subst h1
    have h2:Hid (pre=lb):=Lib.hid (by rw [HPRE.out,if_pos rfl])
    go_wp2_with fail
    go_meet
    exact ⟨by rw [h2.out],rfl⟩
   ·have n1:=str_ne h1
    have n1':op.isEmpty=false:=by simpa using h1
    by_cases h2:lb = []
    ·have h3:Hid (pre=op):=Lib.hid (by rw [HPRE.out,if_neg h1,if_pos h2])
     subst h2
     go_wp2_with fail
     all_goals (first | (exfalso;rename_i hx;rw [n1'] at hx;cases hx;done) | (go_meet;exact ⟨by rw [h3.out],rfl⟩))
    ·have h3:Hid (pre=lb ++ [32] ++ op):=Lib.hid (by rw [HPRE.out,if_neg h1,if_neg h2])
     have n2:=str_ne h2
     have n2':lb.isEmpty=false:=by simpa using h2
     go_wp2_with fail
     all_goals (first | (exfalso;rename_i hx;rw [n1'] at hx;cases hx;done) | (go_meet;exact ⟨by rw [h3.out];simp,rfl⟩))
  case rest=>
   obtain ⟨rfl,rfl⟩:=hcut
   have HW1:=Lib.hid (show Below w.heap.size w wc from B2.out)
   have b0:=H0.out
   clear c0 c1 c2 B2 HLAB HPRE hlb hlab0 hl1 hl2
   go_wp2_with fail
   go_loopw [7,8] (fun t i wr=>∃ k:Nat,k ≤ args.length∧i=.int .i64 k∧t=.string ⟨(acc k).toArray⟩∧Below wc.heap.size wc wr) (fun _ i _=>args.length - (intOf i).toNat)
   case atStart=>exact ⟨0,Nat.zero_le _,rfl,by rw [b0],Below.refl _ _⟩
   case round=>
    obtain ⟨k,hk,rfl,rfl,hb⟩:=hrel
    have HB:=Lib.hid hb
    have hbw:Below w.heap.size w wr:=bthen HW1.out hb
    have d3:=(hb.cell (p:=⟨w.heap.size,3,none⟩) hz).trans c3
    have hla:=HL.out k (by omega)
    clear b0 c3 hb
    by_cases hlt:k < args.length
    ·obtain ⟨g,o,v1,hA,hgl,e0,e1,e2,e3,e4,e5,e6,e7,hs1⟩:=(HS.out.at hbw hbw.size).get k hlt
     subst hA
     obtain ⟨sA,sc,rfl,_,_⟩:=hs1.form
     have HC:=Lib.hid (HA.out k hlt _ wr hs1)
     have hlb:=HL.out (k + 1) (by omega)
     have HM:=Lib.hid (fun h0=>HMORE.out k h0 hlt)
     have HO:Hid (k=0 → acc 1=pre ++ [32] ++ showA d args[k]):=Lib.hid (fun h=>by subst h;exact HONE.out hlt)
     have hxl:(showA d args[k]).length ≤ 30000000000:=by
      by_cases h0:k=0
      ·have h1:=HO.out h0
       rw [h0] at hlb
       rw [h1] at hlb
       simp at hlb
       omega
      ·rw [HM.out h0] at hlb
       simp at hlb
       omega
     have hlt2:=Lib.hid (show k + 1 ≤ args.length from hlt)
     have i1:(k:Int) < (args.length:Int):=by omega
     generalize args[k]=x at *
     generalize showA d x=sx at *
     unfold arV at HC
     clear hs1 HONE HMORE hbw hlb
     by_cases h0:k=0
     ·have HE:Hid (acc (k + 1)=acc k ++ [32] ++ sx):=Lib.hid (by rw [h0,H0.out];exact HO.out h0)
      have j0:((k:Int) == 0)=true:=by rw [beq_iff_eq];omega
      clear HO HM h0
      go_wp2_with fail
      refine HC.out.mono ?_
      rintro e0 w5 ⟨rfl,hb5⟩
      go_wp2_with fail
      go_roundw
      case rel=>exact ⟨k + 1,hlt2.out,by go_num,by rw [HE.out];simp,bthen HB.out hb5⟩
      case measure=>simp [intOf];omega
     ·have HE:Hid (acc (k + 1)=acc k ++ [44] ++ sx):=Lib.hid (HM.out h0)
      have j0:((k:Int) == 0)=false:=by rw [beq_eq_false_iff_ne];omega
      clear HO HM h0
      go_wp2_with fail
      refine HC.out.mono ?_
      rintro e0 w5 ⟨rfl,hb5⟩
      go_wp2_with fail
      go_roundw
      case rel=>exact ⟨k + 1,hlt2.out,by go_num,by rw [HE.out];simp,bthen HB.out hb5⟩
      case measure=>simp [intOf];omega
    ·obtain rfl:k=args.length:=by omega
     rw [HALL.out] at *
     have HBW:=Lib.hid hbw
     clear hbw HL HA HONE HMORE
     by_cases hq:200 < tx.length
     ·have HRES:Hid (res=([],11)):=Lib.hid (by rw [HX.out,if_pos hq])
      have q1:(200:Int) < (tx.length:Int):=by omega
      clear HX
      go_wp2_with fail
      go_ret2
      rw [HRES.out]
      exact ⟨rfl,HBW.out⟩
     ·have HRES:Hid (res=(tx,0)):=Lib.hid (by rw [HX.out,if_neg hq])
      have q1:decide ((200:Int) < (tx.length:Int))=false:=by simp;omega
      clear HX
      go_wp2_with fail
      go_ret2
      rw [HRES.out]
      exact ⟨rfl,HBW.out⟩
end Go.Proofs.YtagplldaooipmaaGreatDoor

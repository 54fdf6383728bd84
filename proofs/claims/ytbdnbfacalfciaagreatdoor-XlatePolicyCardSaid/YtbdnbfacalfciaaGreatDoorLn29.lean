/- Ln29. -/
import Derived.Test.YtbdnbfacalfciaaGreatDoorKr
import Derived.Test.YtbdnbfacalfciaaGreatDoorKs
import Derived.Test.YtbdnbfacalfciaaGreatDoorKt
namespace Go.Proofs.YtbdnbfacalfciaaGreatDoor
open Go.RowKit
theorem markT_is (t:Tok) (s:List UInt8) (h:markT [t] 0 s=true):t=(4,s,t.2.2):=by
 obtain ⟨k,m,n⟩:=t
 simp [markT] at h
 simp [h]
theorem pair_three (t0 t1 t2:Tok) (o c:List UInt8) (h:pairT [t0,t1,t2] o c=true):t0=(4,o,t0.2.2)/\t2=(4,c,t2.2.2):=by
 unfold pairT at h
 simp only [Bool.and_eq_true] at h
 obtain ⟨⟨⟨_,h1⟩,h2⟩,_⟩:=h
 refine ⟨markT_is t0 o ?_,markT_is t2 c ?_⟩
 ·simpa [markT] using h1
 ·simpa [markT] using h2
set_option maxRecDepth 100000 in
theorem opnd_any (d:Int) (op:List UInt8) (ts:List Tok) (v:Value) (w:World) (hg:GWL w) (hl:ts.length<=900) (hok:okT ts) (hr:Rd w w.heap.size v ts.length (tokRow ts)) :
  Calls Tryz.prog 68 #[.agg #[v,.int .i64 d],.string ⟨op.toArray⟩] w (OperP w (operandL d op ts)):=by
 match ts,hl,hok,hr with
 | [],_,_,hr=>
  unfold operandL
  rw [if_pos rfl]
  exact oper_nil d op v w hr
 | [(k,m,n)],_,hok,hr=>
  have hp4:=pairT_one (k,m,n) [40] [41]
  have hp9:=pairT_one (k,m,n) [91] [93]
  unfold operandL inMem
  rw [if_neg (by simp),hp4,hp9]
  simp only [List.length_singleton,List.getD_cons_zero,true_and,Bool.and_false,Bool.or_false,Bool.false_eq_true,if_false]
  by_cases h3:k=3
  ·by_cases ho:op=sDB
   ·rw [if_pos ⟨h3,ho⟩]
    subst h3 ho
    exact oper_text d m n v w hr
   ·rw [if_neg (by simp [ho]),if_neg (by simp [h3])]
    exact oper_t d op k m n v w hg h3 ho hok hr
  ·rw [if_neg (by simp [h3])]
   by_cases h1:k=1
   ·cases hw:wordB d m with
    | true=>
     rw [if_pos ⟨h1,rfl⟩]
     subst h1
     exact oper_word d op m n v w hg hw hr
    | false=>
     rw [if_neg (by simp)]
     exact oper_n d op k m n v w hg h1 hw hok hr
   ·rw [if_neg (by simp [h1])]
    exact oper_x d op k m n v w hg h1 h3 hok hr
 | t :: u :: r,hl,hok,hr=>
  have h2:2<=(t :: u :: r).length:=by simp
  unfold operandL
  rw [if_neg (by simp),if_neg (by simp),if_neg (by simp)]
  generalize hts:t :: u :: r=ts at *
  clear hts
  by_cases hd1:d=1
  ·subst hd1
   cases hp:pairT ts [40] [41] with
   | false=>
    rw [if_neg (by simp [inMem,hp])]
    exact oper_m1 op ts v w h2 (by omega) hok hp hr
   | true=>
    rw [if_pos (by simp [inMem,hp])]
    by_cases h3:ts.length=3
    ·match ts,h3,hp,hok,hr with
     | [t0,(k1,m1,n1),t2],_,hp,hok,hr=>
      obtain ⟨e0,e2⟩:=pair_three _ _ _ _ _ hp
      generalize t0.2.2=n0 at *
      generalize t2.2.2=n2 at *
      subst e0 e2
      have hok1:okT [(k1,m1,n1)]:=fun x hx=>hok x (by simp at hx;simp [hx])
      simp only [midT,encT,List.drop_succ_cons,List.drop_zero,List.length_cons,List.length_nil,List.take_succ_cons,List.take_zero,List.getD_cons_zero,List.getD_cons_succ,List.nil_append,List.cons_append,Nat.reduceAdd,Nat.reduceSub,true_and]
      by_cases hk:k1=1
      ·cases hw:wordB 1 (40 :: (m1++[41])) with
       | true=>rw [if_pos ⟨hk,rfl⟩];exact oper_M1w op k1 m1 n0 n1 n2 v w hg hok1 hp hk hw hr
       | false=>rw [if_neg (by simp)];exact oper_M1f op k1 m1 n0 n1 n2 v w hg hok1 hp hk hw hr
      ·rw [if_neg (by simp [hk])];exact oper_M1n op k1 m1 n0 n1 n2 v w hg hok1 hp hk hr
    ·have hml:=mid_len ts h2
     rw [if_neg (by simp;omega)]
     exact oper_M1g op ts (ts.length - 2) v w (by omega) (by omega) (by omega) hok hp hr
  ·by_cases hd2:d=2
   ·subst hd2
    cases hp:pairT ts [91] [93] with
    | false=>
     rw [if_neg (by simp [inMem,hp])]
     exact oper_m2 op ts v w h2 (by omega) hok hp hr
    | true=>
     rw [if_pos (by simp [inMem,hp])]
     by_cases h3:ts.length=3
     ·match ts,h3,hp,hok,hr with
      | [t0,(k1,m1,n1),t2],_,hp,hok,hr=>
       obtain ⟨e0,e2⟩:=pair_three _ _ _ _ _ hp
       generalize t0.2.2=n0 at *
       generalize t2.2.2=n2 at *
       subst e0 e2
       have hok1:okT [(k1,m1,n1)]:=fun x hx=>hok x (by simp at hx;simp [hx])
       simp only [midT,encT,List.drop_succ_cons,List.drop_zero,List.length_cons,List.length_nil,List.take_succ_cons,List.take_zero,List.getD_cons_zero,List.getD_cons_succ,List.nil_append,List.cons_append,Nat.reduceAdd,Nat.reduceSub,true_and]
       by_cases hk:k1=1
       ·cases hw:wordB 2 (91 :: (m1++[93])) with
        | true=>rw [if_pos ⟨hk,rfl⟩];exact oper_M2w op k1 m1 n0 n1 n2 v w hg hok1 hp hk hw hr
        | false=>rw [if_neg (by simp)];exact oper_M2f op k1 m1 n0 n1 n2 v w hg hok1 hp hk hw hr
       ·rw [if_neg (by simp [hk])];exact oper_M2n op k1 m1 n0 n1 n2 v w hg hok1 hp hk hr
     ·have hml:=mid_len ts h2
      rw [if_neg (by simp;omega)]
      exact oper_M2g op ts (ts.length - 2) v w (by omega) (by omega) (by omega) hok hp hr
   ·rw [if_neg (by simp [inMem,hd1,hd2])]
    exact oper_mo d op ts v w h2 (by omega) hok (by simpa using hd1) (by simpa using hd2) hr
end Go.Proofs.YtbdnbfacalfciaaGreatDoor

/- Rp6. -/
import Derived.Test.YtagplldaooipmaaGreatDoorWd
import Derived.Test.YtagplldaooipmaaGreatDoorWt
import Derived.Test.YtagplldaooipmaaGreatDoorR8e
import Derived.Test.YtagplldaooipmaaGreatDoorUf
import Derived.RegionTactic
import Derived.Deep.RegionHeld3
import Derived.Deep.RegionLaw
namespace Go.Proofs.YtagplldaooipmaaGreatDoor
open Go.RowKit
theorem i64_andFFFF (n:Int):bits .and .i64 n 65535=n % 65536:=by
 have h15:(BitVec.ofInt 64 65535).toNat=2 ^ 16 - 1:=by decide
 have key:(BitVec.ofInt 64 n &&& BitVec.ofInt 64 65535).toNat=(n % ((2 ^ 64:Nat):Int)).toNat % 2 ^ 16:=by
  rw [BitVec.toNat_and,BitVec.toNat_ofInt,h15,Nat.and_two_pow_sub_one_eq_mod]
 show IntKind.i64.wrap ((BitVec.ofInt 64 n &&& BitVec.ofInt 64 65535).toNat:Nat)=n % 65536
 rw [key,IntKind.wrap_i64]
 omega
theorem jc_t:∀ k:Fin 52,jumps86 k.val=true → (32 ≤ k.val∧k.val ≤ 34) ∨ (34 < k.val∧condR k.val=true):=by decide +kernel
theorem jc_f:∀ k:Fin 52,jumps86 k.val=false → (k.val < 32∧condR k.val=false) ∨ (34 < k.val∧condR k.val=false):=by decide +kernel
theorem argL_no:∀ k:Fin 19,k.val ≠ 0 → ¬ (argL k.val=sD8 ∨ argL k.val=sD16 ∨ argL k.val=sn1 ∨ argL k.val=sn2)∧¬ (argL k.val=smn1 ∨ argL k.val=smn2):=by decide +kernel
theorem argL_word (c:Nat) (h0:c ≠ 0) (h:c < 19):operandD (argL c) 0=wordA (argL c):=by
 obtain ⟨h1,h2⟩:=argL_no ⟨c,h⟩ h0
 unfold operandD
 rw [if_neg h1,if_neg h2]
def accR (d s n k:Nat):List Ar:=if k=0 then [] else if k=1 then arg86D d n else arg86D d n ++ arg86D s n
theorem arg86_lenR (c n:Nat):(arg86D c n).length ≤ 1:=by unfold arg86D;repeat' (first | (simp;done) | split)
theorem accR_len (d s n k:Nat):(accR d s n k).length ≤ 2:=by
 have:=arg86_lenR d n
 have:=arg86_lenR s n
 unfold accR
 split
 ·simp
 ·split
  ·omega
  ·simp;omega
def RowP (w w0:World) (T:Nat) (l:List Ar) (pl size:Nat) (nm:List UInt8) (j:Bool) (tn:Nat) (wr:World):Prop:=∃ v,wr.heap[T]? = some (.cells #[.int .i64 pl,.int .i64 size,.string ⟨nm.toArray⟩,v,.bool j,.int .i64 tn,.int .u8 0] 56 (0,0))∧wr.ownsRow w0.heap.size 41 8 v l.length (rowA l)∧But w0.heap.size T w0 wr∧Below w.heap.size w wr
theorem ReadR.goodR {b:List UInt8} {w w':World} {e:Ending} {op d s n size:Nat} (h:ReadR b w e w') (hrd:read86 b=((op,d,s,n),size,0)):e=.returned (.tuple #[.agg #[.int .i64 (op:Nat),.int .i64 (d:Nat),.int .i64 (s:Nat),.int .u16 (n:Nat)],.int .i64 (size:Nat),.int .i64 0])∧Below w.heap.size w w':=by
 obtain ⟨r,k,_,rfl,h2,h3,he,hb⟩:=h
 have hk:r.2.2.2.2.2=0:=h2.2 (by rw [hrd])
 have:=h3 hk
 rw [hrd] at this
 obtain ⟨k1,k2,k3,k4,k5,k6⟩:=r
 simp only [Prod.mk.injEq,and_true] at this hk
 obtain ⟨⟨rfl,rfl,rfl,rfl⟩,rfl⟩:=this
 subst hk
 exact ⟨he,hb⟩
end Go.Proofs.YtagplldaooipmaaGreatDoor

/- Part of the proof; no statement of its own. -/
import Derived.Test.YtpinhnikemamjaaGreatDoorD22
import Derived.Test.YtpinhnikemamjaaGreatDoorD19
import Derived.Test.YtpinhnikemamjaaGreatDoorD05
import Derived.Test.YtpinhnikemamjaaGreatDoorD04
import Derived.Test.YtpinhnikemamjaaGreatDoorD08
import Derived.Test.YtpinhnikemamjaaGreatDoorD06
import Derived.Test.YtpinhnikemamjaaGreatDoorD09
set_option linter.all false
set_option maxRecDepth 4000
set_option maxHeartbeats 4000000
attribute [local irreducible] Go.Sl.a0P Go.Sl.OW Go.Sl.CW Go.Sl.OS Go.Sl.OM Go.Sl.OMf Go.Sl.KM
namespace Go.Proofs.Q
open Go.Sl Tryz
theorem x0L (a b:BitVec 32):bits .xor .u32 (a.toNat:Int) (b.toNat:Int)=((a ^^^ b).toNat:Int):=by
 simp only[bits,BitVec.ofInt_natCast,BitVec.ofNat_toNat,BitVec.setWidth_eq,IntKind.bits];rw[IntKind.wrap_u32];exact Int.emod_eq_of_lt (Int.natCast_nonneg _) (by have:=(a ^^^ b).isLt;omega)
theorem c2C (a b:BitVec 32):bits .and .u32 (a.toNat:Int) (b.toNat:Int)=((a &&& b).toNat:Int):=by
 simp only[bits,BitVec.ofInt_natCast,BitVec.ofNat_toNat,BitVec.setWidth_eq,IntKind.bits];rw[IntKind.wrap_u32];exact Int.emod_eq_of_lt (Int.natCast_nonneg _) (by have:=(a &&& b).isLt;omega)
def p2R (j:Nat):Value:= .int .u32 ((Crc.m0F 4 (BitVec.ofNat 32 j)).toNat:Int)
def n0F (i:Nat):List Value:=(List.range 16).map fun j=>if j<i then p2R j else .int .u32 0
theorem u2Z (k:Nat) (f:k<16) (m:Nat) (b:m=k) (v:Value) (c:v=p2R k):(n0F k).set m v=n0F (k+1):=by
 subst b;subst c;unfold n0F;apply List.ext_getElem
 ·simp
 ·intro i a d;simp at a;rw[List.getElem_set];by_cases e:m=i
  ·subst e;simp
  ·simp[e];by_cases h:i<m
   ·simp[h,show i<m+1 by omega]
   ·simp[h,show ¬i<m+1 by omega]
theorem v1Q (k:Nat): ∀x∈n0F k,x.oneCell'=true:=by
 intro x a;simp only[n0F,List.mem_map]at a;obtain⟨j,_,rfl⟩:=a;split<;>rfl
theorem p2S (x:BitVec 32):bits .xor .u32 ((x.toNat:Int)/2^Int.toNat 1) (bits .and .u32 2197175160 (IntKind.u32.wrap (0-bits .and .u32 (x.toNat:Int) 1)))=((Crc.stp x).toNat:Int):=by
 have b:bits .and .u32 (x.toNat:Int) 1=((x &&& 1#32).toNat:Int):=c2C x 1#32;have c:((x.toNat:Int)/ (2:Int)^Int.toNat 1)=((x >>> 1).toNat:Int):=by simp[Nat.shiftRight_eq_div_pow]
 rw[b,c];have a:(x &&& 1#32).toNat=x.toNat%2:=by rw[BitVec.toNat_and];exact Nat.and_one_is_mod _
 have hb:x.getLsbD 0=decide (x.toNat%2=1):=by rw[BitVec.getLsbD,Nat.testBit_zero]
 rw[a];rcases Nat.mod_two_eq_zero_or_one x.toNat with h|h
 ·rw[h];have:bits .and .u32 2197175160 (IntKind.u32.wrap (0- ((0:Nat):Int)))=((0#32).toNat:Int):=by decide
  rw[this,x0L];unfold Crc.stp;rw[hb];simp[h]
 ·rw[h];have:bits .and .u32 2197175160 (IntKind.u32.wrap (0- ((1:Nat):Int)))=(Crc.t1C.toNat:Int):=by decide
  rw[this,x0L];unfold Crc.stp;rw[hb];simp[h]
theorem k2O (n:Nat) (x:BitVec 32):Crc.m0F (n+1) x=Crc.stp (Crc.m0F n x):=by
 rw[Crc.t1D];rfl
theorem f2R:a0G prog 193 #[] [] (a0T (.agg (n0F 16).toArray) []):=by
 refine en func193 ntmps193 fun R w0=> ?_;refine go 2 ?_;refine al fun b0=> ?_;refine go 4 ?_;refine al fun d=> ?_;refine go 9 ?_;refine a0V (X:= {k:Nat // k≤16}) (fun x=> [(0,.pointer (some ⟨b0,0,none⟩)),(1,.pointer (some ⟨d,0,none⟩)),(4,.int .i64 x.1)]) (fun x=> [pts d (.cells (n0F x.1).toArray 266 (0,0)),pts b0 (.cells (n0F 0).toArray 266 (0,0)),R]) (fun x=>16-x.1) ⟨0,by omega⟩ gSu gSp ?_;rintro⟨k,hk⟩ m0 hm0
 try simp only at hm0
 try dsimp only
 skip;refine go 6 ?_;refine a0O rfl (fun b=> ?_) (fun b=> ?_)
 ·have c:k<16:=by have:=of_decide_eq_true b;omega
  refine go 16 ?_;have h:IntKind.u32.wrap (k:Int)=((Crc.m0F 0 (BitVec.ofNat 32 k)).toNat:Int):=by rw[IntKind.wrap_u32];simp[Crc.m0F]
  rw[h];refine go 8 ?_;refine a0V (X:= {j:Nat // j≤4}) (fun x=> [(0,.pointer (some ⟨b0,0,none⟩)),(1,.pointer (some ⟨d,0,none⟩)),(4,.int .i64 k),(2,.int .i64 k),(3,.int .u32 ((Crc.m0F x.1 (BitVec.ofNat 32 k)).toNat:Int)),(9,.int .i64 x.1)]) (fun x=> [pts d (.cells (n0F k).toArray 266 (0,0)),pts b0 (.cells (n0F 0).toArray 266 (0,0)),R]) (fun x=>4-x.1) ⟨0,by omega⟩ gSu gSp ?_;rintro⟨j,hj⟩ m2 hm2
  try simp only at hm2
  try dsimp only
  skip;refine go 6 ?_;refine a0O rfl (fun a=> ?_) (fun a=> ?_)
  ·have f:j<4:=by have:=of_decide_eq_true a;omega
   refine go 6 ?_;refine a0D (t0B rfl rfl (by first|decide| (simp only[IntKind.bits];omega))) ?_;refine go 1 ?_;refine a0D (o0O rfl rfl) ?_;refine a0D (z2I rfl) ?_;refine a0D (o0O rfl rfl) ?_;refine a0D (w0I rfl rfl) ?_;refine go 2 ?_;rw[p2S,←k2O];refine go 5 ?_;exact rd idh (⟨j+1,f⟩)
  ·have e:j=4:=by have:=of_decide_eq_false a;omega
   subst e;refine go 6 ?_;refine d0T Sz.o rfl rfl rfl (by simp[n0F];omega) (u2Z k c _ (by simp) _ rfl) ?_;refine go 6 ?_;exact rd idh (⟨k+1,c⟩)
 ·have g:k=16:=by have:=of_decide_eq_false b;omega
  subst g;refine go 5 ?_;refine a0M Sz.o rfl rfl (by simp[n0F]) (fun x i=>v1Q _ x (by simpa using i)) (by simp[n0F]) (a0N (by simp[n0F])) ?_;refine go 2 ?_;refine q0L idh (RV.agg Ag.o rfl (by simp[n0F]) (a0I (by simp[n0F])) RV.nil) rfl gSp
theorem v2A (x:BitVec 32):bits .xor .u32 (if IntKind.u32.signed then -1 else IntKind.u32.max) (x.toNat:Int)=((~~~ x).toNat:Int):=by
 have h:(if IntKind.u32.signed then -1 else IntKind.u32.max)=((BitVec.allOnes 32).toNat:Int):=by decide
 rw[h,x0L];have e:BitVec.allOnes 32 ^^^ x= ~~~ x:=by rw[BitVec.xor_comm];exact BitVec.xor_allOnes
 rw[e]
theorem shr4 (x:BitVec 32):((x.toNat:Int)/ (2:Int)^Int.toNat 4)=((x >>> 4).toNat:Int):=by simp[Nat.shiftRight_eq_div_pow]
theorem p2T (c:UInt8):IntKind.u32.wrap (c.toNat:Int)=((c.toBitVec.setWidth 32).toNat:Int):=by
 rw[IntKind.wrap_u32,BitVec.toNat_setWidth];have h:=c.toNat_lt;have e:c.toBitVec.toNat=c.toNat:=rfl;rw[e];omega
theorem k2P (y:BitVec 32) (i:Nat) (hi:i=(y &&& 15#32).toNat):nth (n0F 16) i=some (.int .u32 ((Crc.tab (y &&& 15#32)).toNat:Int)):=by
 subst hi;have h:(y &&& 15#32).toNat<16:=by rw[BitVec.toNat_and];exact Nat.lt_of_le_of_lt Nat.and_le_right (by decide)
 rw[e0F];simp only[n0F,List.getElem?_map,List.getElem?_range h,Option.map_some,if_pos h,p2R,Crc.tab,BitVec.ofNat_toNat,BitVec.setWidth_eq]
theorem s2O (y:BitVec 32):bits .and .u32 (y.toNat:Int) 15=((y &&& 15#32).toNat:Int):=c2C y 15#32
theorem v1R (y:BitVec 32):0≤((y &&& 15#32).toNat:Int)∧((y &&& 15#32).toNat:Int)<16:=by
 have h:(y &&& 15#32).toNat<16:=by rw[BitVec.toNat_and];exact Nat.lt_of_le_of_lt Nat.and_le_right (by decide)
 omega
theorem i1M (s:ByteArray) (cap i:Nat) (h:i<s.size) (k:Nat) (b:k=i):nth (p0S s cap) k=some (a0Q (s.data.toList[i]'(by simpa using h))):=by
 subst b;have a:k<(s.data.toList.map a0Q).length:=by simpa using h
 rw[e0F,p0S,List.getElem?_append_left a,List.getElem?_eq_getElem a,List.getElem_map]
def n0P (ss:List ByteArray):List UInt8:=ss.flatMap fun s=>s.data.toList
theorem v1S (ss:List ByteArray) (i:Nat) (h:i<ss.length):n0P (ss.take (i+1))=n0P (ss.take i)++ss[i].data.toList:=by
 simp only[n0P];rw[List.take_succ,List.getElem?_eq_getElem h,List.flatMap_append];simp
theorem p2U (x:BitVec 32) (l:List UInt8) (i:Nat) (h:i<l.length):Crc.run x (l.take (i+1))=Crc.byt (Crc.run x (l.take i)) l[i]:=by
 rw[List.take_succ,List.getElem?_eq_getElem h,Crc.l1J];simp[Crc.run]
theorem k2Q (p:Option Addr) (cap:Nat) (ss:List ByteArray) (A:a0E) (I:ss.length≤maxLen) (J: ∀s∈ss,s.size≤maxLen)
 (E: ∀i (h:i<ss.length),∃a,p=some a∧ ∀(w:World) L,Sat w (A::L)→w.cell? (a.add i)=some (.string ss[i])):
 a0G prog 160 #[.slice p ss.length cap] [A] (a0T (.int .u32 ((Crc.crc (n0P ss)).toNat:Int)) [A]):=by
 simp only[maxLen]at I;refine en func160 ntmps160 fun R w0=> ?_;refine cg 7 (f2R) ?_;refine al fun n=> ?_;refine a0M Sz.o rfl rfl (by simp[n0F]) (fun x M=>v1Q _ x (by simpa using M)) (by simp[n0F,Value.cells]) (a0N (by simp[n0F,Value.cells])) ?_;refine go 16 ?_;refine a0V (X:= {i:Nat // i≤ss.length}) (fun x=> [(3,.pointer (some ⟨n,0,none⟩)),(4,.int .u32 ((Crc.run (~~~ 0#32) (n0P (ss.take x.1))).toNat:Int)),(10,.slice p ss.length cap),(11,.int .i64 ss.length),(12,.int .i64 x.1)]) (fun x=> [A,R,pts n (.cells (n0F 16).toArray 266 (0,0))]) (fun x=>ss.length-x.1) ⟨0,by omega⟩ gSu gSp ?_;rintro⟨i,hi⟩ m0 hm0
 try simp only at hm0
 try dsimp only
 skip;refine go 6 ?_;refine a0O rfl (fun b=> ?_) (fun b=> ?_)
 ·have e:i<ss.length:=by have:=of_decide_eq_true b;omega
  obtain⟨a,rfl,F⟩:=E i e;have K:ss[i].size≤9223372036854775807:=J _ (List.getElem_mem e);have r:ss[i].data.toList.length=ss[i].size:=by simp
  refine go 6 ?_;refine a0D (i2M Tsl.o rfl rfl (by omega)) ?_;refine a0D (w0Z Sc.o rfl gFd (fun w L h=>by simpa using F w L h)) ?_;refine go 6 ?_;refine s1P Tst.o Tsl.o Tby.o rfl (by simp only[maxLen];omega) (fun g d B C=> ?_);refine go 5 ?_;refine a0V (X:= {j:Nat // j≤ss[i].size}) (fun x=> [(3,.pointer (some ⟨n,0,none⟩)),(4,.int .u32 ((Crc.run (Crc.run (~~~ 0#32) (n0P (ss.take i))) (ss[i].data.toList.take x.1)).toNat:Int)),(10,.slice (some a) ss.length cap),(11,.int .i64 ss.length),(12,.int .i64 i),(17,.slice (some ⟨g,0,none⟩) ss[i].size d),(18,.int .i64 ss[i].size),(19,.int .i64 x.1)]) (fun x=> [A,R,pts n (.cells (n0F 16).toArray 266 (0,0)),pts g (.cells (p0S ss[i] d).toArray 5 (d,d+1))]) (fun x=>ss[i].size-x.1) ⟨0,by omega⟩ gSu gSp ?_;rintro⟨j,hj⟩ m2 hm2
  try simp only at hm2
  try dsimp only
  skip;refine go 6 ?_;refine a0O rfl (fun c=> ?_) (fun c=> ?_)
  ·have l:j<ss[i].size:=by have:=of_decide_eq_true c;omega
   refine go 7 ?_;refine a0D (b0N Sc.o rfl (i1M ss[i] d j l _ (by simp))) ?_;refine go 2 ?_;have f:j<ss[i].data.toList.length:=by omega
   rw[show ss[i].data.toList[j]=ss[i].data.toList[j]'f from rfl];generalize u:Crc.run (Crc.run (~~~ 0#32) (n0P (ss.take i))) (ss[i].data.toList.take j)=x0;generalize q:ss[i].data.toList[j]'f=c0;refine go 6 ?_;refine a0D (w0I rfl rfl) ?_;refine go 2 ?_;rw[p2T,x0L];generalize v:x0 ^^^ c0.toBitVec.setWidth 32=x1;refine go 2 ?_;have D:=v1R x1;refine go 2 ?_;refine a0D (t0B rfl rfl (by first|decide| (simp only[IntKind.bits];omega))) ?_;refine go 1 ?_;refine a0D (o0O rfl rfl) ?_;rw[s2O];refine go 1 ?_;refine a0D (b0N Sc.o rfl (k2P x1 _ (by simp))) ?_;refine a0D (w0I rfl rfl) ?_;refine go 2 ?_;rw[shr4,x0L];generalize y:(x1 >>> 4 ^^^ Crc.tab (x1 &&& 15#32))=x2;refine go 1 ?_;have z:=v1R x2;refine go 2 ?_;refine a0D (t0B rfl rfl (by first|decide| (simp only[IntKind.bits];omega))) ?_;refine go 1 ?_;refine a0D (o0O rfl rfl) ?_;rw[s2O];refine go 1 ?_;refine a0D (b0N Sc.o rfl (k2P x2 _ (by simp))) ?_;refine a0D (w0I rfl rfl) ?_;refine go 2 ?_;rw[shr4,x0L];have k:x2 >>> 4 ^^^ Crc.tab (x2 &&& 15#32)=Crc.run (Crc.run (~~~ 0#32) (n0P (ss.take i))) (ss[i].data.toList.take (j+1)):=by
    rw[p2U _ _ _ f,u,q,Crc.t2Q,v];unfold Crc.nib;rw[y]
   rw[k];refine go 5 ?_;exact rd idh (⟨j+1,l⟩)
  ·have H:j=ss[i].size:=by have:=of_decide_eq_false c;omega
   have m:Crc.run (Crc.run (~~~ 0#32) (n0P (ss.take i))) (ss[i].data.toList.take j)=Crc.run (~~~ 0#32) (n0P (ss.take (i+1))):=by
    have t:ss[i].data.toList.take j=ss[i].data.toList:=List.take_of_length_le (by rw[r];omega);rw[v1S ss i e,Crc.l1J,t]
   rw[m];refine go 6 ?_;exact rd idh (⟨i+1,e⟩)
 ·have G:i=ss.length:=by have:=of_decide_eq_false b;omega
  rw[List.take_of_length_le (by omega)];refine go 5 ?_;refine a0D (d2K rfl) ?_;refine go 3 ?_;exact rG (hu:=(by rw[v2A];rfl))
theorem p2V (b cap:Nat) (ss:List ByteArray) (c:ss.length≤maxLen) (d: ∀s∈ss,s.size≤maxLen):
 a0G prog 160 #[.slice (some ⟨b,0,none⟩) ss.length cap] [pts b (.cells (ss.map Value.string).toArray 9 (0,0))] (a0T (.int .u32 ((Crc.crc (n0P ss)).toNat:Int)) []):=by
 refine a0G.weak (k2Q _ cap ss _ c d (fun i h=>⟨_,rfl,fun w L a=> ?_⟩));have hb:=a.pts;simp[World.cell?,j0C,hb,h]
theorem s0V (b cap:Nat) (s:ByteArray) (a:s.size≤maxLen):
 a0G prog 160 #[.slice (some ⟨b,0,none⟩) 1 cap] [pts b (.cells #[.string s] 9 (0,0))] (a0T (.int .u32 ((Crc.crc s.data.toList).toNat:Int)) []):=by
 have:=p2V b cap [s] (by simp[maxLen]) (by simpa using a);simpa [n0P] using this
end Go.Proofs.Q
namespace Go.Proofs.Q
open Go.Sl Go.Sb Tryz
def g1Y (n:Nat) (l:B):Out B×B:=if l.length<n then(.err 2,l)else(.ok (l.take n),l.drop n)
def o1N (k:Nat) (l:B):Out Nat×B:=if l.length<k then(.err 2,l)else(.ok (be (l.take k)),l.drop k)
def g1Z (l:B):Out Unit×B:=if l= []then(.ok (),[])else(.err 1,l)
def h1A (l:B):Out Unit×B:=if a0R l then(.ok (),[])else(.err 1,l)
def u64V (n:Nat):Value:= .int .u64 n
theorem q1K {n:Nat} {l:B} {e:Int} {t:B} (h:g1Y n l=(.err e,t)):l.length<n∧e=2:=by
 unfold g1Y at h;split at h
 ·rename_i a;cases h;exact⟨a,rfl⟩
 ·cases h
theorem v1T {n:Nat} {l a t:B} (h:g1Y n l=(.ok a,t)):n≤l.length∧a=l.take n∧t=l.drop n:=by
 unfold g1Y at h;split at h
 ·cases h
 ·rename_i b;cases h;exact⟨by omega,rfl,rfl⟩
theorem v1U {n:Nat} {l:B} {e:Int} {t:B} (h:o1N n l=(.err e,t)):l.length<n∧e=2:=by
 unfold o1N at h;split at h
 ·rename_i a;cases h;exact⟨a,rfl⟩
 ·cases h
theorem c2D {n:Nat} {l t:B} {a:Nat} (h:o1N n l=(.ok a,t)):n≤l.length∧a=be (l.take n)∧t=l.drop n:=by
 unfold o1N at h;split at h
 ·cases h
 ·rename_i b;cases h;exact⟨by omega,rfl,rfl⟩
theorem q1L {l:B} {e:Int} {t:B} (h:g1Z l=(.err e,t)):l≠ []∧e=1:=by
 unfold g1Z at h;split at h
 ·cases h
 ·rename_i a;cases h;exact⟨a,rfl⟩
theorem v1V {l t:B} {x:Unit} (h:g1Z l=(.ok x,t)):l= []:=by
 unfold g1Z at h;split at h
 ·assumption
 ·cases h
theorem q1M {l:B} {e:Int} {t:B} (h:h1A l=(.err e,t)):a0R l=false∧e=1:=by
 unfold h1A at h;split at h
 ·cases h
 ·rename_i a;cases h;exact⟨by simpa using a,rfl⟩
theorem v1W {l t:B} {x:Unit} (h:h1A l=(.ok x,t)):a0R l=true:=by
 unfold h1A at h;split at h
 ·assumption
 ·cases h
theorem m1F (b:Nat) (l:B) (n:Nat) (a:l.length≤1000000):a0G prog 130 #[ptr b,.int .i64 n] [q0Z b l] (Ran fT (fun l=> [q0Z b l]) b0C (g1Y n l)):=by
 unfold g1Y;split
 ·rename_i h;exact u1X b (bs l) n (by rw[b0H];exact h) (by rw[b0H];exact a)
 ·rename_i h;exact u0N b l n (by omega) a
theorem q1N (b:Nat) (l:B) (k:Nat) (a:1≤k∧k≤8) (c:l.length≤1000000):a0G prog 129 #[ptr b,.int .i64 k] [q0Z b l] (Ran fT (fun l=> [q0Z b l]) u64V (o1N k l)):=by
 unfold o1N;split
 ·rename_i h;exact p2G b l k a h c
 ·rename_i h;exact a1W b l k a (by omega) c
theorem q1O {α:Type} {p:α→Bool} : ∀ {l:List α},l.dropWhile p= []↔ ∀x∈l,p x=true
 | []=>by simp
 |x::l=>by
  rw[List.dropWhile_cons];split
  ·rename_i h;rw[q1O (l:=l)];simp[h]
  ·rename_i h;simp[h]
theorem q1P {α:Type} {p:α→Bool} {x:α} : ∀ {l:List α},x∈l.takeWhile p→p x=true
 | [],h=>by simp at h
 |y::l,h=>by
  rw[List.takeWhile_cons]at h;split at h
  ·rename_i a;rcases List.mem_cons.1 h with rfl|h
   ·exact a
   ·exact q1P h
  ·simp at h
theorem p2W (l:B):Lib.trimB l 0= []↔a0R l=true:=by
 unfold Lib.trimB Lib.trimLeftB Lib.trimRightB a0R;rw[q1O];constructor
 ·intro h;refine List.all_eq_true.2 fun x d=> ?_;by_cases a:x=0
  ·simp[a]
  ·exfalso;have e:x∈(l.reverse.dropWhile (· == 0)).reverse:=by
    rw[List.mem_reverse];have c:x∈l.reverse:=List.mem_reverse.2 d;rw[←List.takeWhile_append_dropWhile (p:=(· == 0)) (l:=l.reverse)]at c;rcases List.mem_append.1 c with b|b
    ·have:=q1P b;simp at this;exact(a this).elim
    ·exact b
   have:=h x e;simp at this;exact a this
 ·intro h x d;have c:=List.mem_reverse.1 d;have b:=(List.dropWhile_sublist _).mem c;exact(List.all_eq_true.1 h) x (List.mem_reverse.1 b)
theorem f2S (l:B) (h:l.length≤1000000):a0G prog 224 #[b0C l,.string ⟨#[0]⟩] [] (a0T (b0C (Lib.trimB l 0)) []):=by
 refine i2T fun w=> ?_;have h:=Tryz.strings_Trim_one (bs l) 0 (by decide) w (by rw[b0H];omega);rw[m0D]at h;exact h
theorem c0G (l:B):(bs l).toList=l:=by rw[ByteArray.toList_eq]
theorem o1O (l:B):((bs (Lib.trimB l 0)).toList == (⟨#[]⟩:ByteArray).toList)=a0R l:=by
 rw[show(⟨#[]⟩:ByteArray)=bs []from rfl,c0G,c0G,Bool.eq_iff_iff,beq_iff_eq];exact p2W l
theorem z0H (l:B) (h:l.length≤1000000):a0G prog 198 #[b0C l] [] (a0T (.bool (a0R l)) []):=by
 refine en func198 ntmps198 fun R w0=> ?_;refine cg 8 (f2S l h) ?_;refine a0D (s0O rfl rfl) ?_;refine go 2 ?_;rw[o1O];refine go 1 ?_;exact rG
theorem m1G (b:Nat) (l:B) (h:l.length≤1000000):a0G prog 186 #[ptr b] [q0Z b l] (Ran fT (fun l=> [q0Z b l]) i0S (h1A l)):=by
 unfold h1A;by_cases a:a0R l=true
 ·rw[if_pos a];refine en func186 ntmps186 fun R w0=> ?_;refine cg 7 (f2S l h) ?_;refine a0D (i0M rfl rfl) ?_;refine go 2 ?_;refine b0S rfl (by rw[o1O,a];rfl) ?_;refine go 8 ?_;refine d0Q rfl rfl gSp
 ·rw[if_neg a];refine en func186 ntmps186 fun R w0=> ?_;refine cg 7 (f2S l h) ?_;refine a0D (i0M rfl rfl) ?_;refine go 2 ?_;refine d0P rfl (by rw[o1O];simp[a]) ?_;refine go 1 ?_;refine c0A rfl Hb.o rfl (c0M 1) gSp ?_;refine ns ?_;refine pn ?_;refine d0U idh (b0A.back gSp) ⟨rfl,rfl⟩
theorem m1H (b:Nat) (l:B):a0G prog 185 #[ptr b] [q0Z b l] (Ran fT (fun l=> [q0Z b l]) i0S (g1Z l)):=by
 unfold g1Z;by_cases a:l= []
 ·rw[if_pos a];subst a;refine en func185 ntmps185 fun R w0=> ?_;refine go 6 ?_;refine a0D (i0M rfl rfl) ?_;refine go 2 ?_;refine b0S rfl (by rw[show(⟨#[]⟩:ByteArray)=bs []from rfl,c0G];rfl) ?_;refine go 1 ?_;refine d0Q rfl rfl gSp
 ·rw[if_neg a];refine en func185 ntmps185 fun R w0=> ?_;refine go 6 ?_;refine a0D (i0M rfl rfl) ?_;refine go 2 ?_;refine d0P rfl (by rw[show(⟨#[]⟩:ByteArray)=bs []from rfl,c0G,c0G];simp[a]) ?_;refine go 1 ?_;refine c0A rfl Hb.o rfl (c0M 1) gSp ?_;refine ns ?_;refine pn ?_;refine d0U idh (b0A.back gSp) ⟨rfl,rfl⟩
theorem w0T (l:B) (h:l.length=32):a0G prog 14 #[d0X l] [] (a0T (b0C l) []):=by
 unfold d0X;refine en func14 ntmps14 fun R w0=> ?_;refine go 2 ?_;refine bx fun a=> ?_;refine go 5 ?_;refine a0D (b1Q Tar.o rfl) ?_;refine a0D (e1C Tsl.o Tst.o Tby.o rfl (l:=l) h (by simp[Value.cells];exact List.take_of_length_le (by simp[h]))) ?_;refine go 3 ?_;exact rG
theorem f1H (b:Nat) (v:Value) (l:List UInt8) (a:v.oneCell'=true):a0G prog 83 #[.pointer (some ⟨b,0,none⟩)] (o0Y b v l) (a0T (.string (bs l)) (o0Y b v l)):=by
 refine en func83 ntmps83 fun R w0=> ?_;refine go 11 ?_;refine a0D (y0V Tsl.o Tst.o Tby.o rfl gFd) ?_;refine go 3 ?_;exact rG
theorem f1I (x:Int):IntKind.u64.wrap x=((u64 x:Nat):Int):=by
 simp only[IntKind.wrap,IntKind.bits,IntKind.signed,Bool.false_and,Bool.false_eq_true,if_false,u64];omega
theorem v1X (x:Int):u64 x<18446744073709551616:=by unfold u64;omega
theorem y0L (b:B):g0G b<4294967296:=Nat.lt_of_lt_of_eq (g1P b) (by decide)
def hdL (x:Hd):List Value:=x.at_.map a0H++((x.sums.map fun n:Nat=>Value.int .u32 n)++x.sum.map a0Q)
def hdV (x:Hd):Value:= .agg (hdL x).toArray
structure z0I (x:Hd):Prop where
 n:x.at_.length=4
 m:x.sums.length=4
 sums: ∀c∈x.sums,c<4294967296
 sum:x.sum.length=32
theorem f1J {α:Type} (f:α→B) (l:List α) (i:Nat) (h:i<l.length):(l.take (i+1)).flatMap f=(l.take i).flatMap f++f l[i]:=by
 rw[List.take_succ,List.getElem?_eq_getElem h,List.flatMap_append];simp
theorem i0E {α:Type} (f:α→Value) (l:List α) (i k:Nat) (h:i<l.length) (a:k=i):nth (l.map f) k=some (f l[i]):=by
 subst a;rw[e0F,List.getElem?_map,List.getElem?_eq_getElem h];rfl
theorem d0Y {a b c:List Value} {o n:Nat} (d:a.length=o) (hb:b.length=n):(a++(b++c)).toArray.extract o (o+n)=b.toArray:=by
 apply Array.ext';simp only[Array.toList_extract,List.extract_eq_take_drop];rw[List.drop_left' d,show o+n-o=n by omega,List.take_left' hb]
set_option maxRecDepth 4000 in
theorem v1Y (x:Hd) (h:z0I x):a0G prog 203 #[hdV x] [] (a0T (b0C (h0Z x)) []):=by
 obtain⟨P,O,Q,hu⟩:=h;unfold hdV;have H: ∀i,((x.at_.take i).flatMap (num · 2)).length≤8:=fun i=>by rw[i0J (k:=2) fun a=>k0H a 2];simp;omega
 have U: ∀i,((x.sums.take i).flatMap fun s=>beB s 4 4).length≤16:=fun i=>by rw[i0J (k:=4) fun a=>m0P a 4 4];simp;omega
 have c1:(x.at_.map a0H).length=4:=by simp[P]
 have c2:(x.sums.map fun n:Nat=>Value.int .u32 n).length=4:=by simp[O]
 have c3:(x.sum.map a0Q).length=32:=by simp[hu]
 refine en func203 ntmps203 fun R w0=> ?_;refine go 2 ?_;refine bx fun l=> ?_;refine go 5 ?_;refine al fun b=> ?_;refine go 3 ?_;refine b0U (L':=o0Y b (.slice none 0 0) []++ [pts l (.cells (hdL x).toArray 230 (0,0)),R]) (fun w h=>(f0E 5 1 w h).perm (List.Perm.swap _ _ _)) ?_;refine ns ?_;refine ce 1 (t0S b (.slice none 0 0) [] ⟨#[69]⟩ (by simp) (by decide) rfl) ?_;rintro V C;refine ns ?_;refine go 6 ?_;refine a0D (a0K Ag.o rfl (by simp[hdL,c1,c2,c3]) (d0Y (a:= []) rfl c1)) ?_;refine go 4 ?_;refine a0V (X:= {y:Nat×Value // y.1≤4∧y.2.oneCell'=true}) (fun y=> [(1,ptr l),(3,ptr b),(11,.agg (x.at_.map a0H).toArray),(12,.int .i64 y.1.1)]) (fun y=>o0Y b y.1.2 ([69]++(x.at_.take y.1.1).flatMap (num · 2))++ [pts l (.cells (hdL x).toArray 230 (0,0)),R]) (fun y=>4-y.1.1) ⟨(0,V),by omega,C⟩ gSu gSp ?_;rintro⟨⟨i,v⟩,hi,hv⟩ m0 hm0
 try simp only at hm0
 try dsimp only
 simp only at hi hv;refine ns ?_;refine go 6 ?_;refine a0O rfl (fun d=> ?_) (fun d=> ?_)
 ·have j:i<4:=by have:=of_decide_eq_true d;omega
  have c:i<x.at_.length:=by omega
  refine go 6 ?_;refine a0D (o0P Tar.o Sc.o rfl rfl (by omega) (i0E a0H x.at_ i _ c (by omega))) ?_;refine go 6 ?_;rw[f1I];refine d0Z rfl Hb.o rfl (s0U b v (69::(x.at_.take i).flatMap (num · 2)) (u64 x.at_[i]) 2 (by omega) (by have:=H i;(try simp only[List.length_cons,List.length_append,List.length_nil]);omega) hv (v1X _)) gSp ?_;rintro D p;refine ns ?_;refine go 1 ?_;rw[show(x.at_.take i).flatMap (num · 2)++beB (u64 x.at_[i]) 2 2=(x.at_.take (i+1)).flatMap (num · 2)from(f1J (num · 2) x.at_ i c).symm];refine go 5 ?_;exact rd idh (⟨(i+1,D),j,p⟩)
 ·obtain rfl:i=4:=by have:=of_decide_eq_false d;omega
  rw[List.take_of_length_le (by omega)];have J:=H 4;rw[List.take_of_length_le (by omega)]at J;generalize M:x.at_.flatMap (num · 2)=A at J ⊢;have I: ∀i,(A++(x.sums.take i).flatMap fun s=>beB s 4 4).length≤24:=fun i=>by have:=U i;rw[List.length_append];omega
  refine go 6 ?_;refine a0D (a0K Ag.o rfl (by simp[hdL,c1,c2,c3]) (d0Y c1 c2)) ?_;refine go 4 ?_;rw[show(69::A:B)=69::(A++(x.sums.take 0).flatMap (fun s=>beB s 4 4))from by simp];refine a0V (X:= {y:Nat×Value // y.1≤4∧y.2.oneCell'=true}) (fun y=> [(1,ptr l),(3,ptr b),(20,.agg (x.sums.map fun n:Nat=>Value.int .u32 n).toArray),(21,.int .i64 y.1.1)]) (fun y=>o0Y b y.1.2 (69::(A++(x.sums.take y.1.1).flatMap (fun s=>beB s 4 4)))++ [pts l (.cells (hdL x).toArray 230 (0,0)),R]) (fun y=>4-y.1.1) ⟨(0,v),by omega,hv⟩ gSu gSp ?_;rintro⟨⟨i,v'⟩,hi',hv'⟩ m2 hm2
  try simp only at hm2
  try dsimp only
  simp only at hi' hv';refine ns ?_;refine go 6 ?_;refine a0O rfl (fun e=> ?_) (fun e=> ?_)
  ·have j:i<4:=by have:=of_decide_eq_true e;omega
   have c:i<x.sums.length:=by omega
   have T:=Q x.sums[i] (List.getElem_mem c);refine go 6 ?_;refine a0D (o0P Tar.o Sc.o rfl rfl (by omega) (i0E (fun n:Nat=>Value.int .u32 n) x.sums i _ c (by omega))) ?_;refine go 6 ?_;rw[q0Y _ _ rfl (by omega)];refine ce 0 (s0U b v' (69::(A++(x.sums.take i).flatMap fun s=>beB s 4 4)) x.sums[i] 4 (by omega) (by have:=I i;(try simp only[List.length_cons]);omega) hv' (by omega)) ?_;rintro E q;refine ns ?_;refine go 1 ?_;rw[List.append_assoc,show(x.sums.take i).flatMap (fun s=>beB s 4 4)++beB x.sums[i] 4 4=(x.sums.take (i+1)).flatMap (fun s=>beB s 4 4)from(f1J (fun s=>beB s 4 4) x.sums i c).symm];refine go 5 ?_;exact rd idh (⟨(i+1,E),j,q⟩)
  ·obtain rfl:i=4:=by have:=of_decide_eq_false e;omega
   rw[List.take_of_length_le (by omega)];have K:=I 4;rw[List.take_of_length_le (by omega)]at K;generalize N:A++x.sums.flatMap (fun s=>beB s 4 4)=S at K ⊢;have f:(69::(S++x.sum)).length≤60:=by simp only[List.length_cons,List.length_append];omega
   have m:=q0T f;refine go 5 ?_;refine a0D (a0K (v:=(x.sum.map a0Q).toArray) Ag.o rfl (by simp only[hdL,List.size_toArray,List.length_append,c1,c2,c3];omega) (by rw[show hdL x=(x.at_.map a0H++(x.sums.map fun n:Nat=>Value.int .u32 n))++(x.sum.map a0Q++ []) by simp[hdL]];exact d0Y (by rw[List.length_append,c1,c2]) c3)) ?_;refine cg 0 (w0T x.sum hu) ?_;refine ce 0 (t0S b v' (69::S) (bs x.sum) (by simp only[List.length_cons];omega) (by rw[b0H,hu];omega) hv') ?_;rintro F r;refine ns ?_
   try rw[m0D]
   refine ce 0 (c1T b F (69::(S++x.sum)) 60 f (by omega) r) ?_;rintro u g;refine ns ?_;refine b0X rfl Hb.o rfl (f1H b u _ g) gSp ?_;refine ns ?_;refine go 6 ?_;refine bl fun z=> ?_;refine b0X rfl Hb.o rfl (s0V z 1 _ (by rw[b0H,m];simp[maxLen])) gSp ?_;refine ns ?_;refine go 1 ?_;rw[show((Crc.crc (g0E 60 (69::(S++x.sum)))).toNat:Int)=(g0G (g0E 60 (69::(S++x.sum))):Nat)from rfl,q0Y _ _ rfl (by have:=y0L (g0E 60 (69::(S++x.sum)));omega)];refine ce 0 (s0U b u (g0E 60 (69::(S++x.sum))) (g0G (g0E 60 (69::(S++x.sum)))) 4 (by omega) (by rw[m];omega) g (by have:=y0L (g0E 60 (69::(S++x.sum)));omega)) ?_;rintro G t;refine ns ?_;refine b0X rfl Hb.o rfl (v0K b G _ t) gSp ?_;refine ns ?_;refine go 3 ?_;exact rG (hu:=(by unfold h0Z v0C;simp only[List.cons_append,List.nil_append,List.append_assoc];rw[←N,←M];simp only[List.append_assoc]))
theorem k2R {s:B} (h:s.length<60):i0A s= .err 2:=by unfold i0A;rw[if_pos h]
theorem k2S {s:B} (a:60≤s.length) (h:s.length<64):i0A s= .err 2:=by unfold i0A;rw[if_neg (by omega),if_pos h]
theorem k2T {s:B} (a:64≤s.length) (h:be ((s.drop 60).take 4)≠g0G (s.take 60)):i0A s= .err 11:=by unfold i0A;rw[if_neg (by omega),if_neg (by omega),if_pos h]
theorem k2U {s:B} (b:64≤s.length) (h:be ((s.drop 60).take 4)=g0G (s.take 60)) (a:s.length≠64):i0A s= .err 1:=by unfold i0A;rw[if_neg (by omega),if_neg (by omega),if_neg (by simp[h]),if_pos a]
theorem k2V {s:B} (h:be ((s.drop 60).take 4)=g0G (s.take 60)) (a:s.length=64):i0A s= .ok (s.take 60):=by unfold i0A;rw[if_neg (by omega),if_neg (by omega),if_neg (by simp[h]),if_neg (by simp[a])]
theorem h1B {s:B} {e:Int} (h:i0A s= .err e):((i0B s,()):Out Hd×Unit)=(.err e,()):=by unfold i0B;rw[h]
theorem v2B {s:B} (h:i0A s= .ok (s.take 60)) (a:(s.take 60).take 1≠ [69]):((i0B s,()):Out Hd×Unit)=(.err 1,()):=by unfold i0B;rw[h];simp only;rw[if_pos a]
theorem p2X {s:B} (h:i0A s= .ok (s.take 60)) (a:(s.take 60).take 1= [69]) (b:a0R ((s.take 60).drop 57)=false):((i0B s,()):Out Hd×Unit)=(.err 1,()):=by
 unfold i0B;rw[h];simp only;rw[if_neg (by simp[a]),if_pos b]
theorem y2A {s:B} (h:i0A s= .ok (s.take 60)) (a:(s.take 60).take 1= [69]) (b:a0R ((s.take 60).drop 57)=true):
 ((i0B s,()):Out Hd×Unit)=(.ok {at_:=(g0Y 2 4 ((s.take 60).drop 1)).map Int.ofNat,sums:=g0Y 4 4 ((s.take 60).drop 9),sum:=((s.take 60).drop 25).take 32},()):=by
 unfold i0B;rw[h];simp only;rw[if_neg (by simp[a]),if_neg (by simp[b])]
theorem y0M (k:Nat): ∀(n:Nat) (l:B) (i:Nat) (h:i<(g0Y k n l).length),(g0Y k n l)[i]=be ((l.drop (k*i)).take k)
 |0,_,i,h=>by simp[g0Y]at h
 |n+1,l,0,h=>by simp[g0Y]
 |n+1,l,i+1,h=>by
  have a:i<(g0Y k n (l.drop k)).length:=by simpa [g0Y] using h
  have:=y0M k n (l.drop k) i a;simp only[g0Y,List.getElem_cons_succ];rw[this,List.drop_drop,Nat.mul_succ,Nat.add_comm]
def m0N (a l:List Value) (n:Nat) (z:Value) (i:Nat) (rest:List Value):List Value:=a++(l.take i++(List.replicate (n-i) z++rest))
theorem y0N {a l rest:List Value} {z v:Value} {n i o:Nat} (f:l.length=n) (hi:i<n) (d:o=a.length+i) (e:l[i]? =some v):(m0N a l n z i rest).set o v=m0N a l n z (i+1) rest:=by
 subst d;unfold m0N;have b:(l.take i).length=i:=by simp;omega
 obtain⟨m,c⟩: ∃m,n-i=m+1:=⟨n-i-1,by omega⟩;rw[List.set_append_right _ _ (by omega),show a.length+i-a.length=i by omega,List.set_append_right _ _ (by omega),b,Nat.sub_self,c,List.replicate_succ];simp only[List.cons_append,List.set_cons_zero];rw[show n- (i+1)=m by omega,List.take_succ,e];simp
theorem y0O {a l rest:List Value} {z:Value} {n i:Nat} (b:l.length=n) (hi:i≤n):(m0N a l n z i rest).length=a.length+(n+rest.length):=by unfold m0N;simp;omega
theorem v0W {a l rest:List Value} {z:Value} {n:Nat} (b:l.length=n):m0N a l n z n rest=a++(l++rest):=by unfold m0N;rw[List.take_of_length_le (by omega),Nat.sub_self];rfl
theorem k2W {a l rest:List Value} {z:Value} {n:Nat} :m0N a l n z 0 rest=a++(List.replicate n z++rest):=by unfold m0N;simp
theorem v1Z {A C D:List Value} {l:B} {n m k:Nat} (c:A.length+C.length=k) (hd:D.length=n) (a:l.length=n) (b:m=n):
 (A++(C++D)).take k++((bs l).data.toList.take m).map a0Q++(A++(C++D)).drop (k+min (bs l).size m)=A++(C++l.map a0Q):=by
 subst b;have e:l.take m=l:=List.take_of_length_le (by omega);rw[b0H,m0D,a,Nat.min_self,e,←List.append_assoc A C D,List.take_left' (by simp;omega),List.drop_eq_nil_of_le (by simp;omega)];simp
theorem z0J (k i:Nat) (l:B):(l.drop (k*i)).drop k=l.drop (k*(i+1)):=by rw[List.drop_drop];rfl
theorem c2E (l:B):be (l.take 2)<65536:=Nat.lt_of_lt_of_le (l1U _) (Nat.pow_le_pow_right (n:=256) (j:=2) (by decide) (by simp;omega))
theorem h1C (l:B):be (l.take 4)<4294967296:=Nat.lt_of_lt_of_le (l1U _) (Nat.pow_le_pow_right (n:=256) (j:=4) (by decide) (by simp;omega))
set_option maxRecDepth 4000 in
theorem w1A (s:B) (hs:s.length≤1000000):a0G prog 192 #[b0C s] [] (Ran fT (fun _:Unit=> []) hdV (i0B s,())):=by
 have Y:=h1C (s.drop 60);refine en func192 ntmps192 fun R w0=> ?_;refine go 2 ?_;refine al fun G=> ?_;refine ce 5 (z0G (bs s)) ?_;rintro J _;refine ns ?_;refine go 6 ?_;refine a0U rfl Hb.o rfl (m1F J s 60 hs) gSp (fun a t d=> ?_) (fun e t d=>by refine pn ?_;exact kx ((by obtain⟨K,rfl⟩:=q1K d;exact h1B (k2R K))));refine ns ?_;obtain⟨K,rfl,rfl⟩:=v1T d;refine go 7 ?_;refine a0U rfl Hb.o rfl (q1N J (s.drop 60) 4 (by omega) (by simp;omega)) gSp (fun n t d=> ?_) (fun e t d=>by refine pn ?_;exact kx ((by obtain⟨D,rfl⟩:=v1U d;exact h1B (k2S K (by simp at D;omega)))));refine ns ?_;obtain⟨D,rfl,rfl⟩:=c2D d;refine go 1 ?_;rw[show IntKind.u32.wrap ((be ((s.drop 60).take 4):Nat):Int)=(be ((s.drop 60).take 4):Nat)from by rw[IntKind.wrap_u32];omega];refine go 1 ?_;refine bl fun I=> ?_;refine cg 0 (s0V I 1 (bs (s.take 60)) (by rw[b0H];simp[maxLen];omega)) ?_;rw[show((Crc.crc (s.take 60)).toNat:Int)=(g0G (s.take 60):Nat)from rfl];refine go 3 ?_;refine a0O rfl (fun g=> ?_) (fun g=> ?_)
 ·refine go 1 ?_;refine c0A rfl Hb.o rfl (c0M 11) gSp ?_;refine ns ?_;refine pn ?_;exact b0W (h1B (k2T (by simp at D;omega) (by have h:=g;simp at h;omega))) idh gSp
 ·have E:be ((s.drop 60).take 4)=g0G (s.take 60):=by have h:=g;simp at h;omega
  refine go 5 ?_;refine a0U rfl Hb.o rfl (m1H J ((s.drop 60).drop 4)) gSp (fun u t3 d=> ?_) (fun e t d=>by refine pn ?_;exact kx ((by obtain⟨L,rfl⟩:=q1L d;exact h1B (k2U (by simp at D;omega) E (fun e=>L (List.eq_nil_of_length_eq_zero (by simp;omega)))))));refine ns ?_;refine go 3 ?_;have L:=congrArg List.length (v1V d);have M:s.length=64:=by simp at L D;omega
  have z:=k2V E M;have F:(s.take 60).length=60:=by simp;omega
  generalize v:s.take 60=T at z F ⊢;refine ce 2 (z0G (bs T)) ?_;rintro c _;refine ns ?_;refine cg 7 (u0N c T 1 (by omega) (by omega)) ?_;refine a0D (i0M rfl rfl) ?_;refine go 2 ?_;refine a0O rfl (fun j=> ?_) (fun j=> ?_)
  ·refine go 1 ?_;refine c0A rfl Hb.o rfl (c0M 1) gSp ?_;refine ns ?_;refine pn ?_;exact b0W (v2B (by rw[v];exact z) (by rw[v];have:=j;intro e;rw[e]at this;simp at this)) idh gSp
  ·have A:T.take 1= [69]:=by
    have h:=j;rw[show(⟨#[69]⟩:ByteArray)=bs [69]from rfl,c0G,c0G]at h;simpa using h
   have O:=l0I 2 4 (T.drop 1);have P:=l0I 4 4 (T.drop 9);have p:((g0Y 2 4 (T.drop 1)).map fun n:Nat=>a0H n).length=4:=by rw[List.length_map,O]
   have w:((g0Y 4 4 (T.drop 9)).map fun n:Nat=>Value.int .u32 n).length=4:=by rw[List.length_map,P]
   refine go 4 ?_;refine al fun H=> ?_;refine go 9 ?_;refine a0V (X:= {i:Nat // i≤4}) (fun y=> [(2,ptr G),(3,ptr c),(5,ptr H),(28,.int .i64 y.1)]) (fun y=> [pts H (.cells (m0N [] ((g0Y 2 4 (T.drop 1)).map fun n:Nat=>a0H n) 4 (a0H 0) y.1 (List.replicate 4 (Value.int .u32 0)++List.replicate 32 (Value.int .u8 0))).toArray 230 (0,0)),q0Z c ((T.drop 1).drop (2*y.1)),pts G (.cells (List.replicate 4 (a0H 0)++(List.replicate 4 (Value.int .u32 0)++List.replicate 32 (Value.int .u8 0))).toArray 230 (0,0)),R]) (fun y=>4-y.1) ⟨0,by omega⟩ gSu gSp ?_;rintro⟨i,hi⟩ m0 hm0
   try simp only at hm0
   try dsimp only
   skip;refine go 6 ?_;refine a0O rfl (fun k=> ?_) (fun k=> ?_)
   ·have q:i<4:=by have:=of_decide_eq_true k;omega
    have C:i<(g0Y 2 4 (T.drop 1)).length:=by omega
    refine cg 13 (a1W c ((T.drop 1).drop (2*i)) 2 (by omega) (by simp;omega) (by simp;omega)) ?_;refine go 1 ?_;have N:=c2E ((T.drop 1).drop (2*i));rw[show IntKind.i64.wrap ((be (((T.drop 1).drop (2*i)).take 2):Nat):Int)=(be (((T.drop 1).drop (2*i)).take 2):Nat)from e0P _ _ (by omega) (by simp only[IntKind.bits];omega)];refine go 2 ?_;refine d0T Sz.o rfl rfl rfl (by rw[y0O p (by omega)];simp;omega) (y0N p q (by simp) (by rw[List.getElem?_map,List.getElem?_eq_getElem C,y0M];rfl)) ?_;refine go 1 ?_;rw[z0J 2 i];refine go 5 ?_;exact rd idh (⟨i+1,q⟩)
   ·obtain rfl:i=4:=by have:=of_decide_eq_false k;omega
    rw[v0W p];refine go 9 ?_;rw[List.drop_drop,show((g0Y 2 4 (T.drop 1)).map fun n:Nat=>a0H n)++(List.replicate 4 (Value.int .u32 0)++List.replicate 32 (Value.int .u8 0))=m0N ((g0Y 2 4 (T.drop 1)).map fun n:Nat=>a0H n) ((g0Y 4 4 (T.drop 9)).map fun n:Nat=>Value.int .u32 n) 4 (Value.int .u32 0) 0 (List.replicate 32 (Value.int .u8 0))from k2W.symm,List.nil_append];refine a0V (X:= {i:Nat // i≤4}) (fun y=> [(2,ptr G),(3,ptr c),(5,ptr H),(38,.int .i64 y.1)]) (fun y=> [pts H (.cells (m0N ((g0Y 2 4 (T.drop 1)).map fun n:Nat=>a0H n) ((g0Y 4 4 (T.drop 9)).map fun n:Nat=>Value.int .u32 n) 4 (Value.int .u32 0) y.1 (List.replicate 32 (Value.int .u8 0))).toArray 230 (0,0)),q0Z c ((T.drop 9).drop (4*y.1)),pts G (.cells (List.replicate 4 (a0H 0)++(List.replicate 4 (Value.int .u32 0)++List.replicate 32 (Value.int .u8 0))).toArray 230 (0,0)),R]) (fun y=>4-y.1) ⟨0,by omega⟩ gSu gSp ?_;rintro⟨i,hi⟩ m2 hm2
    try simp only at hm2
    try dsimp only
    skip;refine go 6 ?_;refine a0O rfl (fun m=> ?_) (fun m=> ?_)
    ·have q:i<4:=by have:=of_decide_eq_true m;omega
     have C:i<(g0Y 4 4 (T.drop 9)).length:=by omega
     refine cg 13 (a1W c ((T.drop 9).drop (4*i)) 4 (by omega) (by simp;omega) (by simp;omega)) ?_;refine go 1 ?_;have N:=h1C ((T.drop 9).drop (4*i));rw[show IntKind.u32.wrap ((be (((T.drop 9).drop (4*i)).take 4):Nat):Int)=(be (((T.drop 9).drop (4*i)).take 4):Nat)from by rw[IntKind.wrap_u32];omega];refine go 2 ?_;refine d0T Sz.o rfl rfl rfl (by rw[y0O w (by omega)];simp;omega) (y0N w q (by rw[p];simp) (by rw[List.getElem?_map,List.getElem?_eq_getElem C,y0M];rfl)) ?_;refine go 1 ?_;rw[z0J 4 i];refine go 5 ?_;exact rd idh (⟨i+1,q⟩)
    ·obtain rfl:i=4:=by have:=of_decide_eq_false m;omega
     rw[v0W w,List.drop_drop];refine go 3 ?_;refine mx (.r 0 3 (.hard 3 (.hard 4 .done))) [] ?_;refine go 1 ?_;refine d0A rfl (b1Q Tar.o rfl) ?_;refine cg 2 (u0N c (T.drop (9+4*4)) 32 (by simp;omega) (by simp;omega)) ?_;refine go 3 ?_;refine l1B Tsl.o rfl rfl (by rw[b0H];simp[l0I];omega) (v1Z (n:=32) (by rw[p,w]) (by simp) (by simp;omega) rfl) ?_;refine go 7 ?_;refine a0U rfl Hb.o rfl (m1G c ((T.drop (9+4*4)).drop 32) (by simp;omega)) gSp (fun u6 t6 d=> ?_) (fun e t d=>by refine pn ?_;exact kx ((by obtain⟨V,rfl⟩:=q1M d;exact p2X (by rw[v];exact z) (by rw[v];exact A) (by rw[v,show(57:Nat)=9+4*4+32 from rfl,←List.drop_drop];exact V))));refine ns ?_;refine go 3 ?_;have S:=v1W d;rw[List.drop_drop]at S;have f: ∀l:B,l.length=32→(((g0Y 2 4 (T.drop 1)).map fun n:Nat=>a0H n)++(((g0Y 4 4 (T.drop 9)).map fun n:Nat=>Value.int .u32 n)++l.map a0Q)).toArray.size=40:=fun l Z=>by simp[l0I,Z]
     have b:((T.drop (9+4*4)).take 32).length=32:=by simp;omega
     generalize W:(T.drop (9+4*4)).take 32=U at b ⊢;refine go 1 ?_;refine a0D (a0K Ag.o rfl (by rw[f U b];omega) (a0I (f U b))) ?_;refine a0M Sz.o rfl rfl (f U b) (fun x Q=>by simp at Q;rcases Q with ⟨_,_,rfl⟩| ⟨_,_,rfl⟩| ⟨_,_,rfl⟩<;>rfl) (by rw[f U b];simp) (a0N (by rw[f U b];simp)) ?_;refine go 2 ?_;refine k0A (y2A (by rw[v];exact z) (by rw[v];exact A) (by rw[v,show(57:Nat)=9+4*4+32 from rfl];exact S)) idh (RV.agg Ag.o rfl (by rw[f U b];omega) (a0I (f U b)) RV.nil) ?_ gSp;show Value.agg _=Value.agg _;rw[v,show(25:Nat)=9+4*4 from rfl,W];simp[hdL,List.map_map,Function.comp_def]
def ndL (a:Int) (n:Nd):List Value:= [a0H a]++(n.kids.map a0H++n.sum.map a0Q)
def ndV (a:Int) (n:Nd):Value:= .agg (ndL a n).toArray
structure o0T (x:Nd):Prop where
 n:x.kids.length=8
 sum:x.sum.length=32
set_option maxRecDepth 4000 in
theorem w1B (b:Nat) (x:Nd) (h:o0T x):a0G prog 245 #[ndV b x] [] (a0T (b0C (j0L b x)) []):=by
 obtain⟨H,hu⟩:=h;unfold ndV;have E: ∀i,((x.kids.take i).flatMap (num · 2)).length≤16:=fun i=>by rw[i0J (k:=2) fun a=>k0H a 2];simp;omega
 have c1:(x.kids.map a0H).length=8:=by simp[H]
 have c3:(x.sum.map a0Q).length=32:=by simp[hu]
 have F:(num (b:Int) 1).length=1:=k0H _ _;refine en func245 ntmps245 fun R w0=> ?_;refine go 2 ?_;refine bx fun s=> ?_;refine go 5 ?_;refine al fun c=> ?_;refine go 3 ?_;refine b0U (L':=o0Y c (.slice none 0 0) []++ [pts s (.cells (ndL b x).toArray 182 (0,0)),R]) (fun w h=>(f0E 5 1 w h).perm (List.Perm.swap _ _ _)) ?_;refine ns ?_;refine mx (.r 1 3 (.hard 0 (.hard 4 .done))) [pts s (.cells (ndL b x).toArray 182 (0,0))] ?_;refine go 1 ?_;refine d0A rfl (b0N (v:=a0H b) Sc.o rfl (by rfl)) ?_;refine ce 2 (t0S c (.slice none 0 0) [] ⟨#[78]⟩ (by simp) (by decide) rfl) ?_;rintro K z;refine ns ?_;refine go 3 ?_;rw[f1I];refine d0Z rfl Hb.o rfl (s0U c K [78] (u64 b) 1 (by omega) (by simp) z (v1X _)) gSp ?_;rintro A l;refine ns ?_;refine go 8 ?_;refine a0D (a0K Ag.o rfl (by simp[ndL,c1,c3]) (d0Y (a:= [a0H b]) rfl c1)) ?_;refine go 4 ?_;simp only[List.take_zero,List.flatMap_nil,List.append_nil];refine a0V (X:= {y:Nat×Value // y.1≤8∧y.2.oneCell'=true}) (fun y=> [(1,ptr s),(3,ptr c),(13,.agg (x.kids.map a0H).toArray),(14,.int .i64 y.1.1)]) (fun y=>o0Y c y.1.2 (78::(num b 1++(x.kids.take y.1.1).flatMap (num · 2)))++ [pts s (.cells (ndL b x).toArray 182 (0,0)),R]) (fun y=>8-y.1.1) ⟨(0,A),by omega,l⟩ gSu gSp ?_;rintro⟨⟨i,v⟩,hi,hv⟩ m0 hm0
 try simp only at hm0
 try dsimp only
 simp only at hi hv;refine ns ?_;refine go 6 ?_;refine a0O rfl (fun d=> ?_) (fun d=> ?_)
 ·have u:i<8:=by have:=of_decide_eq_true d;omega
  have g:i<x.kids.length:=by omega
  refine go 6 ?_;refine a0D (o0P Tar.o Sc.o rfl rfl (by omega) (i0E a0H x.kids i _ g (by omega))) ?_;refine go 6 ?_;rw[f1I];refine d0Z rfl Hb.o rfl (s0U c v (78::(num b 1++(x.kids.take i).flatMap (num · 2))) (u64 x.kids[i]) 2 (by omega) (by have:=E i;simp only[List.length_cons,List.length_append,F];omega) hv (v1X _)) gSp ?_;rintro B m;refine ns ?_;refine go 1 ?_;rw[List.append_assoc,show(x.kids.take i).flatMap (num · 2)++beB (u64 x.kids[i]) 2 2=(x.kids.take (i+1)).flatMap (num · 2)from(f1J (num · 2) x.kids i g).symm];refine go 5 ?_;exact rd idh (⟨(i+1,B),u,m⟩)
 ·obtain rfl:i=8:=by have:=of_decide_eq_false d;omega
  rw[List.take_of_length_le (by omega)];have I:=E 8;rw[List.take_of_length_le (by omega)]at I;have J:(num b 1++x.kids.flatMap (num · 2)).length≤17:=by rw[List.length_append,F];omega
  generalize G:num b 1++x.kids.flatMap (num · 2)=S at J ⊢;have e:(78::(S++x.sum)).length≤60:=by simp only[List.length_cons,List.length_append];omega
  have j:=q0T e;refine go 5 ?_;refine a0D (a0K (v:=(x.sum.map a0Q).toArray) Ag.o rfl (by simp only[ndL,List.size_toArray,List.length_append,c1,c3,List.length_singleton];omega) (by rw[show ndL b x=([a0H b]++x.kids.map a0H)++(x.sum.map a0Q++ []) by simp[ndL]];exact d0Y (by rw[List.length_append,c1];rfl) c3)) ?_;refine cg 0 (w0T x.sum hu) ?_;refine ce 0 (t0S c v (78::S) (bs x.sum) (by simp only[List.length_cons];omega) (by rw[b0H,hu];omega) hv) ?_;rintro C n;refine ns ?_;refine ce 0 (c1T c C (78::(S++x.sum)) 60 e (by omega) n) ?_;rintro q f;refine ns ?_;refine b0X rfl Hb.o rfl (f1H c q _ f) gSp ?_;refine ns ?_;refine go 6 ?_;refine bl fun t=> ?_;refine b0X rfl Hb.o rfl (s0V t 1 _ (by rw[b0H,j];simp[maxLen])) gSp ?_;refine ns ?_;refine go 1 ?_;rw[show((Crc.crc (g0E 60 (78::(S++x.sum)))).toNat:Int)=(g0G (g0E 60 (78::(S++x.sum))):Nat)from rfl,q0Y _ _ rfl (by have:=y0L (g0E 60 (78::(S++x.sum)));omega)];refine ce 0 (s0U c q (g0E 60 (78::(S++x.sum))) (g0G (g0E 60 (78::(S++x.sum)))) 4 (by omega) (by rw[j];omega) f (by have:=y0L (g0E 60 (78::(S++x.sum)));omega)) ?_;rintro D p;refine ns ?_;refine b0X rfl Hb.o rfl (v0K c D _ p) gSp ?_;refine ns ?_;refine go 3 ?_;exact rG (hu:=(by unfold j0L v0C;simp only[List.cons_append,List.nil_append,List.append_assoc];rw[←G];simp only[List.append_assoc]))
end Go.Proofs.Q

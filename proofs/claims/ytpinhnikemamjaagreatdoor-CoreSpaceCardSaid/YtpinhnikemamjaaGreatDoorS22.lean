/- Part of the proof; no statement of its own. -/
import Derived.Test.YtpinhnikemamjaaGreatDoorS21
import Derived.Test.YtpinhnikemamjaaGreatDoorS18
import Derived.Test.YtpinhnikemamjaaGreatDoorS05
import Derived.Test.YtpinhnikemamjaaGreatDoorS04
import Derived.Test.YtpinhnikemamjaaGreatDoorS08
import Derived.Test.YtpinhnikemamjaaGreatDoorS06
import Derived.Test.YtpinhnikemamjaaGreatDoorS09
set_option linter.all false
set_option maxRecDepth 4000
set_option maxHeartbeats 4000000
attribute [local irreducible] Go.Sl.a0P Go.Sl.OW Go.Sl.CW Go.Sl.OS Go.Sl.OM Go.Sl.OMf Go.Sl.KM
namespace Go.Proofs.Q
open Go.Sl Tryz
theorem x0L (a b:BitVec 32):bits .xor .u32 (a.toNat:Int) (b.toNat:Int)=((a ^^^ b).toNat:Int):=by
 simp only[bits,BitVec.ofInt_natCast,BitVec.ofNat_toNat,BitVec.setWidth_eq,IntKind.bits];rw[IntKind.wrap_u32];exact Int.emod_eq_of_lt (Int.natCast_nonneg _) (by have:=(a ^^^ b).isLt;omega)
theorem c2C (a b:BitVec 32):bits .and .u32 (a.toNat:Int) (b.toNat:Int)=((a &&& b).toNat:Int):=by
 simp only[bits,BitVec.ofInt_natCast,BitVec.ofNat_toNat,BitVec.setWidth_eq,IntKind.bits];rw[IntKind.wrap_u32];exact Int.emod_eq_of_lt (Int.natCast_nonneg _) (by have:=(a &&& b).isLt;omega)
def p2R (j:Nat):Value:= .int .u32 ((Crc.m0F 4 (BitVec.ofNat 32 j)).toNat:Int)
def n0F (i:Nat):List Value:=(List.range 16).map fun j=>if j<i then p2R j else .int .u32 0
theorem u2Z (k:Nat) (hk:k<16) (m:Nat) (hm:m=k) (v:Value) (hv:v=p2R k):(n0F k).set m v=n0F (k+1):=by
 subst hm;subst hv;unfold n0F;apply List.ext_getElem
 ·simp
 ·intro i h1 h2;simp at h1;rw[List.getElem_set];by_cases e:m=i
  ·subst e;simp
  ·simp[e];by_cases h:i<m
   ·simp[h,show i<m+1 by omega]
   ·simp[h,show ¬i<m+1 by omega]
theorem v1Q (k:Nat): ∀x∈n0F k,x.oneCell'=true:=by
 intro x hx;simp only[n0F,List.mem_map]at hx;obtain⟨j,_,rfl⟩:=hx;split<;>rfl
theorem p2S (x:BitVec 32):bits .xor .u32 ((x.toNat:Int)/2^Int.toNat 1) (bits .and .u32 2197175160 (IntKind.u32.wrap (0-bits .and .u32 (x.toNat:Int) 1)))=((Crc.stp x).toNat:Int):=by
 have h1:bits .and .u32 (x.toNat:Int) 1=((x &&& 1#32).toNat:Int):=c2C x 1#32;have h2:((x.toNat:Int)/ (2:Int)^Int.toNat 1)=((x >>> 1).toNat:Int):=by simp[Nat.shiftRight_eq_div_pow]
 rw[h1,h2];have h0:(x &&& 1#32).toNat=x.toNat%2:=by rw[BitVec.toNat_and];exact Nat.and_one_is_mod _
 have hb:x.getLsbD 0=decide (x.toNat%2=1):=by rw[BitVec.getLsbD,Nat.testBit_zero]
 rw[h0];rcases Nat.mod_two_eq_zero_or_one x.toNat with h|h
 ·rw[h];have:bits .and .u32 2197175160 (IntKind.u32.wrap (0- ((0:Nat):Int)))=((0#32).toNat:Int):=by decide
  rw[this,x0L];unfold Crc.stp;rw[hb];simp[h]
 ·rw[h];have:bits .and .u32 2197175160 (IntKind.u32.wrap (0- ((1:Nat):Int)))=(Crc.t1C.toNat:Int):=by decide
  rw[this,x0L];unfold Crc.stp;rw[hb];simp[h]
theorem k2O (n:Nat) (x:BitVec 32):Crc.m0F (n+1) x=Crc.stp (Crc.m0F n x):=by
 rw[Crc.t1D];rfl
theorem f2R:a0G prog 193 #[] [] (a0T (.agg (n0F 16).toArray) []):=by
 refine en func193 ntmps193 fun R w0=> ?_;refine go 2 ?_;refine al fun b0=> ?_;refine go 4 ?_;refine al fun b1=> ?_;refine go 9 ?_;refine a0V (X:= {k:Nat // k≤16}) (fun x=> [(0,.pointer (some ⟨b0,0,none⟩)),(1,.pointer (some ⟨b1,0,none⟩)),(4,.int .i64 x.1)]) (fun x=> [pts b1 (.cells (n0F x.1).toArray 266 (0,0)),pts b0 (.cells (n0F 0).toArray 266 (0,0)),R]) (fun x=>16-x.1) ⟨0,by omega⟩ gSu gSp ?_;rintro⟨k,hk⟩ m0 hm0
 try simp only at hm0
 try dsimp only
 skip;refine go 6 ?_;refine a0O rfl (fun hb5=> ?_) (fun hb5=> ?_)
 ·have hlt:k<16:=by have:=of_decide_eq_true hb5;omega
  refine go 16 ?_;have hw:IntKind.u32.wrap (k:Int)=((Crc.m0F 0 (BitVec.ofNat 32 k)).toNat:Int):=by rw[IntKind.wrap_u32];simp[Crc.m0F]
  rw[hw];refine go 8 ?_;refine a0V (X:= {j:Nat // j≤4}) (fun x=> [(0,.pointer (some ⟨b0,0,none⟩)),(1,.pointer (some ⟨b1,0,none⟩)),(4,.int .i64 k),(2,.int .i64 k),(3,.int .u32 ((Crc.m0F x.1 (BitVec.ofNat 32 k)).toNat:Int)),(9,.int .i64 x.1)]) (fun x=> [pts b1 (.cells (n0F k).toArray 266 (0,0)),pts b0 (.cells (n0F 0).toArray 266 (0,0)),R]) (fun x=>4-x.1) ⟨0,by omega⟩ gSu gSp ?_;rintro⟨j,hj⟩ m2 hm2
  try simp only at hm2
  try dsimp only
  skip;refine go 6 ?_;refine a0O rfl (fun hb10=> ?_) (fun hb10=> ?_)
  ·have hjt:j<4:=by have:=of_decide_eq_true hb10;omega
   refine go 6 ?_;refine a0D (t0B rfl rfl (by first|decide| (simp only[IntKind.bits];omega))) ?_;refine go 1 ?_;refine a0D (o0O rfl rfl) ?_;refine a0D (z2I rfl) ?_;refine a0D (o0O rfl rfl) ?_;refine a0D (w0I rfl rfl) ?_;refine go 2 ?_;rw[p2S,←k2O];refine go 5 ?_;exact rd idh (⟨j+1,hjt⟩)
  ·have hj4:j=4:=by have:=of_decide_eq_false hb10;omega
   subst hj4;refine go 6 ?_;refine d0T Sz.o rfl rfl rfl (by simp[n0F];omega) (u2Z k hlt _ (by simp) _ rfl) ?_;refine go 6 ?_;exact rd idh (⟨k+1,hlt⟩)
 ·have hk4:k=16:=by have:=of_decide_eq_false hb5;omega
  subst hk4;refine go 5 ?_;refine a0M Sz.o rfl rfl (by simp[n0F]) (fun x hx=>v1Q _ x (by simpa using hx)) (by simp[n0F]) (a0N (by simp[n0F])) ?_;refine go 2 ?_;refine q0L idh (RV.agg Ag.o rfl (by simp[n0F]) (a0I (by simp[n0F])) RV.nil) rfl gSp
theorem v2A (x:BitVec 32):bits .xor .u32 (if IntKind.u32.signed then -1 else IntKind.u32.max) (x.toNat:Int)=((~~~ x).toNat:Int):=by
 have h:(if IntKind.u32.signed then -1 else IntKind.u32.max)=((BitVec.allOnes 32).toNat:Int):=by decide
 rw[h,x0L];have e:BitVec.allOnes 32 ^^^ x= ~~~ x:=by rw[BitVec.xor_comm];exact BitVec.xor_allOnes
 rw[e]
theorem shr4 (x:BitVec 32):((x.toNat:Int)/ (2:Int)^Int.toNat 4)=((x >>> 4).toNat:Int):=by simp[Nat.shiftRight_eq_div_pow]
theorem p2T (c:UInt8):IntKind.u32.wrap (c.toNat:Int)=((c.toBitVec.setWidth 32).toNat:Int):=by
 rw[IntKind.wrap_u32,BitVec.toNat_setWidth];have h:=c.toNat_lt;have e:c.toBitVec.toNat=c.toNat:=rfl;rw[e];omega
theorem k2P (y:BitVec 32) (i:Nat) (hi:i=(y &&& 15#32).toNat):nth (n0F 16) i=some (.int .u32 ((Crc.tab (y &&& 15#32)).toNat:Int)):=by
 subst hi;have h:(y &&& 15#32).toNat<16:=by rw[BitVec.toNat_and];exact Nat.lt_of_le_of_lt Nat.and_le_right (by decide)
 rw[e0F];simp only[n0F,List.getElem?_map,List.getElem?_range h,Option.map_some,if_pos h,p2R,Crc.tab,BitVec.ofNat_toNat,BitVec.setWidth_eq]
theorem s2O (y:BitVec 32):bits .and .u32 (y.toNat:Int) 15=((y &&& 15#32).toNat:Int):=c2C y 15#32
theorem v1R (y:BitVec 32):0≤((y &&& 15#32).toNat:Int)∧((y &&& 15#32).toNat:Int)<16:=by
 have h:(y &&& 15#32).toNat<16:=by rw[BitVec.toNat_and];exact Nat.lt_of_le_of_lt Nat.and_le_right (by decide)
 omega
theorem i1M (s:ByteArray) (cap i:Nat) (h:i<s.size) (k:Nat) (hk:k=i):nth (p0S s cap) k=some (a0Q (s.data.toList[i]'(by simpa using h))):=by
 subst hk;have hl:k<(s.data.toList.map a0Q).length:=by simpa using h
 rw[e0F,p0S,List.getElem?_append_left hl,List.getElem?_eq_getElem hl,List.getElem_map]
def n0P (ss:List ByteArray):List UInt8:=ss.flatMap fun s=>s.data.toList
theorem v1S (ss:List ByteArray) (i:Nat) (h:i<ss.length):n0P (ss.take (i+1))=n0P (ss.take i)++ss[i].data.toList:=by
 simp only[n0P];rw[List.take_succ,List.getElem?_eq_getElem h,List.flatMap_append];simp
theorem p2U (x:BitVec 32) (l:List UInt8) (i:Nat) (h:i<l.length):Crc.run x (l.take (i+1))=Crc.byt (Crc.run x (l.take i)) l[i]:=by
 rw[List.take_succ,List.getElem?_eq_getElem h,Crc.l1J];simp[Crc.run]
theorem k2Q (p:Option Addr) (cap:Nat) (ss:List ByteArray) (A:a0E) (hn:ss.length≤maxLen) (hs: ∀s∈ss,s.size≤maxLen)
 (hA: ∀i (h:i<ss.length),∃a,p=some a∧ ∀(w:World) L,Sat w (A::L)→w.cell? (a.add i)=some (.string ss[i])):
 a0G prog 160 #[.slice p ss.length cap] [A] (a0T (.int .u32 ((Crc.crc (n0P ss)).toNat:Int)) [A]):=by
 simp only[maxLen]at hn;refine en func160 ntmps160 fun R w0=> ?_;refine cg 7 (f2R) ?_;refine al fun b3=> ?_;refine a0M Sz.o rfl rfl (by simp[n0F]) (fun x hx=>v1Q _ x (by simpa using hx)) (by simp[n0F,Value.cells]) (a0N (by simp[n0F,Value.cells])) ?_;refine go 16 ?_;refine a0V (X:= {i:Nat // i≤ss.length}) (fun x=> [(3,.pointer (some ⟨b3,0,none⟩)),(4,.int .u32 ((Crc.run (~~~ 0#32) (n0P (ss.take x.1))).toNat:Int)),(10,.slice p ss.length cap),(11,.int .i64 ss.length),(12,.int .i64 x.1)]) (fun x=> [A,R,pts b3 (.cells (n0F 16).toArray 266 (0,0))]) (fun x=>ss.length-x.1) ⟨0,by omega⟩ gSu gSp ?_;rintro⟨i,hi⟩ m0 hm0
 try simp only at hm0
 try dsimp only
 skip;refine go 6 ?_;refine a0O rfl (fun hb13=> ?_) (fun hb13=> ?_)
 ·have hlt:i<ss.length:=by have:=of_decide_eq_true hb13;omega
  obtain⟨a,rfl,hc⟩:=hA i hlt;have hsz:ss[i].size≤9223372036854775807:=hs _ (List.getElem_mem hlt);have hsl:ss[i].data.toList.length=ss[i].size:=by simp
  refine go 6 ?_;refine a0D (i2M Tsl.o rfl rfl (by omega)) ?_;refine a0D (w0Z Sc.o rfl gFd (fun w L h=>by simpa using hc w L h)) ?_;refine go 6 ?_;refine s1P Tst.o Tsl.o Tby.o rfl (by simp only[maxLen];omega) (fun b17 k17 hk17 hm17=> ?_);refine go 5 ?_;refine a0V (X:= {j:Nat // j≤ss[i].size}) (fun x=> [(3,.pointer (some ⟨b3,0,none⟩)),(4,.int .u32 ((Crc.run (Crc.run (~~~ 0#32) (n0P (ss.take i))) (ss[i].data.toList.take x.1)).toNat:Int)),(10,.slice (some a) ss.length cap),(11,.int .i64 ss.length),(12,.int .i64 i),(17,.slice (some ⟨b17,0,none⟩) ss[i].size k17),(18,.int .i64 ss[i].size),(19,.int .i64 x.1)]) (fun x=> [A,R,pts b3 (.cells (n0F 16).toArray 266 (0,0)),pts b17 (.cells (p0S ss[i] k17).toArray 5 (k17,k17+1))]) (fun x=>ss[i].size-x.1) ⟨0,by omega⟩ gSu gSp ?_;rintro⟨j,hj⟩ m2 hm2
  try simp only at hm2
  try dsimp only
  skip;refine go 6 ?_;refine a0O rfl (fun hb20=> ?_) (fun hb20=> ?_)
  ·have hjt:j<ss[i].size:=by have:=of_decide_eq_true hb20;omega
   refine go 7 ?_;refine a0D (b0N Sc.o rfl (i1M ss[i] k17 j hjt _ (by simp))) ?_;refine go 2 ?_;have hjl:j<ss[i].data.toList.length:=by omega
   rw[show ss[i].data.toList[j]=ss[i].data.toList[j]'hjl from rfl];generalize hx0:Crc.run (Crc.run (~~~ 0#32) (n0P (ss.take i))) (ss[i].data.toList.take j)=x0;generalize hc0:ss[i].data.toList[j]'hjl=c0;refine go 6 ?_;refine a0D (w0I rfl rfl) ?_;refine go 2 ?_;rw[p2T,x0L];generalize hx1:x0 ^^^ c0.toBitVec.setWidth 32=x1;refine go 2 ?_;have h15:=v1R x1;refine go 2 ?_;refine a0D (t0B rfl rfl (by first|decide| (simp only[IntKind.bits];omega))) ?_;refine go 1 ?_;refine a0D (o0O rfl rfl) ?_;rw[s2O];refine go 1 ?_;refine a0D (b0N Sc.o rfl (k2P x1 _ (by simp))) ?_;refine a0D (w0I rfl rfl) ?_;refine go 2 ?_;rw[shr4,x0L];generalize hx2:(x1 >>> 4 ^^^ Crc.tab (x1 &&& 15#32))=x2;refine go 1 ?_;have h152:=v1R x2;refine go 2 ?_;refine a0D (t0B rfl rfl (by first|decide| (simp only[IntKind.bits];omega))) ?_;refine go 1 ?_;refine a0D (o0O rfl rfl) ?_;rw[s2O];refine go 1 ?_;refine a0D (b0N Sc.o rfl (k2P x2 _ (by simp))) ?_;refine a0D (w0I rfl rfl) ?_;refine go 2 ?_;rw[shr4,x0L];have hfin:x2 >>> 4 ^^^ Crc.tab (x2 &&& 15#32)=Crc.run (Crc.run (~~~ 0#32) (n0P (ss.take i))) (ss[i].data.toList.take (j+1)):=by
    rw[p2U _ _ _ hjl,hx0,hc0,Crc.t2Q,hx1];unfold Crc.nib;rw[hx2]
   rw[hfin];refine go 5 ?_;exact rd idh (⟨j+1,hjt⟩)
  ·have hje:j=ss[i].size:=by have:=of_decide_eq_false hb20;omega
   have hrun:Crc.run (Crc.run (~~~ 0#32) (n0P (ss.take i))) (ss[i].data.toList.take j)=Crc.run (~~~ 0#32) (n0P (ss.take (i+1))):=by
    have htk:ss[i].data.toList.take j=ss[i].data.toList:=List.take_of_length_le (by rw[hsl];omega);rw[v1S ss i hlt,Crc.l1J,htk]
   rw[hrun];refine go 6 ?_;exact rd idh (⟨i+1,hlt⟩)
 ·have hie:i=ss.length:=by have:=of_decide_eq_false hb13;omega
  rw[List.take_of_length_le (by omega)];refine go 5 ?_;refine a0D (d2K rfl) ?_;refine go 3 ?_;exact rG (hu:=(by rw[v2A];rfl))
theorem p2V (b cap:Nat) (ss:List ByteArray) (hn:ss.length≤maxLen) (hs: ∀s∈ss,s.size≤maxLen):
 a0G prog 160 #[.slice (some ⟨b,0,none⟩) ss.length cap] [pts b (.cells (ss.map Value.string).toArray 9 (0,0))] (a0T (.int .u32 ((Crc.crc (n0P ss)).toNat:Int)) []):=by
 refine a0G.weak (k2Q _ cap ss _ hn hs (fun i h=>⟨_,rfl,fun w L hsat=> ?_⟩));have hb:=hsat.pts;simp[World.cell?,j0C,hb,h]
theorem s0V (b cap:Nat) (s:ByteArray) (hs:s.size≤maxLen):
 a0G prog 160 #[.slice (some ⟨b,0,none⟩) 1 cap] [pts b (.cells #[.string s] 9 (0,0))] (a0T (.int .u32 ((Crc.crc s.data.toList).toNat:Int)) []):=by
 have:=p2V b cap [s] (by simp[maxLen]) (by simpa using hs);simpa [n0P] using this
end Go.Proofs.Q
namespace Go.Proofs.Q
open Go.Sl Go.Sb Tryz
def g1Y (n:Nat) (l:B):Out B×B:=if l.length<n then(.err 2,l)else(.ok (l.take n),l.drop n)
def o1N (k:Nat) (l:B):Out Nat×B:=if l.length<k then(.err 2,l)else(.ok (be (l.take k)),l.drop k)
def g1Z (l:B):Out Unit×B:=if l= []then(.ok (),[])else(.err 1,l)
def h1A (l:B):Out Unit×B:=if a0R l then(.ok (),[])else(.err 1,l)
def u64V (n:Nat):Value:= .int .u64 n
theorem q1K {n:Nat} {l:B} {e:Int} {t:B} (h:g1Y n l=(.err e,t)):l.length<n∧e=2:=by
 unfold g1Y at h;split at h
 ·rename_i h';cases h;exact⟨h',rfl⟩
 ·cases h
theorem v1T {n:Nat} {l a t:B} (h:g1Y n l=(.ok a,t)):n≤l.length∧a=l.take n∧t=l.drop n:=by
 unfold g1Y at h;split at h
 ·cases h
 ·rename_i h';cases h;exact⟨by omega,rfl,rfl⟩
theorem v1U {n:Nat} {l:B} {e:Int} {t:B} (h:o1N n l=(.err e,t)):l.length<n∧e=2:=by
 unfold o1N at h;split at h
 ·rename_i h';cases h;exact⟨h',rfl⟩
 ·cases h
theorem c2D {n:Nat} {l t:B} {a:Nat} (h:o1N n l=(.ok a,t)):n≤l.length∧a=be (l.take n)∧t=l.drop n:=by
 unfold o1N at h;split at h
 ·cases h
 ·rename_i h';cases h;exact⟨by omega,rfl,rfl⟩
theorem q1L {l:B} {e:Int} {t:B} (h:g1Z l=(.err e,t)):l≠ []∧e=1:=by
 unfold g1Z at h;split at h
 ·cases h
 ·rename_i h';cases h;exact⟨h',rfl⟩
theorem v1V {l t:B} {x:Unit} (h:g1Z l=(.ok x,t)):l= []:=by
 unfold g1Z at h;split at h
 ·assumption
 ·cases h
theorem q1M {l:B} {e:Int} {t:B} (h:h1A l=(.err e,t)):a0R l=false∧e=1:=by
 unfold h1A at h;split at h
 ·cases h
 ·rename_i h';cases h;exact⟨by simpa using h',rfl⟩
theorem v1W {l t:B} {x:Unit} (h:h1A l=(.ok x,t)):a0R l=true:=by
 unfold h1A at h;split at h
 ·assumption
 ·cases h
theorem m1F (b:Nat) (l:B) (n:Nat) (hs:l.length≤1000000):a0G prog 130 #[ptr b,.int .i64 n] [q0Z b l] (Ran fT (fun l=> [q0Z b l]) b0C (g1Y n l)):=by
 unfold g1Y;split
 ·rename_i h;exact u1X b (bs l) n (by rw[b0H];exact h) (by rw[b0H];exact hs)
 ·rename_i h;exact u0N b l n (by omega) hs
theorem q1N (b:Nat) (l:B) (k:Nat) (hk:1≤k∧k≤8) (hs:l.length≤1000000):a0G prog 129 #[ptr b,.int .i64 k] [q0Z b l] (Ran fT (fun l=> [q0Z b l]) u64V (o1N k l)):=by
 unfold o1N;split
 ·rename_i h;exact p2G b l k hk h hs
 ·rename_i h;exact a1W b l k hk (by omega) hs
theorem q1O {α:Type} {p:α→Bool} : ∀ {l:List α},l.dropWhile p= []↔ ∀x∈l,p x=true
 | []=>by simp
 |x::l=>by
  rw[List.dropWhile_cons];split
  ·rename_i h;rw[q1O (l:=l)];simp[h]
  ·rename_i h;simp[h]
theorem q1P {α:Type} {p:α→Bool} {x:α} : ∀ {l:List α},x∈l.takeWhile p→p x=true
 | [],h=>by simp at h
 |y::l,h=>by
  rw[List.takeWhile_cons]at h;split at h
  ·rename_i hy;rcases List.mem_cons.1 h with rfl|h
   ·exact hy
   ·exact q1P h
  ·simp at h
theorem p2W (l:B):Lib.trimB l 0= []↔a0R l=true:=by
 unfold Lib.trimB Lib.trimLeftB Lib.trimRightB a0R;rw[q1O];constructor
 ·intro h;refine List.all_eq_true.2 fun x hx=> ?_;by_cases hx0:x=0
  ·simp[hx0]
  ·exfalso;have hm:x∈(l.reverse.dropWhile (· == 0)).reverse:=by
    rw[List.mem_reverse];have h1:x∈l.reverse:=List.mem_reverse.2 hx;rw[←List.takeWhile_append_dropWhile (p:=(· == 0)) (l:=l.reverse)]at h1;rcases List.mem_append.1 h1 with h2|h2
    ·have:=q1P h2;simp at this;exact(hx0 this).elim
    ·exact h2
   have:=h x hm;simp at this;exact hx0 this
 ·intro h x hx;have h1:=List.mem_reverse.1 hx;have h2:=(List.dropWhile_sublist _).mem h1;exact(List.all_eq_true.1 h) x (List.mem_reverse.1 h2)
theorem f2S (l:B) (h:l.length≤1000000):a0G prog 224 #[b0C l,.string ⟨#[0]⟩] [] (a0T (b0C (Lib.trimB l 0)) []):=by
 refine i2T fun w=> ?_;have h:=Tryz.strings_Trim_one (bs l) 0 (by decide) w (by rw[b0H];omega);rw[m0D]at h;exact h
theorem c0G (l:B):(bs l).toList=l:=by rw[ByteArray.toList_eq]
theorem o1O (l:B):((bs (Lib.trimB l 0)).toList == (⟨#[]⟩:ByteArray).toList)=a0R l:=by
 rw[show(⟨#[]⟩:ByteArray)=bs []from rfl,c0G,c0G,Bool.eq_iff_iff,beq_iff_eq];exact p2W l
theorem z0H (l:B) (h:l.length≤1000000):a0G prog 198 #[b0C l] [] (a0T (.bool (a0R l)) []):=by
 refine en func198 ntmps198 fun R w0=> ?_;refine cg 8 (f2S l h) ?_;refine a0D (s0O rfl rfl) ?_;refine go 2 ?_;rw[o1O];refine go 1 ?_;exact rG
theorem m1G (b:Nat) (l:B) (h:l.length≤1000000):a0G prog 186 #[ptr b] [q0Z b l] (Ran fT (fun l=> [q0Z b l]) i0S (h1A l)):=by
 unfold h1A;by_cases h0:a0R l=true
 ·rw[if_pos h0];refine en func186 ntmps186 fun R w0=> ?_;refine cg 7 (f2S l h) ?_;refine a0D (i0M rfl rfl) ?_;refine go 2 ?_;refine b0S rfl (by rw[o1O,h0];rfl) ?_;refine go 8 ?_;refine d0Q rfl rfl gSp
 ·rw[if_neg h0];refine en func186 ntmps186 fun R w0=> ?_;refine cg 7 (f2S l h) ?_;refine a0D (i0M rfl rfl) ?_;refine go 2 ?_;refine d0P rfl (by rw[o1O];simp[h0]) ?_;refine go 1 ?_;refine c0A rfl Hb.o rfl (c0M 1) gSp ?_;refine ns ?_;refine pn ?_;refine d0U idh (b0A.back gSp) ⟨rfl,rfl⟩
theorem m1H (b:Nat) (l:B):a0G prog 185 #[ptr b] [q0Z b l] (Ran fT (fun l=> [q0Z b l]) i0S (g1Z l)):=by
 unfold g1Z;by_cases h0:l= []
 ·rw[if_pos h0];subst h0;refine en func185 ntmps185 fun R w0=> ?_;refine go 6 ?_;refine a0D (i0M rfl rfl) ?_;refine go 2 ?_;refine b0S rfl (by rw[show(⟨#[]⟩:ByteArray)=bs []from rfl,c0G];rfl) ?_;refine go 1 ?_;refine d0Q rfl rfl gSp
 ·rw[if_neg h0];refine en func185 ntmps185 fun R w0=> ?_;refine go 6 ?_;refine a0D (i0M rfl rfl) ?_;refine go 2 ?_;refine d0P rfl (by rw[show(⟨#[]⟩:ByteArray)=bs []from rfl,c0G,c0G];simp[h0]) ?_;refine go 1 ?_;refine c0A rfl Hb.o rfl (c0M 1) gSp ?_;refine ns ?_;refine pn ?_;refine d0U idh (b0A.back gSp) ⟨rfl,rfl⟩
theorem w0T (l:B) (h:l.length=32):a0G prog 14 #[d0X l] [] (a0T (b0C l) []):=by
 unfold d0X;refine en func14 ntmps14 fun R w0=> ?_;refine go 2 ?_;refine bx fun b1=> ?_;refine go 5 ?_;refine a0D (b1Q Tar.o rfl) ?_;refine a0D (e1C Tsl.o Tst.o Tby.o rfl (l:=l) h (by simp[Value.cells];exact List.take_of_length_le (by simp[h]))) ?_;refine go 3 ?_;exact rG
theorem f1H (b:Nat) (v:Value) (l:List UInt8) (h1:v.oneCell'=true):a0G prog 83 #[.pointer (some ⟨b,0,none⟩)] (o0Y b v l) (a0T (.string (bs l)) (o0Y b v l)):=by
 refine en func83 ntmps83 fun R w0=> ?_;refine go 11 ?_;refine a0D (y0V Tsl.o Tst.o Tby.o rfl gFd) ?_;refine go 3 ?_;exact rG
theorem f1I (x:Int):IntKind.u64.wrap x=((u64 x:Nat):Int):=by
 simp only[IntKind.wrap,IntKind.bits,IntKind.signed,Bool.false_and,Bool.false_eq_true,if_false,u64];omega
theorem v1X (x:Int):u64 x<18446744073709551616:=by unfold u64;omega
theorem y0L (b:B):g0G b<4294967296:=Nat.lt_of_lt_of_eq (g1P b) (by decide)
def hdL (x:Hd):List Value:=x.at_.map a0H++((x.sums.map fun n:Nat=>Value.int .u32 n)++x.sum.map a0Q)
def hdV (x:Hd):Value:= .agg (hdL x).toArray
structure z0I (x:Hd):Prop where
 n:x.at_.length=4
 m:x.sums.length=4
 sums: ∀c∈x.sums,c<4294967296
 sum:x.sum.length=32
theorem f1J {α:Type} (f:α→B) (l:List α) (i:Nat) (h:i<l.length):(l.take (i+1)).flatMap f=(l.take i).flatMap f++f l[i]:=by
 rw[List.take_succ,List.getElem?_eq_getElem h,List.flatMap_append];simp
theorem i0E {α:Type} (f:α→Value) (l:List α) (i k:Nat) (h:i<l.length) (hk:k=i):nth (l.map f) k=some (f l[i]):=by
 subst hk;rw[e0F,List.getElem?_map,List.getElem?_eq_getElem h];rfl
theorem d0Y {a b c:List Value} {o n:Nat} (ha:a.length=o) (hb:b.length=n):(a++(b++c)).toArray.extract o (o+n)=b.toArray:=by
 apply Array.ext';simp only[Array.toList_extract,List.extract_eq_take_drop];rw[List.drop_left' ha,show o+n-o=n by omega,List.take_left' hb]
set_option maxRecDepth 4000 in
theorem v1Y (x:Hd) (h:z0I x):a0G prog 203 #[hdV x] [] (a0T (b0C (h0Z x)) []):=by
 obtain⟨hn,hm,hs,hu⟩:=h;unfold hdV;have l1: ∀i,((x.at_.take i).flatMap (num · 2)).length≤8:=fun i=>by rw[i0J (k:=2) fun a=>k0H a 2];simp;omega
 have l2: ∀i,((x.sums.take i).flatMap fun s=>beB s 4 4).length≤16:=fun i=>by rw[i0J (k:=4) fun a=>m0P a 4 4];simp;omega
 have c1:(x.at_.map a0H).length=4:=by simp[hn]
 have c2:(x.sums.map fun n:Nat=>Value.int .u32 n).length=4:=by simp[hm]
 have c3:(x.sum.map a0Q).length=32:=by simp[hu]
 refine en func203 ntmps203 fun R w0=> ?_;refine go 2 ?_;refine bx fun b1=> ?_;refine go 5 ?_;refine al fun b3=> ?_;refine go 3 ?_;refine b0U (L':=o0Y b3 (.slice none 0 0) []++ [pts b1 (.cells (hdL x).toArray 230 (0,0)),R]) (fun w h=>(f0E 5 1 w h).perm (List.Perm.swap _ _ _)) ?_;refine ns ?_;refine ce 1 (t0S b3 (.slice none 0 0) [] ⟨#[69]⟩ (by simp) (by decide) rfl) ?_;rintro v9 hv9;refine ns ?_;refine go 6 ?_;refine a0D (a0K Ag.o rfl (by simp[hdL,c1,c2,c3]) (d0Y (a:= []) rfl c1)) ?_;refine go 4 ?_;refine a0V (X:= {y:Nat×Value // y.1≤4∧y.2.oneCell'=true}) (fun y=> [(1,ptr b1),(3,ptr b3),(11,.agg (x.at_.map a0H).toArray),(12,.int .i64 y.1.1)]) (fun y=>o0Y b3 y.1.2 ([69]++(x.at_.take y.1.1).flatMap (num · 2))++ [pts b1 (.cells (hdL x).toArray 230 (0,0)),R]) (fun y=>4-y.1.1) ⟨(0,v9),by omega,hv9⟩ gSu gSp ?_;rintro⟨⟨i,v⟩,hi,hv⟩ m0 hm0
 try simp only at hm0
 try dsimp only
 simp only at hi hv;refine ns ?_;refine go 6 ?_;refine a0O rfl (fun hb13=> ?_) (fun hb13=> ?_)
 ·have hi4:i<4:=by have:=of_decide_eq_true hb13;omega
  have hil:i<x.at_.length:=by omega
  refine go 6 ?_;refine a0D (o0P Tar.o Sc.o rfl rfl (by omega) (i0E a0H x.at_ i _ hil (by omega))) ?_;refine go 6 ?_;rw[f1I];refine d0Z rfl Hb.o rfl (s0U b3 v (69::(x.at_.take i).flatMap (num · 2)) (u64 x.at_[i]) 2 (by omega) (by have:=l1 i;(try simp only[List.length_cons,List.length_append,List.length_nil]);omega) hv (v1X _)) gSp ?_;rintro v17 hv17;refine ns ?_;refine go 1 ?_;rw[show(x.at_.take i).flatMap (num · 2)++beB (u64 x.at_[i]) 2 2=(x.at_.take (i+1)).flatMap (num · 2)from(f1J (num · 2) x.at_ i hil).symm];refine go 5 ?_;exact rd idh (⟨(i+1,v17),hi4,hv17⟩)
 ·obtain rfl:i=4:=by have:=of_decide_eq_false hb13;omega
  rw[List.take_of_length_le (by omega)];have lA:=l1 4;rw[List.take_of_length_le (by omega)]at lA;generalize hA:x.at_.flatMap (num · 2)=A at lA ⊢;have l3: ∀i,(A++(x.sums.take i).flatMap fun s=>beB s 4 4).length≤24:=fun i=>by have:=l2 i;rw[List.length_append];omega
  refine go 6 ?_;refine a0D (a0K Ag.o rfl (by simp[hdL,c1,c2,c3]) (d0Y c1 c2)) ?_;refine go 4 ?_;rw[show(69::A:B)=69::(A++(x.sums.take 0).flatMap (fun s=>beB s 4 4))from by simp];refine a0V (X:= {y:Nat×Value // y.1≤4∧y.2.oneCell'=true}) (fun y=> [(1,ptr b1),(3,ptr b3),(20,.agg (x.sums.map fun n:Nat=>Value.int .u32 n).toArray),(21,.int .i64 y.1.1)]) (fun y=>o0Y b3 y.1.2 (69::(A++(x.sums.take y.1.1).flatMap (fun s=>beB s 4 4)))++ [pts b1 (.cells (hdL x).toArray 230 (0,0)),R]) (fun y=>4-y.1.1) ⟨(0,v),by omega,hv⟩ gSu gSp ?_;rintro⟨⟨i,v'⟩,hi',hv'⟩ m2 hm2
  try simp only at hm2
  try dsimp only
  simp only at hi' hv';refine ns ?_;refine go 6 ?_;refine a0O rfl (fun hb22=> ?_) (fun hb22=> ?_)
  ·have hi4:i<4:=by have:=of_decide_eq_true hb22;omega
   have hil:i<x.sums.length:=by omega
   have hsl:=hs x.sums[i] (List.getElem_mem hil);refine go 6 ?_;refine a0D (o0P Tar.o Sc.o rfl rfl (by omega) (i0E (fun n:Nat=>Value.int .u32 n) x.sums i _ hil (by omega))) ?_;refine go 6 ?_;rw[q0Y _ _ rfl (by omega)];refine ce 0 (s0U b3 v' (69::(A++(x.sums.take i).flatMap fun s=>beB s 4 4)) x.sums[i] 4 (by omega) (by have:=l3 i;(try simp only[List.length_cons]);omega) hv' (by omega)) ?_;rintro v26 hv26;refine ns ?_;refine go 1 ?_;rw[List.append_assoc,show(x.sums.take i).flatMap (fun s=>beB s 4 4)++beB x.sums[i] 4 4=(x.sums.take (i+1)).flatMap (fun s=>beB s 4 4)from(f1J (fun s=>beB s 4 4) x.sums i hil).symm];refine go 5 ?_;exact rd idh (⟨(i+1,v26),hi4,hv26⟩)
  ·obtain rfl:i=4:=by have:=of_decide_eq_false hb22;omega
   rw[List.take_of_length_le (by omega)];have lS:=l3 4;rw[List.take_of_length_le (by omega)]at lS;generalize hS:A++x.sums.flatMap (fun s=>beB s 4 4)=S at lS ⊢;have hl57:(69::(S++x.sum)).length≤60:=by simp only[List.length_cons,List.length_append];omega
   have hpl:=q0T hl57;refine go 5 ?_;refine a0D (a0K (v:=(x.sum.map a0Q).toArray) Ag.o rfl (by simp only[hdL,List.size_toArray,List.length_append,c1,c2,c3];omega) (by rw[show hdL x=(x.at_.map a0H++(x.sums.map fun n:Nat=>Value.int .u32 n))++(x.sum.map a0Q++ []) by simp[hdL]];exact d0Y (by rw[List.length_append,c1,c2]) c3)) ?_;refine cg 0 (w0T x.sum hu) ?_;refine ce 0 (t0S b3 v' (69::S) (bs x.sum) (by simp only[List.length_cons];omega) (by rw[b0H,hu];omega) hv') ?_;rintro v31 hv31;refine ns ?_
   try rw[m0D]
   refine ce 0 (c1T b3 v31 (69::(S++x.sum)) 60 hl57 (by omega) hv31) ?_;rintro v32 hv32;refine ns ?_;refine b0X rfl Hb.o rfl (f1H b3 v32 _ hv32) gSp ?_;refine ns ?_;refine go 6 ?_;refine bl fun b35=> ?_;refine b0X rfl Hb.o rfl (s0V b35 1 _ (by rw[b0H,hpl];simp[maxLen])) gSp ?_;refine ns ?_;refine go 1 ?_;rw[show((Crc.crc (g0E 60 (69::(S++x.sum)))).toNat:Int)=(g0G (g0E 60 (69::(S++x.sum))):Nat)from rfl,q0Y _ _ rfl (by have:=y0L (g0E 60 (69::(S++x.sum)));omega)];refine ce 0 (s0U b3 v32 (g0E 60 (69::(S++x.sum))) (g0G (g0E 60 (69::(S++x.sum)))) 4 (by omega) (by rw[hpl];omega) hv32 (by have:=y0L (g0E 60 (69::(S++x.sum)));omega)) ?_;rintro v38 hv38;refine ns ?_;refine b0X rfl Hb.o rfl (v0K b3 v38 _ hv38) gSp ?_;refine ns ?_;refine go 3 ?_;exact rG (hu:=(by unfold h0Z v0C;simp only[List.cons_append,List.nil_append,List.append_assoc];rw[←hS,←hA];simp only[List.append_assoc]))
theorem k2R {s:B} (h:s.length<60):i0A s= .err 2:=by unfold i0A;rw[if_pos h]
theorem k2S {s:B} (h1:60≤s.length) (h:s.length<64):i0A s= .err 2:=by unfold i0A;rw[if_neg (by omega),if_pos h]
theorem k2T {s:B} (h1:64≤s.length) (h:be ((s.drop 60).take 4)≠g0G (s.take 60)):i0A s= .err 11:=by unfold i0A;rw[if_neg (by omega),if_neg (by omega),if_pos h]
theorem k2U {s:B} (h1:64≤s.length) (h:be ((s.drop 60).take 4)=g0G (s.take 60)) (h2:s.length≠64):i0A s= .err 1:=by unfold i0A;rw[if_neg (by omega),if_neg (by omega),if_neg (by simp[h]),if_pos h2]
theorem k2V {s:B} (h:be ((s.drop 60).take 4)=g0G (s.take 60)) (h2:s.length=64):i0A s= .ok (s.take 60):=by unfold i0A;rw[if_neg (by omega),if_neg (by omega),if_neg (by simp[h]),if_neg (by simp[h2])]
theorem h1B {s:B} {e:Int} (h:i0A s= .err e):((i0B s,()):Out Hd×Unit)=(.err e,()):=by unfold i0B;rw[h]
theorem v2B {s:B} (h:i0A s= .ok (s.take 60)) (h1:(s.take 60).take 1≠ [69]):((i0B s,()):Out Hd×Unit)=(.err 1,()):=by unfold i0B;rw[h];simp only;rw[if_pos h1]
theorem p2X {s:B} (h:i0A s= .ok (s.take 60)) (h1:(s.take 60).take 1= [69]) (h2:a0R ((s.take 60).drop 57)=false):((i0B s,()):Out Hd×Unit)=(.err 1,()):=by
 unfold i0B;rw[h];simp only;rw[if_neg (by simp[h1]),if_pos h2]
theorem y2A {s:B} (h:i0A s= .ok (s.take 60)) (h1:(s.take 60).take 1= [69]) (h2:a0R ((s.take 60).drop 57)=true):
 ((i0B s,()):Out Hd×Unit)=(.ok {at_:=(g0Y 2 4 ((s.take 60).drop 1)).map Int.ofNat,sums:=g0Y 4 4 ((s.take 60).drop 9),sum:=((s.take 60).drop 25).take 32},()):=by
 unfold i0B;rw[h];simp only;rw[if_neg (by simp[h1]),if_neg (by simp[h2])]
theorem y0M (k:Nat): ∀(n:Nat) (l:B) (i:Nat) (h:i<(g0Y k n l).length),(g0Y k n l)[i]=be ((l.drop (k*i)).take k)
 |0,_,i,h=>by simp[g0Y]at h
 |n+1,l,0,h=>by simp[g0Y]
 |n+1,l,i+1,h=>by
  have h':i<(g0Y k n (l.drop k)).length:=by simpa [g0Y] using h
  have:=y0M k n (l.drop k) i h';simp only[g0Y,List.getElem_cons_succ];rw[this,List.drop_drop,Nat.mul_succ,Nat.add_comm]
def m0N (pre l:List Value) (n:Nat) (z:Value) (i:Nat) (rest:List Value):List Value:=pre++(l.take i++(List.replicate (n-i) z++rest))
theorem y0N {pre l rest:List Value} {z v:Value} {n i o:Nat} (hl:l.length=n) (hi:i<n) (ho:o=pre.length+i) (hv:l[i]? =some v):(m0N pre l n z i rest).set o v=m0N pre l n z (i+1) rest:=by
 subst ho;unfold m0N;have h1:(l.take i).length=i:=by simp;omega
 obtain⟨m,hm⟩: ∃m,n-i=m+1:=⟨n-i-1,by omega⟩;rw[List.set_append_right _ _ (by omega),show pre.length+i-pre.length=i by omega,List.set_append_right _ _ (by omega),h1,Nat.sub_self,hm,List.replicate_succ];simp only[List.cons_append,List.set_cons_zero];rw[show n- (i+1)=m by omega,List.take_succ,hv];simp
theorem y0O {pre l rest:List Value} {z:Value} {n i:Nat} (hl:l.length=n) (hi:i≤n):(m0N pre l n z i rest).length=pre.length+(n+rest.length):=by unfold m0N;simp;omega
theorem v0W {pre l rest:List Value} {z:Value} {n:Nat} (hl:l.length=n):m0N pre l n z n rest=pre++(l++rest):=by unfold m0N;rw[List.take_of_length_le (by omega),Nat.sub_self];rfl
theorem k2W {pre l rest:List Value} {z:Value} {n:Nat} :m0N pre l n z 0 rest=pre++(List.replicate n z++rest):=by unfold m0N;simp
theorem v1Z {A C D:List Value} {l:B} {n m k:Nat} (ha:A.length+C.length=k) (hd:D.length=n) (hl:l.length=n) (hm:m=n):
 (A++(C++D)).take k++((bs l).data.toList.take m).map a0Q++(A++(C++D)).drop (k+min (bs l).size m)=A++(C++l.map a0Q):=by
 subst hm;have e:l.take m=l:=List.take_of_length_le (by omega);rw[b0H,m0D,hl,Nat.min_self,e,←List.append_assoc A C D,List.take_left' (by simp;omega),List.drop_eq_nil_of_le (by simp;omega)];simp
theorem z0J (k i:Nat) (l:B):(l.drop (k*i)).drop k=l.drop (k*(i+1)):=by rw[List.drop_drop];rfl
theorem c2E (l:B):be (l.take 2)<65536:=Nat.lt_of_lt_of_le (l1U _) (Nat.pow_le_pow_right (n:=256) (j:=2) (by decide) (by simp;omega))
theorem h1C (l:B):be (l.take 4)<4294967296:=Nat.lt_of_lt_of_le (l1U _) (Nat.pow_le_pow_right (n:=256) (j:=4) (by decide) (by simp;omega))
set_option maxRecDepth 4000 in
theorem w1A (s:B) (hs:s.length≤1000000):a0G prog 192 #[b0C s] [] (Ran fT (fun _:Unit=> []) hdV (i0B s,())):=by
 have hb4:=h1C (s.drop 60);refine en func192 ntmps192 fun R w0=> ?_;refine go 2 ?_;refine al fun b2=> ?_;refine ce 5 (z0G (bs s)) ?_;rintro b9 _;refine ns ?_;refine go 6 ?_;refine a0U rfl Hb.o rfl (m1F b9 s 60 hs) gSp (fun a t ho=> ?_) (fun e t ho=>by refine pn ?_;exact kx ((by obtain⟨h1,rfl⟩:=q1K ho;exact h1B (k2R h1))));refine ns ?_;obtain⟨h1,rfl,rfl⟩:=v1T ho;refine go 7 ?_;refine a0U rfl Hb.o rfl (q1N b9 (s.drop 60) 4 (by omega) (by simp;omega)) gSp (fun n t ho=> ?_) (fun e t ho=>by refine pn ?_;exact kx ((by obtain⟨h2,rfl⟩:=v1U ho;exact h1B (k2S h1 (by simp at h2;omega)))));refine ns ?_;obtain⟨h2,rfl,rfl⟩:=c2D ho;refine go 1 ?_;rw[show IntKind.u32.wrap ((be ((s.drop 60).take 4):Nat):Int)=(be ((s.drop 60).take 4):Nat)from by rw[IntKind.wrap_u32];omega];refine go 1 ?_;refine bl fun b16=> ?_;refine cg 0 (s0V b16 1 (bs (s.take 60)) (by rw[b0H];simp[maxLen];omega)) ?_;rw[show((Crc.crc (s.take 60)).toNat:Int)=(g0G (s.take 60):Nat)from rfl];refine go 3 ?_;refine a0O rfl (fun hb18=> ?_) (fun hb18=> ?_)
 ·refine go 1 ?_;refine c0A rfl Hb.o rfl (c0M 11) gSp ?_;refine ns ?_;refine pn ?_;exact b0W (h1B (k2T (by simp at h2;omega) (by have h:=hb18;simp at h;omega))) idh gSp
 ·have hcr:be ((s.drop 60).take 4)=g0G (s.take 60):=by have h:=hb18;simp at h;omega
  refine go 5 ?_;refine a0U rfl Hb.o rfl (m1H b9 ((s.drop 60).drop 4)) gSp (fun u t3 ho=> ?_) (fun e t ho=>by refine pn ?_;exact kx ((by obtain⟨h3,rfl⟩:=q1L ho;exact h1B (k2U (by simp at h2;omega) hcr (fun e=>h3 (List.eq_nil_of_length_eq_zero (by simp;omega)))))));refine ns ?_;refine go 3 ?_;have h3:=congrArg List.length (v1V ho);have h64:s.length=64:=by simp at h3 h2;omega
  have hop:=k2V hcr h64;have ht60:(s.take 60).length=60:=by simp;omega
  generalize hT:s.take 60=T at hop ht60 ⊢;refine ce 2 (z0G (bs T)) ?_;rintro b23 _;refine ns ?_;refine cg 7 (u0N b23 T 1 (by omega) (by omega)) ?_;refine a0D (i0M rfl rfl) ?_;refine go 2 ?_;refine a0O rfl (fun hb26=> ?_) (fun hb26=> ?_)
  ·refine go 1 ?_;refine c0A rfl Hb.o rfl (c0M 1) gSp ?_;refine ns ?_;refine pn ?_;exact b0W (v2B (by rw[hT];exact hop) (by rw[hT];have:=hb26;intro e;rw[e]at this;simp at this)) idh gSp
  ·have htag:T.take 1= [69]:=by
    have h:=hb26;rw[show(⟨#[69]⟩:ByteArray)=bs [69]from rfl,c0G,c0G]at h;simpa using h
   have hn1:=l0I 2 4 (T.drop 1);have hn2:=l0I 4 4 (T.drop 9);have hi1:((g0Y 2 4 (T.drop 1)).map fun n:Nat=>a0H n).length=4:=by rw[List.length_map,hn1]
   have hi2:((g0Y 4 4 (T.drop 9)).map fun n:Nat=>Value.int .u32 n).length=4:=by rw[List.length_map,hn2]
   refine go 4 ?_;refine al fun b5=> ?_;refine go 9 ?_;refine a0V (X:= {i:Nat // i≤4}) (fun y=> [(2,ptr b2),(3,ptr b23),(5,ptr b5),(28,.int .i64 y.1)]) (fun y=> [pts b5 (.cells (m0N [] ((g0Y 2 4 (T.drop 1)).map fun n:Nat=>a0H n) 4 (a0H 0) y.1 (List.replicate 4 (Value.int .u32 0)++List.replicate 32 (Value.int .u8 0))).toArray 230 (0,0)),q0Z b23 ((T.drop 1).drop (2*y.1)),pts b2 (.cells (List.replicate 4 (a0H 0)++(List.replicate 4 (Value.int .u32 0)++List.replicate 32 (Value.int .u8 0))).toArray 230 (0,0)),R]) (fun y=>4-y.1) ⟨0,by omega⟩ gSu gSp ?_;rintro⟨i,hi⟩ m0 hm0
   try simp only at hm0
   try dsimp only
   skip;refine go 6 ?_;refine a0O rfl (fun hb29=> ?_) (fun hb29=> ?_)
   ·have hi4:i<4:=by have:=of_decide_eq_true hb29;omega
    have hil:i<(g0Y 2 4 (T.drop 1)).length:=by omega
    refine cg 13 (a1W b23 ((T.drop 1).drop (2*i)) 2 (by omega) (by simp;omega) (by simp;omega)) ?_;refine go 1 ?_;have hb2:=c2E ((T.drop 1).drop (2*i));rw[show IntKind.i64.wrap ((be (((T.drop 1).drop (2*i)).take 2):Nat):Int)=(be (((T.drop 1).drop (2*i)).take 2):Nat)from e0P _ _ (by omega) (by simp only[IntKind.bits];omega)];refine go 2 ?_;refine d0T Sz.o rfl rfl rfl (by rw[y0O hi1 (by omega)];simp;omega) (y0N hi1 hi4 (by simp) (by rw[List.getElem?_map,List.getElem?_eq_getElem hil,y0M];rfl)) ?_;refine go 1 ?_;rw[z0J 2 i];refine go 5 ?_;exact rd idh (⟨i+1,hi4⟩)
   ·obtain rfl:i=4:=by have:=of_decide_eq_false hb29;omega
    rw[v0W hi1];refine go 9 ?_;rw[List.drop_drop,show((g0Y 2 4 (T.drop 1)).map fun n:Nat=>a0H n)++(List.replicate 4 (Value.int .u32 0)++List.replicate 32 (Value.int .u8 0))=m0N ((g0Y 2 4 (T.drop 1)).map fun n:Nat=>a0H n) ((g0Y 4 4 (T.drop 9)).map fun n:Nat=>Value.int .u32 n) 4 (Value.int .u32 0) 0 (List.replicate 32 (Value.int .u8 0))from k2W.symm,List.nil_append];refine a0V (X:= {i:Nat // i≤4}) (fun y=> [(2,ptr b2),(3,ptr b23),(5,ptr b5),(38,.int .i64 y.1)]) (fun y=> [pts b5 (.cells (m0N ((g0Y 2 4 (T.drop 1)).map fun n:Nat=>a0H n) ((g0Y 4 4 (T.drop 9)).map fun n:Nat=>Value.int .u32 n) 4 (Value.int .u32 0) y.1 (List.replicate 32 (Value.int .u8 0))).toArray 230 (0,0)),q0Z b23 ((T.drop 9).drop (4*y.1)),pts b2 (.cells (List.replicate 4 (a0H 0)++(List.replicate 4 (Value.int .u32 0)++List.replicate 32 (Value.int .u8 0))).toArray 230 (0,0)),R]) (fun y=>4-y.1) ⟨0,by omega⟩ gSu gSp ?_;rintro⟨i,hi⟩ m2 hm2
    try simp only at hm2
    try dsimp only
    skip;refine go 6 ?_;refine a0O rfl (fun hb39=> ?_) (fun hb39=> ?_)
    ·have hi4:i<4:=by have:=of_decide_eq_true hb39;omega
     have hil:i<(g0Y 4 4 (T.drop 9)).length:=by omega
     refine cg 13 (a1W b23 ((T.drop 9).drop (4*i)) 4 (by omega) (by simp;omega) (by simp;omega)) ?_;refine go 1 ?_;have hb2:=h1C ((T.drop 9).drop (4*i));rw[show IntKind.u32.wrap ((be (((T.drop 9).drop (4*i)).take 4):Nat):Int)=(be (((T.drop 9).drop (4*i)).take 4):Nat)from by rw[IntKind.wrap_u32];omega];refine go 2 ?_;refine d0T Sz.o rfl rfl rfl (by rw[y0O hi2 (by omega)];simp;omega) (y0N hi2 hi4 (by rw[hi1];simp) (by rw[List.getElem?_map,List.getElem?_eq_getElem hil,y0M];rfl)) ?_;refine go 1 ?_;rw[z0J 4 i];refine go 5 ?_;exact rd idh (⟨i+1,hi4⟩)
    ·obtain rfl:i=4:=by have:=of_decide_eq_false hb39;omega
     rw[v0W hi2,List.drop_drop];refine go 3 ?_;refine mx (.r 0 3 (.hard 3 (.hard 4 .done))) [] ?_;refine go 1 ?_;refine d0A rfl (b1Q Tar.o rfl) ?_;refine cg 2 (u0N b23 (T.drop (9+4*4)) 32 (by simp;omega) (by simp;omega)) ?_;refine go 3 ?_;refine l1B Tsl.o rfl rfl (by rw[b0H];simp[l0I];omega) (v1Z (n:=32) (by rw[hi1,hi2]) (by simp) (by simp;omega) rfl) ?_;refine go 7 ?_;refine a0U rfl Hb.o rfl (m1G b23 ((T.drop (9+4*4)).drop 32) (by simp;omega)) gSp (fun u6 t6 ho=> ?_) (fun e t ho=>by refine pn ?_;exact kx ((by obtain⟨h6,rfl⟩:=q1M ho;exact p2X (by rw[hT];exact hop) (by rw[hT];exact htag) (by rw[hT,show(57:Nat)=9+4*4+32 from rfl,←List.drop_drop];exact h6))));refine ns ?_;refine go 3 ?_;have hz:=v1W ho;rw[List.drop_drop]at hz;have hsz: ∀l:B,l.length=32→(((g0Y 2 4 (T.drop 1)).map fun n:Nat=>a0H n)++(((g0Y 4 4 (T.drop 9)).map fun n:Nat=>Value.int .u32 n)++l.map a0Q)).toArray.size=40:=fun l hl=>by simp[l0I,hl]
     have hl32:((T.drop (9+4*4)).take 32).length=32:=by simp;omega
     generalize hU:(T.drop (9+4*4)).take 32=U at hl32 ⊢;refine go 1 ?_;refine a0D (a0K Ag.o rfl (by rw[hsz U hl32];omega) (a0I (hsz U hl32))) ?_;refine a0M Sz.o rfl rfl (hsz U hl32) (fun x hx=>by simp at hx;rcases hx with ⟨_,_,rfl⟩| ⟨_,_,rfl⟩| ⟨_,_,rfl⟩<;>rfl) (by rw[hsz U hl32];simp) (a0N (by rw[hsz U hl32];simp)) ?_;refine go 2 ?_;refine k0A (y2A (by rw[hT];exact hop) (by rw[hT];exact htag) (by rw[hT,show(57:Nat)=9+4*4+32 from rfl];exact hz)) idh (RV.agg Ag.o rfl (by rw[hsz U hl32];omega) (a0I (hsz U hl32)) RV.nil) ?_ gSp;show Value.agg _=Value.agg _;rw[hT,show(25:Nat)=9+4*4 from rfl,hU];simp[hdL,List.map_map,Function.comp_def]
def ndL (level:Int) (n:Nd):List Value:= [a0H level]++(n.kids.map a0H++n.sum.map a0Q)
def ndV (level:Int) (n:Nd):Value:= .agg (ndL level n).toArray
structure o0T (x:Nd):Prop where
 n:x.kids.length=8
 sum:x.sum.length=32
set_option maxRecDepth 4000 in
theorem w1B (level:Nat) (x:Nd) (h:o0T x):a0G prog 245 #[ndV level x] [] (a0T (b0C (j0L level x)) []):=by
 obtain⟨hn,hu⟩:=h;unfold ndV;have l1: ∀i,((x.kids.take i).flatMap (num · 2)).length≤16:=fun i=>by rw[i0J (k:=2) fun a=>k0H a 2];simp;omega
 have c1:(x.kids.map a0H).length=8:=by simp[hn]
 have c3:(x.sum.map a0Q).length=32:=by simp[hu]
 have n1:(num (level:Int) 1).length=1:=k0H _ _;refine en func245 ntmps245 fun R w0=> ?_;refine go 2 ?_;refine bx fun b1=> ?_;refine go 5 ?_;refine al fun b3=> ?_;refine go 3 ?_;refine b0U (L':=o0Y b3 (.slice none 0 0) []++ [pts b1 (.cells (ndL level x).toArray 182 (0,0)),R]) (fun w h=>(f0E 5 1 w h).perm (List.Perm.swap _ _ _)) ?_;refine ns ?_;refine mx (.r 1 3 (.hard 0 (.hard 4 .done))) [pts b1 (.cells (ndL level x).toArray 182 (0,0))] ?_;refine go 1 ?_;refine d0A rfl (b0N (v:=a0H level) Sc.o rfl (by rfl)) ?_;refine ce 2 (t0S b3 (.slice none 0 0) [] ⟨#[78]⟩ (by simp) (by decide) rfl) ?_;rintro v7 hv7;refine ns ?_;refine go 3 ?_;rw[f1I];refine d0Z rfl Hb.o rfl (s0U b3 v7 [78] (u64 level) 1 (by omega) (by simp) hv7 (v1X _)) gSp ?_;rintro v11 hv11;refine ns ?_;refine go 8 ?_;refine a0D (a0K Ag.o rfl (by simp[ndL,c1,c3]) (d0Y (a:= [a0H level]) rfl c1)) ?_;refine go 4 ?_;simp only[List.take_zero,List.flatMap_nil,List.append_nil];refine a0V (X:= {y:Nat×Value // y.1≤8∧y.2.oneCell'=true}) (fun y=> [(1,ptr b1),(3,ptr b3),(13,.agg (x.kids.map a0H).toArray),(14,.int .i64 y.1.1)]) (fun y=>o0Y b3 y.1.2 (78::(num level 1++(x.kids.take y.1.1).flatMap (num · 2)))++ [pts b1 (.cells (ndL level x).toArray 182 (0,0)),R]) (fun y=>8-y.1.1) ⟨(0,v11),by omega,hv11⟩ gSu gSp ?_;rintro⟨⟨i,v⟩,hi,hv⟩ m0 hm0
 try simp only at hm0
 try dsimp only
 simp only at hi hv;refine ns ?_;refine go 6 ?_;refine a0O rfl (fun hb15=> ?_) (fun hb15=> ?_)
 ·have hi8:i<8:=by have:=of_decide_eq_true hb15;omega
  have hil:i<x.kids.length:=by omega
  refine go 6 ?_;refine a0D (o0P Tar.o Sc.o rfl rfl (by omega) (i0E a0H x.kids i _ hil (by omega))) ?_;refine go 6 ?_;rw[f1I];refine d0Z rfl Hb.o rfl (s0U b3 v (78::(num level 1++(x.kids.take i).flatMap (num · 2))) (u64 x.kids[i]) 2 (by omega) (by have:=l1 i;simp only[List.length_cons,List.length_append,n1];omega) hv (v1X _)) gSp ?_;rintro v19 hv19;refine ns ?_;refine go 1 ?_;rw[List.append_assoc,show(x.kids.take i).flatMap (num · 2)++beB (u64 x.kids[i]) 2 2=(x.kids.take (i+1)).flatMap (num · 2)from(f1J (num · 2) x.kids i hil).symm];refine go 5 ?_;exact rd idh (⟨(i+1,v19),hi8,hv19⟩)
 ·obtain rfl:i=8:=by have:=of_decide_eq_false hb15;omega
  rw[List.take_of_length_le (by omega)];have lA:=l1 8;rw[List.take_of_length_le (by omega)]at lA;have lS:(num level 1++x.kids.flatMap (num · 2)).length≤17:=by rw[List.length_append,n1];omega
  generalize hS:num level 1++x.kids.flatMap (num · 2)=S at lS ⊢;have hl57:(78::(S++x.sum)).length≤60:=by simp only[List.length_cons,List.length_append];omega
  have hpl:=q0T hl57;refine go 5 ?_;refine a0D (a0K (v:=(x.sum.map a0Q).toArray) Ag.o rfl (by simp only[ndL,List.size_toArray,List.length_append,c1,c3,List.length_singleton];omega) (by rw[show ndL level x=([a0H level]++x.kids.map a0H)++(x.sum.map a0Q++ []) by simp[ndL]];exact d0Y (by rw[List.length_append,c1];rfl) c3)) ?_;refine cg 0 (w0T x.sum hu) ?_;refine ce 0 (t0S b3 v (78::S) (bs x.sum) (by simp only[List.length_cons];omega) (by rw[b0H,hu];omega) hv) ?_;rintro v24 hv24;refine ns ?_;refine ce 0 (c1T b3 v24 (78::(S++x.sum)) 60 hl57 (by omega) hv24) ?_;rintro v25 hv25;refine ns ?_;refine b0X rfl Hb.o rfl (f1H b3 v25 _ hv25) gSp ?_;refine ns ?_;refine go 6 ?_;refine bl fun b28=> ?_;refine b0X rfl Hb.o rfl (s0V b28 1 _ (by rw[b0H,hpl];simp[maxLen])) gSp ?_;refine ns ?_;refine go 1 ?_;rw[show((Crc.crc (g0E 60 (78::(S++x.sum)))).toNat:Int)=(g0G (g0E 60 (78::(S++x.sum))):Nat)from rfl,q0Y _ _ rfl (by have:=y0L (g0E 60 (78::(S++x.sum)));omega)];refine ce 0 (s0U b3 v25 (g0E 60 (78::(S++x.sum))) (g0G (g0E 60 (78::(S++x.sum)))) 4 (by omega) (by rw[hpl];omega) hv25 (by have:=y0L (g0E 60 (78::(S++x.sum)));omega)) ?_;rintro v31 hv31;refine ns ?_;refine b0X rfl Hb.o rfl (v0K b3 v31 _ hv31) gSp ?_;refine ns ?_;refine go 3 ?_;exact rG (hu:=(by unfold j0L v0C;simp only[List.cons_append,List.nil_append,List.append_assoc];rw[←hS];simp only[List.append_assoc]))
end Go.Proofs.Q

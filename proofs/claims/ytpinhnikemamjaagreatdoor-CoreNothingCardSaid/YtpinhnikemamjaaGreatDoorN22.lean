/- Part of the proof; no statement of its own. -/
import Derived.Test.YtpinhnikemamjaaGreatDoorN18
import Derived.Test.YtpinhnikemamjaaGreatDoorN21
import Derived.Test.YtpinhnikemamjaaGreatDoorN05
import Derived.Test.YtpinhnikemamjaaGreatDoorN04
import Derived.Test.YtpinhnikemamjaaGreatDoorN08
import Derived.Test.YtpinhnikemamjaaGreatDoorN06
import Derived.Test.YtpinhnikemamjaaGreatDoorN09
set_option linter.all false
set_option maxRecDepth 4000
set_option maxHeartbeats 4000000
attribute [local irreducible] Go.Sl.a0O Go.Sl.OW Go.Sl.CW Go.Sl.OS Go.Sl.OM Go.Sl.OMf Go.Sl.KM
namespace Go.Proofs.Q
open Go.Sl Tryz
theorem w0P (a b:BitVec 32):bits .xor .u32 (a.toNat:Int) (b.toNat:Int)=((a ^^^ b).toNat:Int):=by
 simp only[bits,BitVec.ofInt_natCast,BitVec.ofNat_toNat,BitVec.setWidth_eq,IntKind.bits];rw[IntKind.wrap_u32];exact Int.emod_eq_of_lt (Int.natCast_nonneg _) (by have:=(a ^^^ b).isLt;omega)
theorem a2D (a b:BitVec 32):bits .and .u32 (a.toNat:Int) (b.toNat:Int)=((a &&& b).toNat:Int):=by
 simp only[bits,BitVec.ofInt_natCast,BitVec.ofNat_toNat,BitVec.setWidth_eq,IntKind.bits];rw[IntKind.wrap_u32];exact Int.emod_eq_of_lt (Int.natCast_nonneg _) (by have:=(a &&& b).isLt;omega)
def n2M (j:Nat):Value:= .int .u32 ((Crc.l0O 4 (BitVec.ofNat 32 j)).toNat:Int)
def m0U (i:Nat):List Value:=(List.range 16).map fun j=>if j<i then n2M j else .int .u32 0
theorem s2Z (k:Nat) (hk:k<16) (m:Nat) (hm:m=k) (v:Value) (hv:v=n2M k):(m0U k).set m v=m0U (k+1):=by
 subst hm;subst hv;unfold m0U;apply List.ext_getElem
 ·simp
 ·intro i h1 h2;simp at h1;rw[List.getElem_set];by_cases e:m=i
  ·subst e;simp
  ·simp[e];by_cases h:i<m
   ·simp[h,show i<m+1 by omega]
   ·simp[h,show ¬i<m+1 by omega]
theorem t1W (k:Nat): ∀x∈m0U k,x.oneCell'=true:=by
 intro x hx;simp only[m0U,List.mem_map]at hx;obtain⟨j,_,rfl⟩:=hx;split<;>rfl
theorem n2N (x:BitVec 32):bits .xor .u32 ((x.toNat:Int)/2^Int.toNat 1) (bits .and .u32 2197175160 (IntKind.u32.wrap (0-bits .and .u32 (x.toNat:Int) 1)))=((Crc.stp x).toNat:Int):=by
 have h1:bits .and .u32 (x.toNat:Int) 1=((x &&& 1#32).toNat:Int):=a2D x 1#32;have h2:((x.toNat:Int)/ (2:Int)^Int.toNat 1)=((x >>> 1).toNat:Int):=by simp[Nat.shiftRight_eq_div_pow]
 rw[h1,h2];have h0:(x &&& 1#32).toNat=x.toNat%2:=by rw[BitVec.toNat_and];exact Nat.and_one_is_mod _
 have hb:x.getLsbD 0=decide (x.toNat%2=1):=by rw[BitVec.getLsbD,Nat.testBit_zero]
 rw[h0];rcases Nat.mod_two_eq_zero_or_one x.toNat with h|h
 ·rw[h];have:bits .and .u32 2197175160 (IntKind.u32.wrap (0- ((0:Nat):Int)))=((0#32).toNat:Int):=by decide
  rw[this,w0P];unfold Crc.stp;rw[hb];simp[h]
 ·rw[h];have:bits .and .u32 2197175160 (IntKind.u32.wrap (0- ((1:Nat):Int)))=(Crc.r1N.toNat:Int):=by decide
  rw[this,w0P];unfold Crc.stp;rw[hb];simp[h]
theorem i2J (n:Nat) (x:BitVec 32):Crc.l0O (n+1) x=Crc.stp (Crc.l0O n x):=by
 rw[Crc.r1O];rfl
theorem d2R:a0F prog 193 #[] [] (a0T (.agg (m0U 16).toArray) []):=by
 refine en func193 ntmps193 fun R w0=> ?_;refine go 2 ?_;refine al fun b0=> ?_;refine go 4 ?_;refine al fun b1=> ?_;refine go 9 ?_;refine a0V (X:= {k:Nat // k≤16}) (fun x=> [(0,.pointer (some ⟨b0,0,none⟩)),(1,.pointer (some ⟨b1,0,none⟩)),(4,.int .i64 x.1)]) (fun x=> [pts b1 (.cells (m0U x.1).toArray 266 (0,0)),pts b0 (.cells (m0U 0).toArray 266 (0,0)),R]) (fun x=>16-x.1) ⟨0,by omega⟩ gSu gSp ?_;rintro⟨k,hk⟩ m0 hm0
 try simp only at hm0
 try dsimp only
 skip;refine go 6 ?_;refine a0P rfl (fun hb5=> ?_) (fun hb5=> ?_)
 ·have hlt:k<16:=by have:=of_decide_eq_true hb5;omega
  refine go 16 ?_;have hw:IntKind.u32.wrap (k:Int)=((Crc.l0O 0 (BitVec.ofNat 32 k)).toNat:Int):=by rw[IntKind.wrap_u32];simp[Crc.l0O]
  rw[hw];refine go 8 ?_;refine a0V (X:= {j:Nat // j≤4}) (fun x=> [(0,.pointer (some ⟨b0,0,none⟩)),(1,.pointer (some ⟨b1,0,none⟩)),(4,.int .i64 k),(2,.int .i64 k),(3,.int .u32 ((Crc.l0O x.1 (BitVec.ofNat 32 k)).toNat:Int)),(9,.int .i64 x.1)]) (fun x=> [pts b1 (.cells (m0U k).toArray 266 (0,0)),pts b0 (.cells (m0U 0).toArray 266 (0,0)),R]) (fun x=>4-x.1) ⟨0,by omega⟩ gSu gSp ?_;rintro⟨j,hj⟩ m2 hm2
  try simp only at hm2
  try dsimp only
  skip;refine go 6 ?_;refine a0P rfl (fun hb10=> ?_) (fun hb10=> ?_)
  ·have hjt:j<4:=by have:=of_decide_eq_true hb10;omega
   refine go 6 ?_;refine a0D (s0N rfl rfl (by first|decide| (simp only[IntKind.bits];omega))) ?_;refine go 1 ?_;refine a0D (n0Y rfl rfl) ?_;refine a0D (x2J rfl) ?_;refine a0D (n0Y rfl rfl) ?_;refine a0D (v0J rfl rfl) ?_;refine go 2 ?_;rw[n2N,←i2J];refine go 5 ?_;exact rd idh (⟨j+1,hjt⟩)
  ·have hj4:j=4:=by have:=of_decide_eq_false hb10;omega
   subst hj4;refine go 6 ?_;refine d0P Sz.o rfl rfl rfl (by simp[m0U];omega) (s2Z k hlt _ (by simp) _ rfl) ?_;refine go 6 ?_;exact rd idh (⟨k+1,hlt⟩)
 ·have hk4:k=16:=by have:=of_decide_eq_false hb5;omega
  subst hk4;refine go 5 ?_;refine a0M Sz.o rfl rfl (by simp[m0U]) (fun x hx=>t1W _ x (by simpa using hx)) (by simp[m0U]) (a0N (by simp[m0U])) ?_;refine go 2 ?_;refine p0Y idh (RV.agg Ag.o rfl (by simp[m0U]) (a0G (by simp[m0U])) RV.nil) rfl gSp
theorem t2A (x:BitVec 32):bits .xor .u32 (if IntKind.u32.signed then -1 else IntKind.u32.max) (x.toNat:Int)=((~~~ x).toNat:Int):=by
 have h:(if IntKind.u32.signed then -1 else IntKind.u32.max)=((BitVec.allOnes 32).toNat:Int):=by decide
 rw[h,w0P];have e:BitVec.allOnes 32 ^^^ x= ~~~ x:=by rw[BitVec.xor_comm];exact BitVec.xor_allOnes
 rw[e]
theorem shr4 (x:BitVec 32):((x.toNat:Int)/ (2:Int)^Int.toNat 4)=((x >>> 4).toNat:Int):=by simp[Nat.shiftRight_eq_div_pow]
theorem n2O (c:UInt8):IntKind.u32.wrap (c.toNat:Int)=((c.toBitVec.setWidth 32).toNat:Int):=by
 rw[IntKind.wrap_u32,BitVec.toNat_setWidth];have h:=c.toNat_lt;have e:c.toBitVec.toNat=c.toNat:=rfl;rw[e];omega
theorem i2K (y:BitVec 32) (i:Nat) (hi:i=(y &&& 15#32).toNat):nth (m0U 16) i=some (.int .u32 ((Crc.tab (y &&& 15#32)).toNat:Int)):=by
 subst hi;have h:(y &&& 15#32).toNat<16:=by rw[BitVec.toNat_and];exact Nat.lt_of_le_of_lt Nat.and_le_right (by decide)
 rw[d0Y];simp only[m0U,List.getElem?_map,List.getElem?_range h,Option.map_some,if_pos h,n2M,Crc.tab,BitVec.ofNat_toNat,BitVec.setWidth_eq]
theorem q2L (y:BitVec 32):bits .and .u32 (y.toNat:Int) 15=((y &&& 15#32).toNat:Int):=a2D y 15#32
theorem t1X (y:BitVec 32):0≤((y &&& 15#32).toNat:Int)∧((y &&& 15#32).toNat:Int)<16:=by
 have h:(y &&& 15#32).toNat<16:=by rw[BitVec.toNat_and];exact Nat.lt_of_le_of_lt Nat.and_le_right (by decide)
 omega
theorem h1D (s:ByteArray) (cap i:Nat) (h:i<s.size) (k:Nat) (hk:k=i):nth (p0B s cap) k=some (a0Q (s.data.toList[i]'(by simpa using h))):=by
 subst hk;have hl:k<(s.data.toList.map a0Q).length:=by simpa using h
 rw[d0Y,p0B,List.getElem?_append_left hl,List.getElem?_eq_getElem hl,List.getElem_map]
def n0B (ss:List ByteArray):List UInt8:=ss.flatMap fun s=>s.data.toList
theorem t1Y (ss:List ByteArray) (i:Nat) (h:i<ss.length):n0B (ss.take (i+1))=n0B (ss.take i)++ss[i].data.toList:=by
 simp only[n0B];rw[List.take_succ,List.getElem?_eq_getElem h,List.flatMap_append];simp
theorem n2P (x:BitVec 32) (l:List UInt8) (i:Nat) (h:i<l.length):Crc.run x (l.take (i+1))=Crc.byt (Crc.run x (l.take i)) l[i]:=by
 rw[List.take_succ,List.getElem?_eq_getElem h,Crc.k1C];simp[Crc.run]
theorem i2L (p:Option Addr) (cap:Nat) (ss:List ByteArray) (A:a0C) (hn:ss.length≤maxLen) (hs: ∀s∈ss,s.size≤maxLen)
 (hA: ∀i (h:i<ss.length),∃a,p=some a∧ ∀(w:World) L,Sat w (A::L)→w.cell? (a.add i)=some (.string ss[i])):
 a0F prog 160 #[.slice p ss.length cap] [A] (a0T (.int .u32 ((Crc.crc (n0B ss)).toNat:Int)) [A]):=by
 simp only[maxLen]at hn;refine en func160 ntmps160 fun R w0=> ?_;refine cg 7 (d2R) ?_;refine al fun b3=> ?_;refine a0M Sz.o rfl rfl (by simp[m0U]) (fun x hx=>t1W _ x (by simpa using hx)) (by simp[m0U,Value.cells]) (a0N (by simp[m0U,Value.cells])) ?_;refine go 16 ?_;refine a0V (X:= {i:Nat // i≤ss.length}) (fun x=> [(3,.pointer (some ⟨b3,0,none⟩)),(4,.int .u32 ((Crc.run (~~~ 0#32) (n0B (ss.take x.1))).toNat:Int)),(10,.slice p ss.length cap),(11,.int .i64 ss.length),(12,.int .i64 x.1)]) (fun x=> [A,R,pts b3 (.cells (m0U 16).toArray 266 (0,0))]) (fun x=>ss.length-x.1) ⟨0,by omega⟩ gSu gSp ?_;rintro⟨i,hi⟩ m0 hm0
 try simp only at hm0
 try dsimp only
 skip;refine go 6 ?_;refine a0P rfl (fun hb13=> ?_) (fun hb13=> ?_)
 ·have hlt:i<ss.length:=by have:=of_decide_eq_true hb13;omega
  obtain⟨a,rfl,hc⟩:=hA i hlt;have hsz:ss[i].size≤9223372036854775807:=hs _ (List.getElem_mem hlt);have hsl:ss[i].data.toList.length=ss[i].size:=by simp
  refine go 6 ?_;refine a0D (g2I Tsl.o rfl rfl (by omega)) ?_;refine a0D (z0K Sc.o rfl gFd (fun w L h=>by simpa using hc w L h)) ?_;refine go 6 ?_;refine r1A Tst.o Tsl.o Tby.o rfl (by simp only[maxLen];omega) (fun b17 k17 hk17 hm17=> ?_);refine go 5 ?_;refine a0V (X:= {j:Nat // j≤ss[i].size}) (fun x=> [(3,.pointer (some ⟨b3,0,none⟩)),(4,.int .u32 ((Crc.run (Crc.run (~~~ 0#32) (n0B (ss.take i))) (ss[i].data.toList.take x.1)).toNat:Int)),(10,.slice (some a) ss.length cap),(11,.int .i64 ss.length),(12,.int .i64 i),(17,.slice (some ⟨b17,0,none⟩) ss[i].size k17),(18,.int .i64 ss[i].size),(19,.int .i64 x.1)]) (fun x=> [A,R,pts b3 (.cells (m0U 16).toArray 266 (0,0)),pts b17 (.cells (p0B ss[i] k17).toArray 5 (k17,k17+1))]) (fun x=>ss[i].size-x.1) ⟨0,by omega⟩ gSu gSp ?_;rintro⟨j,hj⟩ m2 hm2
  try simp only at hm2
  try dsimp only
  skip;refine go 6 ?_;refine a0P rfl (fun hb20=> ?_) (fun hb20=> ?_)
  ·have hjt:j<ss[i].size:=by have:=of_decide_eq_true hb20;omega
   refine go 7 ?_;refine a0D (b0M Sc.o rfl (h1D ss[i] k17 j hjt _ (by simp))) ?_;refine go 2 ?_;have hjl:j<ss[i].data.toList.length:=by omega
   rw[show ss[i].data.toList[j]=ss[i].data.toList[j]'hjl from rfl];generalize hx0:Crc.run (Crc.run (~~~ 0#32) (n0B (ss.take i))) (ss[i].data.toList.take j)=x0;generalize hc0:ss[i].data.toList[j]'hjl=c0;refine go 6 ?_;refine a0D (v0J rfl rfl) ?_;refine go 2 ?_;rw[n2O,w0P];generalize hx1:x0 ^^^ c0.toBitVec.setWidth 32=x1;refine go 2 ?_;have h15:=t1X x1;refine go 2 ?_;refine a0D (s0N rfl rfl (by first|decide| (simp only[IntKind.bits];omega))) ?_;refine go 1 ?_;refine a0D (n0Y rfl rfl) ?_;rw[q2L];refine go 1 ?_;refine a0D (b0M Sc.o rfl (i2K x1 _ (by simp))) ?_;refine a0D (v0J rfl rfl) ?_;refine go 2 ?_;rw[shr4,w0P];generalize hx2:(x1 >>> 4 ^^^ Crc.tab (x1 &&& 15#32))=x2;refine go 1 ?_;have h152:=t1X x2;refine go 2 ?_;refine a0D (s0N rfl rfl (by first|decide| (simp only[IntKind.bits];omega))) ?_;refine go 1 ?_;refine a0D (n0Y rfl rfl) ?_;rw[q2L];refine go 1 ?_;refine a0D (b0M Sc.o rfl (i2K x2 _ (by simp))) ?_;refine a0D (v0J rfl rfl) ?_;refine go 2 ?_;rw[shr4,w0P];have hfin:x2 >>> 4 ^^^ Crc.tab (x2 &&& 15#32)=Crc.run (Crc.run (~~~ 0#32) (n0B (ss.take i))) (ss[i].data.toList.take (j+1)):=by
    rw[n2P _ _ _ hjl,hx0,hc0,Crc.r2P,hx1];unfold Crc.nib;rw[hx2]
   rw[hfin];refine go 5 ?_;exact rd idh (⟨j+1,hjt⟩)
  ·have hje:j=ss[i].size:=by have:=of_decide_eq_false hb20;omega
   have hrun:Crc.run (Crc.run (~~~ 0#32) (n0B (ss.take i))) (ss[i].data.toList.take j)=Crc.run (~~~ 0#32) (n0B (ss.take (i+1))):=by
    have htk:ss[i].data.toList.take j=ss[i].data.toList:=List.take_of_length_le (by rw[hsl];omega);rw[t1Y ss i hlt,Crc.k1C,htk]
   rw[hrun];refine go 6 ?_;exact rd idh (⟨i+1,hlt⟩)
 ·have hie:i=ss.length:=by have:=of_decide_eq_false hb13;omega
  rw[List.take_of_length_le (by omega)];refine go 5 ?_;refine a0D (b2L rfl) ?_;refine go 3 ?_;exact rG (hu:=(by rw[t2A];rfl))
theorem n2Q (b cap:Nat) (ss:List ByteArray) (hn:ss.length≤maxLen) (hs: ∀s∈ss,s.size≤maxLen):
 a0F prog 160 #[.slice (some ⟨b,0,none⟩) ss.length cap] [pts b (.cells (ss.map Value.string).toArray 9 (0,0))] (a0T (.int .u32 ((Crc.crc (n0B ss)).toNat:Int)) []):=by
 refine a0F.weak (i2L _ cap ss _ hn hs (fun i h=>⟨_,rfl,fun w L hsat=> ?_⟩));have hb:=hsat.pts;simp[World.cell?,i0O,hb,h]
theorem s0I (b cap:Nat) (s:ByteArray) (hs:s.size≤maxLen):
 a0F prog 160 #[.slice (some ⟨b,0,none⟩) 1 cap] [pts b (.cells #[.string s] 9 (0,0))] (a0T (.int .u32 ((Crc.crc s.data.toList).toNat:Int)) []):=by
 have:=n2Q b cap [s] (by simp[maxLen]) (by simpa using hs);simpa [n0B] using this
end Go.Proofs.Q
namespace Go.Proofs.Q
open Go.Sl Go.Sb Tryz
def f1Q (n:Nat) (l:B):Out B×B:=if l.length<n then(.err 2,l)else(.ok (l.take n),l.drop n)
def n1B (k:Nat) (l:B):Out Nat×B:=if l.length<k then(.err 2,l)else(.ok (be (l.take k)),l.drop k)
def f1R (l:B):Out Unit×B:=if l= []then(.ok (),[])else(.err 1,l)
def f1S (l:B):Out Unit×B:=if a0R l then(.ok (),[])else(.err 1,l)
def u64V (n:Nat):Value:= .int .u64 n
theorem p1B {n:Nat} {l:B} {e:Int} {t:B} (h:f1Q n l=(.err e,t)):l.length<n∧e=2:=by
 unfold f1Q at h;split at h
 ·rename_i h';cases h;exact⟨h',rfl⟩
 ·cases h
theorem t1Z {n:Nat} {l a t:B} (h:f1Q n l=(.ok a,t)):n≤l.length∧a=l.take n∧t=l.drop n:=by
 unfold f1Q at h;split at h
 ·cases h
 ·rename_i h';cases h;exact⟨by omega,rfl,rfl⟩
theorem u1A {n:Nat} {l:B} {e:Int} {t:B} (h:n1B n l=(.err e,t)):l.length<n∧e=2:=by
 unfold n1B at h;split at h
 ·rename_i h';cases h;exact⟨h',rfl⟩
 ·cases h
theorem a2E {n:Nat} {l t:B} {a:Nat} (h:n1B n l=(.ok a,t)):n≤l.length∧a=be (l.take n)∧t=l.drop n:=by
 unfold n1B at h;split at h
 ·cases h
 ·rename_i h';cases h;exact⟨by omega,rfl,rfl⟩
theorem p1C {l:B} {e:Int} {t:B} (h:f1R l=(.err e,t)):l≠ []∧e=1:=by
 unfold f1R at h;split at h
 ·cases h
 ·rename_i h';cases h;exact⟨h',rfl⟩
theorem u1B {l t:B} {x:Unit} (h:f1R l=(.ok x,t)):l= []:=by
 unfold f1R at h;split at h
 ·assumption
 ·cases h
theorem p1D {l:B} {e:Int} {t:B} (h:f1S l=(.err e,t)):a0R l=false∧e=1:=by
 unfold f1S at h;split at h
 ·cases h
 ·rename_i h';cases h;exact⟨by simpa using h',rfl⟩
theorem u1C {l t:B} {x:Unit} (h:f1S l=(.ok x,t)):a0R l=true:=by
 unfold f1S at h;split at h
 ·assumption
 ·cases h
theorem k1X (b:Nat) (l:B) (n:Nat) (hs:l.length≤1000000):a0F prog 130 #[ptr b,.int .i64 n] [q0K b l] (Ran fT (fun l=> [q0K b l]) b0B (f1Q n l)):=by
 unfold f1Q;split
 ·rename_i h;exact t1E b (bs l) n (by rw[b0F];exact h) (by rw[b0F];exact hs)
 ·rename_i h;exact t0T b l n (by omega) hs
theorem p1E (b:Nat) (l:B) (k:Nat) (hk:1≤k∧k≤8) (hs:l.length≤1000000):a0F prog 129 #[ptr b,.int .i64 k] [q0K b l] (Ran fT (fun l=> [q0K b l]) u64V (n1B k l)):=by
 unfold n1B;split
 ·rename_i h;exact n2A b l k hk h hs
 ·rename_i h;exact z0W b l k hk (by omega) hs
theorem p1F {α:Type} {p:α→Bool} : ∀ {l:List α},l.dropWhile p= []↔ ∀x∈l,p x=true
 | []=>by simp
 |x::l=>by
  rw[List.dropWhile_cons];split
  ·rename_i h;rw[p1F (l:=l)];simp[h]
  ·rename_i h;simp[h]
theorem p1G {α:Type} {p:α→Bool} {x:α} : ∀ {l:List α},x∈l.takeWhile p→p x=true
 | [],h=>by simp at h
 |y::l,h=>by
  rw[List.takeWhile_cons]at h;split at h
  ·rename_i hy;rcases List.mem_cons.1 h with rfl|h
   ·exact hy
   ·exact p1G h
  ·simp at h
theorem n2R (l:B):Lib.trimB l 0= []↔a0R l=true:=by
 unfold Lib.trimB Lib.trimLeftB Lib.trimRightB a0R;rw[p1F];constructor
 ·intro h;refine List.all_eq_true.2 fun x hx=> ?_;by_cases hx0:x=0
  ·simp[hx0]
  ·exfalso;have hm:x∈(l.reverse.dropWhile (· == 0)).reverse:=by
    rw[List.mem_reverse];have h1:x∈l.reverse:=List.mem_reverse.2 hx;rw[←List.takeWhile_append_dropWhile (p:=(· == 0)) (l:=l.reverse)]at h1;rcases List.mem_append.1 h1 with h2|h2
    ·have:=p1G h2;simp at this;exact(hx0 this).elim
    ·exact h2
   have:=h x hm;simp at this;exact hx0 this
 ·intro h x hx;have h1:=List.mem_reverse.1 hx;have h2:=(List.dropWhile_sublist _).mem h1;exact(List.all_eq_true.1 h) x (List.mem_reverse.1 h2)
theorem d2S (l:B) (h:l.length≤1000000):a0F prog 224 #[b0B l,.string ⟨#[0]⟩] [] (a0T (b0B (Lib.trimB l 0)) []):=by
 refine g2P fun w=> ?_;have h:=Tryz.strings_Trim_one (bs l) 0 (by decide) w (by rw[b0F];omega);rw[l0M]at h;exact h
theorem c0C (l:B):(bs l).toList=l:=by rw[ByteArray.toList_eq]
theorem n1C (l:B):((bs (Lib.trimB l 0)).toList == (⟨#[]⟩:ByteArray).toList)=a0R l:=by
 rw[show(⟨#[]⟩:ByteArray)=bs []from rfl,c0C,c0C,Bool.eq_iff_iff,beq_iff_eq];exact n2R l
theorem y0M (l:B) (h:l.length≤1000000):a0F prog 198 #[b0B l] [] (a0T (.bool (a0R l)) []):=by
 refine en func198 ntmps198 fun R w0=> ?_;refine cg 8 (d2S l h) ?_;refine a0D (r0Z rfl rfl) ?_;refine go 2 ?_;rw[n1C];refine go 1 ?_;exact rG
theorem k1Y (b:Nat) (l:B) (h:l.length≤1000000):a0F prog 186 #[ptr b] [q0K b l] (Ran fT (fun l=> [q0K b l]) k0I (f1S l)):=by
 unfold f1S;by_cases h0:a0R l=true
 ·rw[if_pos h0];refine en func186 ntmps186 fun R w0=> ?_;refine cg 7 (d2S l h) ?_;refine a0D (h0X rfl rfl) ?_;refine go 2 ?_;refine b0R rfl (by rw[n1C,h0];rfl) ?_;refine go 8 ?_;refine d0W rfl rfl gSp
 ·rw[if_neg h0];refine en func186 ntmps186 fun R w0=> ?_;refine cg 7 (d2S l h) ?_;refine a0D (h0X rfl rfl) ?_;refine go 2 ?_;refine d0R rfl (by rw[n1C];simp[h0]) ?_;refine go 1 ?_;refine c0G rfl Hb.o rfl (c0S 1) gSp ?_;refine ns ?_;refine pn ?_;refine e0A idh (a0Z.back gSp) ⟨rfl,rfl⟩
theorem k1Z (b:Nat) (l:B):a0F prog 185 #[ptr b] [q0K b l] (Ran fT (fun l=> [q0K b l]) k0I (f1R l)):=by
 unfold f1R;by_cases h0:l= []
 ·rw[if_pos h0];subst h0;refine en func185 ntmps185 fun R w0=> ?_;refine go 6 ?_;refine a0D (h0X rfl rfl) ?_;refine go 2 ?_;refine b0R rfl (by rw[show(⟨#[]⟩:ByteArray)=bs []from rfl,c0C];rfl) ?_;refine go 1 ?_;refine d0W rfl rfl gSp
 ·rw[if_neg h0];refine en func185 ntmps185 fun R w0=> ?_;refine go 6 ?_;refine a0D (h0X rfl rfl) ?_;refine go 2 ?_;refine d0R rfl (by rw[show(⟨#[]⟩:ByteArray)=bs []from rfl,c0C,c0C];simp[h0]) ?_;refine go 1 ?_;refine c0G rfl Hb.o rfl (c0S 1) gSp ?_;refine ns ?_;refine pn ?_;refine e0A idh (a0Z.back gSp) ⟨rfl,rfl⟩
theorem v0V (l:B) (h:l.length=32):a0F prog 14 #[e0C l] [] (a0T (b0B l) []):=by
 unfold e0C;refine en func14 ntmps14 fun R w0=> ?_;refine go 2 ?_;refine bx fun b1=> ?_;refine go 5 ?_;refine a0D (a1S Tar.o rfl) ?_;refine a0D (c1X Tsl.o Tst.o Tby.o rfl (l:=l) h (by simp[Value.cells];exact List.take_of_length_le (by simp[h]))) ?_;refine go 3 ?_;exact rG
theorem e1D (b:Nat) (v:Value) (l:List UInt8) (h1:v.oneCell'=true):a0F prog 83 #[.pointer (some ⟨b,0,none⟩)] (o0I b v l) (a0T (.string (bs l)) (o0I b v l)):=by
 refine en func83 ntmps83 fun R w0=> ?_;refine go 11 ?_;refine a0D (y0B Tsl.o Tst.o Tby.o rfl gFd) ?_;refine go 3 ?_;exact rG
theorem e1E (x:Int):IntKind.u64.wrap x=((u64 x:Nat):Int):=by
 simp only[IntKind.wrap,IntKind.bits,IntKind.signed,Bool.false_and,Bool.false_eq_true,if_false,u64];omega
theorem u1D (x:Int):u64 x<18446744073709551616:=by unfold u64;omega
theorem x0R (b:B):f0V b<4294967296:=Nat.lt_of_lt_of_eq (f1I b) (by decide)
def hdL (x:Hd):List Value:=x.at_.map a0J++((x.sums.map fun n:Nat=>Value.int .u32 n)++x.sum.map a0Q)
def hdV (x:Hd):Value:= .agg (hdL x).toArray
structure y0N (x:Hd):Prop where
 n:x.at_.length=4
 m:x.sums.length=4
 sums: ∀c∈x.sums,c<4294967296
 sum:x.sum.length=32
theorem e1F {α:Type} (f:α→B) (l:List α) (i:Nat) (h:i<l.length):(l.take (i+1)).flatMap f=(l.take i).flatMap f++f l[i]:=by
 rw[List.take_succ,List.getElem?_eq_getElem h,List.flatMap_append];simp
theorem j0I {α:Type} (f:α→Value) (l:List α) (i k:Nat) (h:i<l.length) (hk:k=i):nth (l.map f) k=some (f l[i]):=by
 subst hk;rw[d0Y,List.getElem?_map,List.getElem?_eq_getElem h];rfl
theorem d0X {a b c:List Value} {o n:Nat} (ha:a.length=o) (hb:b.length=n):(a++(b++c)).toArray.extract o (o+n)=b.toArray:=by
 apply Array.ext';simp only[Array.toList_extract,List.extract_eq_take_drop];rw[List.drop_left' ha,show o+n-o=n by omega,List.take_left' hb]
set_option maxRecDepth 4000 in
theorem u1E (x:Hd) (h:y0N x):a0F prog 203 #[hdV x] [] (a0T (b0B (h0F x)) []):=by
 obtain⟨hn,hm,hs,hu⟩:=h;unfold hdV;have l1: ∀i,((x.at_.take i).flatMap (num · 2)).length≤8:=fun i=>by rw[h0S (k:=2) fun a=>j0W a 2];simp;omega
 have l2: ∀i,((x.sums.take i).flatMap fun s=>beB s 4 4).length≤16:=fun i=>by rw[h0S (k:=4) fun a=>m0A a 4 4];simp;omega
 have c1:(x.at_.map a0J).length=4:=by simp[hn]
 have c2:(x.sums.map fun n:Nat=>Value.int .u32 n).length=4:=by simp[hm]
 have c3:(x.sum.map a0Q).length=32:=by simp[hu]
 refine en func203 ntmps203 fun R w0=> ?_;refine go 2 ?_;refine bx fun b1=> ?_;refine go 5 ?_;refine al fun b3=> ?_;refine go 3 ?_;refine b0V (L':=o0I b3 (.slice none 0 0) []++ [pts b1 (.cells (hdL x).toArray 230 (0,0)),R]) (fun w h=>(e0W 5 1 w h).perm (List.Perm.swap _ _ _)) ?_;refine ns ?_;refine ce 1 (t0C b3 (.slice none 0 0) [] ⟨#[69]⟩ (by simp) (by decide) rfl) ?_;rintro v9 hv9;refine ns ?_;refine go 6 ?_;refine a0D (a0L Ag.o rfl (by simp[hdL,c1,c2,c3]) (d0X (a:= []) rfl c1)) ?_;refine go 4 ?_;refine a0V (X:= {y:Nat×Value // y.1≤4∧y.2.oneCell'=true}) (fun y=> [(1,ptr b1),(3,ptr b3),(11,.agg (x.at_.map a0J).toArray),(12,.int .i64 y.1.1)]) (fun y=>o0I b3 y.1.2 ([69]++(x.at_.take y.1.1).flatMap (num · 2))++ [pts b1 (.cells (hdL x).toArray 230 (0,0)),R]) (fun y=>4-y.1.1) ⟨(0,v9),by omega,hv9⟩ gSu gSp ?_;rintro⟨⟨i,v⟩,hi,hv⟩ m0 hm0
 try simp only at hm0
 try dsimp only
 simp only at hi hv;refine ns ?_;refine go 6 ?_;refine a0P rfl (fun hb13=> ?_) (fun hb13=> ?_)
 ·have hi4:i<4:=by have:=of_decide_eq_true hb13;omega
  have hil:i<x.at_.length:=by omega
  refine go 6 ?_;refine a0D (p0V Tar.o Sc.o rfl rfl (by omega) (j0I a0J x.at_ i _ hil (by omega))) ?_;refine go 6 ?_;rw[e1E];refine d0S rfl Hb.o rfl (s0H b3 v (69::(x.at_.take i).flatMap (num · 2)) (u64 x.at_[i]) 2 (by omega) (by have:=l1 i;(try simp only[List.length_cons,List.length_append,List.length_nil]);omega) hv (u1D _)) gSp ?_;rintro v17 hv17;refine ns ?_;refine go 1 ?_;rw[show(x.at_.take i).flatMap (num · 2)++beB (u64 x.at_[i]) 2 2=(x.at_.take (i+1)).flatMap (num · 2)from(e1F (num · 2) x.at_ i hil).symm];refine go 5 ?_;exact rd idh (⟨(i+1,v17),hi4,hv17⟩)
 ·obtain rfl:i=4:=by have:=of_decide_eq_false hb13;omega
  rw[List.take_of_length_le (by omega)];have lA:=l1 4;rw[List.take_of_length_le (by omega)]at lA;generalize hA:x.at_.flatMap (num · 2)=A at lA ⊢;have l3: ∀i,(A++(x.sums.take i).flatMap fun s=>beB s 4 4).length≤24:=fun i=>by have:=l2 i;rw[List.length_append];omega
  refine go 6 ?_;refine a0D (a0L Ag.o rfl (by simp[hdL,c1,c2,c3]) (d0X c1 c2)) ?_;refine go 4 ?_;rw[show(69::A:B)=69::(A++(x.sums.take 0).flatMap (fun s=>beB s 4 4))from by simp];refine a0V (X:= {y:Nat×Value // y.1≤4∧y.2.oneCell'=true}) (fun y=> [(1,ptr b1),(3,ptr b3),(20,.agg (x.sums.map fun n:Nat=>Value.int .u32 n).toArray),(21,.int .i64 y.1.1)]) (fun y=>o0I b3 y.1.2 (69::(A++(x.sums.take y.1.1).flatMap (fun s=>beB s 4 4)))++ [pts b1 (.cells (hdL x).toArray 230 (0,0)),R]) (fun y=>4-y.1.1) ⟨(0,v),by omega,hv⟩ gSu gSp ?_;rintro⟨⟨i,v'⟩,hi',hv'⟩ m2 hm2
  try simp only at hm2
  try dsimp only
  simp only at hi' hv';refine ns ?_;refine go 6 ?_;refine a0P rfl (fun hb22=> ?_) (fun hb22=> ?_)
  ·have hi4:i<4:=by have:=of_decide_eq_true hb22;omega
   have hil:i<x.sums.length:=by omega
   have hsl:=hs x.sums[i] (List.getElem_mem hil);refine go 6 ?_;refine a0D (p0V Tar.o Sc.o rfl rfl (by omega) (j0I (fun n:Nat=>Value.int .u32 n) x.sums i _ hil (by omega))) ?_;refine go 6 ?_;rw[q0J _ _ rfl (by omega)];refine ce 0 (s0H b3 v' (69::(A++(x.sums.take i).flatMap fun s=>beB s 4 4)) x.sums[i] 4 (by omega) (by have:=l3 i;(try simp only[List.length_cons]);omega) hv' (by omega)) ?_;rintro v26 hv26;refine ns ?_;refine go 1 ?_;rw[List.append_assoc,show(x.sums.take i).flatMap (fun s=>beB s 4 4)++beB x.sums[i] 4 4=(x.sums.take (i+1)).flatMap (fun s=>beB s 4 4)from(e1F (fun s=>beB s 4 4) x.sums i hil).symm];refine go 5 ?_;exact rd idh (⟨(i+1,v26),hi4,hv26⟩)
  ·obtain rfl:i=4:=by have:=of_decide_eq_false hb22;omega
   rw[List.take_of_length_le (by omega)];have lS:=l3 4;rw[List.take_of_length_le (by omega)]at lS;generalize hS:A++x.sums.flatMap (fun s=>beB s 4 4)=S at lS ⊢;have hl57:(69::(S++x.sum)).length≤60:=by simp only[List.length_cons,List.length_append];omega
   have hpl:=q0H hl57;refine go 5 ?_;refine a0D (a0L (v:=(x.sum.map a0Q).toArray) Ag.o rfl (by simp only[hdL,List.size_toArray,List.length_append,c1,c2,c3];omega) (by rw[show hdL x=(x.at_.map a0J++(x.sums.map fun n:Nat=>Value.int .u32 n))++(x.sum.map a0Q++ []) by simp[hdL]];exact d0X (by rw[List.length_append,c1,c2]) c3)) ?_;refine cg 0 (v0V x.sum hu) ?_;refine ce 0 (t0C b3 v' (69::S) (bs x.sum) (by simp only[List.length_cons];omega) (by rw[b0F,hu];omega) hv') ?_;rintro v31 hv31;refine ns ?_
   try rw[l0M]
   refine ce 0 (b1S b3 v31 (69::(S++x.sum)) 60 hl57 (by omega) hv31) ?_;rintro v32 hv32;refine ns ?_;refine b0U rfl Hb.o rfl (e1D b3 v32 _ hv32) gSp ?_;refine ns ?_;refine go 6 ?_;refine bl fun b35=> ?_;refine b0U rfl Hb.o rfl (s0I b35 1 _ (by rw[b0F,hpl];simp[maxLen])) gSp ?_;refine ns ?_;refine go 1 ?_;rw[show((Crc.crc (f0T 60 (69::(S++x.sum)))).toNat:Int)=(f0V (f0T 60 (69::(S++x.sum))):Nat)from rfl,q0J _ _ rfl (by have:=x0R (f0T 60 (69::(S++x.sum)));omega)];refine ce 0 (s0H b3 v32 (f0T 60 (69::(S++x.sum))) (f0V (f0T 60 (69::(S++x.sum)))) 4 (by omega) (by rw[hpl];omega) hv32 (by have:=x0R (f0T 60 (69::(S++x.sum)));omega)) ?_;rintro v38 hv38;refine ns ?_;refine b0U rfl Hb.o rfl (u0L b3 v38 _ hv38) gSp ?_;refine ns ?_;refine go 3 ?_;exact rG (hu:=(by unfold h0F u0D;simp only[List.cons_append,List.nil_append,List.append_assoc];rw[←hS,←hA];simp only[List.append_assoc]))
theorem i2M {s:B} (h:s.length<60):h0G s= .err 2:=by unfold h0G;rw[if_pos h]
theorem i2N {s:B} (h1:60≤s.length) (h:s.length<64):h0G s= .err 2:=by unfold h0G;rw[if_neg (by omega),if_pos h]
theorem i2O {s:B} (h1:64≤s.length) (h:be ((s.drop 60).take 4)≠f0V (s.take 60)):h0G s= .err 11:=by unfold h0G;rw[if_neg (by omega),if_neg (by omega),if_pos h]
theorem i2P {s:B} (h1:64≤s.length) (h:be ((s.drop 60).take 4)=f0V (s.take 60)) (h2:s.length≠64):h0G s= .err 1:=by unfold h0G;rw[if_neg (by omega),if_neg (by omega),if_neg (by simp[h]),if_pos h2]
theorem i2Q {s:B} (h:be ((s.drop 60).take 4)=f0V (s.take 60)) (h2:s.length=64):h0G s= .ok (s.take 60):=by unfold h0G;rw[if_neg (by omega),if_neg (by omega),if_neg (by simp[h]),if_neg (by simp[h2])]
theorem f1T {s:B} {e:Int} (h:h0G s= .err e):((h0H s,()):Out Hd×Unit)=(.err e,()):=by unfold h0H;rw[h]
theorem t2B {s:B} (h:h0G s= .ok (s.take 60)) (h1:(s.take 60).take 1≠ [69]):((h0H s,()):Out Hd×Unit)=(.err 1,()):=by unfold h0H;rw[h];simp only;rw[if_pos h1]
theorem n2S {s:B} (h:h0G s= .ok (s.take 60)) (h1:(s.take 60).take 1= [69]) (h2:a0R ((s.take 60).drop 57)=false):((h0H s,()):Out Hd×Unit)=(.err 1,()):=by
 unfold h0H;rw[h];simp only;rw[if_neg (by simp[h1]),if_pos h2]
theorem v2Z {s:B} (h:h0G s= .ok (s.take 60)) (h1:(s.take 60).take 1= [69]) (h2:a0R ((s.take 60).drop 57)=true):
 ((h0H s,()):Out Hd×Unit)=(.ok {at_:=(g0I 2 4 ((s.take 60).drop 1)).map Int.ofNat,sums:=g0I 4 4 ((s.take 60).drop 9),sum:=((s.take 60).drop 25).take 32},()):=by
 unfold h0H;rw[h];simp only;rw[if_neg (by simp[h1]),if_neg (by simp[h2])]
theorem x0S (k:Nat): ∀(n:Nat) (l:B) (i:Nat) (h:i<(g0I k n l).length),(g0I k n l)[i]=be ((l.drop (k*i)).take k)
 |0,_,i,h=>by simp[g0I]at h
 |n+1,l,0,h=>by simp[g0I]
 |n+1,l,i+1,h=>by
  have h':i<(g0I k n (l.drop k)).length:=by simpa [g0I] using h
  have:=x0S k n (l.drop k) i h';simp only[g0I,List.getElem_cons_succ];rw[this,List.drop_drop,Nat.mul_succ,Nat.add_comm]
def l0X (pre l:List Value) (n:Nat) (z:Value) (i:Nat) (rest:List Value):List Value:=pre++(l.take i++(List.replicate (n-i) z++rest))
theorem x0T {pre l rest:List Value} {z v:Value} {n i o:Nat} (hl:l.length=n) (hi:i<n) (ho:o=pre.length+i) (hv:l[i]? =some v):(l0X pre l n z i rest).set o v=l0X pre l n z (i+1) rest:=by
 subst ho;unfold l0X;have h1:(l.take i).length=i:=by simp;omega
 obtain⟨m,hm⟩: ∃m,n-i=m+1:=⟨n-i-1,by omega⟩;rw[List.set_append_right _ _ (by omega),show pre.length+i-pre.length=i by omega,List.set_append_right _ _ (by omega),h1,Nat.sub_self,hm,List.replicate_succ];simp only[List.cons_append,List.set_cons_zero];rw[show n- (i+1)=m by omega,List.take_succ,hv];simp
theorem x0U {pre l rest:List Value} {z:Value} {n i:Nat} (hl:l.length=n) (hi:i≤n):(l0X pre l n z i rest).length=pre.length+(n+rest.length):=by unfold l0X;simp;omega
theorem u0W {pre l rest:List Value} {z:Value} {n:Nat} (hl:l.length=n):l0X pre l n z n rest=pre++(l++rest):=by unfold l0X;rw[List.take_of_length_le (by omega),Nat.sub_self];rfl
theorem i2R {pre l rest:List Value} {z:Value} {n:Nat} :l0X pre l n z 0 rest=pre++(List.replicate n z++rest):=by unfold l0X;simp
theorem u1F {A C D:List Value} {l:B} {n m k:Nat} (ha:A.length+C.length=k) (hd:D.length=n) (hl:l.length=n) (hm:m=n):
 (A++(C++D)).take k++((bs l).data.toList.take m).map a0Q++(A++(C++D)).drop (k+min (bs l).size m)=A++(C++l.map a0Q):=by
 subst hm;have e:l.take m=l:=List.take_of_length_le (by omega);rw[b0F,l0M,hl,Nat.min_self,e,←List.append_assoc A C D,List.take_left' (by simp;omega),List.drop_eq_nil_of_le (by simp;omega)];simp
theorem y0O (k i:Nat) (l:B):(l.drop (k*i)).drop k=l.drop (k*(i+1)):=by rw[List.drop_drop];rfl
theorem a2F (l:B):be (l.take 2)<65536:=Nat.lt_of_lt_of_le (k1N _) (Nat.pow_le_pow_right (n:=256) (j:=2) (by decide) (by simp;omega))
theorem f1U (l:B):be (l.take 4)<4294967296:=Nat.lt_of_lt_of_le (k1N _) (Nat.pow_le_pow_right (n:=256) (j:=4) (by decide) (by simp;omega))
set_option maxRecDepth 4000 in
theorem u1G (s:B) (hs:s.length≤1000000):a0F prog 192 #[b0B s] [] (Ran fT (fun _:Unit=> []) hdV (h0H s,())):=by
 have hb4:=f1U (s.drop 60);refine en func192 ntmps192 fun R w0=> ?_;refine go 2 ?_;refine al fun b2=> ?_;refine ce 5 (y0L (bs s)) ?_;rintro b9 _;refine ns ?_;refine go 6 ?_;refine a0X rfl Hb.o rfl (k1X b9 s 60 hs) gSp (fun a t ho=> ?_) (fun e t ho=>by refine pn ?_;exact kx ((by obtain⟨h1,rfl⟩:=p1B ho;exact f1T (i2M h1))));refine ns ?_;obtain⟨h1,rfl,rfl⟩:=t1Z ho;refine go 7 ?_;refine a0X rfl Hb.o rfl (p1E b9 (s.drop 60) 4 (by omega) (by simp;omega)) gSp (fun n t ho=> ?_) (fun e t ho=>by refine pn ?_;exact kx ((by obtain⟨h2,rfl⟩:=u1A ho;exact f1T (i2N h1 (by simp at h2;omega)))));refine ns ?_;obtain⟨h2,rfl,rfl⟩:=a2E ho;refine go 1 ?_;rw[show IntKind.u32.wrap ((be ((s.drop 60).take 4):Nat):Int)=(be ((s.drop 60).take 4):Nat)from by rw[IntKind.wrap_u32];omega];refine go 1 ?_;refine bl fun b16=> ?_;refine cg 0 (s0I b16 1 (bs (s.take 60)) (by rw[b0F];simp[maxLen];omega)) ?_;rw[show((Crc.crc (s.take 60)).toNat:Int)=(f0V (s.take 60):Nat)from rfl];refine go 3 ?_;refine a0P rfl (fun hb18=> ?_) (fun hb18=> ?_)
 ·refine go 1 ?_;refine c0G rfl Hb.o rfl (c0S 11) gSp ?_;refine ns ?_;refine pn ?_;exact b0W (f1T (i2O (by simp at h2;omega) (by have h:=hb18;simp at h;omega))) idh gSp
 ·have hcr:be ((s.drop 60).take 4)=f0V (s.take 60):=by have h:=hb18;simp at h;omega
  refine go 5 ?_;refine a0X rfl Hb.o rfl (k1Z b9 ((s.drop 60).drop 4)) gSp (fun u t3 ho=> ?_) (fun e t ho=>by refine pn ?_;exact kx ((by obtain⟨h3,rfl⟩:=p1C ho;exact f1T (i2P (by simp at h2;omega) hcr (fun e=>h3 (List.eq_nil_of_length_eq_zero (by simp;omega)))))));refine ns ?_;refine go 3 ?_;have h3:=congrArg List.length (u1B ho);have h64:s.length=64:=by simp at h3 h2;omega
  have hop:=i2Q hcr h64;have ht60:(s.take 60).length=60:=by simp;omega
  generalize hT:s.take 60=T at hop ht60 ⊢;refine ce 2 (y0L (bs T)) ?_;rintro b23 _;refine ns ?_;refine cg 7 (t0T b23 T 1 (by omega) (by omega)) ?_;refine a0D (h0X rfl rfl) ?_;refine go 2 ?_;refine a0P rfl (fun hb26=> ?_) (fun hb26=> ?_)
  ·refine go 1 ?_;refine c0G rfl Hb.o rfl (c0S 1) gSp ?_;refine ns ?_;refine pn ?_;exact b0W (t2B (by rw[hT];exact hop) (by rw[hT];have:=hb26;intro e;rw[e]at this;simp at this)) idh gSp
  ·have htag:T.take 1= [69]:=by
    have h:=hb26;rw[show(⟨#[69]⟩:ByteArray)=bs [69]from rfl,c0C,c0C]at h;simpa using h
   have hn1:=k0V 2 4 (T.drop 1);have hn2:=k0V 4 4 (T.drop 9);have hi1:((g0I 2 4 (T.drop 1)).map fun n:Nat=>a0J n).length=4:=by rw[List.length_map,hn1]
   have hi2:((g0I 4 4 (T.drop 9)).map fun n:Nat=>Value.int .u32 n).length=4:=by rw[List.length_map,hn2]
   refine go 4 ?_;refine al fun b5=> ?_;refine go 9 ?_;refine a0V (X:= {i:Nat // i≤4}) (fun y=> [(2,ptr b2),(3,ptr b23),(5,ptr b5),(28,.int .i64 y.1)]) (fun y=> [pts b5 (.cells (l0X [] ((g0I 2 4 (T.drop 1)).map fun n:Nat=>a0J n) 4 (a0J 0) y.1 (List.replicate 4 (Value.int .u32 0)++List.replicate 32 (Value.int .u8 0))).toArray 230 (0,0)),q0K b23 ((T.drop 1).drop (2*y.1)),pts b2 (.cells (List.replicate 4 (a0J 0)++(List.replicate 4 (Value.int .u32 0)++List.replicate 32 (Value.int .u8 0))).toArray 230 (0,0)),R]) (fun y=>4-y.1) ⟨0,by omega⟩ gSu gSp ?_;rintro⟨i,hi⟩ m0 hm0
   try simp only at hm0
   try dsimp only
   skip;refine go 6 ?_;refine a0P rfl (fun hb29=> ?_) (fun hb29=> ?_)
   ·have hi4:i<4:=by have:=of_decide_eq_true hb29;omega
    have hil:i<(g0I 2 4 (T.drop 1)).length:=by omega
    refine cg 13 (z0W b23 ((T.drop 1).drop (2*i)) 2 (by omega) (by simp;omega) (by simp;omega)) ?_;refine go 1 ?_;have hb2:=a2F ((T.drop 1).drop (2*i));rw[show IntKind.i64.wrap ((be (((T.drop 1).drop (2*i)).take 2):Nat):Int)=(be (((T.drop 1).drop (2*i)).take 2):Nat)from e0L _ _ (by omega) (by simp only[IntKind.bits];omega)];refine go 2 ?_;refine d0P Sz.o rfl rfl rfl (by rw[x0U hi1 (by omega)];simp;omega) (x0T hi1 hi4 (by simp) (by rw[List.getElem?_map,List.getElem?_eq_getElem hil,x0S];rfl)) ?_;refine go 1 ?_;rw[y0O 2 i];refine go 5 ?_;exact rd idh (⟨i+1,hi4⟩)
   ·obtain rfl:i=4:=by have:=of_decide_eq_false hb29;omega
    rw[u0W hi1];refine go 9 ?_;rw[List.drop_drop,show((g0I 2 4 (T.drop 1)).map fun n:Nat=>a0J n)++(List.replicate 4 (Value.int .u32 0)++List.replicate 32 (Value.int .u8 0))=l0X ((g0I 2 4 (T.drop 1)).map fun n:Nat=>a0J n) ((g0I 4 4 (T.drop 9)).map fun n:Nat=>Value.int .u32 n) 4 (Value.int .u32 0) 0 (List.replicate 32 (Value.int .u8 0))from i2R.symm,List.nil_append];refine a0V (X:= {i:Nat // i≤4}) (fun y=> [(2,ptr b2),(3,ptr b23),(5,ptr b5),(38,.int .i64 y.1)]) (fun y=> [pts b5 (.cells (l0X ((g0I 2 4 (T.drop 1)).map fun n:Nat=>a0J n) ((g0I 4 4 (T.drop 9)).map fun n:Nat=>Value.int .u32 n) 4 (Value.int .u32 0) y.1 (List.replicate 32 (Value.int .u8 0))).toArray 230 (0,0)),q0K b23 ((T.drop 9).drop (4*y.1)),pts b2 (.cells (List.replicate 4 (a0J 0)++(List.replicate 4 (Value.int .u32 0)++List.replicate 32 (Value.int .u8 0))).toArray 230 (0,0)),R]) (fun y=>4-y.1) ⟨0,by omega⟩ gSu gSp ?_;rintro⟨i,hi⟩ m2 hm2
    try simp only at hm2
    try dsimp only
    skip;refine go 6 ?_;refine a0P rfl (fun hb39=> ?_) (fun hb39=> ?_)
    ·have hi4:i<4:=by have:=of_decide_eq_true hb39;omega
     have hil:i<(g0I 4 4 (T.drop 9)).length:=by omega
     refine cg 13 (z0W b23 ((T.drop 9).drop (4*i)) 4 (by omega) (by simp;omega) (by simp;omega)) ?_;refine go 1 ?_;have hb2:=f1U ((T.drop 9).drop (4*i));rw[show IntKind.u32.wrap ((be (((T.drop 9).drop (4*i)).take 4):Nat):Int)=(be (((T.drop 9).drop (4*i)).take 4):Nat)from by rw[IntKind.wrap_u32];omega];refine go 2 ?_;refine d0P Sz.o rfl rfl rfl (by rw[x0U hi2 (by omega)];simp;omega) (x0T hi2 hi4 (by rw[hi1];simp) (by rw[List.getElem?_map,List.getElem?_eq_getElem hil,x0S];rfl)) ?_;refine go 1 ?_;rw[y0O 4 i];refine go 5 ?_;exact rd idh (⟨i+1,hi4⟩)
    ·obtain rfl:i=4:=by have:=of_decide_eq_false hb39;omega
     rw[u0W hi2,List.drop_drop];refine go 3 ?_;refine mx (.r 0 3 (.hard 3 (.hard 4 .done))) [] ?_;refine go 1 ?_;refine c0V rfl (a1S Tar.o rfl) ?_;refine cg 2 (t0T b23 (T.drop (9+4*4)) 32 (by simp;omega) (by simp;omega)) ?_;refine go 3 ?_;refine j1V Tsl.o rfl rfl (by rw[b0F];simp[k0V];omega) (u1F (n:=32) (by rw[hi1,hi2]) (by simp) (by simp;omega) rfl) ?_;refine go 7 ?_;refine a0X rfl Hb.o rfl (k1Y b23 ((T.drop (9+4*4)).drop 32) (by simp;omega)) gSp (fun u6 t6 ho=> ?_) (fun e t ho=>by refine pn ?_;exact kx ((by obtain⟨h6,rfl⟩:=p1D ho;exact n2S (by rw[hT];exact hop) (by rw[hT];exact htag) (by rw[hT,show(57:Nat)=9+4*4+32 from rfl,←List.drop_drop];exact h6))));refine ns ?_;refine go 3 ?_;have hz:=u1C ho;rw[List.drop_drop]at hz;have hsz: ∀l:B,l.length=32→(((g0I 2 4 (T.drop 1)).map fun n:Nat=>a0J n)++(((g0I 4 4 (T.drop 9)).map fun n:Nat=>Value.int .u32 n)++l.map a0Q)).toArray.size=40:=fun l hl=>by simp[k0V,hl]
     have hl32:((T.drop (9+4*4)).take 32).length=32:=by simp;omega
     generalize hU:(T.drop (9+4*4)).take 32=U at hl32 ⊢;refine go 1 ?_;refine a0D (a0L Ag.o rfl (by rw[hsz U hl32];omega) (a0G (hsz U hl32))) ?_;refine a0M Sz.o rfl rfl (hsz U hl32) (fun x hx=>by simp at hx;rcases hx with ⟨_,_,rfl⟩| ⟨_,_,rfl⟩| ⟨_,_,rfl⟩<;>rfl) (by rw[hsz U hl32];simp) (a0N (by rw[hsz U hl32];simp)) ?_;refine go 2 ?_;refine j0R (v2Z (by rw[hT];exact hop) (by rw[hT];exact htag) (by rw[hT,show(57:Nat)=9+4*4+32 from rfl];exact hz)) idh (RV.agg Ag.o rfl (by rw[hsz U hl32];omega) (a0G (hsz U hl32)) RV.nil) ?_ gSp;show Value.agg _=Value.agg _;rw[hT,show(25:Nat)=9+4*4 from rfl,hU];simp[hdL,List.map_map,Function.comp_def]
def ndL (level:Int) (n:Nd):List Value:= [a0J level]++(n.kids.map a0J++n.sum.map a0Q)
def ndV (level:Int) (n:Nd):Value:= .agg (ndL level n).toArray
structure o0C (x:Nd):Prop where
 n:x.kids.length=8
 sum:x.sum.length=32
set_option maxRecDepth 4000 in
theorem u1H (level:Nat) (x:Nd) (h:o0C x):a0F prog 245 #[ndV level x] [] (a0T (b0B (j0B level x)) []):=by
 obtain⟨hn,hu⟩:=h;unfold ndV;have l1: ∀i,((x.kids.take i).flatMap (num · 2)).length≤16:=fun i=>by rw[h0S (k:=2) fun a=>j0W a 2];simp;omega
 have c1:(x.kids.map a0J).length=8:=by simp[hn]
 have c3:(x.sum.map a0Q).length=32:=by simp[hu]
 have n1:(num (level:Int) 1).length=1:=j0W _ _;refine en func245 ntmps245 fun R w0=> ?_;refine go 2 ?_;refine bx fun b1=> ?_;refine go 5 ?_;refine al fun b3=> ?_;refine go 3 ?_;refine b0V (L':=o0I b3 (.slice none 0 0) []++ [pts b1 (.cells (ndL level x).toArray 182 (0,0)),R]) (fun w h=>(e0W 5 1 w h).perm (List.Perm.swap _ _ _)) ?_;refine ns ?_;refine mx (.r 1 3 (.hard 0 (.hard 4 .done))) [pts b1 (.cells (ndL level x).toArray 182 (0,0))] ?_;refine go 1 ?_;refine c0V rfl (b0M (v:=a0J level) Sc.o rfl (by rfl)) ?_;refine ce 2 (t0C b3 (.slice none 0 0) [] ⟨#[78]⟩ (by simp) (by decide) rfl) ?_;rintro v7 hv7;refine ns ?_;refine go 3 ?_;rw[e1E];refine d0S rfl Hb.o rfl (s0H b3 v7 [78] (u64 level) 1 (by omega) (by simp) hv7 (u1D _)) gSp ?_;rintro v11 hv11;refine ns ?_;refine go 8 ?_;refine a0D (a0L Ag.o rfl (by simp[ndL,c1,c3]) (d0X (a:= [a0J level]) rfl c1)) ?_;refine go 4 ?_;simp only[List.take_zero,List.flatMap_nil,List.append_nil];refine a0V (X:= {y:Nat×Value // y.1≤8∧y.2.oneCell'=true}) (fun y=> [(1,ptr b1),(3,ptr b3),(13,.agg (x.kids.map a0J).toArray),(14,.int .i64 y.1.1)]) (fun y=>o0I b3 y.1.2 (78::(num level 1++(x.kids.take y.1.1).flatMap (num · 2)))++ [pts b1 (.cells (ndL level x).toArray 182 (0,0)),R]) (fun y=>8-y.1.1) ⟨(0,v11),by omega,hv11⟩ gSu gSp ?_;rintro⟨⟨i,v⟩,hi,hv⟩ m0 hm0
 try simp only at hm0
 try dsimp only
 simp only at hi hv;refine ns ?_;refine go 6 ?_;refine a0P rfl (fun hb15=> ?_) (fun hb15=> ?_)
 ·have hi8:i<8:=by have:=of_decide_eq_true hb15;omega
  have hil:i<x.kids.length:=by omega
  refine go 6 ?_;refine a0D (p0V Tar.o Sc.o rfl rfl (by omega) (j0I a0J x.kids i _ hil (by omega))) ?_;refine go 6 ?_;rw[e1E];refine d0S rfl Hb.o rfl (s0H b3 v (78::(num level 1++(x.kids.take i).flatMap (num · 2))) (u64 x.kids[i]) 2 (by omega) (by have:=l1 i;simp only[List.length_cons,List.length_append,n1];omega) hv (u1D _)) gSp ?_;rintro v19 hv19;refine ns ?_;refine go 1 ?_;rw[List.append_assoc,show(x.kids.take i).flatMap (num · 2)++beB (u64 x.kids[i]) 2 2=(x.kids.take (i+1)).flatMap (num · 2)from(e1F (num · 2) x.kids i hil).symm];refine go 5 ?_;exact rd idh (⟨(i+1,v19),hi8,hv19⟩)
 ·obtain rfl:i=8:=by have:=of_decide_eq_false hb15;omega
  rw[List.take_of_length_le (by omega)];have lA:=l1 8;rw[List.take_of_length_le (by omega)]at lA;have lS:(num level 1++x.kids.flatMap (num · 2)).length≤17:=by rw[List.length_append,n1];omega
  generalize hS:num level 1++x.kids.flatMap (num · 2)=S at lS ⊢;have hl57:(78::(S++x.sum)).length≤60:=by simp only[List.length_cons,List.length_append];omega
  have hpl:=q0H hl57;refine go 5 ?_;refine a0D (a0L (v:=(x.sum.map a0Q).toArray) Ag.o rfl (by simp only[ndL,List.size_toArray,List.length_append,c1,c3,List.length_singleton];omega) (by rw[show ndL level x=([a0J level]++x.kids.map a0J)++(x.sum.map a0Q++ []) by simp[ndL]];exact d0X (by rw[List.length_append,c1];rfl) c3)) ?_;refine cg 0 (v0V x.sum hu) ?_;refine ce 0 (t0C b3 v (78::S) (bs x.sum) (by simp only[List.length_cons];omega) (by rw[b0F,hu];omega) hv) ?_;rintro v24 hv24;refine ns ?_;refine ce 0 (b1S b3 v24 (78::(S++x.sum)) 60 hl57 (by omega) hv24) ?_;rintro v25 hv25;refine ns ?_;refine b0U rfl Hb.o rfl (e1D b3 v25 _ hv25) gSp ?_;refine ns ?_;refine go 6 ?_;refine bl fun b28=> ?_;refine b0U rfl Hb.o rfl (s0I b28 1 _ (by rw[b0F,hpl];simp[maxLen])) gSp ?_;refine ns ?_;refine go 1 ?_;rw[show((Crc.crc (f0T 60 (78::(S++x.sum)))).toNat:Int)=(f0V (f0T 60 (78::(S++x.sum))):Nat)from rfl,q0J _ _ rfl (by have:=x0R (f0T 60 (78::(S++x.sum)));omega)];refine ce 0 (s0H b3 v25 (f0T 60 (78::(S++x.sum))) (f0V (f0T 60 (78::(S++x.sum)))) 4 (by omega) (by rw[hpl];omega) hv25 (by have:=x0R (f0T 60 (78::(S++x.sum)));omega)) ?_;rintro v31 hv31;refine ns ?_;refine b0U rfl Hb.o rfl (u0L b3 v31 _ hv31) gSp ?_;refine ns ?_;refine go 3 ?_;exact rG (hu:=(by unfold j0B u0D;simp only[List.cons_append,List.nil_append,List.append_assoc];rw[←hS];simp only[List.append_assoc]))
end Go.Proofs.Q

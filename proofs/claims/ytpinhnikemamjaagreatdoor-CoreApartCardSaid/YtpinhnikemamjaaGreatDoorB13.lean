/- Part of the proof; no statement of its own. -/
import Derived.Test.YtpinhnikemamjaaGreatDoorB12
import Derived.Test.YtpinhnikemamjaaGreatDoorB08
import Derived.Test.YtpinhnikemamjaaGreatDoorB05
import Derived.Test.YtpinhnikemamjaaGreatDoorB04
import Derived.Test.YtpinhnikemamjaaGreatDoorB09
import Derived.Test.YtpinhnikemamjaaGreatDoorB06
set_option linter.all false
set_option maxRecDepth 4000
set_option maxHeartbeats 4000000
namespace Go.Proofs.Q
open Go.Sl
section
theorem v0J (a b:BitVec 32):bits .xor .u32 (a.toNat:Int) (b.toNat:Int)=((a ^^^ b).toNat:Int):=by
 simp only[bits,BitVec.ofInt_natCast,BitVec.ofNat_toNat,BitVec.setWidth_eq,IntKind.bits]
 rw[IntKind.wrap_u32]
 exact Int.emod_eq_of_lt (Int.natCast_nonneg _) (by have:=(a ^^^ b).isLt;omega)
theorem w1T (a b:BitVec 32):bits .and .u32 (a.toNat:Int) (b.toNat:Int)=((a &&& b).toNat:Int):=by
 simp only[bits,BitVec.ofInt_natCast,BitVec.ofNat_toNat,BitVec.setWidth_eq,IntKind.bits]
 rw[IntKind.wrap_u32]
 exact Int.emod_eq_of_lt (Int.natCast_nonneg _) (by have:=(a &&& b).isLt;omega)
def j2R (j:Nat):Value:= .int .u32 ((Crc.l0I 4 (BitVec.ofNat 32 j)).toNat:Int)
def l0M (i:Nat):List Value:=(List.range 16).map fun j=>if j<i then j2R j else .int .u32 0
theorem o2N (k:Nat) (hk:k<16) (m:Nat) (hm:m=k) (v:Value) (hv:v=j2R k):(l0M k).set m v=l0M (k+1):=by
 subst hm;subst hv
 unfold l0M
 apply List.ext_getElem
 ·simp
 ·intro i h1 h2
  simp at h1
  rw[List.getElem_set]
  by_cases e:m=i
  ·subst e;simp
  ·simp[e]
   by_cases h:i<m
   ·simp[h,show i<m+1 by omega]
   ·simp[h,show ¬i<m+1 by omega]
theorem q1C (k:Nat): ∀x∈l0M k,x.oneCell'=true:=by
 intro x hx
 simp only[l0M,List.mem_map]at hx
 obtain⟨j,_,rfl⟩:=hx
 split<;>rfl
theorem j2S (x:BitVec 32):bits .xor .u32 ((x.toNat:Int)/2^Int.toNat 1) (bits .and .u32 2197175160 (IntKind.u32.wrap (0-bits .and .u32 (x.toNat:Int) 1)))=((Crc.stp x).toNat:Int):=by
 have h1:bits .and .u32 (x.toNat:Int) 1=((x &&& 1#32).toNat:Int):=w1T x 1#32
 have h2:((x.toNat:Int)/ (2:Int)^Int.toNat 1)=((x >>> 1).toNat:Int):=by simp[Nat.shiftRight_eq_div_pow]
 rw[h1,h2]
 have h0:(x &&& 1#32).toNat=x.toNat%2:=by rw[BitVec.toNat_and];exact Nat.and_one_is_mod _
 have hb:x.getLsbD 0=decide (x.toNat%2=1):=by rw[BitVec.getLsbD,Nat.testBit_zero]
 rw[h0]
 rcases Nat.mod_two_eq_zero_or_one x.toNat with h|h
 ·rw[h]
  have:bits .and .u32 2197175160 (IntKind.u32.wrap (0- ((0:Nat):Int)))=((0#32).toNat:Int):=by decide
  rw[this,v0J];unfold Crc.stp;rw[hb];simp[h]
 ·rw[h]
  have:bits .and .u32 2197175160 (IntKind.u32.wrap (0- ((1:Nat):Int)))=(Crc.p1L.toNat:Int):=by decide
  rw[this,v0J];unfold Crc.stp;rw[hb];simp[h]
theorem e2K (n:Nat) (x:BitVec 32):Crc.l0I (n+1) x=Crc.stp (Crc.l0I n x):=by
 rw[Crc.p1M];rfl
attribute [local irreducible] Sl.a0L Sl.OW Sl.CW Sl.OS Sl.OM Sl.OMf Sl.KM
theorem a2I:a0S Tryz.prog 193 #[] [] (b0G (.agg (l0M 16).toArray) []):=by
 refine a0C Tryz.func193 rfl Tryz.ntmps193 rfl (fun R w0=> ?_)
 simp only[a0N,List.cons_append,List.nil_append]
 refine go 2 ?_
 refine(a0U Zr.o (fun b0=> ?_))
 refine go 4 ?_
 refine(a0U Zr.o (fun b1=> ?_))
 refine go 9 ?_
 refine b0S (X:= {k:Nat // k≤16}) (fun x=> [(0,.pointer (some ⟨b0,0,none⟩)),(1,.pointer (some ⟨b1,0,none⟩)),(4,.int .i64 x.1)]) (fun x=> [pts b1 (.cells (l0M x.1).toArray 266 (0,0)),pts b0 (.cells (l0M 0).toArray 266 (0,0)),R]) (fun x=>16-x.1) ⟨0,by omega⟩ gSu gSp ?_
 rintro⟨k,hk⟩ m0 hm0
 try simp only at hm0
 try dsimp only
 skip
 refine go 6 ?_
 refine b0C rfl (fun hb5=> ?_) (fun hb5=> ?_)
 ·have hlt:k<16:=by have:=of_decide_eq_true hb5;omega
  refine go 16 ?_
  have hw:IntKind.u32.wrap (k:Int)=((Crc.l0I 0 (BitVec.ofNat 32 k)).toNat:Int):=by rw[IntKind.wrap_u32];simp[Crc.l0I]
  rw[hw]
  refine go 8 ?_
  refine b0S (X:= {j:Nat // j≤4}) (fun x=> [(0,.pointer (some ⟨b0,0,none⟩)),(1,.pointer (some ⟨b1,0,none⟩)),(4,.int .i64 k),(2,.int .i64 k),(3,.int .u32 ((Crc.l0I x.1 (BitVec.ofNat 32 k)).toNat:Int)),(9,.int .i64 x.1)]) (fun x=> [pts b1 (.cells (l0M k).toArray 266 (0,0)),pts b0 (.cells (l0M 0).toArray 266 (0,0)),R]) (fun x=>4-x.1) ⟨0,by omega⟩ gSu gSp ?_
  rintro⟨j,hj⟩ m2 hm2
  try simp only at hm2
  try dsimp only
  skip
  refine go 6 ?_
  refine b0C rfl (fun hb10=> ?_) (fun hb10=> ?_)
  ·have hjt:j<4:=by have:=of_decide_eq_true hb10;omega
   refine go 6 ?_
   refine a0F (t0L rfl rfl (by first|decide| (simp only[IntKind.bits];omega))) ?_
   refine go 1 ?_
   refine a0F (n0L rfl rfl) ?_
   refine a0F (s2R rfl) ?_
   refine a0F (n0L rfl rfl) ?_
   refine a0F (d1H rfl rfl) ?_
   refine go 2 ?_
   rw[j2S,←e2K]
   refine go 5 ?_
   refine b0Q (fun _ _ h=>h) (⟨j+1,hjt⟩) (by first|omega| (simp only;omega)) gSu gSp
  ·have hj4:j=4:=by have:=of_decide_eq_false hb10;omega
   subst hj4
   refine go 6 ?_
   refine d0V Sz.o rfl rfl rfl (by simp[l0M];omega) (o2N k hlt _ (by simp) _ rfl) ?_
   refine go 6 ?_
   refine b0Q (fun _ _ h=>h) (⟨k+1,hlt⟩) (by first|omega| (simp only;omega)) gSu gSp
 ·have hk4:k=16:=by have:=of_decide_eq_false hb5;omega
  subst hk4
  refine go 4 ?_
  refine a0F (a0O Ag.o rfl (by simp[l0M]) (a0I (by simp[l0M]))) ?_
  refine a0K Sz.o rfl rfl (by simp[l0M]) (fun x hx=>q1C _ x (by simpa using hx)) (by simp[l0M]) (a0R (by simp[l0M])) ?_
  refine go 2 ?_
  refine p0L (fun _ _ h=>h) (RV.agg Ag.o rfl (by simp[l0M]) (a0I (by simp[l0M])) RV.nil) rfl gSp
end
section
theorem o2O (x:BitVec 32):bits .xor .u32 (if IntKind.u32.signed then -1 else IntKind.u32.max) (x.toNat:Int)=((~~~ x).toNat:Int):=by
 have h:(if IntKind.u32.signed then -1 else IntKind.u32.max)=((BitVec.allOnes 32).toNat:Int):=by decide
 rw[h,v0J]
 have e:BitVec.allOnes 32 ^^^ x= ~~~ x:=by rw[BitVec.xor_comm];exact BitVec.xor_allOnes
 rw[e]
theorem shr4 (x:BitVec 32):((x.toNat:Int)/ (2:Int)^Int.toNat 4)=((x >>> 4).toNat:Int):=by simp[Nat.shiftRight_eq_div_pow]
theorem j2T (c:UInt8):IntKind.u32.wrap (c.toNat:Int)=((c.toBitVec.setWidth 32).toNat:Int):=by
 rw[IntKind.wrap_u32,BitVec.toNat_setWidth]
 have h:=c.toNat_lt
 have e:c.toBitVec.toNat=c.toNat:=rfl
 rw[e];omega
theorem e2L (y:BitVec 32) (i:Nat) (hi:i=(y &&& 15#32).toNat):nth (l0M 16) i=some (.int .u32 ((Crc.tab (y &&& 15#32)).toNat:Int)):=by
 subst hi
 have h:(y &&& 15#32).toNat<16:=by rw[BitVec.toNat_and];exact Nat.lt_of_le_of_lt Nat.and_le_right (by decide)
 rw[e0L]
 simp only[l0M,List.getElem?_map,List.getElem?_range h,Option.map_some,if_pos h,j2R,Crc.tab,BitVec.ofNat_toNat,BitVec.setWidth_eq]
theorem m2Q (y:BitVec 32):bits .and .u32 (y.toNat:Int) 15=((y &&& 15#32).toNat:Int):=w1T y 15#32
theorem q1D (y:BitVec 32):0≤((y &&& 15#32).toNat:Int)∧((y &&& 15#32).toNat:Int)<16:=by
 have h:(y &&& 15#32).toNat<16:=by rw[BitVec.toNat_and];exact Nat.lt_of_le_of_lt Nat.and_le_right (by decide)
 omega
theorem f1J (s:ByteArray) (cap i:Nat) (h:i<s.size) (k:Nat) (hk:k=i):nth (o0S s cap) k=some (a0Z (s.data.toList[i]'(by simpa using h))):=by
 subst hk
 have hl:k<(s.data.toList.map a0Z).length:=by simpa using h
 rw[e0L,o0S,List.getElem?_append_left hl,List.getElem?_eq_getElem hl,List.getElem_map]
def m0T (ss:List ByteArray):List UInt8:=ss.flatMap fun s=>s.data.toList
theorem q1E (ss:List ByteArray) (i:Nat) (h:i<ss.length):m0T (ss.take (i+1))=m0T (ss.take i)++ss[i].data.toList:=by
 simp only[m0T]
 rw[List.take_succ,List.getElem?_eq_getElem h,List.flatMap_append];simp
theorem j2U (x:BitVec 32) (l:List UInt8) (i:Nat) (h:i<l.length):Crc.run x (l.take (i+1))=Crc.byt (Crc.run x (l.take i)) l[i]:=by
 rw[List.take_succ,List.getElem?_eq_getElem h,Crc.i1E];simp[Crc.run]
attribute [local irreducible] Sl.a0L Sl.OW Sl.CW Sl.OS Sl.OM Sl.OMf Sl.KM
theorem e2M (p:Option Addr) (cap:Nat) (ss:List ByteArray) (A:a0E) (hn:ss.length≤maxLen) (hs: ∀s∈ss,s.size≤maxLen)
 (hA: ∀i (h:i<ss.length),∃a,p=some a∧ ∀(w:World) L,Sat w (A::L)→w.cell? (a.add i)=some (.string ss[i])):
 a0S Tryz.prog 160 #[.slice p ss.length cap] [A] (b0G (.int .u32 ((Crc.crc (m0T ss)).toNat:Int)) [A]):=by
 simp only[maxLen]at hn
 refine a0C Tryz.func160 rfl Tryz.ntmps160 rfl (fun R w0=> ?_)
 simp only[a0N,List.cons_append,List.nil_append]
 refine go 7 ?_
 refine a0D rfl Hb.o rfl (a2I) gSp ?_
 refine ns ?_
 refine(a0U Zr.o (fun b3=> ?_))
 refine a0K Sz.o rfl rfl (by simp[l0M]) (fun x hx=>q1C _ x (by simpa using hx)) (by simp[l0M,Value.cells]) (a0R (by simp[l0M,Value.cells])) ?_
 refine go 16 ?_
 refine b0S (X:= {i:Nat // i≤ss.length}) (fun x=> [(3,.pointer (some ⟨b3,0,none⟩)),(4,.int .u32 ((Crc.run (~~~ 0#32) (m0T (ss.take x.1))).toNat:Int)),(10,.slice p ss.length cap),(11,.int .i64 ss.length),(12,.int .i64 x.1)]) (fun x=> [A,R,pts b3 (.cells (l0M 16).toArray 266 (0,0))]) (fun x=>ss.length-x.1) ⟨0,by omega⟩ gSu gSp ?_
 rintro⟨i,hi⟩ m0 hm0
 try simp only at hm0
 try dsimp only
 skip
 refine go 6 ?_
 refine b0C rfl (fun hb13=> ?_) (fun hb13=> ?_)
 ·have hlt:i<ss.length:=by have:=of_decide_eq_true hb13;omega
  obtain⟨a,rfl,hc⟩:=hA i hlt
  have hsz:ss[i].size≤9223372036854775807:=hs _ (List.getElem_mem hlt)
  have hsl:ss[i].data.toList.length=ss[i].size:=by simp
  refine go 6 ?_
  refine a0F (d2J Tsl.o rfl rfl (by omega)) ?_
  refine a0F (y0F Sc.o rfl gFd (fun w L h=>by simpa using hc w L h)) ?_
  refine go 6 ?_
  refine o1V Tst.o Tsl.o Tby.o rfl (by simp only[maxLen];omega) (fun b17 k17 hk17 hm17=> ?_)
  refine go 5 ?_
  refine b0S (X:= {j:Nat // j≤ss[i].size}) (fun x=> [(3,.pointer (some ⟨b3,0,none⟩)),(4,.int .u32 ((Crc.run (Crc.run (~~~ 0#32) (m0T (ss.take i))) (ss[i].data.toList.take x.1)).toNat:Int)),(10,.slice (some a) ss.length cap),(11,.int .i64 ss.length),(12,.int .i64 i),(17,.slice (some ⟨b17,0,none⟩) ss[i].size k17),(18,.int .i64 ss[i].size),(19,.int .i64 x.1)]) (fun x=> [A,R,pts b3 (.cells (l0M 16).toArray 266 (0,0)),pts b17 (.cells (o0S ss[i] k17).toArray 5 (k17,k17+1))]) (fun x=>ss[i].size-x.1) ⟨0,by omega⟩ gSu gSp ?_
  rintro⟨j,hj⟩ m2 hm2
  try simp only at hm2
  try dsimp only
  skip
  refine go 6 ?_
  refine b0C rfl (fun hb20=> ?_) (fun hb20=> ?_)
  ·have hjt:j<ss[i].size:=by have:=of_decide_eq_true hb20;omega
   refine go 7 ?_
   refine a0F (b0T Sc.o rfl (f1J ss[i] k17 j hjt _ (by simp))) ?_
   refine go 2 ?_
   have hjl:j<ss[i].data.toList.length:=by omega
   rw[show ss[i].data.toList[j]=ss[i].data.toList[j]'hjl from rfl]
   generalize hx0:Crc.run (Crc.run (~~~ 0#32) (m0T (ss.take i))) (ss[i].data.toList.take j)=x0
   generalize hc0:ss[i].data.toList[j]'hjl=c0
   refine go 6 ?_
   refine a0F (d1H rfl rfl) ?_
   refine go 2 ?_
   rw[j2T,v0J]
   generalize hx1:x0 ^^^ c0.toBitVec.setWidth 32=x1
   refine go 2 ?_
   have h15:=q1D x1
   refine go 2 ?_
   refine a0F (t0L rfl rfl (by first|decide| (simp only[IntKind.bits];omega))) ?_
   refine go 1 ?_
   refine a0F (n0L rfl rfl) ?_
   rw[m2Q]
   refine go 1 ?_
   refine a0F (b0T Sc.o rfl (e2L x1 _ (by simp))) ?_
   refine a0F (d1H rfl rfl) ?_
   refine go 2 ?_
   rw[shr4,v0J]
   generalize hx2:(x1 >>> 4 ^^^ Crc.tab (x1 &&& 15#32))=x2
   refine go 1 ?_
   have h152:=q1D x2
   refine go 2 ?_
   refine a0F (t0L rfl rfl (by first|decide| (simp only[IntKind.bits];omega))) ?_
   refine go 1 ?_
   refine a0F (n0L rfl rfl) ?_
   rw[m2Q]
   refine go 1 ?_
   refine a0F (b0T Sc.o rfl (e2L x2 _ (by simp))) ?_
   refine a0F (d1H rfl rfl) ?_
   refine go 2 ?_
   rw[shr4,v0J]
   have hfin:x2 >>> 4 ^^^ Crc.tab (x2 &&& 15#32)=Crc.run (Crc.run (~~~ 0#32) (m0T (ss.take i))) (ss[i].data.toList.take (j+1)):=by
    rw[j2U _ _ _ hjl,hx0,hc0,Crc.o2B,hx1];unfold Crc.nib;rw[hx2]
   rw[hfin]
   refine go 5 ?_
   refine b0Q (fun _ _ h=>h) (⟨j+1,hjt⟩) (by first|omega| (simp only;omega)) gSu gSp
  ·have hje:j=ss[i].size:=by have:=of_decide_eq_false hb20;omega
   have hrun:Crc.run (Crc.run (~~~ 0#32) (m0T (ss.take i))) (ss[i].data.toList.take j)=Crc.run (~~~ 0#32) (m0T (ss.take (i+1))):=by
    have htk:ss[i].data.toList.take j=ss[i].data.toList:=List.take_of_length_le (by rw[hsl];omega)
    rw[q1E ss i hlt,Crc.i1E,htk]
   rw[hrun]
   refine go 6 ?_
   refine b0Q (fun _ _ h=>h) (⟨i+1,hlt⟩) (by first|omega| (simp only;omega)) gSu gSp
 ·have hie:i=ss.length:=by have:=of_decide_eq_false hb13;omega
  rw[List.take_of_length_le (by omega)]
  refine go 5 ?_
  refine a0F (y1Z rfl) ?_
  refine go 3 ?_
  refine b0V (fun _ _ h=>h) rfl (by rw[o2O];rfl) gSp
end
theorem j2V (b cap:Nat) (ss:List ByteArray) (hn:ss.length≤maxLen) (hs: ∀s∈ss,s.size≤maxLen):
 a0S Tryz.prog 160 #[.slice (some ⟨b,0,none⟩) ss.length cap] [pts b (.cells (ss.map Value.string).toArray 9 (0,0))] (b0G (.int .u32 ((Crc.crc (m0T ss)).toNat:Int)) []):=by
 refine a0S.weak (e2M _ cap ss _ hn hs (fun i h=>⟨_,rfl,fun w L hsat=> ?_⟩))
 have hb:=hsat.pts
 simp[World.cell?,i0C,hb,h]
theorem r0N (b cap:Nat) (s:ByteArray) (hs:s.size≤maxLen):
 a0S Tryz.prog 160 #[.slice (some ⟨b,0,none⟩) 1 cap] [pts b (.cells #[.string s] 9 (0,0))] (b0G (.int .u32 ((Crc.crc s.data.toList).toNat:Int)) []):=by
 have:=j2V b cap [s] (by simp[maxLen]) (by simpa using hs)
 simpa [m0T] using this
end Go.Proofs.Q
namespace Go.Proofs.Q
open Go.Sl Go.Sb
section
def d1P (n:Nat) (l:B):Out B×B:=if l.length<n then(.err 2,l)else(.ok (l.take n),l.drop n)
def k1L (k:Nat) (l:B):Out Nat×B:=if l.length<k then(.err 2,l)else(.ok (be (l.take k)),l.drop k)
def d1Q (l:B):Out Unit×B:=if l= []then(.ok (),[])else(.err 1,l)
def d1R (l:B):Out Unit×B:=if b0B l then(.ok (),[])else(.err 1,l)
def u64V (n:Nat):Value:= .int .u64 n
theorem m1I {n:Nat} {l:B} {e:Int} {t:B} (h:d1P n l=(.err e,t)):l.length<n∧e=2:=by
 unfold d1P at h;split at h
 ·rename_i h';cases h;exact⟨h',rfl⟩
 ·cases h
theorem q1F {n:Nat} {l a t:B} (h:d1P n l=(.ok a,t)):n≤l.length∧a=l.take n∧t=l.drop n:=by
 unfold d1P at h;split at h
 ·cases h
 ·rename_i h';cases h;exact⟨by omega,rfl,rfl⟩
theorem q1G {n:Nat} {l:B} {e:Int} {t:B} (h:k1L n l=(.err e,t)):l.length<n∧e=2:=by
 unfold k1L at h;split at h
 ·rename_i h';cases h;exact⟨h',rfl⟩
 ·cases h
theorem w1U {n:Nat} {l t:B} {a:Nat} (h:k1L n l=(.ok a,t)):n≤l.length∧a=be (l.take n)∧t=l.drop n:=by
 unfold k1L at h;split at h
 ·cases h
 ·rename_i h';cases h;exact⟨by omega,rfl,rfl⟩
theorem m1J {l:B} {e:Int} {t:B} (h:d1Q l=(.err e,t)):l≠ []∧e=1:=by
 unfold d1Q at h;split at h
 ·cases h
 ·rename_i h';cases h;exact⟨h',rfl⟩
theorem q1H {l t:B} {x:Unit} (h:d1Q l=(.ok x,t)):l= []:=by
 unfold d1Q at h;split at h
 ·assumption
 ·cases h
theorem m1K {l:B} {e:Int} {t:B} (h:d1R l=(.err e,t)):b0B l=false∧e=1:=by
 unfold d1R at h;split at h
 ·cases h
 ·rename_i h';cases h;exact⟨by simpa using h',rfl⟩
theorem q1I {l t:B} {x:Unit} (h:d1R l=(.ok x,t)):b0B l=true:=by
 unfold d1R at h;split at h
 ·assumption
 ·cases h
theorem i1L (b:Nat) (l:B) (n:Nat) (hs:l.length≤1000000):a0S Tryz.prog 130 #[ptr b,.int .i64 n] [p0S b l] (Ran fT (fun l=> [p0S b l]) b0H (d1P n l)):=by
 unfold d1P
 split
 ·rename_i h;exact p1I b (bs l) n (by rw[b0N];exact h) (by rw[b0N];exact hs)
 ·rename_i h;exact s0Y b l n (by omega) hs
theorem m1L (b:Nat) (l:B) (k:Nat) (hk:1≤k∧k≤8) (hs:l.length≤1000000):a0S Tryz.prog 129 #[ptr b,.int .i64 k] [p0S b l] (Ran fT (fun l=> [p0S b l]) u64V (k1L k l)):=by
 unfold k1L
 split
 ·rename_i h;exact j2D b l k hk h hs
 ·rename_i h;exact y0K b l k hk (by omega) hs
theorem m1M {α:Type} {p:α→Bool} : ∀ {l:List α},l.dropWhile p= []↔ ∀x∈l,p x=true
 | []=>by simp
 |x::l=>by
  rw[List.dropWhile_cons]
  split
  ·rename_i h;rw[m1M (l:=l)];simp[h]
  ·rename_i h;simp[h]
theorem m1N {α:Type} {p:α→Bool} {x:α} : ∀ {l:List α},x∈l.takeWhile p→p x=true
 | [],h=>by simp at h
 |y::l,h=>by
  rw[List.takeWhile_cons]at h
  split at h
  ·rename_i hy
   rcases List.mem_cons.1 h with rfl|h
   ·exact hy
   ·exact m1N h
  ·simp at h
theorem j2W (l:B):Lib.trimB l 0= []↔b0B l=true:=by
 unfold Lib.trimB Lib.trimLeftB Lib.trimRightB b0B
 rw[m1M]
 constructor
 ·intro h
  refine List.all_eq_true.2 fun x hx=> ?_
  by_cases hx0:x=0
  ·simp[hx0]
  ·exfalso
   have hm:x∈(l.reverse.dropWhile (· == 0)).reverse:=by
    rw[List.mem_reverse]
    have h1:x∈l.reverse:=List.mem_reverse.2 hx
    rw[←List.takeWhile_append_dropWhile (p:=(· == 0)) (l:=l.reverse)]at h1
    rcases List.mem_append.1 h1 with h2|h2
    ·have:=m1N h2
     simp at this;exact(hx0 this).elim
    ·exact h2
   have:=h x hm
   simp at this;exact hx0 this
 ·intro h x hx
  have h1:=List.mem_reverse.1 hx
  have h2:=(List.dropWhile_sublist _).mem h1
  exact(List.all_eq_true.1 h) x (List.mem_reverse.1 h2)
theorem a2J (l:B) (h:l.length≤1000000):a0S Tryz.prog 224 #[b0H l,.string ⟨#[0]⟩] [] (b0G (b0H (Lib.trimB l 0)) []):=by
 refine d2Q fun w=> ?_
 have h:=Tryz.strings_Trim_one (bs l) 0 (by decide) w (by rw[b0N];omega)
 rw[l0B]at h
 exact h
theorem c0P (l:B):(bs l).toList=l:=by rw[ByteArray.toList_eq]
theorem k1M (l:B):((bs (Lib.trimB l 0)).toList == (⟨#[]⟩:ByteArray).toList)=b0B l:=by
 rw[show(⟨#[]⟩:ByteArray)=bs []from rfl,c0P,c0P,Bool.eq_iff_iff,beq_iff_eq];exact j2W l
attribute [local irreducible] Sl.a0L Sl.OW Sl.CW Sl.OS Sl.OM Sl.OMf Sl.KM
theorem x0H (l:B) (h:l.length≤1000000):a0S Tryz.prog 198 #[b0H l] [] (b0G (.bool (b0B l)) []):=by
 refine a0C Tryz.func198 rfl Tryz.ntmps198 rfl (fun R w0=> ?_)
 simp only[a0N,List.cons_append,List.nil_append]
 refine go 8 ?_
 refine a0D rfl Hb.o rfl (a2J l h) gSp ?_
 refine ns ?_
 refine a0F (b1D rfl rfl) ?_
 refine go 2 ?_
 rw[k1M]
 refine go 1 ?_
 refine b0V (fun _ _ h=>h) rfl rfl gSp
theorem i1M (b:Nat) (l:B) (h:l.length≤1000000):a0S Tryz.prog 186 #[ptr b] [p0S b l] (Ran fT (fun l=> [p0S b l]) k0P (d1R l)):=by
 unfold d1R
 by_cases h0:b0B l=true
 ·rw[if_pos h0]
  refine a0C Tryz.func186 rfl Tryz.ntmps186 rfl (fun R w0=> ?_)
  simp only[a0N,List.cons_append,List.nil_append]
  refine go 7 ?_
  refine a0D rfl Hb.o rfl (a2J l h) gSp ?_
  refine ns ?_
  refine a0F (g0V rfl rfl) ?_
  refine go 2 ?_
  refine c0C rfl (by rw[k1M,h0];rfl) ?_
  refine go 8 ?_
  refine e0N rfl rfl gSp
 ·rw[if_neg h0]
  refine a0C Tryz.func186 rfl Tryz.ntmps186 rfl (fun R w0=> ?_)
  simp only[a0N,List.cons_append,List.nil_append]
  refine go 7 ?_
  refine a0D rfl Hb.o rfl (a2J l h) gSp ?_
  refine ns ?_
  refine a0F (g0V rfl rfl) ?_
  refine go 2 ?_
  refine d0W rfl (by rw[k1M];simp[h0]) ?_
  refine go 1 ?_
  refine c0M rfl Hb.o rfl (d0C 1) gSp ?_
  simp only[List.cons_append,List.nil_append]
  refine pn ?_
  refine e0H (fun _ _ h=>h) (b0L.back gSp) ⟨rfl,rfl⟩
theorem i1N (b:Nat) (l:B):a0S Tryz.prog 185 #[ptr b] [p0S b l] (Ran fT (fun l=> [p0S b l]) k0P (d1Q l)):=by
 unfold d1Q
 by_cases h0:l= []
 ·rw[if_pos h0];subst h0
  refine a0C Tryz.func185 rfl Tryz.ntmps185 rfl (fun R w0=> ?_)
  simp only[a0N,List.cons_append,List.nil_append]
  refine go 6 ?_
  refine a0F (g0V rfl rfl) ?_
  refine go 2 ?_
  refine c0C rfl (by rw[show(⟨#[]⟩:ByteArray)=bs []from rfl,c0P];rfl) ?_
  refine go 1 ?_
  refine e0N rfl rfl gSp
 ·rw[if_neg h0]
  refine a0C Tryz.func185 rfl Tryz.ntmps185 rfl (fun R w0=> ?_)
  simp only[a0N,List.cons_append,List.nil_append]
  refine go 6 ?_
  refine a0F (g0V rfl rfl) ?_
  refine go 2 ?_
  refine d0W rfl (by rw[show(⟨#[]⟩:ByteArray)=bs []from rfl,c0P,c0P];simp[h0]) ?_
  refine go 1 ?_
  refine c0M rfl Hb.o rfl (d0C 1) gSp ?_
  simp only[List.cons_append,List.nil_append]
  refine pn ?_
  refine e0H (fun _ _ h=>h) (b0L.back gSp) ⟨rfl,rfl⟩
end
section
attribute [local irreducible] Sl.a0L Sl.OW Sl.CW Sl.OS Sl.OM Sl.OMf Sl.KM
theorem s0H (l:B) (h:l.length=32):a0S Tryz.prog 14 #[e0J l] [] (b0G (b0H l) []):=by
 unfold e0J
 refine a0C Tryz.func14 rfl Tryz.ntmps14 rfl (fun R w0=> ?_)
 simp only[a0N,List.cons_append,List.nil_append]
 refine go 2 ?_
 refine(a0X rfl (fun b1=> ?_))
 refine go 5 ?_
 refine a0F (z0I Tar.o rfl) ?_
 refine a0F (h1L Tsl.o Tst.o Tby.o rfl (l:=l) h (by simp[Value.cells];exact List.take_of_length_le (by simp[h]))) ?_
 refine go 3 ?_
 refine b0V (fun _ _ h=>h) rfl rfl gSp
end
end Go.Proofs.Q
namespace Go.Sb
section
section
variable {K V:Type} [DecidableEq K]
def mok (m:List (K×V)):Prop:=(m.map (·.1)).Nodup
theorem i0T (k j:K) (v:V): ∀m:List (K×V),a0H j (c0F k v m)=if k=j then some v else a0H j m
 | []=>by simp[c0F,a0H]
 | (i,u)::m=>by
  by_cases h:i=k
  ·subst h
   by_cases h2:i=j<;>simp[c0F,a0H,h2]
  ·simp only[c0F,if_neg h,a0H,i0T k j v m]
   by_cases h2:i=j
   ·subst h2;simp[Ne.symm h]
   ·simp[h2]
theorem m1O {k:K} : ∀ {m:List (K×V)},k ∉ m.map (·.1)→a0H k m=none
 | [],_=>rfl
 | (i,u)::m,h=>by
  simp only[List.map_cons,List.mem_cons,not_or]at h
  simp[a0H,Ne.symm h.1,m1O h.2]
theorem c0V (k j:K): ∀ {m:List (K×V)},mok m→a0H j (b0I k m)=if k=j then none else a0H j m
 | [],_=>by simp[b0I,a0H]
 | (i,u)::m,h=>by
  have h':i ∉ m.map (·.1)∧mok m:=by simpa [mok] using h
  by_cases e:i=k
  ·subst e
   by_cases h2:i=j
   ·subst h2;simp[b0I,m1O h'.1]
   ·simp[b0I,a0H,h2]
  ·simp only[b0I,if_neg e,a0H,c0V k j h'.2]
   by_cases h2:i=j
   ·subst h2;simp[Ne.symm e]
   ·simp[h2]
theorem q1J {k x:K} {v:V} : ∀ {m:List (K×V)},x∈(c0F k v m).map (·.1)↔x=k∨x∈m.map (·.1)
 | []=>by simp[c0F]
 | (i,u)::m=>by
  by_cases e:i=k
  ·subst e;simp[c0F]
  ·simp only[c0F,if_neg e,List.map_cons,List.mem_cons,q1J (m:=m)]
   constructor
   ·rintro(h|h|h)<;>simp[h]
   ·rintro(h|h|h)<;>simp[h]
theorem n0J (k:K) (v:V): ∀ {m:List (K×V)},mok m→mok (c0F k v m)
 | [],_=>by simp[c0F,mok]
 | (i,u)::m,h=>by
  have h':i ∉ m.map (·.1)∧mok m:=by simpa [mok] using h
  by_cases e:i=k
  ·subst e;simpa [c0F,mok] using h
  ·simp only[c0F,if_neg e,mok,List.map_cons,List.nodup_cons]
   exact⟨fun hm=>by
    rcases q1J.1 hm with h2|h2
    ·exact e h2
    ·exact h'.1 h2,n0J k v h'.2⟩
theorem q1K {k x:K} : ∀ {m:List (K×V)},x∈(b0I k m).map (·.1)→x∈m.map (·.1)
 | [],h=>h
 | (i,u)::m,h=>by
  by_cases e:i=k
  ·subst e;simp only[b0I,if_pos]at h;exact List.mem_cons_of_mem _ h
  ·simp only[b0I,if_neg e,List.map_cons,List.mem_cons]at h ⊢
   exact h.imp id q1K
theorem j0K (k:K): ∀ {m:List (K×V)},mok m→mok (b0I k m)
 | [],h=>h
 | (i,u)::m,h=>by
  have h':i ∉ m.map (·.1)∧mok m:=by simpa [mok] using h
  by_cases e:i=k
  ·subst e;simpa [b0I] using h'.2
  ·simp only[b0I,if_neg e,mok,List.map_cons,List.nodup_cons]
   exact⟨fun hm=>h'.1 (q1K hm),j0K k h'.2⟩
theorem g0X {k:K} {v:V} : ∀ {m:List (K×V)},mok m→(a0H k m=some v↔(k,v)∈m)
 | [],_=>by simp[a0H]
 | (i,u)::m,h=>by
  have h':i ∉ m.map (·.1)∧mok m:=by simpa [mok] using h
  by_cases e:i=k
  ·subst e
   simp only[a0H,if_pos,List.mem_cons,Prod.mk.injEq,Option.some.injEq,true_and]
   constructor
   ·intro h;exact .inl h.symm
   ·rintro(h|h)
    ·exact h.symm
    ·exact(h'.1 (List.mem_map.2 ⟨_,h,rfl⟩)).elim
  ·simp only[a0H,if_neg e,g0X h'.2,List.mem_cons,Prod.mk.injEq,Ne.symm e,false_and,false_or]
def meq (m n:List (K×V)):Prop:= ∀k,a0H k m=a0H k n
theorem j2X {m n:List (K×V)} (h1:mok m) (h2:mok n) (h:meq m n):m.Perm n:=by
 have d1:m.Nodup:=(List.pairwise_map.1 h1).imp fun {a b} (h:a.1≠b.1) (e:a=b)=>h (congrArg Prod.fst e)
 have d2:n.Nodup:=(List.pairwise_map.1 h2).imp fun {a b} (h:a.1≠b.1) (e:a=b)=>h (congrArg Prod.fst e)
 refine(List.perm_ext_iff_of_nodup d1 d2).2 fun⟨k,v⟩=> ?_
 rw[←g0X h1,←g0X h2,h k]
theorem o2P {m n:List (K×V)} (k:K) (v:V) (h:meq m n):meq (c0F k v m) (c0F k v n):=fun j=>by rw[i0T,i0T,h j]
theorem o2Q {m n:List (K×V)} (k:K) (h1:mok m) (h2:mok n) (h:meq m n):meq (b0I k m) (b0I k n):=fun j=>by rw[c0V k j h1,c0V k j h2,h j]
theorem t0R {m n:List (K×V)} (k:K) (w:Option V) (h1:mok m) (h2:mok n) (h:meq m n):meq (f0K k w m) (f0K k w n):=by
 cases w with
 |none=>exact o2Q k h1 h2 h
 |some v=>exact o2P k v h
theorem t0S {m:List (K×V)} (k:K) (w:Option V) (h:mok m):mok (f0K k w m):=by
 cases w with
 |none=>exact j0K k h
 |some v=>exact n0J k v h
theorem t0T {m:List (K×V)} (k:K) (v:V) (h:mok m):meq (f0K k (a0H k m) (c0F k v m)) m:=fun j=>by
 cases hk:a0H k m with
 |none=>
  simp only[f0K,c0V k j (n0J k v h),i0T]
  by_cases e:k=j
  ·subst e;simp[hk]
  ·simp[e]
 |some u=>
  simp only[f0K,i0T]
  by_cases e:k=j
  ·subst e;simp[hk]
  ·simp[e]
theorem t0U {m:List (K×V)} (k:K) (h:mok m):meq (f0K k (a0H k m) (b0I k m)) m:=fun j=>by
 cases hk:a0H k m with
 |none=>
  simp only[f0K,c0V k j (j0K k h),c0V k j h]
  by_cases e:k=j
  ·subst e;simp[hk]
  ·simp[e]
 |some u=>
  simp only[f0K,i0T,c0V k j h]
  by_cases e:k=j
  ·subst e;simp[hk]
  ·simp[e]
end
structure Eqv (s t:St):Prop where
 fr:s.fr=t.fr
 g:s.g=t.g
 gone:s.gone=t.gone
 keep:s.keep=t.keep
 depth:s.depth=t.depth
 bits:s.bits=t.bits
 next:s.next=t.next
 epoch:s.epoch=t.epoch
 refs:meq s.refs t.refs
 young:meq s.young t.young
 index:meq s.index t.index
 vols:meq s.vols t.vols
structure MOK (s:St):Prop where
 refs:mok s.refs
 young:mok s.young
 index:mok s.index
 vols:mok s.vols
theorem Eqv.refl (s:St):Eqv s s:=⟨rfl,rfl,rfl,rfl,rfl,rfl,rfl,rfl,fun _=>rfl,fun _=>rfl,fun _=>rfl,fun _=>rfl⟩
theorem Eqv.trans {s t u:St} (h:Eqv s t) (k:Eqv t u):Eqv s u:=
 ⟨h.fr.trans k.fr,h.g.trans k.g,h.gone.trans k.gone,h.keep.trans k.keep,h.depth.trans k.depth,h.bits.trans k.bits,h.next.trans k.next,h.epoch.trans k.epoch,
  fun x=>(h.refs x).trans (k.refs x),fun x=>(h.young x).trans (k.young x),fun x=>(h.index x).trans (k.index x),fun x=>(h.vols x).trans (k.vols x)⟩
theorem e2N {st:c0Y} {s:St} (h:MOK s):MOK (n0N st s):=by
 cases st<;>first
  |exact⟨h.refs,h.young,h.index,h.vols⟩
  |exact⟨t0S _ _ h.refs,h.young,h.index,h.vols⟩
  |exact⟨h.refs,t0S _ _ h.young,h.index,h.vols⟩
  |exact⟨h.refs,h.young,t0S _ _ h.index,h.vols⟩
  |exact⟨h.refs,h.young,h.index,t0S _ _ h.vols⟩
theorem e2O {st:c0Y} {s t:St} (hs:MOK s) (ht:MOK t) (h:Eqv s t):Eqv (n0N st s) (n0N st t):=by
 obtain⟨h1,h2,h3,h4,h5,h6,h7,h8,h9,h10,h11,h12⟩:=h
 cases st with
 |give a=>exact⟨h1,by simp only[n0N,h1,h2],h3,h4,h5,h6,h7,h8,h9,h10,h11,h12⟩
 |back a=>exact⟨h1,by simp only[n0N,h1,h2],h3,h4,h5,h6,h7,h8,h9,h10,h11,h12⟩
 |refs k w=>exact⟨h1,h2,h3,h4,h5,h6,h7,h8,t0R k w hs.refs ht.refs h9,h10,h11,h12⟩
 |young k w=>exact⟨h1,h2,h3,h4,h5,h6,h7,h8,h9,t0R k w hs.young ht.young h10,h11,h12⟩
 |index k w=>exact⟨h1,h2,h3,h4,h5,h6,h7,h8,h9,h10,t0R k w hs.index ht.index h11,h12⟩
 |vols k w=>exact⟨h1,h2,h3,h4,h5,h6,h7,h8,h9,h10,h11,t0R k w hs.vols ht.vols h12⟩
 |keep w=>exact⟨h1,h2,h3,rfl,h5,h6,h7,h8,h9,h10,h11,h12⟩
 |gone w=>exact⟨h1,h2,rfl,h4,h5,h6,h7,h8,h9,h10,h11,h12⟩
 |next w=>exact⟨h1,h2,h3,h4,h5,h6,rfl,h8,h9,h10,h11,h12⟩
theorem u0B {s:St} (h:MOK s): ∀l,MOK (e0R s l)
 | []=>h
 |_::l=>e2N (u0B h l)
theorem c1B {s t:St} (hs:MOK s) (ht:MOK t) (h:Eqv s t): ∀l,Eqv (e0R s l) (e0R t l)
 | []=>h
 |_::l=>e2O (u0B hs l) (u0B ht l) (c1B hs ht h l)
theorem m1P (s:St) (l2:List c0Y): ∀l1,e0R s (l1++l2)=e0R (e0R s l2) l1
 | []=>rfl
 |x::l1=>by show n0N x (e0R s (l1++l2))=_;rw[m1P s l2 l1];rfl
theorem v0I (s:St): ∀l,(e0R s l).d=s.d∧(e0R s l).log=s.log
 | []=>⟨rfl,rfl⟩
 |x::l=>by
  have:=v0I s l
  cases x<;>exact this
def j0L (s:St) (a:Int):Prop:=isB s.fr s.g a 0=true
def m0H (d:Dk) (a:Nat):B:=(d.l.getD a ([],[])).2
structure UOK (s:St):Prop where
 m:MOK s
 keep:0≤s.keep
 held: ∀a,a0H a s.refs≠none→isB s.fr s.g a 1=true
 run:s.d.armed=false∧s.d.dead=false
 size:s.d.l.length=s.fr+s.g.length
 late:s.gone.Nodup∧ ∀a∈s.gone,isB s.fr s.g a 2=true
structure Rel (c k:Nat) (s s':St):Prop where
 ok:UOK s'
 fr:s'.fr=s.fr
 depth:s'.depth=s.depth
 bits:s'.bits=s.bits
 epoch:s'.epoch=s.epoch
 log: ∃l,s'.log=s.log++l∧l.length≤c∧Eqv (e0R s' l) s
 free: ∀a,j0L s' a→j0L s a
 disk: ∀a:Nat,j0L s a∨m0H s'.d a=m0H s.d a
 room:b0U s≤b0U s'+k
 glen:s'.g.length=s.g.length
 gone:s'.gone.length≤s.gone.length+c
theorem Rel.refl {s:St} (h:UOK s):Rel 0 0 s s:=⟨h,rfl,rfl,rfl,rfl,⟨[],by simp,by simp,Eqv.refl _⟩,fun _ h=>h,fun _=> .inr rfl,by omega,rfl,by omega⟩
theorem Rel.trans {c1 k1 c2 k2:Nat} {s t u:St} (h:Rel c1 k1 s t) (j:Rel c2 k2 t u):Rel (c1+c2) (k1+k2) s u:=by
 obtain⟨l1,e1,n1,q1⟩:=h.log
 obtain⟨l2,e2,n2,q2⟩:=j.log
 refine⟨j.ok,j.fr.trans h.fr,j.depth.trans h.depth,j.bits.trans h.bits,j.epoch.trans h.epoch,⟨l1++l2,by rw[e2,e1,List.append_assoc],by simp;omega,?_⟩,fun a ha=>h.free a (j.free a ha),fun a=> ?_,by have:=h.room;have:=j.room;omega,j.glen.trans h.glen,by have:=h.gone;have:=j.gone;omega⟩
 ·rw[m1P]
  exact(c1B (u0B j.ok.m l2) h.ok.m q2 l1).trans q1
 ·rcases j.disk a with h1|h1
  ·exact .inl (h.free a h1)
  ·rcases h.disk a with h2|h2
   ·exact .inl h2
   ·exact .inr (h1.trans h2)
theorem Rel.mono {c k c' k':Nat} {s t:St} (h:Rel c k s t) (hc:c≤c') (hk:k≤k'):Rel c' k' s t:=by
 obtain⟨l,e,n,q⟩:=h.log
 exact⟨h.ok,h.fr,h.depth,h.bits,h.epoch,⟨l,e,by omega,q⟩,h.free,h.disk,by have:=h.room;omega,h.glen,by have:=h.gone;omega⟩
def UM {α:Type} (c k:Nat) (m:M α):Prop:= ∀s,0<s.depth→UOK s→(m s).1≠ .big→Rel c k s (m s).2
section
variable {α β:Type} {c k c' k':Nat}
theorem UM.mono {m:M α} (h:UM c k m) (hc:c≤c') (hk:k≤k'):UM c' k' m:=fun s hd hs hb=>(h s hd hs hb).mono hc hk
theorem d0G (a:α):UM 0 0 (ret a:M α):=fun _ _ h _=>Rel.refl h
theorem v0K (e:Int):UM 0 0 (n0F e:M α):=fun _ _ h _=>Rel.refl h
theorem w1V (o:Out α):UM 0 0 (s0Z o:M α):=fun _ _ h _=>Rel.refl h
theorem c0L {m:M α} {f:α→M β} (h:UM c k m) (hf: ∀a,UM c' k' (f a)):UM (c+c') (k+k') (a0B m f):=fun s hd hs hb=>by
 have h1:=h s hd hs (c0R hb)
 cases e:m s with
 |mk o t=>
  rw[e]at h1
  cases o with
  |ok a=>have h2:=o0E hb e;rw[a0A e];exact h1.trans (hf a t (by rw[h1.depth];exact hd) h1.ok h2)
  |err e'=>rw[a0Q e];exact h1.mono (by omega) (by omega)
  |big=>exact(c0R hb (by rw[e])).elim
theorem y0M {f:α→M Unit} (h: ∀a,UM c k (f a)): ∀l,UM (l.length*c) (l.length*k) (h0T f l)
 | []=>(d0G ()).mono (by simp) (by simp)
 |x::l=>(c0L (h x) fun _=>y0M h l).mono (by simp[Nat.succ_mul,Nat.add_comm]) (by simp[Nat.succ_mul,Nat.add_comm])
theorem w1W {f:β→α→M β} (h: ∀b a,UM c k (f b a)): ∀(l:List α) (b:β),UM (l.length*c) (l.length*k) (r0B f b l)
 | [],_=>(d0G _).mono (by simp) (by simp)
 |x::l,b=>(c0L (h b x) fun b'=>w1W h l b').mono (by simp[Nat.succ_mul,Nat.add_comm]) (by simp[Nat.succ_mul,Nat.add_comm])
theorem a2K {m:St→M α} (h: ∀s,UM c k (m s)):UM c k (fun s=>m s s):=fun s hd hs hb=>h s s hd hs hb
end
end
end Go.Sb

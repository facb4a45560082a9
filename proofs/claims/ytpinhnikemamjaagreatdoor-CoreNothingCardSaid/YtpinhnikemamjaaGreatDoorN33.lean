/- Part of the proof; no statement of its own. -/
import Derived.Test.YtpinhnikemamjaaGreatDoorN23
import Derived.Test.YtpinhnikemamjaaGreatDoorN32
import Derived.Test.YtpinhnikemamjaaGreatDoorN18
import Derived.Test.YtpinhnikemamjaaGreatDoorN17
set_option linter.all false
set_option maxRecDepth 4000
set_option maxHeartbeats 4000000
attribute [local irreducible] Go.Sl.a0O Go.Sl.OW Go.Sl.CW Go.Sl.OS Go.Sl.OM Go.Sl.OMf Go.Sl.KM
namespace Go.Proofs.Q
open Go.Sl Go.Sb Tryz
def bytE (e:Int) (b:B):Value:= .tuple #[b0B b,.int .i64 e]
abbrev y0S (P:Rp):Prop:= ∀v∈P.l,0≤v.size∧v.size≤2048
theorem y0S.at_ {c:Rx} (h:y0S (er c)) {i:Nat} (hi:i<c.l.length):0≤c.l[i].v.size∧c.l[i].v.size≤2048:=h _ (by unfold er;exact List.mem_map.2 ⟨_,List.getElem_mem hi,rfl⟩)
theorem j1B {v:Vp} {at_ n:Int} (h:m0B v at_ n=false):0≤at_∧0≤n∧at_≤v.size∧at_+n≤v.size:=by
 have:=of_decide_eq_false h;omega
theorem l1V (H:b0A) (c:Rx) (id at_ n:Int) (hc:c0T H c) (hsz:y0S (er c)):a0F prog 46 #[e0R c,.int .i64 id,.int .i64 at_,.int .i64 n] [b0Z H]
 (a0T (bytE (m0C (er c) id at_ n).2 (m0C (er c) id at_ n).1) [b0Z H]):=by
 obtain⟨p,cap,hlv,hcap⟩:=d0Q hc.vols;have hrow:=hc.vols;rw[hlv]at hrow;have hfew:=hc.few;cases hf:c0O (er c).l id with
 |none=>
  rw[show m0C (er c) id at_ n=([],5) by unfold m0C;rw[hf]];refine en func46 ntmps46 fun R w0=> ?_
  try simp only[e0R,a0H]
  refine go 2 ?_;refine bx fun b4=> ?_;refine go 6 ?_;refine a0D (a0L (v:= #[c.lv,.int .i64 c.next,.int .i64 c.bits,.int .i64 c.epoch]) Ag.o rfl (by simp[Value.cells]) (a0G (by simp[Value.cells]))) ?_;refine cg 1 (r0H hc hf) ?_;refine go 17 ?_;exact rG
 |some i=>
  have hil:i<c.l.length:=by have:=t0Z hf;simpa [er] using this
  obtain⟨b,o,cap',cur,hv,hcp,hmem,hcut,hlen⟩:=g0G hrow (by omega);cases hv
  have hcu:(cur.drop (o+i*6)).take 6=a0S c.l[i]:=(h0R hcut hil).trans (m0V c.l hil);have hvi:=hc.maps _ (List.getElem_mem hil);have hsi:=hsz.at_ hil;by_cases hb:m0B c.l[i].v at_ n=true
  ·rw[show m0C (er c) id at_ n=([],6) by unfold m0C;rw[hf];simp only[n0C hil,hb,if_true]];refine en func46 ntmps46 fun R w0=> ?_
   try simp only[e0R,a0H]
   refine go 2 ?_;refine bx fun b4=> ?_;refine go 6 ?_;refine a0D (a0L (v:= #[c.lv,.int .i64 c.next,.int .i64 c.bits,.int .i64 c.epoch]) Ag.o rfl (by simp[Value.cells]) (a0G (by simp[Value.cells]))) ?_;refine cg 1 (p0A hc hf) ?_;refine go 10 ?_;refine b0R rfl (by simpa using (by omega: ¬((i:Int)<0))) ?_;refine go 6 ?_;refine a0D (b0M (v:= .slice (some ⟨b,o,none⟩) c.l.length cap) Sc.o rfl (by rw[hlv];rfl)) ?_;refine go 2 ?_;refine a0D (e0U (vs:=a0S c.l[i]) Ag.o rfl gFd hmem hcu rfl (by decide)) ?_;refine cg 2 (y0R c.l[i] at_ n hsi) ?_;refine go 9 ?_;exact rG
  ·replace hb:m0B c.l[i].v at_ n=false:=by simpa using hb
   have hgd:=j1B hb;rw[show m0C (er c) id at_ n=(k0L c.l[i].v.m at_.toNat n.toNat,0) by unfold m0C;rw[hf];simp only[n0C hil,hb,if_false];rfl];refine en func46 ntmps46 fun R w0=> ?_
   try simp only[e0R,a0H]
   refine go 2 ?_;refine bx fun b4=> ?_;refine go 6 ?_;refine a0D (a0L (v:= #[c.lv,.int .i64 c.next,.int .i64 c.bits,.int .i64 c.epoch]) Ag.o rfl (by simp[Value.cells]) (a0G (by simp[Value.cells]))) ?_;refine cg 1 (p0A hc hf) ?_;refine go 10 ?_;refine b0R rfl (by simpa using (by omega: ¬((i:Int)<0))) ?_;refine go 6 ?_;refine a0D (b0M (v:= .slice (some ⟨b,o,none⟩) c.l.length cap) Sc.o rfl (by rw[hlv];rfl)) ?_;refine go 2 ?_;refine a0D (e0U (vs:=a0S c.l[i]) Ag.o rfl gFd hmem hcu rfl (by decide)) ?_;refine cg 2 (y0R c.l[i] at_ n hsi) ?_;refine go 8 ?_;refine a0D (b0M (v:= .slice (some ⟨b,o,none⟩) c.l.length cap) Sc.o rfl (by rw[hlv];rfl)) ?_;refine go 2 ?_;refine a0D (e0U (vs:=a0S c.l[i]) Ag.o rfl gFd hmem hcu rfl (by decide)) ?_;refine cg 2 ((by have h:=q1N H c.l[i] at_.toNat n.toNat hvi (by omega);rw[Int.toNat_of_nonneg hgd.1,Int.toNat_of_nonneg hgd.2.1]at h;exact h)) ?_;refine go 4 ?_;exact rG
abbrev cl1 (bits:Nat) (data:B) (x:Lf):Bool:=decide (x.2≠data∧key bits (Sha.sum x.2)=key bits (Sha.sum data))
abbrev cl2 (bits:Nat) (data:B) (v:Vx):Bool:=v.v.m.any (cl1 bits data)
theorem k2U (c:Rx) (data:B):p0C (er c) data=c.l.any (cl2 c.bits data):=by
 unfold p0C er cl2;simp only[List.any_map];rfl
theorem j1C {α:Type} {p:α→Bool} {l:List α} {i:Nat} (h:i<l.length) (hz:(l.take i).any p=false) (hp:p l[i]=false):(l.take (i+1)).any p=false:=by
 rw[List.take_succ,List.getElem?_eq_getElem h,List.any_append,hz];simp[hp]
theorem b2F {α:Type} {p:α→Bool} {l:List α} {i:Nat} (h:i<l.length) (hp:p l[i]=true):l.any p=true:=List.any_eq_true.2 ⟨_,List.getElem_mem h,hp⟩
theorem g1Y (H:b0A) (c:Rx) (data:B) (hc:c0T H c) (hd:data.length≤100000) (hbits:c.bits≤256):a0F prog 174 #[e0R c,b0B data] [b0Z H] (a0T (.bool (p0C (er c) data)) [b0Z H]):=by
 rw[k2U];obtain⟨p,cap,hlv,hcap⟩:=d0Q hc.vols;have hrow:=hc.vols;rw[hlv]at hrow;have hfew:=hc.few;refine en func174 ntmps174 fun R w0=> ?_
 try simp only[e0R,a0H]
 refine go 2 ?_;refine bx fun b2=> ?_;refine go 8 ?_;refine al fun b5=> ?_;refine a0M (vs:= #[.slice none 0 0,.int .i64 c.bits]) Sz.o rfl rfl rfl (by simp[Value.oneCell']) (by simp[Value.cells]) (a0N (by simp[Value.cells])) ?_;refine go 4 ?_;refine a0D (a0L (v:= #[.slice none 0 0,.int .i64 c.bits]) Ag.o rfl (by simp[Value.cells]) (a0G (by simp[Value.cells]))) ?_;refine cg 1 (l1K data c.bits hd hbits) ?_;refine go 7 ?_;refine a0D (b0M (v:= .slice p c.l.length cap) Sc.o rfl (by rw[hlv];rfl)) ?_;refine go 5 ?_;refine a0V (X:= {i:Nat // i≤c.l.length∧(c.l.take i).any (cl2 c.bits data)=false}) (fun y=> [(1,b0B data),(5,.pointer (some ⟨b5,0,none⟩)),(6,b0B (key c.bits (Sha.sum data))),(18,.slice p c.l.length cap),(19,.int .i64 c.l.length),(20,.int .i64 y.1)]) (fun y=> [pts b5 (.cells #[.slice none 0 0,.int .i64 c.bits] 277 (0,0)),b0Z H,R]) (fun y=>c.l.length-y.1) ⟨0,Nat.zero_le _,rfl⟩ gSu gSp ?_;rintro⟨i,hi,hz⟩ m0 hm0
 try simp only at hm0
 try dsimp only
 skip;refine go 6 ?_;refine a0P rfl (fun hb21=> ?_) (fun hb21=> ?_)
 ·have hil:i<c.l.length:=by have:=of_decide_eq_true hb21;omega
  obtain⟨b,o,cap',cur,hv,hcp,hmem,hcut,hlen⟩:=g0G hrow (by omega);cases hv
  have hcu:(cur.drop (o+i*6)).take 6=a0S c.l[i]:=(h0R hcut hil).trans (m0V c.l hil);have hvi:=hc.maps _ (List.getElem_mem hil);obtain⟨pm,capm,hmv,hcm⟩:=d0Q hvi.1;have hrm:=hvi.1;rw[hmv]at hrm;have hml:=hvi.2.len;refine go 7 ?_;refine a0D (e0U (vs:=a0S c.l[i]) Ag.o rfl gFd hmem hcu rfl (by decide)) ?_;refine al fun b8=> ?_;refine a0M Sz.o rfl rfl rfl (fun u hu=>q0Q hvi u (by simpa using hu)) (by simp[Value.cells,a0H,a0S]) (a0N (by simp[Value.cells,a0H,a0S])) ?_;refine go 5 ?_;refine a0D (b0M (v:= .slice pm c.l[i].v.m.length capm) Sc.o rfl (by rw[←hmv];rfl)) ?_;refine go 5 ?_;refine a0V (X:= {j:Nat // j≤c.l[i].v.m.length∧(c.l[i].v.m.take j).any (cl1 c.bits data)=false}) (fun y=> [(1,b0B data),(5,.pointer (some ⟨b5,0,none⟩)),(6,b0B (key c.bits (Sha.sum data))),(18,.slice (some ⟨b,o,none⟩) c.l.length cap),(19,.int .i64 c.l.length),(20,.int .i64 i),(25,.slice pm c.l[i].v.m.length capm),(26,.int .i64 c.l[i].v.m.length),(27,.int .i64 y.1)]) (fun y=> [pts b5 (.cells #[.slice none 0 0,.int .i64 c.bits] 277 (0,0)),b0Z H,R]) (fun y=>c.l[i].v.m.length-y.1) ⟨0,Nat.zero_le _,rfl⟩ gSu gSp ?_;rintro⟨j,hj,hy⟩ m2 hm2
  try simp only at hm2
  try dsimp only
  skip;refine go 6 ?_;refine a0P rfl (fun hb28=> ?_) (fun hb28=> ?_)
  ·have hjl:j<c.l[i].v.m.length:=by have:=of_decide_eq_true hb28;omega
   obtain⟨bm,om,capm',curm,hv2,hcp2,hmem2,hcut2,hlen2⟩:=g0G hrm (by omega);cases hv2
   have hcu2:(curm.drop (om+j*2)).take 2=lfC c.l[i].v.m[j]:=(h0R hcut2 hjl).trans (q0E (f:=lfC) (size:=2) (fun _=>rfl) c.l[i].v.m hjl);have hll:c.l[i].v.m[j].2.length=256:=(hvi.2.in_ _ (List.getElem_mem hjl)).2.2;refine go 7 ?_;refine a0D (e0U (vs:=lfC c.l[i].v.m[j]) Ag.o rfl gFd hmem2 hcu2 rfl (by decide)) ?_;refine al fun b10=> ?_;refine go 4 ?_;by_cases hne:c.l[i].v.m[j].2=data
   ·refine go 4 ?_;refine a0D (h0X rfl rfl) ?_;refine go 1 ?_;refine c0J rfl (wg rfl rfl rfl (wTF (by simpa using hne))) ?_;refine c0J rfl (wg rfl rfl rfl (wTF (by simpa using hne))) ?_;refine c0J rfl (wg rfl rfl rfl (wTF (by simpa using hne))) ?_;refine c0J rfl (wg rfl rfl rfl (wTF (by simpa using hne))) ?_;refine c0J rfl (wg rfl rfl rfl (wTF (by simpa using hne))) ?_;refine c0J rfl (wg rfl rfl rfl (wTF (by simpa using hne))) ?_;refine a0D (i0W rfl (by simpa using hne) rfl) ?_;refine go 9 ?_;exact rd idh (⟨j+1,hjl,j1C hjl hy (decide_eq_false fun h=>h.1 hne)⟩)
   ·refine go 4 ?_;refine a0D (h0X rfl rfl) ?_;refine go 1 ?_;refine c0R (a0L (v:= #[.slice none 0 0,.int .i64 c.bits]) Ag.o rfl (by simp[Value.cells]) (a0G (by simp[Value.cells]))) (wg rfl rfl rfl (wTT (by simpa using hne))) ?_;refine c0R (q2A Fl.o rfl) (wg rfl rfl rfl (wTT (by simpa using hne))) ?_;refine c0R (b0M Sc.o rfl (by rfl)) (wg rfl rfl rfl (wTT (by simpa using hne))) ?_;refine s0A (wg rfl rfl rfl (wTT (by simpa using hne))) ?_;refine cg 0 (l1K c.l[i].v.m[j].2 c.bits (by omega) hbits) ?_;refine c0R (d0V rfl) (wg rfl rfl rfl (wTT (by simpa using hne))) ?_;refine c0R (r0Z rfl rfl) (wg rfl rfl rfl (wTT (by simpa using hne))) ?_;refine a0D (i0B rfl (by simpa using hne) rfl) ?_;refine go 2 ?_;refine a0P rfl (fun hb42=> ?_) (fun hb42=> ?_)
    ·have he:key c.bits (Sha.sum c.l[i].v.m[j].2)=key c.bits (Sha.sum data):=by simpa [c0C] using hb42
     refine go 5 ?_;exact rG (hu:=(by rw[b2F hil (b2F hjl (decide_eq_true ⟨hne,he⟩))]))
    ·have he: ¬key c.bits (Sha.sum c.l[i].v.m[j].2)=key c.bits (Sha.sum data):=by simpa [c0C] using hb42
     refine go 6 ?_;exact rd idh (⟨j+1,hjl,j1C hjl hy (decide_eq_false fun h=>he h.2)⟩)
  ·obtain rfl:j=c.l[i].v.m.length:=by have:=of_decide_eq_false hb28;omega
   rw[List.take_length]at hy;refine go 6 ?_;exact rd idh (⟨i+1,hil,j1C hil hz hy⟩)
 ·obtain rfl:i=c.l.length:=by have:=of_decide_eq_false hb21;omega
  rw[List.take_length]at hz;refine go 7 ?_;exact rG (hu:=(by rw[hz]))
section
attribute [local semireducible] Sl.a0O Sl.OW Sl.CW Sl.OS Sl.OM Sl.OMf Sl.KM
theorem f2H (i k:Nat) (c:Rp) (at_:Nat):d0D i k c at_ []=(c,0):=by cases k<;>simp[d0D]
theorem f2I {i k:Nat} {c:Rp} {at_ f n:Nat} {data was now:B} (hd:data≠ []) (hw:was=f0M (at_/4:Nat) (c.l.getD i v0).m) (hf:f=at_%4*64) (hn:n=min data.length (256-f)) (hnow:now=b1B was data f n) (h:now≠was∧a0R now=false∧p0C c now=true):d0D i (k+1) c at_ data=(c,9):=by
 subst hn hf hw hnow;rw[d0D,if_neg hd];simp only;rw[if_pos h]
theorem y1J {i k:Nat} {c:Rp} {at_ f n:Nat} {data was now:B} (hd:data≠ []) (hw:was=f0M (at_/4:Nat) (c.l.getD i v0).m) (hf:f=at_%4*64) (hn:n=min data.length (256-f)) (hnow:now=b1B was data f n) (h: ¬(now≠was∧a0R now=false∧p0C c now=true)):
 d0D i (k+1) c at_ data=d0D i k (d0E c i (j0X (c.l.getD i v0).m (at_/4:Nat) now)) (at_+n/64) (data.drop n):=by
 subst hn hf hw hnow;rw[d0D,if_neg hd];simp only;rw[if_neg h]
theorem p2P {was data:B} {f n:Nat} (hw:was.length=256) (hf:f≤256) (hn:n=min data.length (256-f)):(b1B was data f n).length=256:=by
 unfold b1B;simp only[List.length_append,List.length_take,List.length_drop];omega
theorem y0K {c:Cx} {env:List (Nat×Value)} {L M:List a0C} {Q:Exit→Act→World→Prop} {ops:Array Oper} {rest:List Oper} {e:TypeId} {size n:Nat} {v:Value} {xs:List Value} (hL:Fnd L (b0H e size v n xs) M) (h:v.oneCell'=true→OW c ops Q rest env L):OW c ops Q rest env L:=fun a w hh=>h (by
 obtain⟨_,hc⟩:=f0E (hL.sat hh.sat);rcases hc with ⟨rfl,_⟩| ⟨b,cap,cur,rfl,_⟩<;>rfl) a w hh
theorem b2G {c1 c3:Rx} {i:Nat} {m:List Lf} {mv:Value} (hi:i<c1.l.length) (h:er c3= {er c1 with l:=(er c1).l.set i ({v:= {c1.l[i].v with m:=m},mv:=mv} :Vx).v}):er c3=d0E (er c1) i m:=by
 rw[h];unfold d0E;rw[n0C hi]
structure PS (H:b0A) (i:Nat) (bits:Nat) (n0:Nat) (want:Rp×Int) (x:b0A×Rx×Nat×B×Nat):Prop where
 sub: ∀p∈H,p∈x.1
 core:c0T x.1 x.2.1
 ix:i<x.2.1.l.length
 hb:x.2.1.bits=bits
 room:x.2.2.1*64+x.2.2.2.1.length≤131072
 whole:x.2.2.2.1.length%64=0
 fuel:x.2.2.2.1.length≤x.2.2.2.2
 run:want=d0D i x.2.2.2.2 (er x.2.1) x.2.2.1 x.2.2.2.1
attribute [local irreducible] Sl.a0O Sl.OW Sl.CW Sl.OS Sl.OM Sl.OMf Sl.KM
theorem u0M (H:b0A) (c:Rx) (i at_ k:Nat) (data:B) (hc:c0T H c) (hi:i<c.l.length) (hbits:c.bits≤256) (hroom:at_*64+data.length≤131072) (hw:data.length%64=0) (hk:data.length≤k):
 a0F prog 127 #[e0R c,.int .i64 i,.int .i64 at_,b0B data] [b0Z H]
 (b0N (x0X H (d0D i k (er c) at_ data).1) (n1W (d0D i k (er c) at_ data).2) (fun x=> [b0Z x.1])):=by
 refine en func127 ntmps127 fun R w0=> ?_
 try simp only[e0R,a0H]
 refine go 2 ?_;refine bx fun b4=> ?_;refine al fun b8=> ?_;refine go 5 ?_;refine a0V (X:= {x:b0A×Rx×Nat×B×Nat // PS H i c.bits 0 (d0D i k (er c) at_ data) x}) (fun y=> [(1,.int .i64 i),(2,.int .i64 y.1.2.2.1),(3,b0B y.1.2.2.2.1),(4,.pointer (some ⟨b4,0,none⟩)),(8,.pointer (some ⟨b8,0,none⟩)),(9,.int .i64 0)]) (fun y=> [v0G b4 y.1.2.1,pts b8 (.cells #[.slice none 0 0,.int .i64 0,.int .i64 0,.int .i64 0] 34 (0,0)),b0Z y.1.1,R]) (fun y=>y.1.2.2.2.1.length) ⟨(H,c,at_,data,k),fun _ h=>h,hc,hi,rfl,hroom,hw,hk,rfl⟩ gSu gSp ?_;rintro⟨⟨H1,c1,at1,d1,k1⟩,hps⟩ m0 hm0
 try simp only at hm0
 try dsimp only
 obtain⟨hsub,hc1,hi1,hb1,hroom1,hw1,hk1,hrun⟩:=hps;dsimp only at hsub hc1 hi1 hb1 hroom1 hw1 hk1 hrun ⊢;have hds:(bs d1).size=d1.length:=b0F d1;refine go 8 ?_;refine a0P rfl (fun hb18=> ?_) (fun hb18=> ?_)
 ·have hdl:0<d1.length:=by have:=of_decide_eq_true hb18;omega
  have hdn:d1≠ []:=by intro h;rw[h]at hdl;exact absurd hdl (Nat.lt_irrefl 0)
  obtain⟨k2,rfl⟩: ∃k2,k1=k2+1:=⟨k1-1,by omega⟩;obtain⟨p,cap,hlv,hcap⟩:=d0Q hc1.vols;have hrow:=hc1.vols;rw[hlv]at hrow;have hfew:=hc1.few;obtain⟨b,o,cap',cur,hv,hcp,hmem,hcut,hlen⟩:=g0G hrow (by omega);cases hv
  have hcu:(cur.drop (o+i*6)).take 6=a0S c1.l[i]:=(h0R hcut hi1).trans (m0V c1.l hi1);have hvi:=hc1.maps _ (List.getElem_mem hi1);have hml:=hvi.2.len;obtain⟨f,hf⟩: ∃f,f=at1%4*64:=⟨_,rfl⟩;obtain⟨n,hn⟩: ∃n,n=min d1.length (256-f):=⟨_,rfl⟩;obtain⟨was,hwas⟩: ∃was,was=f0M (at1/4:Nat) c1.l[i].v.m:=⟨_,rfl⟩;have hwl:was.length=256:=by rw[hwas];exact hvi.2.get_len _
  obtain⟨now,hnow⟩: ∃now,now=b1B was d1 f n:=⟨_,rfl⟩;have hws:(bs was).size=256:=by rw[b0F,hwl]
  have hnn:n%64=0∧64≤n∧n≤d1.length∧n≤256-f∧f≤192:=by omega
  have hnl:now.length=256:=by rw[hnow];exact p2P hwl (by omega) hn
  refine go 6 ?_;refine a0D (b0M (v:= .slice (some ⟨b,o,none⟩) c1.l.length cap) Sc.o rfl (by exact congrArg some hlv)) ?_;refine go 2 ?_;refine a0D (e0U (vs:=a0S c1.l[i]) Ag.o rfl gFd hmem hcu rfl (by decide)) ?_;refine al fun b10=> ?_;refine a0M Sz.o rfl rfl rfl (fun u hu=>q0Q hvi u (by simpa using hu)) (by simp[Value.cells,a0H,a0S]) (a0N (by simp[Value.cells,a0H,a0S])) ?_;refine go 9 ?_;rw[show((at1:Nat):Int)/4=((at1/4:Nat):Int) by omega,show((at1:Nat):Int)%4*64=(f:Int) by omega];refine go 11 ?_;rw[show min ((bs d1).size:Int) (256- (f:Int))=(n:Int) by omega];refine cg 8 (g1V H1 c1.l[i].mv c1.l[i].v.m ((at1/4:Nat):Int) hvi.1 (by omega)) ?_;rw[←hwas];refine go 7 ?_;refine b0X (c1R Tst.o rfl rfl (by omega)) ?_;rw[show(bs was).extract 0 ((f:Nat):Int).toNat=bs (was.take f)from z0V was f];refine go 2 ?_;refine b0X (c1R Tst.o rfl rfl (by omega)) ?_;rw[show(bs d1).extract 0 ((n:Nat):Int).toNat=bs (d1.take n)from z0V d1 n];refine b0X (g0Y rfl rfl (by rw[b0F,b0F,List.length_take,List.length_take];omega)) ?_;rw[←h0B];refine go 4 ?_;refine b0X (c1Q Tst.o rfl rfl (by omega)) ?_;rw[show(bs was).extract (((f:Nat):Int)+((n:Nat):Int)).toNat (bs was).size=bs (was.drop (f+n))from by rw[show(((f:Nat):Int)+((n:Nat):Int)).toNat=f+n by omega];exact w0M was (f+n)];refine b0X (g0Y rfl rfl (by rw[b0F,b0F,List.length_append,List.length_take,List.length_take,List.length_drop];omega)) ?_;rw[←h0B,show was.take f++d1.take n++was.drop (f+n)=now from hnow.symm];refine go 3 ?_;refine i0P (X:= {_x:Unit // ¬(now≠was∧a0R now=false∧p0C (er c1) now=true)}) (fun _=> [(1,.int .i64 i),(2,.int .i64 at1),(3,b0B d1),(4,.pointer (some ⟨b4,0,none⟩)),(8,.pointer (some ⟨b8,0,none⟩)),(9,.int .i64 0),(10,.pointer (some ⟨b10,0,none⟩)),(11,.int .i64 ((at1/4:Nat):Int)),(13,.int .i64 n),(15,b0B now)]) (fun _=> [v0G b4 c1,pts b8 (.cells #[.slice none 0 0,.int .i64 0,.int .i64 0,.int .i64 0] 34 (0,0)),v1F b10 c1.l[i],b0Z H1,R]) ?_ ?_
  ·refine go 1 ?_;by_cases h1:now=was
   ·refine go 3 ?_;refine a0D (h0X rfl rfl) ?_;refine go 1 ?_;refine c0J rfl (wg rfl rfl rfl (wTF (by simpa using h1))) ?_;refine c0J rfl (wg rfl rfl rfl (wTF (by simpa using h1))) ?_;refine c0J rfl (wg rfl rfl rfl (wTF (by simpa using h1))) ?_;refine a0D (i0W rfl (by simpa using h1) rfl) ?_;refine go 9 ?_;exact me idh (⟨(),fun h=>h.1 h1⟩)
   ·by_cases h2:a0R now=true
    ·refine go 3 ?_;refine a0D (h0X rfl rfl) ?_;refine go 1 ?_;refine c0R (d0V rfl) (wg rfl rfl rfl (wTT (by simpa using h1))) ?_;refine s0A (wg rfl rfl rfl (wTT (by simpa using h1))) ?_;refine cg 0 (v0Y now (by omega)) ?_;refine c0R (a1H rfl) (wg rfl rfl rfl (wTT (by simpa using h1))) ?_;refine a0D (i0B rfl (by simpa using h1) rfl) ?_;refine go 1 ?_;refine c0J rfl (wg rfl rfl rfl (wTF (by simpa using h2))) ?_;refine c0J rfl (wg rfl rfl rfl (wTF (by simpa using h2))) ?_;refine c0J rfl (wg rfl rfl rfl (wTF (by simpa using h2))) ?_;refine a0D (i0W rfl (by simpa using h2) rfl) ?_;refine go 4 ?_;exact me idh (⟨(),fun h=>by have:=h.2.1;rw[h2]at this;cases this⟩)
    ·by_cases h3:p0C (er c1) now=true
     ·refine go 3 ?_;refine a0D (h0X rfl rfl) ?_;refine go 1 ?_;refine c0R (d0V rfl) (wg rfl rfl rfl (wTT (by simpa using h1))) ?_;refine s0A (wg rfl rfl rfl (wTT (by simpa using h1))) ?_;refine cg 0 (v0Y now (by omega)) ?_;refine c0R (a1H rfl) (wg rfl rfl rfl (wTT (by simpa using h1))) ?_;refine a0D (i0B rfl (by simpa using h1) rfl) ?_;refine go 1 ?_;refine c0R (a0L (v:=(a0H c1).toArray) Ag.o rfl (by simp[Value.cells,a0H]) (a0G (by simp[Value.cells,a0H]))) (wg rfl rfl rfl (wTT (by simpa using h2))) ?_;refine c0R (d0V rfl) (wg rfl rfl rfl (wTT (by simpa using h2))) ?_;refine s0A (wg rfl rfl rfl (wTT (by simpa using h2))) ?_;refine cg 0 (g1Y H1 c1 now hc1 (by omega) (by omega)) ?_;refine a0D (i0B rfl (by simpa using h2) rfl) ?_;refine go 4 ?_;rw[hrun,f2I hdn (by rw[n0C hi1];exact hwas) hf hn hnow ⟨h1,by simpa using h2,h3⟩];refine go 1 ?_;refine a0D (a0L (v:=(a0H c1).toArray) Ag.o rfl (by simp[Value.cells,a0H]) (a0G (by simp[Value.cells,a0H]))) ?_;refine a0M Sz.o rfl rfl rfl (fun u hu=>c0H hc1 u (by simpa using hu)) (by simp[Value.cells,a0H,a0S]) (a0N (by simp[Value.cells,a0H,a0S])) ?_;refine go 3 ?_;exact c0N (x:=((H1,c1):b0A×Rx)) ⟨hsub,hc1,rfl⟩ idh (RV.agg Ag.o rfl (by simp[a0H]) (by rfl) (RV.tmp rfl RV.nil)) rfl gSp
     ·refine go 3 ?_;refine a0D (h0X rfl rfl) ?_;refine go 1 ?_;refine c0R (d0V rfl) (wg rfl rfl rfl (wTT (by simpa using h1))) ?_;refine s0A (wg rfl rfl rfl (wTT (by simpa using h1))) ?_;refine cg 0 (v0Y now (by omega)) ?_;refine c0R (a1H rfl) (wg rfl rfl rfl (wTT (by simpa using h1))) ?_;refine a0D (i0B rfl (by simpa using h1) rfl) ?_;refine go 1 ?_;refine c0R (a0L (v:=(a0H c1).toArray) Ag.o rfl (by simp[Value.cells,a0H]) (a0G (by simp[Value.cells,a0H]))) (wg rfl rfl rfl (wTT (by simpa using h2))) ?_;refine c0R (d0V rfl) (wg rfl rfl rfl (wTT (by simpa using h2))) ?_;refine s0A (wg rfl rfl rfl (wTT (by simpa using h2))) ?_;refine cg 0 (g1Y H1 c1 now hc1 (by omega) (by omega)) ?_;refine a0D (i0B rfl (by simpa using h2) rfl) ?_;refine go 2 ?_;refine b0R rfl (by simpa using h3) ?_;refine go 1 ?_;exact me idh (⟨(),fun h=>h3 h.2.2⟩)
  rintro⟨_,hgo⟩;refine ce 6 (y1A H1 c1.l[i].mv c1.l[i].v.m ((at1/4:Nat):Int) now hvi.1 (by omega) (by omega)) ?_;rintro v69 _;refine ns ?_;refine y0K (show Fnd _ (t0I v69 (j0X c1.l[i].v.m ((at1/4:Nat):Int) now)) _ from gFd) fun hv69=> ?_;refine go 5 ?_;refine s0U (show Fnd _ (t0I v69 (j0X c1.l[i].v.m ((at1/4:Nat):Int) now)) _ from gFd) (show Fnd _ (b0Z H1) _ from gFd) fun H2 hs2 hr2=> ?_;obtain⟨v2,hv2⟩: ∃v2:Vx,v2= {v:= {c1.l[i].v with m:=j0X c1.l[i].v.m ((at1/4:Nat):Int) now},mv:=v69} :=⟨_,rfl⟩;have hm2:m0Z H2 v2:=by rw[hv2];exact⟨hr2,hvi.2.put ⟨by omega,by omega⟩ hnl⟩
  refine go 1 ?_;refine a0D (a0L (v:=(a0H c1).toArray) Ag.o rfl (by simp[Value.cells,a0H]) (a0G (by simp[Value.cells,a0H]))) ?_;refine go 1 ?_;refine a0D (a0L (v:=(a0S v2).toArray) Ag.o rfl (by simp[Value.cells,a0S]) (by rw[hv2];rfl)) ?_;refine ce 0 (c1J H2 c1 i v2 (hc1.more hs2) hm2 hi1) ?_;rintro⟨H3,c3⟩ ⟨hs3,hc3,hr3⟩;refine ns ?_;refine a0M Sz.o rfl rfl rfl (fun u hu=>c0H hc3 u (by simpa using hu)) (by simp[Value.cells,a0H,a0S]) (a0N (by simp[Value.cells,a0H,a0S])) ?_;refine go 6 ?_;refine a0D (c1Q Tst.o rfl rfl (by omega)) ?_;rw[show(bs d1).extract ((n:Nat):Int).toNat (bs d1).size=bs (d1.drop n)from w0M d1 n];refine go 3 ?_;dsimp only at hs3 hc3 hr3;have hr4:er c3=d0E (er c1) i (j0X c1.l[i].v.m ((at1/4:Nat):Int) now):=b2G (mv:=v69) hi1 (by rw[hr3,hv2]);have hl3:c3.l.length=c1.l.length:=by have h:=congrArg (fun x:Rp=>x.l.length) hr4;simpa [er,d0E] using h
  have hb3:c3.bits=c1.bits:=congrArg (fun x:Rp=>x.bits) hr4;have hdr:(d1.drop n).length=d1.length-n:=List.length_drop;refine go 5 ?_;rw[show(at1:Int)+((n:Nat):Int)/64=((at1+n/64:Nat):Int) by omega];refine go 2 ?_;refine c1V idh (⟨(H3,c3,at1+n/64,d1.drop n,k2),fun q h=>hs3 q (hs2 q (hsub q h)),hc3,by(show i<c3.l.length);omega,hb3.trans hb1,by(show(at1+n/64)*64+(d1.drop n).length≤_);omega,by(show(d1.drop n).length%64=0);omega,by(show(d1.drop n).length≤k2);omega,by rw[hrun,y1J hdn (by rw[n0C hi1];exact hwas) hf hn hnow hgo,n0C hi1];(show _=d0D i k2 (er c3) _ _);rw[hr4]⟩) (by show(d1.drop n).length<m0;omega) gSu gSp
 ·obtain rfl:d1= []:=List.eq_nil_of_length_eq_zero (by have:=of_decide_eq_false hb18;omega);rw[hrun,f2H];refine go 4 ?_;refine a0D (a0L (v:=(a0H c1).toArray) Ag.o rfl (by simp[Value.cells,a0H]) (a0G (by simp[Value.cells,a0H]))) ?_;refine a0M Sz.o rfl rfl rfl (fun u hu=>c0H hc1 u (by simpa using hu)) (by simp[Value.cells,a0H,a0S]) (a0N (by simp[Value.cells,a0H,a0S])) ?_;refine go 3 ?_;exact c0N (x:=((H1,c1):b0A×Rx)) ⟨hsub,hc1,rfl⟩ idh (RV.agg Ag.o rfl (by simp[a0H]) (by rfl) (RV.tmp rfl RV.nil)) rfl gSp
end
structure AtI (H:b0A) (c:Rx) (i:Nat) (p:Option Addr) (cap:Nat):Prop where
 lv:c.lv= .slice p c.l.length cap
 vol: ∀h:i<c.l.length,∃(b o:Nat) (cur:List Value),p=some ⟨b,o,none⟩∧(b,Obj.cells cur.toArray 42 (0,0))∈H∧(cur.drop (o+i*6)).take 6=a0S c.l[i]
theorem y1K {P:Rp} {id at_:Int} {data:B} (h:c0O P.l id=none):j0E P id at_ data=(P,5):=by unfold j0E;rw[h]
theorem y1L {c:Rx} {i:Nat} {id at_:Int} {data:B} (h:c0O (er c).l id=some i) (hi:i<c.l.length):j0E (er c) id at_ data=(if c.l[i].v.only then(er c,7)else if data.length%64≠0 then(er c,4)else if m0B c.l[i].v at_ (data.length/64:Nat)then(er c,6)else
 let r:=d0D i data.length (er c) at_.toNat data
 if r.2≠0 then(er c,r.2)else(r.1,0)):=by
 unfold j0E;rw[h];simp only[n0C hi]
theorem y1M (H:b0A) (c:Rx) (id at_:Int) (data:B) (hc:c0T H c) (hsz:y0S (er c)) (hbits:c.bits≤256) (hd:data.length≤100000):a0F prog 77 #[e0R c,.int .i64 id,.int .i64 at_,b0B data] [b0Z H]
 (b0N (x0X H (j0E (er c) id at_ data).1) (n1W (j0E (er c) id at_ data).2) (fun x=> [b0Z x.1])):=by
 have hone:=c0H hc;obtain⟨p,cap,hlv,hcap⟩:=d0Q hc.vols;have hrow:=hc.vols;rw[hlv]at hrow;have hfew:=hc.few;have hds:(bs data).size=data.length:=b0F data;cases hf:c0O (er c).l id with
 |none=>
  rw[y1K hf];refine en func77 ntmps77 fun R w0=> ?_
  try simp only[e0R,a0H]
  refine go 2 ?_;refine bx fun b4=> ?_;refine al fun b8=> ?_;refine go 5 ?_;refine a0D (a0L (v:= #[c.lv,.int .i64 c.next,.int .i64 c.bits,.int .i64 c.epoch]) Ag.o rfl (by simp[Value.cells]) (a0G (by simp[Value.cells]))) ?_;refine cg 1 (r0H hc hf) ?_;refine go 15 ?_;refine a0D (a0L (v:= #[c.lv,.int .i64 c.next,.int .i64 c.bits,.int .i64 c.epoch]) Ag.o rfl (by simp[Value.cells]) (a0G (by simp[Value.cells]))) ?_;refine a0M Sz.o rfl rfl rfl (fun u hu=>hone u (by simpa [a0H] using hu)) (by simp[Value.cells,a0H,a0S]) (a0N (by simp[Value.cells,a0H,a0S])) ?_;refine go 3 ?_;exact c0N (x:=((H,c):b0A×Rx)) (g0H hc) idh (RV.agg Ag.o rfl (by simp[a0H]) (by rfl) (RV.tmp rfl RV.nil)) rfl gSp
 |some i=>
  have hil:i<c.l.length:=by have:=t0Z hf;simpa [er] using this
  obtain⟨b,o,cap',cur,hv,hcp,hmem,hcut,hlen⟩:=g0G hrow (by omega);cases hv
  have hcu:(cur.drop (o+i*6)).take 6=a0S c.l[i]:=(h0R hcut hil).trans (m0V c.l hil);have hon:nth cur (o+i*6+2)=some (.bool c.l[i].v.only):=by
   rw[d0Y];have h:=congrArg (fun l:List Value=>l[2]?) hcu;simpa [List.getElem?_take,List.getElem?_drop,a0S] using h
  have hvi:=hc.maps _ (List.getElem_mem hil);have hsi:=hsz.at_ hil;rw[y1L hf hil];refine en func77 ntmps77 fun R w0=> ?_
  try simp only[e0R,a0H]
  refine go 2 ?_;refine bx fun b4=> ?_;refine al fun b8=> ?_;refine go 5 ?_;refine a0D (a0L (v:= #[c.lv,.int .i64 c.next,.int .i64 c.bits,.int .i64 c.epoch]) Ag.o rfl (by simp[Value.cells]) (a0G (by simp[Value.cells]))) ?_;refine cg 1 (p0A hc hf) ?_;refine go 12 ?_;refine b0R rfl (by simpa using (by omega: ¬((i:Int)<0))) ?_;refine go 3 ?_;refine a0D (b0M (v:= .slice (some ⟨b,o,none⟩) c.l.length cap) Sc.o rfl (by rw[hlv];rfl)) ?_;refine go 3 ?_;refine a0D (z0M Sc.o rfl gFd hmem hon) ?_;refine go 3 ?_;refine a0P rfl (fun hb20=> ?_) (fun hb20=> ?_)
  ·rw[if_pos hb20];refine go 2 ?_;refine a0D (a0L (v:= #[c.lv,.int .i64 c.next,.int .i64 c.bits,.int .i64 c.epoch]) Ag.o rfl (by simp[Value.cells]) (a0G (by simp[Value.cells]))) ?_;refine a0M Sz.o rfl rfl rfl (fun u hu=>hone u (by simpa [a0H] using hu)) (by simp[Value.cells,a0H,a0S]) (a0N (by simp[Value.cells,a0H,a0S])) ?_;refine go 3 ?_;exact c0N (x:=((H,c):b0A×Rx)) (g0H hc) idh (RV.agg Ag.o rfl (by simp[a0H]) (by rfl) (RV.tmp rfl RV.nil)) rfl gSp
  ·rw[if_neg (by rw[hb20];decide)];refine go 5 ?_;rw[hds];refine go 4 ?_;refine a0P rfl (fun hb28=> ?_) (fun hb28=> ?_)
   ·rw[if_pos (by have h: ¬((data.length:Int)%64=0):=(by simpa using hb28);omega)];refine go 2 ?_;refine a0D (a0L (v:= #[c.lv,.int .i64 c.next,.int .i64 c.bits,.int .i64 c.epoch]) Ag.o rfl (by simp[Value.cells]) (a0G (by simp[Value.cells]))) ?_;refine a0M Sz.o rfl rfl rfl (fun u hu=>hone u (by simpa [a0H] using hu)) (by simp[Value.cells,a0H,a0S]) (a0N (by simp[Value.cells,a0H,a0S])) ?_;refine go 3 ?_;exact c0N (x:=((H,c):b0A×Rx)) (g0H hc) idh (RV.agg Ag.o rfl (by simp[a0H]) (by rfl) (RV.tmp rfl RV.nil)) rfl gSp
   ·have hw:data.length%64=0:=by have h:(data.length:Int)%64=0:=(by simpa using hb28);omega
    rw[if_neg (by omega)];refine go 3 ?_;refine a0D (b0M (v:= .slice (some ⟨b,o,none⟩) c.l.length cap) Sc.o rfl (by rw[hlv];rfl)) ?_;refine go 2 ?_;refine a0D (e0U (vs:=a0S c.l[i]) Ag.o rfl gFd hmem hcu rfl (by decide)) ?_;refine go 4 ?_;rw[hds,show(data.length:Int)/64=((data.length/64:Nat):Int) by omega];refine cg 0 (y0R c.l[i] at_ ((data.length/64:Nat):Int) hsi) ?_;refine go 3 ?_;refine a0P rfl (fun hb34=> ?_) (fun hb34=> ?_)
    ·rw[if_pos hb34];refine go 2 ?_;refine a0D (a0L (v:= #[c.lv,.int .i64 c.next,.int .i64 c.bits,.int .i64 c.epoch]) Ag.o rfl (by simp[Value.cells]) (a0G (by simp[Value.cells]))) ?_;refine a0M Sz.o rfl rfl rfl (fun u hu=>hone u (by simpa [a0H] using hu)) (by simp[Value.cells,a0H,a0S]) (a0N (by simp[Value.cells,a0H,a0S])) ?_;refine go 3 ?_;exact c0N (x:=((H,c):b0A×Rx)) (g0H hc) idh (RV.agg Ag.o rfl (by simp[a0H]) (by rfl) (RV.tmp rfl RV.nil)) rfl gSp
    ·have hgd:=j1B hb34;rw[if_neg (by rw[hb34];decide)];skip;refine go 4 ?_;refine a0D (a0L (v:= #[c.lv,.int .i64 c.next,.int .i64 c.bits,.int .i64 c.epoch]) Ag.o rfl (by simp[Value.cells]) (a0G (by simp[Value.cells]))) ?_;refine go 3 ?_;refine d0S rfl Hb.o rfl ((by have h:=u0M H c i at_.toNat data.length data hc hil hbits (by omega) hw (Nat.le_refl _);rw[Int.toNat_of_nonneg hgd.1]at h;exact h)) gSp ?_;rintro⟨H2,c2⟩ ⟨hs2,hc2,hr2⟩;refine ns ?_;refine go 3 ?_;refine al fun b11=> ?_;refine a0M Sz.o rfl rfl rfl (fun u hu=>c0H hc2 u (by simpa using hu)) (by simp[Value.cells,a0H,a0S]) (a0N (by simp[Value.cells,a0H,a0S])) ?_;refine go 10 ?_;refine a0P rfl (fun hb55=> ?_) (fun hb55=> ?_)
     ·rw[if_pos (by simpa using hb55)];refine go 2 ?_;refine a0D (a0L (v:= #[c.lv,.int .i64 c.next,.int .i64 c.bits,.int .i64 c.epoch]) Ag.o rfl (by simp[Value.cells]) (a0G (by simp[Value.cells]))) ?_;refine go 1 ?_;refine a0M Sz.o rfl rfl rfl (fun u hu=>hone u (by simpa [a0H] using hu)) (by simp[Value.cells,a0H,a0S]) (a0N (by simp[Value.cells,a0H,a0S])) ?_;refine go 3 ?_;exact c0N (x:=((H2,{c with lv:=c.lv}):b0A×Rx)) ⟨hs2,hc.more hs2,rfl⟩ idh (RV.agg Ag.o rfl (by simp[a0H]) (by rfl) (RV.tmp rfl RV.nil)) rfl gSp
     ·rw[if_neg (by simpa using hb55)];refine go 4 ?_;refine a0D (a0L (v:=(a0H c2).toArray) Ag.o rfl (by simp[Value.cells,a0H]) (a0G (by simp[Value.cells,a0H]))) ?_;refine a0M Sz.o rfl rfl rfl (fun u hu=>c0H hc2 u (by simpa using hu)) (by simp[Value.cells,a0H,a0S]) (a0N (by simp[Value.cells,a0H,a0S])) ?_;refine go 3 ?_;exact c0N (x:=((H2,c2):b0A×Rx)) ⟨hs2,hc2,hr2⟩ idh (RV.agg Ag.o rfl (by simp[a0H]) (by rfl) (RV.tmp rfl RV.nil)) rfl gSp
theorem q0R (i:Nat): ∀(k:Nat) (c:Rp) (at_:Nat) (d:B),(d0D i k c at_ d).1.l.length=c.l.length∧(d0D i k c at_ d).1.bits=c.bits∧(d0D i k c at_ d).1.next=c.next∧(d0D i k c at_ d).1.epoch=c.epoch
 |0,c,_,_=>⟨rfl,rfl,rfl,rfl⟩
 |k+1,c,at_,d=>by
  rw[d0D];split
  ·exact⟨rfl,rfl,rfl,rfl⟩
  ·simp only;split
   ·exact⟨rfl,rfl,rfl,rfl⟩
   ·obtain⟨h1,h2,h3,h4⟩:=q0R i k (d0E c i (j0X (c.l.getD i v0).m (at_/4:Nat) (b1B (f0M (at_/4:Nat) (c.l.getD i v0).m) d (at_%4*64) (min d.length (256-at_%4*64))))) (at_+min d.length (256-at_%4*64)/64) (d.drop (min d.length (256-at_%4*64)));exact⟨h1.trans (by unfold d0E;simp),h2,h3,h4⟩
theorem p2Q {P:Rp} {i f u:Nat} (h:u/4≤(f+3)/4):d0T P i f u=d0D i ((u-f)*64) P f (a0K ((u-f)*64)):=by
 unfold d0T;simp only;rw[if_pos h]
theorem x2A {P:Rp} {i f u a b:Nat} (ha:a=(f+3)/4) (hb:b=u/4) (h: ¬b≤a) {r:Rp×Int} (hr:r=d0D i ((4*a-f)*64) P f (a0K ((4*a-f)*64))):d0T P i f u=if r.2≠0 then(P,r.2)else
 let x:=d0E r.1 i (g0P (r.1.l.getD i v0).m a b)
 let y:=d0D i ((u-4*b)*64) x (4*b) (a0K ((u-4*b)*64))
 if y.2≠0 then(P,y.2)else(y.1,0):=by
 subst ha hb hr;unfold d0T;simp only;rw[if_neg h]
theorem j0D (n:Nat):(a0K n).length=n:=by simp[a0K]
theorem x0Y (n:Nat) (hn:n≤10000):a0F prog 171 #[.int .i64 n] [] (a0T (b0B (a0K (n*64))) []):=by
 rw[Nat.mul_comm];exact x1Z n hn
theorem c1O (H:b0A) (c:Rx) (i f u:Nat) (hc:c0T H c) (hi:i<c.l.length) (hbits:c.bits≤256) (hfu:f≤u) (hu:u≤2048):
 a0F prog 125 #[e0R c,.int .i64 i,.int .i64 f,.int .i64 u] [b0Z H]
 (b0N (x0X H (d0T (er c) i f u).1) (n1W (d0T (er c) i f u).2) (fun x=> [b0Z x.1])):=by
 obtain⟨a,ha⟩: ∃a,a=(f+3)/4:=⟨_,rfl⟩;obtain⟨b,hb⟩: ∃b,b=u/4:=⟨_,rfl⟩;have hone:=c0H hc;by_cases hba:b≤a
 ·rw[p2Q (by omega)];refine en func125 ntmps125 fun R w0=> ?_
  try simp only[e0R]
  refine go 2 ?_;refine bx fun b4=> ?_;refine al fun b8=> ?_;refine go 10 ?_;rw[show((f:Int)+3)/4=(a:Int) by omega,show(u:Int)/4=(b:Int) by omega];refine go 12 ?_;refine d0R rfl (by simpa using (by omega:(b:Int)≤(a:Int))) ?_;refine go 1 ?_;refine mx (.r 0 6 (.hard 6 (.hard 7 (.r 8 2 (.hard 10 (.soft 11 .done)))))) [v0G b4 c] ?_;refine c0V rfl (a0L (v:=(a0H c).toArray) Ag.o rfl (by simp[Value.cells,a0H]) (a0G (by simp[Value.cells,a0H]))) ?_;refine cg 6 ((by have h:=x0Y (u-f) (by omega);rw[show((u-f:Nat):Int)=(u:Int)- (f:Int) by omega]at h;exact h)) ?_;refine go 3 ?_;refine d0S rfl Hb.o rfl (u0M H c i f ((u-f)*64) (a0K ((u-f)*64)) hc hi hbits (by rw[j0D];omega) (by rw[j0D];omega) (by rw[j0D];exact Nat.le_refl _)) gSp ?_;rintro⟨H2,c2⟩ ⟨hs2,hc2,hr2⟩;refine ns ?_;refine go 5 ?_;refine a0M Sz.o rfl rfl rfl (fun u hu=>c0H hc2 u (by simpa using hu)) (by simp[Value.cells,a0H,a0S]) (a0N (by simp[Value.cells,a0H,a0S])) ?_;refine go 5 ?_;exact c0N (x:=((H2,c2):b0A×Rx)) ⟨hs2,hc2,hr2⟩ idh (RV.agg Ag.o rfl (by simp[a0H]) (by rfl) (RV.tmp rfl RV.nil)) rfl gSp
 ·obtain⟨r,hr⟩: ∃r,r=d0D i ((4*a-f)*64) (er c) f (a0K ((4*a-f)*64)):=⟨_,rfl⟩;have o0A:=q0R i ((4*a-f)*64) (er c) f (a0K ((4*a-f)*64));rw[←hr]at o0A;rw[x2A ha hb hba hr];refine en func125 ntmps125 fun R w0=> ?_
  try simp only[e0R]
  refine go 2 ?_;refine bx fun b4=> ?_;refine al fun b8=> ?_;refine go 10 ?_;rw[show((f:Int)+3)/4=(a:Int) by omega,show(u:Int)/4=(b:Int) by omega];refine go 12 ?_;refine b0R rfl (by simpa using (by omega:(a:Int)<(b:Int))) ?_;refine go 3 ?_;refine fx (.r 0 7 (.float 12 (.hard 7 (.hard 8 (.r 9 3 (.res (.hard 13 (.soft 14 .done)))))))) [v0G b4 c] ?_;refine i0L rfl (a0L (v:=(a0H c).toArray) Ag.o rfl (by simp[Value.cells,a0H]) (a0G (by simp[Value.cells,a0H]))) ?_;refine go 6 ?_;refine l0Z (e0:= []) rfl gSu (fun _ _ _=>rfl) Zr.o rfl ?_;refine c0F rfl (fun hok EE FF=> ?_);refine ns ?_;refine cg 0 ((by have h:=x0Y (4*a-f) (by omega);rw[show((4*a-f:Nat):Int)=4*(a:Int)- (f:Int) by omega]at h;exact h)) ?_;refine go 1 ?_;refine fn (E:=EE) (F:=FF) (hok.put rfl) ?_;refine c0F rfl (fun hok EE FF=> ?_);refine ns ?_;refine d0S rfl Hb.o rfl ((by have h:=u0M H c i f ((4*a-f)*64) (a0K ((4*a-f)*64)) hc hi hbits (by rw[j0D];omega) (by rw[j0D];omega) (by rw[j0D];exact Nat.le_refl _);rw[←hr]at h;exact h)) gSp ?_;rintro⟨H2,c2⟩ ⟨hs2,hc2,hr2⟩;refine ns ?_;refine go 1 ?_;refine fn (E:=EE) (F:=FF) (hok.put rfl) ?_;refine go 3 ?_;refine n0A (fun b12=> ?_);dsimp only;refine c0F rfl (fun hok EE FF=> ?_);refine ns ?_;refine a0M Sz.o rfl rfl rfl (fun u hu=>c0H hc2 u (by simpa using hu)) (by simp[Value.cells,a0H,a0S]) (a0N (by simp[Value.cells,a0H,a0S])) ?_;refine go 1 ?_;refine fn (E:=EE) (F:=FF) hok ?_;refine go 10 ?_;refine a0P rfl (fun hb48=> ?_) (fun hb48=> ?_)
  ·rw[if_pos (by simpa using hb48)];refine go 2 ?_;refine a0D (a0L (v:=(a0H c).toArray) Ag.o rfl (by simp[Value.cells,a0H]) (a0G (by simp[Value.cells,a0H]))) ?_;refine go 1 ?_;refine a0M Sz.o rfl rfl rfl (fun u hu=>hone u (by simpa using hu)) (by simp[Value.cells,a0H,a0S]) (a0N (by simp[Value.cells,a0H,a0S])) ?_;refine go 3 ?_;exact c0N (x:=((H2,c):b0A×Rx)) ⟨hs2,hc.more hs2,rfl⟩ idh (RV.agg Ag.o rfl (by simp[a0H]) (by rfl) (RV.tmp rfl RV.nil)) rfl gSp
  ·rw[if_neg (by simpa using hb48)];dsimp only at hs2 hc2 hr2 ⊢;have hi2:i<c2.l.length:=by have h:=o0A.1;rw[←hr2]at h;simp only[er,List.length_map]at h;omega
   have hb2:c2.bits≤256:=by have h:=o0A.2.1;rw[←hr2]at h;simp only[er]at h;omega
   obtain⟨p,cap,hlv,hcap⟩:=d0Q hc2.vols;have hrow:=hc2.vols;rw[hlv]at hrow;have hfew:=hc2.few;obtain⟨bb,o,cap',cur,hv,hcp,hmem,hcut,hlen⟩:=g0G hrow (by omega);cases hv
   have hcu:(cur.drop (o+i*6)).take 6=a0S c2.l[i]:=(h0R hcut hi2).trans (m0V c2.l hi2);have hvi:=hc2.maps _ (List.getElem_mem hi2);have hml:=hvi.2.len;rw[←hr2,n0C hi2];refine go 5 ?_;refine a0D (b0M (v:= .slice (some ⟨bb,o,none⟩) c2.l.length cap) Sc.o rfl (by exact congrArg some hlv)) ?_;refine go 2 ?_;refine a0D (e0U (vs:=a0S c2.l[i]) Ag.o rfl gFd hmem hcu rfl (by decide)) ?_;refine al fun b14=> ?_;refine a0M Sz.o rfl rfl rfl (fun u hu=>q0Q hvi u (by simpa using hu)) (by simp[Value.cells,a0H,a0S]) (a0N (by simp[Value.cells,a0H,a0S])) ?_;refine ce 8 (q1L H2 c2.l[i].mv c2.l[i].v.m a b hvi.1 (by omega)) ?_;rintro v60 _;refine ns ?_;refine y0K (show Fnd _ (t0I v60 (g0P c2.l[i].v.m a b)) _ from gFd) fun hv60=> ?_;refine go 5 ?_;refine s0U (show Fnd _ (t0I v60 (g0P c2.l[i].v.m a b)) _ from gFd) (show Fnd _ (b0Z H2) _ from gFd) fun H3 hs3 hr3=> ?_;obtain⟨v2,hv2⟩: ∃v2:Vx,v2= {v:= {c2.l[i].v with m:=g0P c2.l[i].v.m a b},mv:=v60} :=⟨_,rfl⟩;have hm2:m0Z H3 v2:=by rw[hv2];exact⟨hr3,hvi.2.clear _ _⟩
   refine go 1 ?_;refine a0D (a0L (v:=(a0H c2).toArray) Ag.o rfl (by simp[Value.cells,a0H]) (a0G (by simp[Value.cells,a0H]))) ?_;refine go 1 ?_;refine a0D (a0L (v:=(a0S v2).toArray) Ag.o rfl (by simp[Value.cells,a0S]) (by rw[hv2];rfl)) ?_;refine ce 0 (c1J H3 c2 i v2 (hc2.more hs3) hm2 hi2) ?_;rintro⟨H4,c4⟩ ⟨hs4,hc4,hr4⟩;refine ns ?_;refine a0M Sz.o rfl rfl rfl (fun u hu=>c0H hc4 u (by simpa using hu)) (by simp[Value.cells,a0H,a0S]) (a0N (by simp[Value.cells,a0H,a0S])) ?_;refine go 3 ?_;dsimp only at hs4 hc4 hr4;have hr5:er c4=d0E (er c2) i (g0P c2.l[i].v.m a b):=b2G (mv:=v60) hi2 (by rw[hr4,hv2]);have hl4:c4.l.length=c2.l.length:=by have h:=congrArg (fun x:Rp=>x.l.length) hr5;simpa [er,d0E] using h
   have hb4:c4.bits=c2.bits:=congrArg (fun x:Rp=>x.bits) hr5;rw[←hr5];refine fx (.r 0 8 (.float 13 (.hard 8 (.hard 9 (.r 10 3 (.res (.hard 14 (.soft 15 .done)))))))) [v0G b12 c4] ?_;refine i0L rfl (a0L (v:=(a0H c4).toArray) Ag.o rfl (by simp[Value.cells,a0H]) (a0G (by simp[Value.cells,a0H]))) ?_;refine go 7 ?_;refine l0Z (e0:= []) rfl gSu (fun _ _ _=>rfl) Zr.o rfl ?_;refine c0F rfl (fun hok EE FF=> ?_);refine ns ?_;refine cg 0 ((by have h:=x0Y (u-4*b) (by omega);rw[show((u-4*b:Nat):Int)=(u:Int)-4*(b:Int) by omega]at h;exact h)) ?_;refine go 1 ?_;refine fn (E:=EE) (F:=FF) (hok.put rfl) ?_;refine c0F rfl (fun hok EE FF=> ?_);refine ns ?_;refine d0S rfl Hb.o rfl ((by have h:=u0M H4 c4 i (4*b) ((u-4*b)*64) (a0K ((u-4*b)*64)) hc4 (by omega) (by omega) (by rw[j0D];omega) (by rw[j0D];omega) (by rw[j0D];exact Nat.le_refl _);rw[show((4*b:Nat):Int)=4*(b:Int) by omega]at h;exact h)) gSp ?_;rintro⟨H6,c6⟩ ⟨hs6,hc6,hr6⟩;refine ns ?_;refine go 1 ?_;refine fn (E:=EE) (F:=FF) (hok.put rfl) ?_;refine go 3 ?_;refine n0A (fun b15=> ?_);dsimp only;refine c0F rfl (fun hok EE FF=> ?_);refine ns ?_;refine a0M Sz.o rfl rfl rfl (fun u hu=>c0H hc6 u (by simpa using hu)) (by simp[Value.cells,a0H,a0S]) (a0N (by simp[Value.cells,a0H,a0S])) ?_;refine go 1 ?_;refine fn (E:=EE) (F:=FF) hok ?_;refine go 10 ?_;refine a0P rfl (fun hb80=> ?_) (fun hb80=> ?_)
   ·rw[if_pos (by simpa using hb80)];refine go 2 ?_;refine a0D (a0L (v:=(a0H c).toArray) Ag.o rfl (by simp[Value.cells,a0H]) (a0G (by simp[Value.cells,a0H]))) ?_;refine go 1 ?_;refine a0M Sz.o rfl rfl rfl (fun u hu=>hone u (by simpa using hu)) (by simp[Value.cells,a0H,a0S]) (a0N (by simp[Value.cells,a0H,a0S])) ?_;refine go 3 ?_;exact c0N (x:=((H6,c):b0A×Rx)) ⟨fun q h=>hs6 q (hs4 q (hs3 q (hs2 q h))),hc.more (fun q h=>hs6 q (hs4 q (hs3 q (hs2 q h)))),rfl⟩ idh (RV.agg Ag.o rfl (by simp[a0H]) (by rfl) (RV.tmp rfl RV.nil)) rfl gSp
   ·rw[if_neg (by simpa using hb80)];refine go 4 ?_;refine a0D (a0L (v:=(a0H c6).toArray) Ag.o rfl (by simp[Value.cells,a0H]) (a0G (by simp[Value.cells,a0H]))) ?_;refine a0M Sz.o rfl rfl rfl (fun u hu=>c0H hc6 u (by simpa using hu)) (by simp[Value.cells,a0H,a0S]) (a0N (by simp[Value.cells,a0H,a0S])) ?_;refine go 3 ?_;exact c0N (x:=((H6,c6):b0A×Rx)) ⟨fun q h=>hs6 q (hs4 q (hs3 q (hs2 q h))),hc6,hr6⟩ idh (RV.agg Ag.o rfl (by simp[a0H]) (by rfl) (RV.tmp rfl RV.nil)) rfl gSp
end Go.Proofs.Q

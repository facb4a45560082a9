/- Part of the proof; no statement of its own. -/
import Derived.Test.YtpinhnikemamjaaGreatDoorN23
import Derived.Test.YtpinhnikemamjaaGreatDoorN18
import Derived.Test.YtpinhnikemamjaaGreatDoorN32
import Derived.Test.YtpinhnikemamjaaGreatDoorN33
import Derived.Test.YtpinhnikemamjaaGreatDoorN17
import Derived.Test.YtpinhnikemamjaaGreatDoorN31
import Derived.Test.YtpinhnikemamjaaGreatDoorN21
import Derived.Test.YtpinhnikemamjaaGreatDoorN30
import Derived.Test.YtpinhnikemamjaaGreatDoorProg
import Derived.KernelRfl
import Derived.Test.YtpinhnikemamjaaGreatDoorN08
import Derived.Test.YtpinhnikemamjaaGreatDoorN29
import Derived.Test.YtpinhnikemamjaaGreatDoorN07
import Derived.Test.YtpinhnikemamjaaGreatDoorN24
set_option linter.all false
set_option maxRecDepth 4000
set_option maxHeartbeats 4000000
attribute [local irreducible] Go.Sl.a0O Go.Sl.OW Go.Sl.CW Go.Sl.OS Go.Sl.OM Go.Sl.OMf Go.Sl.KM
namespace Go.Proofs.Q
open Go.Sl Go.Sb Tryz
theorem f2J {P:Rp} {id at_ n:Int} (h:c0O P.l id=none):l0J P id at_ n=(P,5):=by unfold l0J;rw[h]
theorem f2K {c:Rx} {i:Nat} {id at_ n:Int} (h:c0O (er c).l id=some i) (hi:i<c.l.length):l0J (er c) id at_ n=(if c.l[i].v.only then(er c,7)else if m0B c.l[i].v at_ n then(er c,6)else d0T (er c) i at_.toNat (at_+n).toNat):=by
 unfold l0J;rw[h];simp only[n0C hi]
theorem f2L (H:b0A) (c:Rx) (id at_ n:Int) (hc:c0T H c) (hsz:y0S (er c)) (hbits:c.bits≤256):a0F prog 78 #[e0R c,.int .i64 id,.int .i64 at_,.int .i64 n] [b0Z H]
 (b0N (x0X H (l0J (er c) id at_ n).1) (n1W (l0J (er c) id at_ n).2) (fun x=> [b0Z x.1])):=by
 have hone:=c0H hc;obtain⟨p,cap,hlv,hcap⟩:=d0Q hc.vols;have hrow:=hc.vols;rw[hlv]at hrow;have hfew:=hc.few;cases hf:c0O (er c).l id with
 |none=>
  rw[f2J hf];refine en func78 ntmps78 fun R w0=> ?_
  try simp only[e0R]
  refine go 2 ?_;refine bx fun b4=> ?_;refine al fun b8=> ?_;refine go 5 ?_;refine a0D (a0L (v:=(a0H c).toArray) Ag.o rfl (by simp[Value.cells,a0H]) (a0G (by simp[Value.cells,a0H]))) ?_;refine cg 1 (r0H hc hf) ?_;refine go 15 ?_;refine a0D (a0L (v:=(a0H c).toArray) Ag.o rfl (by simp[Value.cells,a0H]) (a0G (by simp[Value.cells,a0H]))) ?_;refine a0M Sz.o rfl rfl rfl (fun u hu=>hone u (by simpa using hu)) (by simp[Value.cells,a0H,a0S]) (a0N (by simp[Value.cells,a0H,a0S])) ?_;refine go 3 ?_;exact c0N (x:=((H,c):b0A×Rx)) (g0H hc) idh (RV.agg Ag.o rfl (by simp[a0H]) (by rfl) (RV.tmp rfl RV.nil)) rfl gSp
 |some i=>
  have hil:i<c.l.length:=by have:=t0Z hf;simpa [er] using this
  obtain⟨b,o,cap',cur,hv,hcp,hmem,hcut,hlen⟩:=g0G hrow (by omega);cases hv
  have hcu:(cur.drop (o+i*6)).take 6=a0S c.l[i]:=(h0R hcut hil).trans (m0V c.l hil);have hon:nth cur (o+i*6+2)=some (.bool c.l[i].v.only):=by
   rw[d0Y];have h:=congrArg (fun l:List Value=>l[2]?) hcu;simpa [List.getElem?_take,List.getElem?_drop,a0S] using h
  have hvi:=hc.maps _ (List.getElem_mem hil);have hsi:=hsz.at_ hil;rw[f2K hf hil];refine en func78 ntmps78 fun R w0=> ?_
  try simp only[e0R]
  refine go 2 ?_;refine bx fun b4=> ?_;refine al fun b8=> ?_;refine go 5 ?_;refine a0D (a0L (v:=(a0H c).toArray) Ag.o rfl (by simp[Value.cells,a0H]) (a0G (by simp[Value.cells,a0H]))) ?_;refine cg 1 (p0A hc hf) ?_;refine go 12 ?_;refine b0R rfl (by simpa using (by omega: ¬((i:Int)<0))) ?_;refine go 3 ?_;refine a0D (b0M (v:= .slice (some ⟨b,o,none⟩) c.l.length cap) Sc.o rfl (by exact congrArg some hlv)) ?_;refine go 3 ?_;refine a0D (z0M Sc.o rfl gFd hmem hon) ?_;refine go 3 ?_;refine a0P rfl (fun hb18=> ?_) (fun hb18=> ?_)
  ·rw[if_pos hb18];refine go 2 ?_;refine a0D (a0L (v:=(a0H c).toArray) Ag.o rfl (by simp[Value.cells,a0H]) (a0G (by simp[Value.cells,a0H]))) ?_;refine a0M Sz.o rfl rfl rfl (fun u hu=>hone u (by simpa using hu)) (by simp[Value.cells,a0H,a0S]) (a0N (by simp[Value.cells,a0H,a0S])) ?_;refine go 3 ?_;exact c0N (x:=((H,c):b0A×Rx)) (g0H hc) idh (RV.agg Ag.o rfl (by simp[a0H]) (by rfl) (RV.tmp rfl RV.nil)) rfl gSp
  ·rw[if_neg (by rw[hb18];decide)];refine go 3 ?_;refine a0D (b0M (v:= .slice (some ⟨b,o,none⟩) c.l.length cap) Sc.o rfl (by exact congrArg some hlv)) ?_;refine go 2 ?_;refine a0D (e0U (vs:=a0S c.l[i]) Ag.o rfl gFd hmem hcu rfl (by decide)) ?_;refine cg 2 (y0R c.l[i] at_ n hsi) ?_;refine go 3 ?_;refine a0P rfl (fun hb26=> ?_) (fun hb26=> ?_)
   ·rw[if_pos hb26];refine go 2 ?_;refine a0D (a0L (v:=(a0H c).toArray) Ag.o rfl (by simp[Value.cells,a0H]) (a0G (by simp[Value.cells,a0H]))) ?_;refine a0M Sz.o rfl rfl rfl (fun u hu=>hone u (by simpa using hu)) (by simp[Value.cells,a0H,a0S]) (a0N (by simp[Value.cells,a0H,a0S])) ?_;refine go 3 ?_;exact c0N (x:=((H,c):b0A×Rx)) (g0H hc) idh (RV.agg Ag.o rfl (by simp[a0H]) (by rfl) (RV.tmp rfl RV.nil)) rfl gSp
   ·have hgd:=j1B hb26;rw[if_neg (by rw[hb26];decide)];refine go 4 ?_;refine a0D (a0L (v:=(a0H c).toArray) Ag.o rfl (by simp[Value.cells,a0H]) (a0G (by simp[Value.cells,a0H]))) ?_;refine ce 5 ((by have h:=c1O H c i at_.toNat (at_+n).toNat hc hil hbits (by omega) (by omega);rw[Int.toNat_of_nonneg hgd.1,Int.toNat_of_nonneg (by omega:0≤at_+n)]at h;exact h)) ?_;rintro⟨H2,c2⟩ ⟨hs2,hc2,hr2⟩;refine ns ?_;refine go 2 ?_;refine a0M Sz.o rfl rfl rfl (fun u hu=>c0H hc2 u (by simpa using hu)) (by simp[Value.cells,a0H,a0S]) (a0N (by simp[Value.cells,a0H,a0S])) ?_;refine go 3 ?_;exact c0N (x:=((H2,c2):b0A×Rx)) ⟨hs2,hc2,hr2⟩ idh (RV.agg Ag.o rfl (by simp[a0H]) (by rfl) (RV.tmp rfl RV.nil)) rfl gSp
theorem v1S {P:Rp} {id n:Int} (h:c0O P.l id=none):g0U P id n=(P,5):=by unfold g0U;rw[h]
theorem v1T {c:Rx} {i:Nat} {id size:Int} (h:c0O (er c).l id=some i) (hi:i<c.l.length) {r:Rp×Int} (hr:r=if size<c.l[i].v.size then d0T (er c) i size.toNat c.l[i].v.size.toNat else(er c,0)):g0U (er c) id size=(if c.l[i].v.only then(er c,7)else if size<1∨2048<size then(er c,4)else
 if r.2≠0 then(er c,r.2)else({r.1 with l:=r.1.l.set i {r.1.l.getD i v0 with size:=size}},0)):=by
 subst hr;unfold g0U;rw[h];simp only[n0C hi]
theorem a1F (i f u:Nat) (c:Rp):(d0T c i f u).1.l.length=c.l.length∧(d0T c i f u).1.bits=c.bits∧(d0T c i f u).1.next=c.next∧(d0T c i f u).1.epoch=c.epoch:=by
 unfold d0T;simp only;split
 ·exact q0R _ _ _ _ _
 ·split
  ·exact⟨rfl,rfl,rfl,rfl⟩
  ·split
   ·exact⟨rfl,rfl,rfl,rfl⟩
   ·obtain⟨h1,h2,h3,h4⟩:=q0R i ((4*((f+3)/4)-f)*64) c f (a0K ((4*((f+3)/4)-f)*64));obtain⟨g1,g2,g3,g4⟩:=q0R i ((u-4*(u/4))*64) (d0E (d0D i ((4*((f+3)/4)-f)*64) c f (a0K ((4*((f+3)/4)-f)*64))).1 i (g0P ((d0D i ((4*((f+3)/4)-f)*64) c f (a0K ((4*((f+3)/4)-f)*64))).1.l.getD i v0).m ((f+3)/4:Nat) (u/4:Nat))) (4*(u/4)) (a0K ((u-4*(u/4))*64));exact⟨g1.trans (by unfold d0E;simpa using h1),g2.trans h2,g3.trans h3,g4.trans h4⟩
theorem v1U (H:b0A) (c:Rx) (id size:Int) (hc:c0T H c) (hsz:y0S (er c)) (hbits:c.bits≤256):a0F prog 76 #[e0R c,.int .i64 id,.int .i64 size] [b0Z H]
 (b0N (x0X H (g0U (er c) id size).1) (n1W (g0U (er c) id size).2) (fun x=> [b0Z x.1])):=by
 have hone:=c0H hc;obtain⟨p,cap,hlv,hcap⟩:=d0Q hc.vols;have hrow:=hc.vols;rw[hlv]at hrow;have hfew:=hc.few;cases hf:c0O (er c).l id with
 |none=>
  rw[v1S hf];refine en func76 ntmps76 fun R w0=> ?_
  try simp only[e0R]
  refine go 2 ?_;refine bx fun b3=> ?_;refine al fun b6=> ?_;refine go 5 ?_;refine a0D (a0L (v:=(a0H c).toArray) Ag.o rfl (by simp[Value.cells,a0H]) (a0G (by simp[Value.cells,a0H]))) ?_;refine cg 1 (r0H hc hf) ?_;refine go 15 ?_;refine a0D (a0L (v:=(a0H c).toArray) Ag.o rfl (by simp[Value.cells,a0H]) (a0G (by simp[Value.cells,a0H]))) ?_;refine a0M Sz.o rfl rfl rfl (fun u hu=>hone u (by simpa using hu)) (by simp[Value.cells,a0H,a0S]) (a0N (by simp[Value.cells,a0H,a0S])) ?_;refine go 3 ?_;exact c0N (x:=((H,c):b0A×Rx)) (g0H hc) idh (RV.agg Ag.o rfl (by simp[a0H]) (by rfl) (RV.tmp rfl RV.nil)) rfl gSp
 |some i=>
  have hil:i<c.l.length:=by have:=t0Z hf;simpa [er] using this
  obtain⟨b,o,cap',cur,hv,hcp,hmem,hcut,hlen⟩:=g0G hrow (by omega);cases hv
  have hcu:(cur.drop (o+i*6)).take 6=a0S c.l[i]:=(h0R hcut hil).trans (m0V c.l hil);have hon:nth cur (o+i*6+2)=some (.bool c.l[i].v.only):=by
   rw[d0Y];have h:=congrArg (fun l:List Value=>l[2]?) hcu;simpa [List.getElem?_take,List.getElem?_drop,a0S] using h
  have hos:nth cur (o+i*6+3)=some (.int .i64 c.l[i].v.size):=by
   rw[d0Y];have h:=congrArg (fun l:List Value=>l[3]?) hcu;simpa [List.getElem?_take,List.getElem?_drop,a0S] using h
  have hvi:=hc.maps _ (List.getElem_mem hil);have hsi:=hsz.at_ hil;obtain⟨r,hr⟩: ∃r,r=if size<c.l[i].v.size then d0T (er c) i size.toNat c.l[i].v.size.toNat else(er c,0):=⟨_,rfl⟩
  rw[v1T hf hil hr];refine en func76 ntmps76 fun R w0=> ?_
  try simp only[e0R]
  refine go 2 ?_;refine bx fun b3=> ?_;refine al fun b6=> ?_;refine go 5 ?_;refine a0D (a0L (v:=(a0H c).toArray) Ag.o rfl (by simp[Value.cells,a0H]) (a0G (by simp[Value.cells,a0H]))) ?_;refine cg 1 (p0A hc hf) ?_;refine go 3 ?_;refine i0P (X:= {_x:Unit // c.l[i].v.only=false∧ ¬(size<1∨2048<size)}) (fun _=> [(1,.int .i64 id),(2,.int .i64 size),(3,.pointer (some ⟨b3,0,none⟩)),(6,.pointer (some ⟨b6,0,none⟩)),(7,.int .i64 0),(8,.int .i64 i)]) (fun _=> [v0G b3 c,pts b6 (.cells #[.slice none 0 0,.int .i64 0,.int .i64 0,.int .i64 0] 34 (0,0)),b0Z H,R]) ?_ ?_
  ·refine go 8 ?_;refine b0R rfl (by simpa using (by omega: ¬((i:Int)<0))) ?_;refine go 3 ?_;refine a0D (b0M (v:= .slice (some ⟨b,o,none⟩) c.l.length cap) Sc.o rfl (by exact congrArg some hlv)) ?_;refine go 3 ?_;refine a0D (z0M Sc.o rfl gFd hmem hon) ?_;refine go 3 ?_;refine a0P rfl (fun hb20=> ?_) (fun hb20=> ?_)
   ·rw[if_pos hb20];refine go 2 ?_;refine a0D (a0L (v:=(a0H c).toArray) Ag.o rfl (by simp[Value.cells,a0H]) (a0G (by simp[Value.cells,a0H]))) ?_;refine a0M Sz.o rfl rfl rfl (fun u hu=>hone u (by simpa using hu)) (by simp[Value.cells,a0H,a0S]) (a0N (by simp[Value.cells,a0H,a0S])) ?_;refine go 3 ?_;exact c0N (x:=((H,c):b0A×Rx)) (g0H hc) idh (RV.agg Ag.o rfl (by simp[a0H]) (by rfl) (RV.tmp rfl RV.nil)) rfl gSp
   ·rw[if_neg (by rw[hb20];decide)];refine go 1 ?_;by_cases hlt:size<1
    ·refine go 12 ?_;rw[if_pos (.inl hlt)];refine go 1 ?_;refine a0D (a0L (v:=(a0H c).toArray) Ag.o rfl (by simp[Value.cells,a0H]) (a0G (by simp[Value.cells,a0H]))) ?_;refine a0M Sz.o rfl rfl rfl (fun u hu=>hone u (by simpa using hu)) (by simp[Value.cells,a0H,a0S]) (a0N (by simp[Value.cells,a0H,a0S])) ?_;refine go 3 ?_;exact c0N (x:=((H,c):b0A×Rx)) (g0H hc) idh (RV.agg Ag.o rfl (by simp[a0H]) (by rfl) (RV.tmp rfl RV.nil)) rfl gSp
    ·refine go 10 ?_;refine a0P rfl (fun hb28=> ?_) (fun hb28=> ?_)
     ·refine go 1 ?_;rw[if_pos (.inr (by simpa using hb28))];refine go 1 ?_;refine a0D (a0L (v:=(a0H c).toArray) Ag.o rfl (by simp[Value.cells,a0H]) (a0G (by simp[Value.cells,a0H]))) ?_;refine a0M Sz.o rfl rfl rfl (fun u hu=>hone u (by simpa using hu)) (by simp[Value.cells,a0H,a0S]) (a0N (by simp[Value.cells,a0H,a0S])) ?_;refine go 3 ?_;exact c0N (x:=((H,c):b0A×Rx)) (g0H hc) idh (RV.agg Ag.o rfl (by simp[a0H]) (by rfl) (RV.tmp rfl RV.nil)) rfl gSp
     ·refine go 1 ?_;exact me idh (⟨(),hb20,fun h=>by have hb:=of_decide_eq_false hb28;omega⟩)
  rintro⟨_,hoo,hgo⟩;refine go 1 ?_;rw[if_neg (by rw[hoo];decide),if_neg hgo];refine go 1 ?_;refine a0D (a0L (v:=(a0H c).toArray) Ag.o rfl (by simp[Value.cells,a0H]) (a0G (by simp[Value.cells,a0H]))) ?_;refine al fun b9=> ?_;refine a0M Sz.o rfl rfl rfl (fun u hu=>hone u (by simpa using hu)) (by simp[Value.cells,a0H,a0S]) (a0N (by simp[Value.cells,a0H,a0S])) ?_;refine go 2 ?_;refine i0P (X:= {x:b0A×Rx // (∀p∈H,p∈x.1)∧c0T x.1 x.2∧er x.2=r.1∧r.2=0}) (fun _=> [(1,.int .i64 id),(2,.int .i64 size),(3,.pointer (some ⟨b3,0,none⟩)),(6,.pointer (some ⟨b6,0,none⟩)),(7,.int .i64 0),(8,.int .i64 i),(9,.pointer (some ⟨b9,0,none⟩))]) (fun y=> [v0G b9 y.1.2,pts b6 (.cells #[.slice none 0 0,.int .i64 0,.int .i64 0,.int .i64 0] 34 (0,0)),b0Z y.1.1,R]) ?_ ?_
  ·refine go 4 ?_;refine a0D (b0M (v:= .slice (some ⟨b,o,none⟩) c.l.length cap) Sc.o rfl (by exact congrArg some hlv)) ?_;refine go 3 ?_;refine a0D (z0M Sc.o rfl gFd hmem hos) ?_;refine go 3 ?_;refine a0P rfl (fun hb44=> ?_) (fun hb44=> ?_)
   ·have hlt:size<c.l[i].v.size:=by simpa using hb44
    rw[if_pos hlt]at hr;refine go 1 ?_;refine fx (.r 0 8 (.float 13 (.hard 8 (.hard 9 (.r 10 3 (.res (.hard 14 (.soft 15 .done)))))))) [v0G b3 c] ?_;refine i0L rfl (a0L (v:=(a0H c).toArray) Ag.o rfl (by simp[Value.cells,a0H]) (a0G (by simp[Value.cells,a0H]))) ?_;refine go 3 ?_;refine i0L rfl (b0M (v:= .slice (some ⟨b,o,none⟩) c.l.length cap) Sc.o rfl (by exact congrArg some hlv)) ?_;refine go 3 ?_;refine l0Z (e0:= []) rfl gSu (fun _ _ _=>rfl) Zr.o rfl ?_;refine c0F rfl (fun hok EE FF=> ?_);refine ns ?_;refine a0D (z0M Sc.o rfl gFd hmem hos) ?_;refine go 1 ?_;refine fn (E:=EE) (F:=FF) (hok.put rfl) ?_;refine c0F rfl (fun hok EE FF=> ?_);refine ns ?_;refine ce 0 ((by have h:=c1O H c i size.toNat c.l[i].v.size.toNat hc hil hbits (by omega) (by omega);rw[←hr,Int.toNat_of_nonneg (by omega:0≤size),Int.toNat_of_nonneg hsi.1]at h;exact h)) ?_;rintro⟨H3,c3⟩ ⟨hs3,hc3,hr3⟩;refine ns ?_;refine go 1 ?_;refine fn (E:=EE) (F:=FF) (hok.put rfl) ?_;refine go 3 ?_;refine n0A (fun b10=> ?_);dsimp only;refine c0F rfl (fun hok EE FF=> ?_);refine ns ?_;refine a0M Sz.o rfl rfl rfl (fun u hu=>c0H hc3 u (by simpa using hu)) (by simp[Value.cells,a0H,a0S]) (a0N (by simp[Value.cells,a0H,a0S])) ?_;refine go 1 ?_;refine fn (E:=EE) (F:=FF) hok ?_;refine go 10 ?_;refine a0P rfl (fun hb59=> ?_) (fun hb59=> ?_)
    ·rw[if_pos (by simpa using hb59)];refine go 2 ?_;refine a0D (a0L (v:=(a0H c).toArray) Ag.o rfl (by simp[Value.cells,a0H]) (a0G (by simp[Value.cells,a0H]))) ?_;refine go 1 ?_;refine a0M Sz.o rfl rfl rfl (fun u hu=>hone u (by simpa using hu)) (by simp[Value.cells,a0H,a0S]) (a0N (by simp[Value.cells,a0H,a0S])) ?_;refine go 3 ?_;exact c0N (x:=((H3,c):b0A×Rx)) ⟨hs3,hc.more hs3,rfl⟩ idh (RV.agg Ag.o rfl (by simp[a0H]) (by rfl) (RV.tmp rfl RV.nil)) rfl gSp
    ·have hz:r.2=0:=by simpa using hb59
     refine go 3 ?_;refine a0D (a0L (v:=(a0H c3).toArray) Ag.o rfl (by simp[Value.cells,a0H]) (a0G (by simp[Value.cells,a0H]))) ?_;refine a0M Sz.o rfl rfl rfl (fun u hu=>c0H hc3 u (by simpa using hu)) (by simp[Value.cells,a0H,a0S]) (a0N (by simp[Value.cells,a0H,a0S])) ?_;refine go 1 ?_;exact me idh (⟨(H3,c3),hs3,hc3,hr3,hz⟩)
   ·refine go 1 ?_;exact me idh (⟨(H,c),fun _ h=>h,hc,by rw[hr,if_neg (by simpa using hb44)],by rw[hr,if_neg (by simpa using hb44)]⟩)
  rintro⟨⟨H2,c2⟩,hs2,hc2,hr2,hr0⟩;dsimp only at hs2 hc2 hr2 ⊢;have o0A:r.1.l.length=(er c).l.length∧r.1.bits=c.bits:=by
   by_cases hlt:size<c.l[i].v.size
   ·rw[hr,if_pos hlt];exact⟨(a1F _ _ _ _).1,(a1F _ _ _ _).2.1⟩
   ·rw[hr,if_neg hlt];exact⟨rfl,rfl⟩
  have hi2:i<c2.l.length:=by have h:=o0A.1;rw[←hr2]at h;simp only[er,List.length_map]at h;omega
  rw[if_neg (by rw[hr0];decide),←hr2,n0C hi2];obtain⟨p2,cap2,hlv2,hcap2⟩:=d0Q hc2.vols;have hrow2:=hc2.vols;rw[hlv2]at hrow2;have hfew2:=hc2.few;obtain⟨bb,oo,cap2',cur2,hv2,hcp2,hmem2,hcut2,hlen2⟩:=g0G hrow2 (by omega);cases hv2
  have hcu2:(cur2.drop (oo+i*6)).take 6=a0S c2.l[i]:=(h0R hcut2 hi2).trans (m0V c2.l hi2);have hvi2:=hc2.maps _ (List.getElem_mem hi2);obtain⟨v2,hv2⟩: ∃v2:Vx,v2= {v:= {c2.l[i].v with size:=size},mv:=c2.l[i].mv} :=⟨_,rfl⟩;have hm2:m0Z H2 v2:=by rw[hv2];exact hvi2
  refine go 3 ?_;refine a0D (b0M (v:= .slice (some ⟨bb,oo,none⟩) c2.l.length cap2) Sc.o rfl (by exact congrArg some hlv2)) ?_;refine go 2 ?_;refine a0D (e0U (vs:=a0S c2.l[i]) Ag.o rfl gFd hmem2 hcu2 rfl (by decide)) ?_;refine al fun b12=> ?_;refine a0M Sz.o rfl rfl rfl (fun u hu=>q0Q hvi2 u (by simpa using hu)) (by simp[Value.cells,a0H,a0S]) (a0N (by simp[Value.cells,a0H,a0S])) ?_;refine go 11 ?_;refine a0D (a0L (v:=(a0H c2).toArray) Ag.o rfl (by simp[Value.cells,a0H]) (a0G (by simp[Value.cells,a0H]))) ?_;refine go 1 ?_;refine a0D (a0L (v:=(a0S v2).toArray) Ag.o rfl (by simp[Value.cells,a0S]) (by rw[hv2];rfl)) ?_;refine ce 0 (c1J H2 c2 i v2 hc2 hm2 hi2) ?_;rintro⟨H4,c4⟩ ⟨hs4,hc4,hr4⟩;refine ns ?_;refine a0M Sz.o rfl rfl rfl (fun u hu=>c0H hc4 u (by simpa using hu)) (by simp[Value.cells,a0H,a0S]) (a0N (by simp[Value.cells,a0H,a0S])) ?_;refine go 3 ?_;exact c0N (x:=((H4,c4):b0A×Rx)) ⟨fun q h=>hs4 q (hs2 q h),hc4,by(show er c4=_);rw[show er c4=_ from hr4,hv2]⟩ idh (RV.agg Ag.o rfl (by simp[a0H]) (by rfl) (RV.tmp rfl RV.nil)) rfl gSp
abbrev h0N (b core:Nat) (c:Rx):a0C:=pts b (.cells #[ptr core,c.lv,.int .i64 c.next,.int .i64 c.bits,.int .i64 c.epoch] 37 (0,0))
def v1V (e:Int) (b:Bool):Value:= .tuple #[.int .i64 e,.int .i64 e,.bool b]
theorem j1D (bw core:Nat) (n m e:Int) (c y:Rx) (hy: ∀u∈a0H y,u.oneCell'=true) (hn:0≤n∧n<4294967296) (h1:e=0→n=m) (h2:e≠0→n=0):
 a0F prog 43 #[ptr bw,.int .u32 n,.int .i64 m,e0R y,.int .i64 e,.int .i64 e] [h0N bw core c] (a0T (v1V e true) [h0N bw core (if e=0 then y else c)]):=by
 by_cases he:e=0
 ·subst he;obtain rfl:=h1 rfl;rw[if_pos rfl];refine en func43 ntmps43 fun R w0=> ?_
  try simp only[e0R]
  refine go 2 ?_;refine bx fun b9=> ?_;refine go 20 ?_;refine a0D (a0L (v:=(a0H y).toArray) Ag.o rfl (by simp[Value.cells,a0H]) (a0G (by simp[Value.cells,a0H]))) ?_;refine go 2 ?_;refine a0M Sz.o rfl rfl rfl (fun u hu=>hy u (by simpa using hu)) (by simp[a0H]) (by simp[i0X,a0H];rfl) ?_;refine go 15 ?_;exact rG (hu:=(by unfold v1V;simp[e0L .i64 n hn.1 (by show n<9223372036854775808;omega)]))
 ·obtain rfl:=h2 he;rw[if_neg he];refine en func43 ntmps43 fun R w0=> ?_
  try simp only[e0R]
  refine go 2 ?_;refine bx fun b9=> ?_;refine go 11 ?_;refine c0J rfl (wg rfl rfl rfl (wTF (by simpa using he))) ?_;refine c0J rfl (wg rfl rfl rfl (wTF (by simpa using he))) ?_;refine a0D (i0W rfl (by simpa using he) rfl) ?_;refine go 12 ?_;refine c0R (d0V rfl) (wg rfl rfl rfl (wFF (by simpa using he))) ?_;refine c0R (a1G rfl rfl) (wg rfl rfl rfl (wFF (by simpa using he))) ?_;refine a0D (i0W rfl (by simpa using he) rfl) ?_;refine go 5 ?_;exact rG (hu:=(by unfold v1V;simp))
section
def Fit (s:St):Prop:=s.bits≤256∧s.vols.length≤1000
def v1W:B:=List.replicate 64 120
def e1W (s0:St):Prop:= ∃s1 s2 s3 s4 s5:St,(Fit s0∧Fit s1∧Fit s2∧Fit s3∧Fit s4)∧g0K 5 s0=(.ok (1,0),s1)∧h0I 1 4 v1W s1=(.ok 0,s2)∧i0G 1 true s2=(.ok (2,0),s3)∧h0I 2 0 [] s3=(.ok 7,s4)∧h0I 1 5 v1W s4=(.ok 6,s5)
section
variable {W:World} {s t:St}
theorem l1W {size:Int} {p:Int×Int} (hf:Fit s) (h:g0K size s=(.ok p,t)) (a:Ad):a0F prog 38 #[ptr a.core,.int .i64 size] (RS W a s) (a0T (y0Q p) (RS W a t)):=by
 have k:=v1M W a s size hf.2 (by rw[h];simp);rw[h]at k;exact k.ran_ok
theorem y0T (hW:h0W W) {id at_:Int} {data:B} {e:Int} (hf:Fit s) (hd:data.length≤100000) (h:h0I id at_ data s=(.ok e,t)) (a:Ad):a0F prog 21 #[ptr a.core,.int .u32 id,.int .i64 at_,b0B data] (RS W a s) (a0T (a0J e) (RS W a t)):=by
 have k:=y1E W hW a s id at_ data hf.1 hd hf.2 (by rw[h];simp);rw[h]at k;exact k.ran_ok
theorem v1X {id:Int} {p:Int×Int} (hf:Fit s) (h:i0G id true s=(.ok p,t)) (a:Ad):a0F prog 40 #[ptr a.core,.int .u32 id] (RS W a s) (a0T (y0Q p) (RS W a t)):=by
 have k:=e2W W a s id hf.2 (by rw[h];simp);rw[h]at k;exact k.ran_ok
theorem v1Y {id at_ n:Int} {p:B×Int} (h:o0G id at_ n s=(.ok p,t)) (a:Ad):a0F prog 19 #[ptr a.core,.int .u32 id,.int .i64 at_,.int .i64 n] (RS W a s) (a0T (e2Y p) (RS W a t)):=by
 have k:=p2C W a s id at_ n (by rw[h];simp);rw[h]at k;exact k.ran_ok
end
set_option maxRecDepth 8000
theorem f2M (W:World) (hW:h0W W) (hA:e1W (j0T (g0A 100) 2 256 1)):a0F prog 10 #[] [whole W] (a0T (.bool true) [whole W]):=by
 obtain⟨s1,s2,s3,s4,s5,⟨f0,f1,f2,f3,f4⟩,h1,h2,h3,h4,h5⟩:=hA;have k1:=fun a=>l1W (W:=W) f0 h1 a;have k2:=fun a=>y0T (W:=W) hW f1 (by simp[v1W]) h2 a;have k3:=fun a=>v1X (W:=W) f2 h3 a;have k4:=fun a=>y0T (W:=W) hW f3 (by simp) h4 a;have k5:=fun a=>y0T (W:=W) hW f4 (by simp[v1W]) h5 a;have hr:=a2C [120] 64 (by simp) (by omega);have hxs:(List.replicate 64 [(120:UInt8)]).flatten=v1W:=rfl;rw[hxs]at hr;refine en func10 ntmps10 fun R w0=> ?_;refine ce 7 (k2K W 98 256 (by omega) (by omega)) ?_;rintro⟨a,bw⟩ _;refine ns ?_;refine cg 23 (k1 a) ?_;refine go 8 ?_;refine mx (.r 0 4 (.hard 4 (.hard 5 (.soft 6 .done)))) [n1T bw a.core 256] ?_;refine cg 5 (hr) ?_;refine cg 3 (k2 a) ?_;refine cg 11 (k3 a) ?_;refine go 8 ?_;refine mx (.r 0 23 (.hard 23 (.r 24 7 (.hard 31 (.hard 32 (.r 33 3 .done)))))) [n1T bw a.core 256] ?_;refine cg 25 (k4 a) ?_;refine cg 11 (hr) ?_;refine cg 4 (k5 a) ?_;refine go 7 ?_;exact rG
end
end Go.Proofs.Q
namespace Go.Proofs.Q
open Go Go.Sl Tryz
theorem F.fs50_4:Sl.n0D prog 50 4 4 0 false=true:=by kernel_rfl
instance:Hb prog 51:=⟨kr⟩
instance:Hb prog 52:=⟨kr⟩
instance:Hb prog 70:=⟨kr⟩
instance:Hb prog 71:=⟨kr⟩
instance:Hb prog 72:=⟨kr⟩
instance:Hb prog 122:=⟨kr⟩
instance:Hb prog 123:=⟨kr⟩
instance:Hb prog 124:=⟨kr⟩
instance:Hb prog 120:=⟨kr⟩
instance:Hb prog 121:=⟨kr⟩
instance:Sc prog 129:=⟨kr⟩
instance:Hb prog 168:=⟨kr⟩
end Go.Proofs.Q
namespace Go.Proofs.Q
open Go.Sl Go.Sb Tryz
theorem p2R (xs:List (Nat×Int)) {i:Nat} (hi:i<xs.length):((xs.flatMap w0A).drop (i*2)).take 2=w0A xs[i]:=by
 induction xs generalizing i with
 |nil=>simp at hi
 |cons x xs ih=>
  cases i with
  |zero=>rfl
  |succ i=>
   rw[show(i+1)*2=2+i*2 by omega,List.flatMap_cons,show 2+i*2=(w0A x).length+i*2 from rfl,List.drop_length_add_append];exact ih (i:=i) (by simpa using hi)
theorem b2H (from_ upto:Nat): ∀(ys c:List (Nat×Int)) (x:Nat×Int),x∈(f0Y (d0G from_ upto) ys c).2→x∈c∨x∈ys
 | [],c,x,h=> .inl h
 |y::ys,c,x,h=>by
  have hs: ∀z,z∈(d0G from_ upto y c).2→z∈c∨z=y:=fun z hz=>by
   unfold d0G at hz;split at hz
   ·exact .inl hz
   ·split at hz
    ·rcases List.mem_append.1 hz with h|h
     ·exact .inl h
     ·exact .inr (List.mem_singleton.1 h)
    ·exact .inl hz
  rw[e1U]at h;split at h
  ·rcases b2H from_ upto ys _ x h with h|h
   ·rcases hs x h with h|h
    ·exact .inl h
    ·exact .inr (h▸List.mem_cons_self)
   ·exact .inr (List.mem_cons_of_mem _ h)
  ·rcases hs x h with h|h
   ·exact .inl h
   ·exact .inr (h▸List.mem_cons_self)
theorem p2S (from_ upto:Nat): ∀(ys c:List (Nat×Int)),(f0Y (d0G from_ upto) ys c).2.length≤c.length+ys.length:=fun ys c=>n1U (mu:=List.length) (k2O from_ upto) ys c
theorem p2T {α β:Type} (f:β→α→M β) (b:β) (s:St):r0R f b [] s=(.ok b,s):=rfl
theorem k2V {α β:Type} (f:β→α→M β) (b:β) (x:α) (l:List α) (s:St):r0R f b (x::l) s=a0B (f b x) (fun b'=>r0R f b' l) s:=rfl
set_option maxRecDepth 4000 in
theorem f2N (W:World) (hW:h0W W) (a:Ad) (s:St) (root:Int) (from_ upto:Nat) (ys:List (Nat×Int)) (hv:lvs 2 0 root s=some ys) (hyl:ys.length≤512) (hat: ∀x∈ys,x.1<1000000) (hbits:s.bits≤256) (hnb:(k0A root from_ upto s).1≠ .big):
 a0F prog 121 #[ptr a.maps,.int .i64 root,.int .i64 from_,.int .i64 upto] (RS W a s) (Ran fT (RS W a) a0J (k0A root from_ upto s)):=by
 obtain⟨out,hout⟩: ∃out,out=(f0Y (d0G from_ upto) ys []).2:=⟨_,rfl⟩;have hol:out.length≤512:=by rw[hout];have:=p2S from_ upto ys [];simp only[List.length_nil]at this;omega
 have hin: ∀x∈out,x.1<1000000:=by rw[hout];exact fun x hx=>hat x (b2H from_ upto ys [] x hx |>.resolve_left (by simp))
 have e0:k0A root from_ upto s=r0R (fun r x=>l0P r x.1 0) root out s:=by
  unfold k0A;rw[a0A (show l0K root from_ upto s=(.ok out,s) by unfold l0K;rw[hv,hout])]
 have hls:=y1F W a s root from_ upto ys hv hyl;rw[←hout]at hls;refine en func121 ntmps121 fun R w0=> ?_;refine ce 12 (hls) ?_;rintro v _;refine ns ?_;refine a0D (h0Y Tsl.o rfl gFd) ?_;refine go 4 ?_;refine a0V (X:= {y:Nat×St×Int // y.1≤out.length∧y.2.1.bits=s.bits∧k0A root from_ upto s=r0R (fun r x=>l0P r x.1 0) y.2.2 (out.drop y.1) y.2.1}) (fun y=> [(0,ptr a.maps),(1,.int .i64 y.1.2.2),(15,v),(16,.int .i64 out.length),(17,.int .i64 y.1.1)]) (fun y=>RS W a y.1.2.1++ [b0H 244 2 v out.length (out.flatMap w0A),R]) (fun y=>out.length-y.1.1) ⟨(0,s,root),Nat.zero_le _,rfl,e0⟩ gSu gSp ?_;rintro⟨⟨i,u,r⟩,hi,hub,he⟩ m0 hm0
 try simp only at hm0
 try dsimp only
 simp only at hi hub he;refine ns ?_;refine go 6 ?_;refine a0P rfl (fun hb18=> ?_) (fun hb18=> ?_)
 ·have hil:i<out.length:=by have:=of_decide_eq_true hb18;omega
  refine i0Y (e:=244) gFd (by omega) fun bw capw hvw hcapw=> ?_;subst hvw;rw[List.drop_eq_getElem_cons hil,k2V]at he;refine go 7 ?_;refine a0D (c1Z Ag.o rfl gFd (vs:=w0A out[i]) (by rw[Nat.zero_add];exact p2R out hil) rfl (by decide)) ?_;refine al fun b10=> ?_;refine go 8 ?_;refine a0X rfl Hb.o rfl (e1N W hW a u r out[i].1 0 (by omega) (hin _ (List.getElem_mem hil)) (by rw[he]at hnb;exact c0I hnb)) gSp (fun r' t ho=> ?_) (fun e t ho=>by refine pn ?_;exact kx ((by rw[he];exact a0I ho)));refine ns ?_;have hpb:=n1L r out[i].1 0 u;rw[ho]at hpb;rw[a0A ho]at he;refine go 7 ?_;exact rd idh (⟨(i+1,t,r'),hil,hpb.trans hub,he⟩)
 ·obtain rfl:i=out.length:=by have:=of_decide_eq_false hb18;omega
  rw[List.drop_length,p2T]at he;refine go 8 ?_;exact rR idh he
theorem v1Z {g:Nat→Int→Option (List (Nat×Int))} {from_ m:Nat} : ∀(kids:List Int) (i:Nat) (ys:List (Nat×Int)),(∀j k a,g j k=some a→a.length≤m∧ ∀x∈a,x.1<from_+(j+1)*m)→lvK g i kids=some ys→ys.length≤kids.length*m∧ ∀x∈ys,x.1<from_+(i+kids.length)*m
 | [],i,ys,hg,h=>by
  unfold lvK at h;obtain rfl:=Option.some.inj h;exact⟨by simp,fun x hx=>by cases hx⟩
 |k::kids,i,ys,hg,h=>by
  unfold lvK at h;obtain⟨a,h1,h2⟩:=Option.bind_eq_some_iff.1 h;obtain⟨b,h3,h4⟩:=Option.map_eq_some_iff.1 h2;obtain⟨h5,h6⟩:=hg i k a h1;obtain⟨h7,h8⟩:=v1Z kids (i+1) b hg h3;subst h4;refine⟨?_,fun x hx=> ?_⟩
  ·rw[List.length_append,List.length_cons,Nat.succ_mul];omega
  ·rw[List.length_cons];rcases List.mem_append.1 hx with hx|hx
   ·have h9:=h6 x hx;have:(i+1)*m≤(i+(kids.length+1))*m:=Nat.mul_le_mul_right _ (by omega);omega
   ·have h9:=h8 x hx;rw[show i+(kids.length+1)=i+1+kids.length by omega];exact h9
theorem x2B: ∀(l from_:Nat) (at_:Int) (s:St) (ys:List (Nat×Int)),lvs l from_ at_ s=some ys→ys.length≤8^(l+1)∧ ∀x∈ys,x.1<from_+8^(l+1):=by
 intro l
 induction l with
 |zero=>
  intro from_ at_ s ys h;unfold lvs at h;cases ho:Go.Sb.load at_ 0 s with
  |mk o t=>
   rw[ho]at h;cases o with
   |ok n=>
    have h8:n.kids.length=8:=(h0U ho).2.n;obtain⟨a1,a2⟩:=v1Z (m:=1) (from_:=from_) n.kids 0 ys (fun j k a ha=>by
     have ha:=Option.some.inj ha;subst ha;split
     ·exact⟨by simp,fun x hx=>by cases hx⟩
     ·exact⟨by simp,fun x hx=>by rw[List.mem_singleton.1 hx];show from_+j<_;omega⟩) h
    rw[h8]at a1 a2;exact⟨a1,fun x hx=>by have:=a2 x hx;omega⟩
   |err e=>cases h
   |big=>cases h
 |succ l ih=>
  intro from_ at_ s ys h;unfold lvs at h;cases ho:Go.Sb.load at_ (l+1) s with
  |mk o t=>
   rw[ho]at h;cases o with
   |ok n=>
    have h8:n.kids.length=8:=(h0U ho).2.n;obtain⟨a1,a2⟩:=v1Z (m:=8^(l+1)) (from_:=from_) n.kids 0 ys (fun j k a ha=>by
     split at ha
     ·have ha:=Option.some.inj ha;subst ha;exact⟨by simp,fun x hx=>by cases hx⟩
     ·obtain⟨b1,b2⟩:=ih _ _ _ _ ha;refine⟨b1,fun x hx=> ?_⟩;have:=b2 x hx;rw[Nat.succ_mul];omega) h
    rw[h8]at a1 a2;have e:8^(l+1+1)=8*8^(l+1):=by rw[Nat.pow_succ,Nat.mul_comm]
    rw[e];exact⟨a1,fun x hx=>by have:=a2 x hx;rw[Nat.zero_add]at this;exact this⟩
   |err e=>cases h
   |big=>cases h
theorem y1N {root:Int} {from_ upto:Nat} {s:St} (h:(l0K root from_ upto s).1≠ .big): ∃ys,lvs 2 0 root s=some ys:=by
 unfold l0K at h;cases ho:lvs 2 0 root s with
 |some ys=>exact⟨ys,rfl⟩
 |none=>rw[ho]at h;exact absurd rfl h
theorem y1O (W:World) (hW:h0W W) (a:Ad) (s:St) (root:Int) (from_ upto:Nat) (hbits:s.bits≤256) (hnb:(k0A root from_ upto s).1≠ .big):
 a0F prog 121 #[ptr a.maps,.int .i64 root,.int .i64 from_,.int .i64 upto] (RS W a s) (Ran fT (RS W a) a0J (k0A root from_ upto s)):=by
 obtain⟨ys,hv⟩:=y1N (show(l0K root from_ upto s).1≠ .big from c0I hnb);obtain⟨h1,h2⟩:=x2B 2 0 root s ys hv;exact f2N W hW a s root from_ upto ys hv h1 (fun x hx=>by have:=h2 x hx;have:(8:Nat)^(2+1)=512:=rfl;omega) hbits hnb
abbrev f2O (b b1:Nat):a0C:=pts b (.cells #[ptr b1] 129 (0,0))
abbrev w1A (a:Ad) (b2 b3 b:Nat) (y:Ent):a0C:=b0D [g0B b2 a,f2O b3 b,r0Y b y]
theorem z0J (W:World) (hW:h0W W) (a:Ad) (s:St) (b2 b3 b:Nat) (x:Ent) (fr upto:Nat) (h1:fr≤upto) (h2:upto≤5000) (hbits:s.bits≤256) (hnb:(e0N x fr (a0K ((upto-fr)*64)) s).1≠ .big):
 a0F prog 120 #[.int .i64 fr,.int .i64 upto,ptr b2,ptr b3] (RS W a s++ [g0B b2 a,f2O b3 b,r0Y b x]) (Ran fT (RSo W a (w1A a b2 b3 b)) k0I (t0H (e0N x fr (a0K ((upto-fr)*64)) s))):=by
 have hr:=z0X ((upto-fr)*64) (by omega);have hzl:(a0K ((upto-fr)*64)).length=(upto-fr)*64:=by simp[a0K]
 rw[show((((upto-fr)*64:Nat):Int))=(((upto:Nat):Int)- ((fr:Nat):Int))*64 by omega]at hr;refine ns ?_;refine en func120 ntmps120 fun R w0=> ?_;refine u0P 8 (by rfl) (.soft 0 (.soft 1 (.soft 2 (.soft 3 (.soft 4 (.soft 5 (.soft 6 (.hard 7 .done)))))))) [g0B b2 a,f2O b3 b] Fol.o (by kernel_rfl) (by repeat (first|with_reducible exact b0S.bp|with_reducible apply b0S.then|with_reducible apply b0S.inBlock)) gSp ?_;simp only[List.take_succ_cons,List.take_zero];refine go 7 ?_;refine c0F rfl (fun hok EE FF=> ?_);refine ns ?_;refine cg 0 (hr) ?_;refine go 1 ?_;refine fn (E:=EE) (F:=FF) (hok.put rfl) ?_;refine go 1 ?_;refine z0L ?_;refine a0X rfl Hb.o rfl (l1J W hW a s b x fr (a0K ((upto-fr)*64)) (by rw[hzl];omega) hbits hnb) gSp (fun v ⟨t',ox⟩ ho=> ?_) (fun e t ho=>by refine pn ?_;(obtain⟨t1,t2⟩:=t;obtain⟨hx,hm⟩:=q0O ho;obtain rfl:t2=none:=congrArg Prod.snd hx;have hm:_=(Out.err e,t1):=hm;simp only[RSo,List.cons_append,List.nil_append];exact b0W (by rw[hm];rfl) idh gSp));refine ns ?_;refine go 1 ?_;obtain⟨y,hx,hm⟩:=s0L ho;obtain rfl:ox=some y:=congrArg Prod.snd hx;have hm:_=(Out.ok y,t'):=hm;simp only[RSo,List.cons_append,List.nil_append];refine b0G (L':=w1A a b2 b3 b y::(RS W a t'++ [R])) (fun w h=>b0J.2 ?_) ?_
 ·refine ns ?_;exact h.sub gSp
 ·refine ns ?_;exact fR (s:=(t',some y)) (by rw[hm];rfl)
section
theorem k2W (root:Int) (f u:Nat):PB (l0K root f u):=fun s=>by unfold l0K;split<;>rfl
theorem b2I {α β:Type} {f:β→α→M β} (hf: ∀b x,PB (f b x)): ∀(l:List α) (b:β),PB (r0R f b l)
 | [],b=>d0C _
 |x::l,b=>b0P (hf b x) fun b'=>b2I hf l b'
theorem p2U (root:Int) (f u:Nat):PB (k0A root f u):=b0P (k2W _ _ _) fun l=>b2I (fun r x=>n1L r x.1 0) l root
set_option maxRecDepth 8000
theorem g1Z (W:World) (hW:h0W W) (a:Ad) (s:St) (b:Nat) (x:Ent) (fr upto:Nat) (h1:fr≤upto) (hbits:s.bits≤256) (hnb:(h0K x fr upto s).1≠ .big):
 a0F prog 71 #[ptr a.core,ptr b,.int .i64 fr,.int .i64 upto] (RS W a s++ [r0Y b x]) (Ran fT (RSo W a (r0Y b)) k0I (t0H (h0K x fr upto s))):=by
 have h2:upto≤5000:=by
  rcases Nat.lt_or_ge 5000 upto with h|h
  ·unfold h0K at hnb;rw[if_pos h]at hnb;exact absurd rfl hnb
  ·exact h
 have e0:h0K x fr upto s=(if upto/4≤(fr+3)/4 then e0N x fr (a0K ((upto-fr)*64))else
  a0B (e0N x fr (a0K (((fr+3)/4*4-fr)*64))) fun y=>a0B (k0A y.root ((fr+3)/4) (upto/4)) fun r=>e0N {y with root:=r} (upto/4*4) (a0K ((upto-upto/4*4)*64))) s:=by unfold h0K;rw[if_neg (by omega)]
 obtain⟨p,hp⟩: ∃p,p=(fr+3)/4:=⟨_,rfl⟩;obtain⟨q,hq⟩: ∃q,q=upto/4:=⟨_,rfl⟩;rw[←hp,←hq]at e0;refine ns ?_;refine en func71 ntmps71 fun R w0=> ?_;refine go 2 ?_;refine bx fun b4=> ?_;refine bx fun b5=> ?_;refine go 14 ?_;rw[show(((fr:Nat):Int)+4-1)/4=(p:Int) by omega];refine go 2 ?_;rw[show((upto:Nat):Int)/4=(q:Int) by omega];refine go 12 ?_;refine a0P rfl (fun hb20=> ?_) (fun hb20=> ?_)
 ·have hpq:q≤p:=by have h:=hb20;simp only[decide_eq_true_eq]at h;omega
  rw[if_pos hpq]at e0;refine go 5 ?_;refine a0X rfl Hb.o rfl (z0J W hW a s b4 b5 b x fr upto h1 h2 hbits (by rw[←e0];exact hnb)) gSp (fun v ⟨t',ox⟩ ho=> ?_) (fun e t ho=>by refine pn ?_;(obtain⟨t1,t2⟩:=t;obtain⟨hx,hm⟩:=q0O ho;obtain rfl:t2=none:=congrArg Prod.snd hx;have hm:_=(Out.err e,t1):=hm;simp only[RSo,List.cons_append,List.nil_append];exact b0W (by rw[e0,hm];rfl) idh gSp));refine ns ?_;refine go 1 ?_;obtain⟨y,hx,hm⟩:=s0L ho;obtain rfl:ox=some y:=congrArg Prod.snd hx;have hm:_=(Out.ok y,t'):=hm;simp only[RSo,List.cons_append,List.nil_append];refine go 1 ?_;refine k0Q (show Fnd _ (w1A a b4 b5 b y) _ from gFd) ?_;refine ns ?_;exact rR idh (s:=(t',some y)) (by rw[e0,hm];rfl)
 ·have hpq: ¬q≤p:=by have h:=hb20;simp only[decide_eq_false_iff_not]at h;omega
  rw[if_neg hpq]at e0;have hnb1:=hnb;rw[e0]at hnb1;refine go 8 ?_;rw[show((p:Nat):Int)*4=((p*4:Nat):Int) by omega];refine a0X rfl Hb.o rfl (z0J W hW a s b4 b5 b x fr (p*4) (by omega) (by omega) hbits (c0I hnb1)) gSp (fun v ⟨t',ox⟩ ho=> ?_) (fun e t ho=>by refine pn ?_;(obtain⟨t1,t2⟩:=t;obtain⟨hx,hm⟩:=q0O ho;obtain rfl:t2=none:=congrArg Prod.snd hx;have hm:_=(Out.err e,t1):=hm;simp only[RSo,List.cons_append,List.nil_append];exact b0W (by rw[e0,a0I hm];rfl) idh gSp));refine ns ?_;refine go 1 ?_;obtain⟨y,hx,hm⟩:=s0L ho;obtain rfl:ox=some y:=congrArg Prod.snd hx;have hm:_=(Out.ok y,t'):=hm;have hpb:=v1N (a0K ((p*4-fr)*64)).length x fr (a0K ((p*4-fr)*64)) s;rw[show j0L (a0K ((p*4-fr)*64)).length x fr (a0K ((p*4-fr)*64)) s=(Out.ok y,t')from hm]at hpb;have hpb:t'.bits=s.bits:=hpb;rw[a0A hm]at e0;have hnb2:=o0S hnb1 hm;simp only[RSo,List.cons_append,List.nil_append];refine go 2 ?_;refine k0Q (show Fnd _ (w1A a b4 b5 b y) _ from gFd) ?_;refine ns ?_;refine f1J (.soft 0 (.soft 1 (.soft 2 (.soft 3 (.soft 4 (.soft 5 (.soft 6 (.soft 7 (.soft 9 (.soft 10 (.hard 8 (.hard 11 (.soft 12 (.soft 13 (.hard 14 .done))))))))))))))) [HLX a,mpC a,g0B b4 a,f2O b5 b] Fol.o (by kernel_rfl) (by repeat (first|with_reducible exact b0S.bp|with_reducible apply b0S.then|with_reducible apply b0S.inBlock)) (h0M gSp) ?_;refine go 4 ?_;refine c0V rfl (a1C Sc.o rfl gFd (fun _ _=>rfl)) ?_;refine go 6 ?_;refine a0D (b0M Sc.o rfl rfl) ?_;refine go 1 ?_;refine i0R (h0M gSp) ?_;refine go 1 ?_;refine a0X rfl Hb.o rfl (y1O W hW a t' y.root p q (by omega) (c0I hnb2)) gSp (fun r t2 ho=> ?_) (fun e t ho=>by refine pn ?_;(exact b0W (show t0H (h0K x fr upto s)=(.err e,(t,none)) by rw[e0,a0I ho];rfl) idh gSp));refine ns ?_;refine go 1 ?_;refine i0R (h0M gSp) ?_;have hpb2:=p2U y.root p q t';rw[ho]at hpb2;have hpb2:t2.bits=t'.bits:=hpb2;have e1:=e0.trans (a0A ho);have hnb3:=o0S hnb2 ho;clear ho;refine go 3 ?_;refine d0P (cs':=h0L {y with root:=r}) Sz.o rfl rfl rfl (by rfl) rfl ?_;refine go 1 ?_;refine i0R (h0M gSp) ?_;refine go 6 ?_;rw[show((q:Nat):Int)*4=((q*4:Nat):Int) by omega];refine go 1 ?_;refine a0X rfl Hb.o rfl (z0J W hW a t2 b4 b5 b {y with root:=r} (q*4) upto (by omega) h2 (by omega) hnb3) gSp (fun v2 ⟨t4,oz⟩ ho=> ?_) (fun e t ho=>by refine pn ?_;(obtain⟨t5,t6⟩:=t;obtain⟨hx,hm⟩:=q0O ho;obtain rfl:t6=none:=congrArg Prod.snd hx;have hm:_=(Out.err e,t5):=hm;simp only[RSo,List.cons_append,List.nil_append];exact b0W (by rw[e1,hm];rfl) idh gSp));refine ns ?_;refine go 1 ?_;obtain⟨z,hx2,hm2⟩:=s0L ho;obtain rfl:oz=some z:=congrArg Prod.snd hx2;have hm2:_=(Out.ok z,t4):=hm2;simp only[RSo,List.cons_append,List.nil_append];refine b0G (L':=r0Y b z::(RS W a t4++ [R])) (fun w h=> ?_) ?_
  ·have h1:=h.sub (show a0Z _ (w1A a b4 b5 b z::(RS W a t4++ [R])) _ from by simp only[List.cons_append,List.nil_append];exact gSp);have h2:=b0J.1 h1;simp only[List.cons_append,List.nil_append]at h2 ⊢;exact h2.sub gSp
  ·refine ns ?_;exact fR (s:=(t4,some z)) (by rw[e1,hm2];rfl)
end
theorem f2P (W:World) (a:Ad) (s:St) (root:Int) (hbits:s.bits≤256) (hnb:(u0E root 2 s).1≠ .big):a0F prog 124 #[ptr a.maps,.int .i64 root] (RS W a s) (Ran fT (RS W a) k0I (u0E root 2 s)):=by
 refine en func124 ntmps124 fun R w0=> ?_;refine go 3 ?_;refine a0X rfl Hb.o rfl (e1L W a 2 (by omega) s root hbits hnb) gSp (fun u t ho=> ?_) (fun e t ho=>by refine pn ?_;exact kx (ho));refine ns ?_;refine go 1 ?_;exact fR ho
theorem w1B {s:St} {k:Int} (h:(n0R k s).1≠ .big):s.log.length<1000000000:=t0E h fun h'=>by simp[n0R,a0B,back,h']
theorem y1P {s:St} (k:Int) (h:s.log.length<1000000000):n0R k s=(.ok (),{s with log:=bk s.depth s.log (.vols k (a0E k s.vols)),vols:=b0C k s.vols}):=by
 simp[n0R,a0B,back,show ¬1000000000≤s.log.length by omega]
abbrev idA0 (a:Ad) (b0 b1:Nat) (id:Int):a0C:=b0D [g0B b0 a,j0O b1 id]
theorem w1C (W:World) (a:Ad) (b0 b1:Nat) (id:Int) (bits:Nat) (hbits:bits≤256):
 r0G W a (idA0 a b0 b1 id) (fun _:Unit=>b0D []) 122 [ptr b0,ptr b1] bits (p0O id):=by
 intro s hsb hnb;have e0:p0O id s=a0B (find id) (fun x=>a0B (n0R id) fun _=>u0E x.root 2) s:=rfl;refine ns ?_;refine en func122 ntmps122 fun R w0=> ?_;refine k0Q (show Fnd _ (b0D [g0B b0 a,j0O b1 id]) _ from gFd) ?_;refine ns ?_;refine go 4 ?_;refine a0X rfl Hb.o rfl (u0X W a s id) gSp (fun x t ho=> ?_) (fun e t ho=>by refine pn ?_;(refine b0G (fun w h=>b0Y h) ?_;exact b0W (c0L (e0.trans (a0I ho))) idh gSp));refine ns ?_;have hts:t=s:=by have h:=ho;unfold find at h;split at h<;>cases h;rfl
 rw[hts]at ho ⊢;have e1:=e0.trans (a0A ho);clear ho hts;have hn:=w1B (show(n0R id s).1≠ .big by rw[e1]at hnb;exact c0I hnb);rw[a0A (y1P id hn)]at e1;refine al fun b2=> ?_;refine go 4 ?_;refine e0J gFd fun by_ gv gc o hg hok=> ?_;simp only[d0M,o0J,c0Y,List.cons_append,List.nil_append];refine tl 12 ?_;refine ce 13 (t1K a by_ o s.log s.depth s.vols id hn) ?_;rintro e _;refine ns ?_;refine go 1 ?_;refine b0G (d0A (s:= {s with log:=bk s.depth s.log (.vols id (a0E id s.vols)),vols:=b0C id s.vols}) hg hok gSp) ?_;refine go 1 ?_;refine tl 6 ?_;refine go 3 ?_;refine b0X (j0K Sc.o rfl gFd rfl) ?_;refine go 3 ?_;refine a0X rfl Hb.o rfl (f2P W a {s with log:=bk s.depth s.log (.vols id (a0E id s.vols)),vols:=b0C id s.vols} x.root (by show s.bits≤256;omega) (by rw[e1]at hnb;exact hnb)) gSp (fun v t2 ho=> ?_) (fun e t ho=>by refine pn ?_;(refine b0G (fun w h=>b0Y h) ?_;exact b0W (c0L (e1.trans ho)) idh gSp));refine ns ?_;refine go 1 ?_;refine b0G (fun w h=>b0Y h) ?_;exact fR (s:=(t2,.done ())) (m0I (e1.trans ho))
theorem w1D (W:World) (a:Ad) (s:St) (id:Int) (hbits:s.bits≤256) (hvl:s.vols.length≤1000) (hnb:(r0U id s).1≠ .big):
 a0F prog 74 #[ptr a.core,.int .u32 id] (RS W a s) (Ran fT (RS W a) a0J (r0U id s)):=by
 have e0:r0U id s=a0B (h0V (e0O 0 (p0O id))) (fun r=>ret r.1) s:=rfl;refine en func74 ntmps74 fun R w0=> ?_;refine go 2 ?_;refine bx fun b2=> ?_;refine bx fun b3=> ?_;refine go 7 ?_;refine e0K (k0Z (N:= [g0B b2 a,j0O b3 id]) gSp) ?_;refine a0X rfl Hb.o rfl (v0A W a (idA0 a b2 b3 id) (fun _:Unit=>b0D []) 0 122 [ptr b2,ptr b3] (p0O id) s Hb.o (by omega) hvl (w1C W a b2 b3 id s.bits hbits) (by rw[e0]at hnb;exact c0I hnb)) gSp (fun e ⟨t,oc⟩ ho=> ?_) (fun e t ho=>by refine pn ?_;(exact(m0F ho).elim));refine ns ?_;refine go 3 ?_;exact rR idh (e0.trans (a0A (s0M ho)))
abbrev w1E (a:Ad) (b0 b1 b2:Nat) (id size:Int):a0C:=b0D [g0B b0 a,j0O b1 id,f0L b2 size]
theorem w1F (W:World) (hW:h0W W) (a:Ad) (b0 b1 b2:Nat) (id size:Int) (bits:Nat) (hbits:bits≤256):
 r0G W a (w1E a b0 b1 b2 id size) (fun _:Unit=>b0D []) 72 [ptr b0,ptr b1,ptr b2] bits (l0L id size):=by
 intro s hsb hnb;have e0:l0L id size s=a0B (l0H id) (fun x=>if size<1∨2048<size then n0Q 4 else a0B (if size<x.size then h0K x size.toNat x.size.toNat else ret x) fun y=>l0Q {y with size:=size}) s:=rfl;refine ns ?_;refine en func72 ntmps72 fun R w0=> ?_;refine k0Q (show Fnd _ (b0D [g0B b0 a,j0O b1 id,f0L b2 size]) _ from gFd) ?_;refine ns ?_;refine go 4 ?_;refine a0X rfl Hb.o rfl (c1F W a s id) gSp (fun x t ho=> ?_) (fun e t ho=>by refine pn ?_;(refine b0G (fun w h=>b0Y h) ?_;exact b0W (c0L (e0.trans (a0I ho))) idh gSp));refine ns ?_;have hpb:=i1Z id s;rw[ho]at hpb;have hpb:t.bits=s.bits:=hpb;have e1:=e0.trans (a0A ho);clear ho;refine al fun b3=> ?_;refine go 5 ?_;by_cases hs1:size<1
 ·refine go 10 ?_;refine b0V (fun w h=>b0Y h) ?_;refine go 1 ?_;refine c0G rfl Hb.o rfl (c0S 4) gSp ?_;refine ns ?_;refine pn ?_;exact b0W (c0L (e1.trans (by rw[if_pos (.inl hs1)];rfl))) idh gSp
 ·refine go 9 ?_;refine a0P rfl (fun hb12=> ?_) (fun hb12=> ?_)
  ·have hs2:2048<size:=by have h:=hb12;simp only[decide_eq_true_eq]at h;exact h
   refine b0V (fun w h=>b0Y h) ?_;refine go 1 ?_;refine c0G rfl Hb.o rfl (c0S 4) gSp ?_;refine ns ?_;refine pn ?_;exact b0W (c0L (e1.trans (by rw[if_pos (.inr hs2)];rfl))) idh gSp
  ·have hs2: ¬2048<size:=by have h:=hb12;simp only[decide_eq_false_iff_not]at h;exact h
   rw[if_neg (by omega)]at e1;refine go 11 ?_;refine a0P rfl (fun hb17=> ?_) (fun hb17=> ?_)
   ·have hlt:size<x.size:=of_decide_eq_true hb17;rw[if_pos hlt]at e1;obtain⟨k,rfl⟩: ∃k:Nat,size=k:=⟨size.toNat,by omega⟩;obtain⟨m,hm⟩: ∃m:Nat,x.size=m:=⟨x.size.toNat,by omega⟩;rw[hm,Int.toNat_natCast,Int.toNat_natCast]at e1;refine go 5 ?_;rw[hm];refine a0X rfl Hb.o rfl (g1Z W hW a t b3 x k m (by omega) (by omega) (by rw[e1]at hnb;exact c0I hnb)) gSp (fun v ⟨t3,ox⟩ ho=> ?_) (fun e t ho=>by refine pn ?_;(obtain⟨t1,t2⟩:=t;obtain⟨hx,hm⟩:=q0O ho;obtain rfl:t2=none:=congrArg Prod.snd hx;have hm:_=(Out.err e,t1):=hm;simp only[RSo,List.cons_append,List.nil_append];have e4:l0L id (k:Int) s=(.err e,t1):=e1.trans (a0I hm);refine b0G (fun w h=>b0Y h) ?_;exact b0W (c0L e4) idh gSp));refine ns ?_;refine go 1 ?_;obtain⟨y,hx,hm4⟩:=s0L ho;obtain rfl:ox=some y:=congrArg Prod.snd hx;have hm4:_=(Out.ok y,t3):=hm4;simp only[RSo,List.cons_append,List.nil_append];have e3:l0L id (k:Int) s=l0Q {y with size:=(k:Int)} t3:=e1.trans (a0A hm4);refine go 5 ?_;refine d0P (cs':=h0L {y with size:=(k:Int)}) Sz.o rfl rfl rfl (by rfl) rfl ?_;refine go 5 ?_;refine a0X rfl Hb.o rfl (u0Y W a t3 {y with size:=(k:Int)} (by rw[e3]at hnb;exact hnb)) gSp (fun v2 t4 ho=> ?_) (fun e t ho=>by refine pn ?_;(refine b0G (fun w h=>b0Y h) ?_;exact b0W (c0L (e3.trans ho)) idh gSp));refine ns ?_;refine go 1 ?_;refine b0G (fun w h=>b0Y h) ?_;exact fR (s:=(t4,.done ())) (m0I (e3.trans ho))
   ·have hlt: ¬size<x.size:=of_decide_eq_false hb17;rw[if_neg hlt,a0A (show ret x t=(.ok x,t)from rfl)]at e1;have e3:l0L id size s=l0Q {x with size:=size} t:=e1;refine go 6 ?_;refine d0P (cs':=h0L {x with size:=size}) Sz.o rfl rfl rfl (by rfl) rfl ?_;refine go 5 ?_;refine a0X rfl Hb.o rfl (u0Y W a t {x with size:=size} (by rw[e3]at hnb;exact hnb)) gSp (fun v2 t4 ho=> ?_) (fun e t ho=>by refine pn ?_;(refine b0G (fun w h=>b0Y h) ?_;exact b0W (c0L (e3.trans ho)) idh gSp));refine ns ?_;refine go 1 ?_;refine b0G (fun w h=>b0Y h) ?_;exact fR (s:=(t4,.done ())) (m0I (e3.trans ho))
end Go.Proofs.Q

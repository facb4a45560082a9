/- Part of the proof; no statement of its own. -/
import Derived.Test.YtpinhnikemamjaaGreatDoorD24
import Derived.Test.YtpinhnikemamjaaGreatDoorD33
import Derived.Test.YtpinhnikemamjaaGreatDoorD19
import Derived.Test.YtpinhnikemamjaaGreatDoorD34
import Derived.Test.YtpinhnikemamjaaGreatDoorD18
import Derived.Test.YtpinhnikemamjaaGreatDoorD32
import Derived.Test.YtpinhnikemamjaaGreatDoorD22
import Derived.Test.YtpinhnikemamjaaGreatDoorProg
import Derived.KernelRfl
import Derived.Test.YtpinhnikemamjaaGreatDoorD08
import Derived.Test.YtpinhnikemamjaaGreatDoorD31
import Derived.Test.YtpinhnikemamjaaGreatDoorD28
import Derived.Test.YtpinhnikemamjaaGreatDoorD07
set_option linter.all false
set_option maxRecDepth 4000
set_option maxHeartbeats 4000000
attribute [local irreducible] Go.Sl.a0P Go.Sl.OW Go.Sl.CW Go.Sl.OS Go.Sl.OM Go.Sl.OMf Go.Sl.KM
namespace Go.Proofs.Q
open Go.Sl Go.Sb Tryz
theorem r0E (i:Nat): ∀(k:Nat) (c:Rp) (at_:Nat) (d:B),(d0I i k c at_ d).1.l.length=c.l.length∧(d0I i k c at_ d).1.bits=c.bits∧(d0I i k c at_ d).1.next=c.next∧(d0I i k c at_ d).1.epoch=c.epoch
 |0,c,_,_=>⟨rfl,rfl,rfl,rfl⟩
 |k+1,c,at_,d=>by
  rw[d0I];split
  ·exact⟨rfl,rfl,rfl,rfl⟩
  ·simp only;split
   ·exact⟨rfl,rfl,rfl,rfl⟩
   ·obtain⟨a,b,e,f⟩:=r0E i k (d0K c i (k0L (c.l.getD i v0).m (at_/4:Nat) (c1C (f0Y (at_/4:Nat) (c.l.getD i v0).m) d (at_%4*64) (min d.length (256-at_%4*64))))) (at_+min d.length (256-at_%4*64)/64) (d.drop (min d.length (256-at_%4*64)));exact⟨a.trans (by unfold d0K;simp),b,e,f⟩
theorem r2W {P:Rp} {i f u:Nat} (h:u/4≤(f+3)/4):e0A P i f u=d0I i ((u-f)*64) P f (a0L ((u-f)*64)):=by
 unfold e0A;simp only;rw[if_pos h]
theorem z2B {P:Rp} {i f u a b:Nat} (c:a=(f+3)/4) (hb:b=u/4) (h: ¬b≤a) {r:Rp×Int} (d:r=d0I i ((4*a-f)*64) P f (a0L ((4*a-f)*64))):e0A P i f u=if r.2≠0 then(P,r.2)else
 let x:=d0K r.1 i (h0G (r.1.l.getD i v0).m a b)
 let y:=d0I i ((u-4*b)*64) x (4*b) (a0L ((u-4*b)*64))
 if y.2≠0 then(P,y.2)else(y.1,0):=by
 subst c hb d;unfold e0A;simp only;rw[if_neg h]
theorem j0M (n:Nat):(a0L n).length=n:=by simp[a0L]
theorem y0S (n:Nat) (a:n≤10000):a0G prog 171 #[.int .i64 n] [] (a0T (b0C (a0L (n*64))) []):=by
 rw[Nat.mul_comm];exact z1Y n a
theorem d1T (H:b0B) (c:Rx) (i f u:Nat) (B:c0Z H c) (hi:i<c.l.length) (k:c.bits≤256) (hfu:f≤u) (hu:u≤2048):
 a0G prog 125 #[e0W c,.int .i64 i,.int .i64 f,.int .i64 u] [c0B H]
 (b0P (y0R H (e0A (er c) i f u).1) (p1I (e0A (er c) i f u).2) (fun x=> [c0B x.1])):=by
 obtain⟨a,ha⟩: ∃a,a=(f+3)/4:=⟨_,rfl⟩;obtain⟨b,hb⟩: ∃b,b=u/4:=⟨_,rfl⟩;have w:=c0K B;by_cases L:b≤a
 ·rw[r2W (by omega)];refine en func125 ntmps125 fun R w0=> ?_
  try simp only[e0W]
  refine go 2 ?_;refine bx fun K=> ?_;refine al fun Z=> ?_;refine go 10 ?_;rw[show((f:Int)+3)/4=(a:Int) by omega,show(u:Int)/4=(b:Int) by omega];refine go 12 ?_;refine d0P rfl (by simpa using (by omega:(b:Int)≤(a:Int))) ?_;refine go 1 ?_;refine mx (.r 0 6 (.hard 6 (.hard 7 (.r 8 2 (.hard 10 (.soft 11 .done)))))) [w0F K c] ?_;refine d0A rfl (a0K (v:=(a0J c).toArray) Ag.o rfl (by simp[Value.cells,a0J]) (a0I (by simp[Value.cells,a0J]))) ?_;refine cg 6 ((by have h:=y0S (u-f) (by omega);rw[show((u-f:Nat):Int)=(u:Int)- (f:Int) by omega]at h;exact h)) ?_;refine go 3 ?_;refine d0Z rfl Hb.o rfl (v0L H c i f ((u-f)*64) (a0L ((u-f)*64)) B hi k (by rw[j0M];omega) (by rw[j0M];omega) (by rw[j0M];exact Nat.le_refl _)) gSp ?_;rintro⟨H2,c2⟩ ⟨hs2,hc2,hr2⟩;refine ns ?_;refine go 5 ?_;refine a0M Sz.o rfl rfl rfl (fun u hu=>c0K hc2 u (by simpa using hu)) (by simp[Value.cells,a0J,a0S]) (a0N (by simp[Value.cells,a0J,a0S])) ?_;refine go 5 ?_;exact c0T (x:=((H2,c2):b0B×Rx)) ⟨hs2,hc2,hr2⟩ idh (RV.agg Ag.o rfl (by simp[a0J]) (by rfl) (RV.tmp rfl RV.nil)) rfl gSp
 ·obtain⟨r,O⟩: ∃r,r=d0I i ((4*a-f)*64) (er c) f (a0L ((4*a-f)*64)):=⟨_,rfl⟩;have o0R:=r0E i ((4*a-f)*64) (er c) f (a0L ((4*a-f)*64));rw[←O]at o0R;rw[z2B ha hb L O];refine en func125 ntmps125 fun R w0=> ?_
  try simp only[e0W]
  refine go 2 ?_;refine bx fun K=> ?_;refine al fun Z=> ?_;refine go 10 ?_;rw[show((f:Int)+3)/4=(a:Int) by omega,show(u:Int)/4=(b:Int) by omega];refine go 12 ?_;refine b0S rfl (by simpa using (by omega:(a:Int)<(b:Int))) ?_;refine go 3 ?_;refine fx (.r 0 7 (.float 12 (.hard 7 (.hard 8 (.r 9 3 (.res (.hard 13 (.soft 14 .done)))))))) [w0F K c] ?_;refine h0L rfl (a0K (v:=(a0J c).toArray) Ag.o rfl (by simp[Value.cells,a0J]) (a0I (by simp[Value.cells,a0J]))) ?_;refine go 6 ?_;refine j0Y (e0:= []) rfl gSu (fun _ _ _=>rfl) Zr.o rfl ?_;refine b0Y rfl (fun d EE FF=> ?_);refine ns ?_;refine cg 0 ((by have h:=y0S (4*a-f) (by omega);rw[show((4*a-f:Nat):Int)=4*(a:Int)- (f:Int) by omega]at h;exact h)) ?_;refine go 1 ?_;refine fn (E:=EE) (F:=FF) (d.put rfl) ?_;refine b0Y rfl (fun d EE FF=> ?_);refine ns ?_;refine d0Z rfl Hb.o rfl ((by have h:=v0L H c i f ((4*a-f)*64) (a0L ((4*a-f)*64)) B hi k (by rw[j0M];omega) (by rw[j0M];omega) (by rw[j0M];exact Nat.le_refl _);rw[←O]at h;exact h)) gSp ?_;rintro⟨H2,c2⟩ ⟨hs2,hc2,hr2⟩;refine ns ?_;refine go 1 ?_;refine fn (E:=EE) (F:=FF) (d.put rfl) ?_;refine go 3 ?_;refine l0Y (fun J=> ?_);dsimp only;refine b0Y rfl (fun d EE FF=> ?_);refine ns ?_;refine a0M Sz.o rfl rfl rfl (fun u hu=>c0K hc2 u (by simpa using hu)) (by simp[Value.cells,a0J,a0S]) (a0N (by simp[Value.cells,a0J,a0S])) ?_;refine go 1 ?_;refine fn (E:=EE) (F:=FF) d ?_;refine go 10 ?_;refine a0O rfl (fun g=> ?_) (fun g=> ?_)
  ·rw[if_pos (by simpa using g)];refine go 2 ?_;refine a0D (a0K (v:=(a0J c).toArray) Ag.o rfl (by simp[Value.cells,a0J]) (a0I (by simp[Value.cells,a0J]))) ?_;refine go 1 ?_;refine a0M Sz.o rfl rfl rfl (fun u hu=>w u (by simpa using hu)) (by simp[Value.cells,a0J,a0S]) (a0N (by simp[Value.cells,a0J,a0S])) ?_;refine go 3 ?_;exact c0T (x:=((H2,c):b0B×Rx)) ⟨hs2,B.more hs2,rfl⟩ idh (RV.agg Ag.o rfl (by simp[a0J]) (by rfl) (RV.tmp rfl RV.nil)) rfl gSp
  ·rw[if_neg (by simpa using g)];dsimp only at hs2 hc2 hr2 ⊢;have e:i<c2.l.length:=by have h:=o0R.1;rw[←hr2]at h;simp only[er,List.length_map]at h;omega
   have hb2:c2.bits≤256:=by have h:=o0R.2.1;rw[←hr2]at h;simp only[er]at h;omega
   obtain⟨p,cap,D,T⟩:=d0W hc2.vols;have y:=hc2.vols;rw[D]at y;have U:=hc2.few;obtain⟨bb,o,S,cur,hv,hcp,G,C,V⟩:=g0V y (by omega);cases hv
   have M:(cur.drop (o+i*6)).take 6=a0S c2.l[i]:=(i0I C e).trans (n0G c2.l e);have s:=hc2.maps _ (List.getElem_mem e);have hml:=s.2.len;rw[←hr2,n0Q e];refine go 5 ?_;refine a0D (b0N (v:= .slice (some ⟨bb,o,none⟩) c2.l.length cap) Sc.o rfl (by exact congrArg some D)) ?_;refine go 2 ?_;refine a0D (f0A (vs:=a0S c2.l[i]) Ag.o rfl gFd G M rfl (by decide)) ?_;refine al fun X=> ?_;refine a0M Sz.o rfl rfl rfl (fun u hu=>r0D s u (by simpa using hu)) (by simp[Value.cells,a0J,a0S]) (a0N (by simp[Value.cells,a0J,a0S])) ?_;refine ce 8 (r1X H2 c2.l[i].mv c2.l[i].v.m a b s.1 (by omega)) ?_;rintro t _;refine ns ?_;refine z0F (show Fnd _ (u0C t (h0G c2.l[i].v.m a b)) _ from gFd) fun W=> ?_;refine go 5 ?_;refine t0J (show Fnd _ (u0C t (h0G c2.l[i].v.m a b)) _ from gFd) (show Fnd _ (c0B H2) _ from gFd) fun Q n P=> ?_;obtain⟨I,A⟩: ∃I:Vx,I= {v:= {c2.l[i].v with m:=h0G c2.l[i].v.m a b},mv:=t} :=⟨_,rfl⟩;have N:n0K Q I:=by rw[A];exact⟨P,s.2.clear _ _⟩
   refine go 1 ?_;refine a0D (a0K (v:=(a0J c2).toArray) Ag.o rfl (by simp[Value.cells,a0J]) (a0I (by simp[Value.cells,a0J]))) ?_;refine go 1 ?_;refine a0D (a0K (v:=(a0S I).toArray) Ag.o rfl (by simp[Value.cells,a0S]) (by rw[A];rfl)) ?_;refine ce 0 (d1N Q c2 i I (hc2.more n) N e) ?_;rintro⟨H4,c4⟩ ⟨hs4,hc4,hr4⟩;refine ns ?_;refine a0M Sz.o rfl rfl rfl (fun u hu=>c0K hc4 u (by simpa using hu)) (by simp[Value.cells,a0J,a0S]) (a0N (by simp[Value.cells,a0J,a0S])) ?_;refine go 3 ?_;dsimp only at hs4 hc4 hr4;have z:er c4=d0K (er c2) i (h0G c2.l[i].v.m a b):=d2F (mv:=t) e (by rw[hr4,A]);have hl4:c4.l.length=c2.l.length:=by have h:=congrArg (fun x:Rp=>x.l.length) z;simpa [er,d0K] using h
   have hb4:c4.bits=c2.bits:=congrArg (fun x:Rp=>x.bits) z;rw[←z];refine fx (.r 0 8 (.float 13 (.hard 8 (.hard 9 (.r 10 3 (.res (.hard 14 (.soft 15 .done)))))))) [w0F J c4] ?_;refine h0L rfl (a0K (v:=(a0J c4).toArray) Ag.o rfl (by simp[Value.cells,a0J]) (a0I (by simp[Value.cells,a0J]))) ?_;refine go 7 ?_;refine j0Y (e0:= []) rfl gSu (fun _ _ _=>rfl) Zr.o rfl ?_;refine b0Y rfl (fun d EE FF=> ?_);refine ns ?_;refine cg 0 ((by have h:=y0S (u-4*b) (by omega);rw[show((u-4*b:Nat):Int)=(u:Int)-4*(b:Int) by omega]at h;exact h)) ?_;refine go 1 ?_;refine fn (E:=EE) (F:=FF) (d.put rfl) ?_;refine b0Y rfl (fun d EE FF=> ?_);refine ns ?_;refine d0Z rfl Hb.o rfl ((by have h:=v0L H4 c4 i (4*b) ((u-4*b)*64) (a0L ((u-4*b)*64)) hc4 (by omega) (by omega) (by rw[j0M];omega) (by rw[j0M];omega) (by rw[j0M];exact Nat.le_refl _);rw[show((4*b:Nat):Int)=4*(b:Int) by omega]at h;exact h)) gSp ?_;rintro⟨H6,c6⟩ ⟨hs6,hc6,hr6⟩;refine ns ?_;refine go 1 ?_;refine fn (E:=EE) (F:=FF) (d.put rfl) ?_;refine go 3 ?_;refine l0Y (fun Y=> ?_);dsimp only;refine b0Y rfl (fun d EE FF=> ?_);refine ns ?_;refine a0M Sz.o rfl rfl rfl (fun u hu=>c0K hc6 u (by simpa using hu)) (by simp[Value.cells,a0J,a0S]) (a0N (by simp[Value.cells,a0J,a0S])) ?_;refine go 1 ?_;refine fn (E:=EE) (F:=FF) d ?_;refine go 10 ?_;refine a0O rfl (fun j=> ?_) (fun j=> ?_)
   ·rw[if_pos (by simpa using j)];refine go 2 ?_;refine a0D (a0K (v:=(a0J c).toArray) Ag.o rfl (by simp[Value.cells,a0J]) (a0I (by simp[Value.cells,a0J]))) ?_;refine go 1 ?_;refine a0M Sz.o rfl rfl rfl (fun u hu=>w u (by simpa using hu)) (by simp[Value.cells,a0J,a0S]) (a0N (by simp[Value.cells,a0J,a0S])) ?_;refine go 3 ?_;exact c0T (x:=((H6,c):b0B×Rx)) ⟨fun q h=>hs6 q (hs4 q (n q (hs2 q h))),B.more (fun q h=>hs6 q (hs4 q (n q (hs2 q h)))),rfl⟩ idh (RV.agg Ag.o rfl (by simp[a0J]) (by rfl) (RV.tmp rfl RV.nil)) rfl gSp
   ·rw[if_neg (by simpa using j)];refine go 4 ?_;refine a0D (a0K (v:=(a0J c6).toArray) Ag.o rfl (by simp[Value.cells,a0J]) (a0I (by simp[Value.cells,a0J]))) ?_;refine a0M Sz.o rfl rfl rfl (fun u hu=>c0K hc6 u (by simpa using hu)) (by simp[Value.cells,a0J,a0S]) (a0N (by simp[Value.cells,a0J,a0S])) ?_;refine go 3 ?_;exact c0T (x:=((H6,c6):b0B×Rx)) ⟨fun q h=>hs6 q (hs4 q (n q (hs2 q h))),hc6,hr6⟩ idh (RV.agg Ag.o rfl (by simp[a0J]) (by rfl) (RV.tmp rfl RV.nil)) rfl gSp
theorem h2M {P:Rp} {id at_ n:Int} (h:c0Q P.l id=none):l0S P id at_ n=(P,5):=by unfold l0S;rw[h]
theorem h2N {c:Rx} {i:Nat} {id at_ n:Int} (h:c0Q (er c).l id=some i) (hi:i<c.l.length):l0S (er c) id at_ n=(if c.l[i].v.only then(er c,7)else if m0Q c.l[i].v at_ n then(er c,6)else e0A (er c) i at_.toNat (at_+n).toNat):=by
 unfold l0S;rw[h];simp only[n0Q hi]
theorem h2O (H:b0B) (c:Rx) (id at_ n:Int) (f:c0Z H c) (A:w0X (er c)) (m:c.bits≤256):a0G prog 78 #[e0W c,.int .i64 id,.int .i64 at_,.int .i64 n] [c0B H]
 (b0P (y0R H (l0S (er c) id at_ n).1) (p1I (l0S (er c) id at_ n).2) (fun x=> [c0B x.1])):=by
 have g:=c0K f;obtain⟨p,cap,q,C⟩:=d0W f.vols;have k:=f.vols;rw[q]at k;have D:=f.few;cases t:c0Q (er c).l id with
 |none=>
  rw[h2M t];refine en func78 ntmps78 fun R w0=> ?_
  try simp only[e0W]
  refine go 2 ?_;refine bx fun F=> ?_;refine al fun G=> ?_;refine go 5 ?_;refine a0D (a0K (v:=(a0J c).toArray) Ag.o rfl (by simp[Value.cells,a0J]) (a0I (by simp[Value.cells,a0J]))) ?_;refine cg 1 (r0V f t) ?_;refine go 15 ?_;refine a0D (a0K (v:=(a0J c).toArray) Ag.o rfl (by simp[Value.cells,a0J]) (a0I (by simp[Value.cells,a0J]))) ?_;refine a0M Sz.o rfl rfl rfl (fun u hu=>g u (by simpa using hu)) (by simp[Value.cells,a0J,a0S]) (a0N (by simp[Value.cells,a0J,a0S])) ?_;refine go 3 ?_;exact c0T (x:=((H,c):b0B×Rx)) (g0W f) idh (RV.agg Ag.o rfl (by simp[a0J]) (by rfl) (RV.tmp rfl RV.nil)) rfl gSp
 |some i=>
  have d:i<c.l.length:=by have:=u0X t;simpa [er] using this
  obtain⟨b,o,B,cur,J,I,j,s,E⟩:=g0V k (by omega);cases J
  have r:(cur.drop (o+i*6)).take 6=a0S c.l[i]:=(i0I s d).trans (n0G c.l d);have y:nth cur (o+i*6+2)=some (.bool c.l[i].v.only):=by
   rw[e0F];have h:=congrArg (fun l:List Value=>l[2]?) r;simpa [List.getElem?_take,List.getElem?_drop,a0S] using h
  have K:=f.maps _ (List.getElem_mem d);have z:=A.at_ d;rw[h2N t d];refine en func78 ntmps78 fun R w0=> ?_
  try simp only[e0W]
  refine go 2 ?_;refine bx fun F=> ?_;refine al fun G=> ?_;refine go 5 ?_;refine a0D (a0K (v:=(a0J c).toArray) Ag.o rfl (by simp[Value.cells,a0J]) (a0I (by simp[Value.cells,a0J]))) ?_;refine cg 1 (p0Q f t) ?_;refine go 12 ?_;refine b0S rfl (by simpa using (by omega: ¬((i:Int)<0))) ?_;refine go 3 ?_;refine a0D (b0N (v:= .slice (some ⟨b,o,none⟩) c.l.length cap) Sc.o rfl (by exact congrArg some q)) ?_;refine go 3 ?_;refine a0D (a1L Sc.o rfl gFd j y) ?_;refine go 3 ?_;refine a0O rfl (fun e=> ?_) (fun e=> ?_)
  ·rw[if_pos e];refine go 2 ?_;refine a0D (a0K (v:=(a0J c).toArray) Ag.o rfl (by simp[Value.cells,a0J]) (a0I (by simp[Value.cells,a0J]))) ?_;refine a0M Sz.o rfl rfl rfl (fun u hu=>g u (by simpa using hu)) (by simp[Value.cells,a0J,a0S]) (a0N (by simp[Value.cells,a0J,a0S])) ?_;refine go 3 ?_;exact c0T (x:=((H,c):b0B×Rx)) (g0W f) idh (RV.agg Ag.o rfl (by simp[a0J]) (by rfl) (RV.tmp rfl RV.nil)) rfl gSp
  ·rw[if_neg (by rw[e];decide)];refine go 3 ?_;refine a0D (b0N (v:= .slice (some ⟨b,o,none⟩) c.l.length cap) Sc.o rfl (by exact congrArg some q)) ?_;refine go 2 ?_;refine a0D (f0A (vs:=a0S c.l[i]) Ag.o rfl gFd j r rfl (by decide)) ?_;refine cg 2 (z0N c.l[i] at_ n z) ?_;refine go 3 ?_;refine a0O rfl (fun a=> ?_) (fun a=> ?_)
   ·rw[if_pos a];refine go 2 ?_;refine a0D (a0K (v:=(a0J c).toArray) Ag.o rfl (by simp[Value.cells,a0J]) (a0I (by simp[Value.cells,a0J]))) ?_;refine a0M Sz.o rfl rfl rfl (fun u hu=>g u (by simpa using hu)) (by simp[Value.cells,a0J,a0S]) (a0N (by simp[Value.cells,a0J,a0S])) ?_;refine go 3 ?_;exact c0T (x:=((H,c):b0B×Rx)) (g0W f) idh (RV.agg Ag.o rfl (by simp[a0J]) (by rfl) (RV.tmp rfl RV.nil)) rfl gSp
   ·have w:=k1I a;rw[if_neg (by rw[a];decide)];refine go 4 ?_;refine a0D (a0K (v:=(a0J c).toArray) Ag.o rfl (by simp[Value.cells,a0J]) (a0I (by simp[Value.cells,a0J]))) ?_;refine ce 5 ((by have h:=d1T H c i at_.toNat (at_+n).toNat f d m (by omega) (by omega);rw[Int.toNat_of_nonneg w.1,Int.toNat_of_nonneg (by omega:0≤at_+n)]at h;exact h)) ?_;rintro⟨H2,c2⟩ ⟨hs2,hc2,hr2⟩;refine ns ?_;refine go 2 ?_;refine a0M Sz.o rfl rfl rfl (fun u hu=>c0K hc2 u (by simpa using hu)) (by simp[Value.cells,a0J,a0S]) (a0N (by simp[Value.cells,a0J,a0S])) ?_;refine go 3 ?_;exact c0T (x:=((H2,c2):b0B×Rx)) ⟨hs2,hc2,hr2⟩ idh (RV.agg Ag.o rfl (by simp[a0J]) (by rfl) (RV.tmp rfl RV.nil)) rfl gSp
theorem x1K {P:Rp} {id n:Int} (h:c0Q P.l id=none):g0S P id n=(P,5):=by unfold g0S;rw[h]
theorem x1L {c:Rx} {i:Nat} {id size:Int} (h:c0Q (er c).l id=some i) (hi:i<c.l.length) {r:Rp×Int} (a:r=if size<c.l[i].v.size then e0A (er c) i size.toNat c.l[i].v.size.toNat else(er c,0)):g0S (er c) id size=(if c.l[i].v.only then(er c,7)else if size<1∨2048<size then(er c,4)else
 if r.2≠0 then(er c,r.2)else({r.1 with l:=r.1.l.set i {r.1.l.getD i v0 with size:=size}},0)):=by
 subst a;unfold g0S;rw[h];simp only[n0Q hi]
theorem b1E (i f u:Nat) (c:Rp):(e0A c i f u).1.l.length=c.l.length∧(e0A c i f u).1.bits=c.bits∧(e0A c i f u).1.next=c.next∧(e0A c i f u).1.epoch=c.epoch:=by
 unfold e0A;simp only;split
 ·exact r0E _ _ _ _ _
 ·split
  ·exact⟨rfl,rfl,rfl,rfl⟩
  ·split
   ·exact⟨rfl,rfl,rfl,rfl⟩
   ·obtain⟨g,h,j,k⟩:=r0E i ((4*((f+3)/4)-f)*64) c f (a0L ((4*((f+3)/4)-f)*64));obtain⟨a,b,d,e⟩:=r0E i ((u-4*(u/4))*64) (d0K (d0I i ((4*((f+3)/4)-f)*64) c f (a0L ((4*((f+3)/4)-f)*64))).1 i (h0G ((d0I i ((4*((f+3)/4)-f)*64) c f (a0L ((4*((f+3)/4)-f)*64))).1.l.getD i v0).m ((f+3)/4:Nat) (u/4:Nat))) (4*(u/4)) (a0L ((u-4*(u/4))*64));exact⟨a.trans (by unfold d0K;simpa using g),b.trans h,d.trans j,e.trans k⟩
theorem x1M (H:b0B) (c:Rx) (id size:Int) (f:c0Z H c) (hsz:w0X (er c)) (G:c.bits≤256):a0G prog 76 #[e0W c,.int .i64 id,.int .i64 size] [c0B H]
 (b0P (y0R H (g0S (er c) id size).1) (p1I (g0S (er c) id size).2) (fun x=> [c0B x.1])):=by
 have a:=c0K f;obtain⟨p,cap,A,hcap⟩:=d0W f.vols;have C:=f.vols;rw[A]at C;have hfew:=f.few;cases T:c0Q (er c).l id with
 |none=>
  rw[x1K T];refine en func76 ntmps76 fun R w0=> ?_
  try simp only[e0W]
  refine go 2 ?_;refine bx fun L=> ?_;refine al fun M=> ?_;refine go 5 ?_;refine a0D (a0K (v:=(a0J c).toArray) Ag.o rfl (by simp[Value.cells,a0J]) (a0I (by simp[Value.cells,a0J]))) ?_;refine cg 1 (r0V f T) ?_;refine go 15 ?_;refine a0D (a0K (v:=(a0J c).toArray) Ag.o rfl (by simp[Value.cells,a0J]) (a0I (by simp[Value.cells,a0J]))) ?_;refine a0M Sz.o rfl rfl rfl (fun u hu=>a u (by simpa using hu)) (by simp[Value.cells,a0J,a0S]) (a0N (by simp[Value.cells,a0J,a0S])) ?_;refine go 3 ?_;exact c0T (x:=((H,c):b0B×Rx)) (g0W f) idh (RV.agg Ag.o rfl (by simp[a0J]) (by rfl) (RV.tmp rfl RV.nil)) rfl gSp
 |some i=>
  have g:i<c.l.length:=by have:=u0X T;simpa [er] using this
  obtain⟨b,o,cap',cur,hv,hcp,s,S,hlen⟩:=g0V C (by omega);cases hv
  have P:(cur.drop (o+i*6)).take 6=a0S c.l[i]:=(i0I S g).trans (n0G c.l g);have hon:nth cur (o+i*6+2)=some (.bool c.l[i].v.only):=by
   rw[e0F];have h:=congrArg (fun l:List Value=>l[2]?) P;simpa [List.getElem?_take,List.getElem?_drop,a0S] using h
  have U:nth cur (o+i*6+3)=some (.int .i64 c.l[i].v.size):=by
   rw[e0F];have h:=congrArg (fun l:List Value=>l[3]?) P;simpa [List.getElem?_take,List.getElem?_drop,a0S] using h
  have hvi:=f.maps _ (List.getElem_mem g);have hsi:=hsz.at_ g;obtain⟨r,K⟩: ∃r,r=if size<c.l[i].v.size then e0A (er c) i size.toNat c.l[i].v.size.toNat else(er c,0):=⟨_,rfl⟩
  rw[x1L T g K];refine en func76 ntmps76 fun R w0=> ?_
  try simp only[e0W]
  refine go 2 ?_;refine bx fun L=> ?_;refine al fun M=> ?_;refine go 5 ?_;refine a0D (a0K (v:=(a0J c).toArray) Ag.o rfl (by simp[Value.cells,a0J]) (a0I (by simp[Value.cells,a0J]))) ?_;refine cg 1 (p0Q f T) ?_;refine go 3 ?_;refine j0D (X:= {_x:Unit // c.l[i].v.only=false∧ ¬(size<1∨2048<size)}) (fun _=> [(1,.int .i64 id),(2,.int .i64 size),(3,.pointer (some ⟨L,0,none⟩)),(6,.pointer (some ⟨M,0,none⟩)),(7,.int .i64 0),(8,.int .i64 i)]) (fun _=> [w0F L c,pts M (.cells #[.slice none 0 0,.int .i64 0,.int .i64 0,.int .i64 0] 34 (0,0)),c0B H,R]) ?_ ?_
  ·refine go 8 ?_;refine b0S rfl (by simpa using (by omega: ¬((i:Int)<0))) ?_;refine go 3 ?_;refine a0D (b0N (v:= .slice (some ⟨b,o,none⟩) c.l.length cap) Sc.o rfl (by exact congrArg some A)) ?_;refine go 3 ?_;refine a0D (a1L Sc.o rfl gFd s hon) ?_;refine go 3 ?_;refine a0O rfl (fun d=> ?_) (fun d=> ?_)
   ·rw[if_pos d];refine go 2 ?_;refine a0D (a0K (v:=(a0J c).toArray) Ag.o rfl (by simp[Value.cells,a0J]) (a0I (by simp[Value.cells,a0J]))) ?_;refine a0M Sz.o rfl rfl rfl (fun u hu=>a u (by simpa using hu)) (by simp[Value.cells,a0J,a0S]) (a0N (by simp[Value.cells,a0J,a0S])) ?_;refine go 3 ?_;exact c0T (x:=((H,c):b0B×Rx)) (g0W f) idh (RV.agg Ag.o rfl (by simp[a0J]) (by rfl) (RV.tmp rfl RV.nil)) rfl gSp
   ·rw[if_neg (by rw[d];decide)];refine go 1 ?_;by_cases j:size<1
    ·refine go 12 ?_;rw[if_pos (.inl j)];refine go 1 ?_;refine a0D (a0K (v:=(a0J c).toArray) Ag.o rfl (by simp[Value.cells,a0J]) (a0I (by simp[Value.cells,a0J]))) ?_;refine a0M Sz.o rfl rfl rfl (fun u hu=>a u (by simpa using hu)) (by simp[Value.cells,a0J,a0S]) (a0N (by simp[Value.cells,a0J,a0S])) ?_;refine go 3 ?_;exact c0T (x:=((H,c):b0B×Rx)) (g0W f) idh (RV.agg Ag.o rfl (by simp[a0J]) (by rfl) (RV.tmp rfl RV.nil)) rfl gSp
    ·refine go 10 ?_;refine a0O rfl (fun k=> ?_) (fun k=> ?_)
     ·refine go 1 ?_;rw[if_pos (.inr (by simpa using k))];refine go 1 ?_;refine a0D (a0K (v:=(a0J c).toArray) Ag.o rfl (by simp[Value.cells,a0J]) (a0I (by simp[Value.cells,a0J]))) ?_;refine a0M Sz.o rfl rfl rfl (fun u hu=>a u (by simpa using hu)) (by simp[Value.cells,a0J,a0S]) (a0N (by simp[Value.cells,a0J,a0S])) ?_;refine go 3 ?_;exact c0T (x:=((H,c):b0B×Rx)) (g0W f) idh (RV.agg Ag.o rfl (by simp[a0J]) (by rfl) (RV.tmp rfl RV.nil)) rfl gSp
     ·refine go 1 ?_;exact me idh (⟨(),d,fun h=>by have hb:=of_decide_eq_false k;omega⟩)
  rintro⟨_,hoo,hgo⟩;refine go 1 ?_;rw[if_neg (by rw[hoo];decide),if_neg hgo];refine go 1 ?_;refine a0D (a0K (v:=(a0J c).toArray) Ag.o rfl (by simp[Value.cells,a0J]) (a0I (by simp[Value.cells,a0J]))) ?_;refine al fun b9=> ?_;refine a0M Sz.o rfl rfl rfl (fun u hu=>a u (by simpa using hu)) (by simp[Value.cells,a0J,a0S]) (a0N (by simp[Value.cells,a0J,a0S])) ?_;refine go 2 ?_;refine j0D (X:= {x:b0B×Rx // (∀p∈H,p∈x.1)∧c0Z x.1 x.2∧er x.2=r.1∧r.2=0}) (fun _=> [(1,.int .i64 id),(2,.int .i64 size),(3,.pointer (some ⟨L,0,none⟩)),(6,.pointer (some ⟨M,0,none⟩)),(7,.int .i64 0),(8,.int .i64 i),(9,.pointer (some ⟨b9,0,none⟩))]) (fun y=> [w0F b9 y.1.2,pts M (.cells #[.slice none 0 0,.int .i64 0,.int .i64 0,.int .i64 0] 34 (0,0)),c0B y.1.1,R]) ?_ ?_
  ·refine go 4 ?_;refine a0D (b0N (v:= .slice (some ⟨b,o,none⟩) c.l.length cap) Sc.o rfl (by exact congrArg some A)) ?_;refine go 3 ?_;refine a0D (a1L Sc.o rfl gFd s U) ?_;refine go 3 ?_;refine a0O rfl (fun e=> ?_) (fun e=> ?_)
   ·have j:size<c.l[i].v.size:=by simpa using e
    rw[if_pos j]at K;refine go 1 ?_;refine fx (.r 0 8 (.float 13 (.hard 8 (.hard 9 (.r 10 3 (.res (.hard 14 (.soft 15 .done)))))))) [w0F L c] ?_;refine h0L rfl (a0K (v:=(a0J c).toArray) Ag.o rfl (by simp[Value.cells,a0J]) (a0I (by simp[Value.cells,a0J]))) ?_;refine go 3 ?_;refine h0L rfl (b0N (v:= .slice (some ⟨b,o,none⟩) c.l.length cap) Sc.o rfl (by exact congrArg some A)) ?_;refine go 3 ?_;refine j0Y (e0:= []) rfl gSu (fun _ _ _=>rfl) Zr.o rfl ?_;refine b0Y rfl (fun t EE FF=> ?_);refine ns ?_;refine a0D (a1L Sc.o rfl gFd s U) ?_;refine go 1 ?_;refine fn (E:=EE) (F:=FF) (t.put rfl) ?_;refine b0Y rfl (fun t EE FF=> ?_);refine ns ?_;refine ce 0 ((by have h:=d1T H c i size.toNat c.l[i].v.size.toNat f g G (by omega) (by omega);rw[←K,Int.toNat_of_nonneg (by omega:0≤size),Int.toNat_of_nonneg hsi.1]at h;exact h)) ?_;rintro⟨H3,c3⟩ ⟨hs3,hc3,hr3⟩;refine ns ?_;refine go 1 ?_;refine fn (E:=EE) (F:=FF) (t.put rfl) ?_;refine go 3 ?_;refine l0Y (fun b10=> ?_);dsimp only;refine b0Y rfl (fun t EE FF=> ?_);refine ns ?_;refine a0M Sz.o rfl rfl rfl (fun u hu=>c0K hc3 u (by simpa using hu)) (by simp[Value.cells,a0J,a0S]) (a0N (by simp[Value.cells,a0J,a0S])) ?_;refine go 1 ?_;refine fn (E:=EE) (F:=FF) t ?_;refine go 10 ?_;refine a0O rfl (fun m=> ?_) (fun m=> ?_)
    ·rw[if_pos (by simpa using m)];refine go 2 ?_;refine a0D (a0K (v:=(a0J c).toArray) Ag.o rfl (by simp[Value.cells,a0J]) (a0I (by simp[Value.cells,a0J]))) ?_;refine go 1 ?_;refine a0M Sz.o rfl rfl rfl (fun u hu=>a u (by simpa using hu)) (by simp[Value.cells,a0J,a0S]) (a0N (by simp[Value.cells,a0J,a0S])) ?_;refine go 3 ?_;exact c0T (x:=((H3,c):b0B×Rx)) ⟨hs3,f.more hs3,rfl⟩ idh (RV.agg Ag.o rfl (by simp[a0J]) (by rfl) (RV.tmp rfl RV.nil)) rfl gSp
    ·have hz:r.2=0:=by simpa using m
     refine go 3 ?_;refine a0D (a0K (v:=(a0J c3).toArray) Ag.o rfl (by simp[Value.cells,a0J]) (a0I (by simp[Value.cells,a0J]))) ?_;refine a0M Sz.o rfl rfl rfl (fun u hu=>c0K hc3 u (by simpa using hu)) (by simp[Value.cells,a0J,a0S]) (a0N (by simp[Value.cells,a0J,a0S])) ?_;refine go 1 ?_;exact me idh (⟨(H3,c3),hs3,hc3,hr3,hz⟩)
   ·refine go 1 ?_;exact me idh (⟨(H,c),fun _ h=>h,f,by rw[K,if_neg (by simpa using e)],by rw[K,if_neg (by simpa using e)]⟩)
  rintro⟨⟨H2,c2⟩,hs2,hc2,hr2,hr0⟩;dsimp only at hs2 hc2 hr2 ⊢;have o0R:r.1.l.length=(er c).l.length∧r.1.bits=c.bits:=by
   by_cases j:size<c.l[i].v.size
   ·rw[K,if_pos j];exact⟨(b1E _ _ _ _).1,(b1E _ _ _ _).2.1⟩
   ·rw[K,if_neg j];exact⟨rfl,rfl⟩
  have n:i<c2.l.length:=by have h:=o0R.1;rw[←hr2]at h;simp only[er,List.length_map]at h;omega
  rw[if_neg (by rw[hr0];decide),←hr2,n0Q n];obtain⟨p2,N,B,Y⟩:=d0W hc2.vols;have w:=hc2.vols;rw[B]at w;have Z:=hc2.few;obtain⟨bb,oo,W,O,z,hcp2,J,I,hlen2⟩:=g0V w (by omega);cases z
  have Q:(O.drop (oo+i*6)).take 6=a0S c2.l[i]:=(i0I I n).trans (n0G c2.l n);have D:=hc2.maps _ (List.getElem_mem n);obtain⟨V,z⟩: ∃V:Vx,V= {v:= {c2.l[i].v with size:=size},mv:=c2.l[i].mv} :=⟨_,rfl⟩;have hm2:n0K H2 V:=by rw[z];exact D
  refine go 3 ?_;refine a0D (b0N (v:= .slice (some ⟨bb,oo,none⟩) c2.l.length N) Sc.o rfl (by exact congrArg some B)) ?_;refine go 2 ?_;refine a0D (f0A (vs:=a0S c2.l[i]) Ag.o rfl gFd J Q rfl (by decide)) ?_;refine al fun b12=> ?_;refine a0M Sz.o rfl rfl rfl (fun u hu=>r0D D u (by simpa using hu)) (by simp[Value.cells,a0J,a0S]) (a0N (by simp[Value.cells,a0J,a0S])) ?_;refine go 11 ?_;refine a0D (a0K (v:=(a0J c2).toArray) Ag.o rfl (by simp[Value.cells,a0J]) (a0I (by simp[Value.cells,a0J]))) ?_;refine go 1 ?_;refine a0D (a0K (v:=(a0S V).toArray) Ag.o rfl (by simp[Value.cells,a0S]) (by rw[z];rfl)) ?_;refine ce 0 (d1N H2 c2 i V hc2 hm2 n) ?_;rintro⟨H4,c4⟩ ⟨hs4,hc4,hr4⟩;refine ns ?_;refine a0M Sz.o rfl rfl rfl (fun u hu=>c0K hc4 u (by simpa using hu)) (by simp[Value.cells,a0J,a0S]) (a0N (by simp[Value.cells,a0J,a0S])) ?_;refine go 3 ?_;exact c0T (x:=((H4,c4):b0B×Rx)) ⟨fun q h=>hs4 q (hs2 q h),hc4,by(show er c4=_);rw[show er c4=_ from hr4,z]⟩ idh (RV.agg Ag.o rfl (by simp[a0J]) (by rfl) (RV.tmp rfl RV.nil)) rfl gSp
abbrev f0Z (b core:Nat) (c:Rx):a0E:=pts b (.cells #[ptr core,c.lv,.int .i64 c.next,.int .i64 c.bits,.int .i64 c.epoch] 37 (0,0))
def x1N (e f:Int) (b:Bool):Value:= .tuple #[.int .i64 e,.int .i64 f,.bool b]
theorem k1K (b core:Nat) (n m e f:Int) (c y:Rx) (k: ∀u∈a0J y,u.oneCell'=true) (j:0≤n∧n<4294967296) (g:e=0→n=m) (h:e≠0→n=0) (i:e=0→f=0):
 a0G prog 43 #[ptr b,.int .u32 n,.int .i64 m,e0W y,.int .i64 e,.int .i64 f] [f0Z b core c] (a0T (x1N e f true) [f0Z b core (if e=0 then y else c)]):=by
 by_cases a:e=0
 ·subst a;obtain rfl:=g rfl;obtain rfl:=i rfl;rw[if_pos rfl];refine en func43 ntmps43 fun R w0=> ?_
  try simp only[e0W]
  refine go 2 ?_;refine bx fun d=> ?_;refine go 20 ?_;refine a0D (a0K (v:=(a0J y).toArray) Ag.o rfl (by simp[Value.cells,a0J]) (a0I (by simp[Value.cells,a0J]))) ?_;refine go 2 ?_;refine a0M Sz.o rfl rfl rfl (fun u hu=>k u (by simpa using hu)) (by simp[a0J]) (by simp[j0I,a0J];rfl) ?_;refine go 15 ?_;exact rG (hu:=(by unfold x1N;simp[e0P .i64 n j.1 (by show n<9223372036854775808;omega)]))
 ·obtain rfl:=h a;rw[if_neg a];refine en func43 ntmps43 fun R w0=> ?_
  try simp only[e0W]
  refine go 2 ?_;refine bx fun d=> ?_;refine go 11 ?_;refine c0D rfl (wg rfl rfl rfl (wTF (by simpa using a))) ?_;refine c0D rfl (wg rfl rfl rfl (wTF (by simpa using a))) ?_;refine a0D (h0H rfl (by simpa using a) rfl) ?_;refine go 12 ?_;refine b0Z (d0H rfl) (wg rfl rfl rfl (wFF (by simpa using a))) ?_;refine b0Z (b1F rfl rfl) (wg rfl rfl rfl (wFF (by simpa using a))) ?_;refine a0D (h0H rfl (by simpa using a) rfl) ?_;refine go 5 ?_;exact rG (hu:=(by unfold x1N;simp))
section
def Fit (s:St):Prop:=s.bits≤256∧s.vols.length≤1000
def x1O:B:=List.replicate 64 120
def g1C (s0:St):Prop:= ∃s1 s2 s3 s4 s5:St,(Fit s0∧Fit s1∧Fit s2∧Fit s3∧Fit s4)∧f0T 5 s0=(.ok (1,0),s1)∧h0K 1 4 x1O s1=(.ok 0,s2)∧h0S 1 true s2=(.ok (2,0),s3)∧h0K 2 0 [] s3=(.ok 7,s4)∧h0K 1 5 x1O s4=(.ok 6,s5)
section
variable {W:World} {s t:St}
theorem n1E {size:Int} {p:Int×Int} (b:Fit s) (h:f0T size s=(.ok p,t)) (a:Ad):a0G prog 38 #[ptr a.core,.int .i64 size] (RS W a s) (a0T (z0M p) (RS W a t)):=by
 have k:=x1E W a s size b.2 (by rw[h];simp);rw[h]at k;exact k.ran_ok
theorem z0O (c:i0L W) {id at_:Int} {data:B} {e:Int} (b:Fit s) (hd:data.length≤100000) (h:h0K id at_ data s=(.ok e,t)) (a:Ad):a0G prog 21 #[ptr a.core,.int .u32 id,.int .i64 at_,b0C data] (RS W a s) (a0T (a0H e) (RS W a t)):=by
 have k:=a2D W c a s id at_ data b.1 hd b.2 (by rw[h];simp);rw[h]at k;exact k.ran_ok
theorem x1P {id:Int} {p:Int×Int} (b:Fit s) (h:h0S id true s=(.ok p,t)) (a:Ad):a0G prog 40 #[ptr a.core,.int .u32 id] (RS W a s) (a0T (z0M p) (RS W a t)):=by
 have k:=g2Z W a s id b.2 (by rw[h];simp);rw[h]at k;exact k.ran_ok
theorem x1Q {id at_ n:Int} {p:B×Int} (h:n0Y id at_ n s=(.ok p,t)) (a:Ad):a0G prog 19 #[ptr a.core,.int .u32 id,.int .i64 at_,.int .i64 n] (RS W a s) (a0T (h2B p) (RS W a t)):=by
 have k:=r2I W a s id at_ n (by rw[h];simp);rw[h]at k;exact k.ran_ok
end
set_option maxRecDepth 8000
theorem h2P (W:World) (b:i0L W) (o:g1C (f0X (k0Q 100) 2 256 1)):a0G prog 10 #[] [whole W] (a0T (.bool true) [whole W]):=by
 obtain⟨s1,q,s,t,u,⟨e,f,g,h,i⟩,j,k,l,m,n⟩:=o;have k1:=fun a=>n1E (W:=W) e j a;have p:=fun a=>z0O (W:=W) b f (by simp[x1O]) k a;have k3:=fun a=>x1P (W:=W) g l a;have k4:=fun a=>z0O (W:=W) b h (by simp) m a;have k5:=fun a=>z0O (W:=W) b i (by simp[x1O]) n a;have c:=c2B [120] 64 (by simp) (by omega);have d:(List.replicate 64 [(120:UInt8)]).flatten=x1O:=rfl;rw[d]at c;refine en func10 ntmps10 fun R w0=> ?_;refine ce 7 (r1J W 98 256 (by omega) (by omega)) ?_;rintro⟨a,bw⟩ _;refine ns ?_;refine cg 23 (k1 a) ?_;refine go 8 ?_;refine mx (.r 0 4 (.hard 4 (.hard 5 (.soft 6 .done)))) [p1F bw a.core 256] ?_;refine cg 5 (c) ?_;refine cg 3 (p a) ?_;refine cg 11 (k3 a) ?_;refine go 8 ?_;refine mx (.r 0 23 (.hard 23 (.r 24 7 (.hard 31 (.hard 32 (.r 33 3 .done)))))) [p1F bw a.core 256] ?_;refine cg 25 (k4 a) ?_;refine cg 11 (c) ?_;refine cg 4 (k5 a) ?_;refine go 7 ?_;exact rG
end
end Go.Proofs.Q
namespace Go.Proofs.Q
open Go Go.Sl Tryz
theorem F.fs50_4:Sl.n0R prog 50 4 4 0 false=true:=by kernel_rfl
instance:Hb prog 51:=⟨kr⟩
instance:Hb prog 52:=⟨kr⟩
instance:Hb prog 70:=⟨kr⟩
instance:Hb prog 71:=⟨kr⟩
instance:Hb prog 72:=⟨kr⟩
instance:Hb prog 122:=⟨kr⟩
instance:Hb prog 123:=⟨kr⟩
instance:Hb prog 124:=⟨kr⟩
instance:Hb prog 120:=⟨kr⟩
instance:Hb prog 121:=⟨kr⟩
instance:Sc prog 129:=⟨kr⟩
instance:Hb prog 168:=⟨kr⟩
end Go.Proofs.Q
namespace Go.Proofs.Q
open Go.Sl Go.Sb Tryz
theorem r2X (xs:List (Nat×Int)) {i:Nat} (hi:i<xs.length):((xs.flatMap w0W).drop (i*2)).take 2=w0W xs[i]:=by
 induction xs generalizing i with
 |nil=>simp at hi
 |cons x xs ih=>
  cases i with
  |zero=>rfl
  |succ i=>
   rw[show(i+1)*2=2+i*2 by omega,List.flatMap_cons,show 2+i*2=(w0W x).length+i*2 from rfl,List.drop_length_add_append];exact ih (i:=i) (by simpa using hi)
theorem d2G (from_ a:Nat): ∀(ys c:List (Nat×Int)) (x:Nat×Int),x∈(g0I (d0L from_ a) ys c).2→x∈c∨x∈ys
 | [],c,x,h=> .inl h
 |y::ys,c,x,h=>by
  have d: ∀z,z∈(d0L from_ a y c).2→z∈c∨z=y:=fun z b=>by
   unfold d0L at b;split at b
   ·exact .inl b
   ·split at b
    ·rcases List.mem_append.1 b with h|h
     ·exact .inl h
     ·exact .inr (List.mem_singleton.1 h)
    ·exact .inl b
  rw[f1Z]at h;split at h
  ·rcases d2G from_ a ys _ x h with h|h
   ·rcases d x h with h|h
    ·exact .inl h
    ·exact .inr (h▸List.mem_cons_self)
   ·exact .inr (List.mem_cons_of_mem _ h)
  ·rcases d x h with h|h
   ·exact .inl h
   ·exact .inr (h▸List.mem_cons_self)
theorem r2Y (from_ a:Nat): ∀(ys c:List (Nat×Int)),(g0I (d0L from_ a) ys c).2.length≤c.length+ys.length:=fun ys c=>p1G (mu:=List.length) (m2V from_ a) ys c
theorem r2Z {α β:Type} (f:β→α→M β) (b:β) (s:St):s0G f b [] s=(.ok b,s):=rfl
theorem n2C {α β:Type} (f:β→α→M β) (b:β) (x:α) (l:List α) (s:St):s0G f b (x::l) s=a0B (f b x) (fun a=>s0G f a l) s:=rfl
set_option maxRecDepth 4000 in
theorem h2Q (W:World) (C:i0L W) (a:Ad) (s:St) (root:Int) (from_ b:Nat) (ys:List (Nat×Int)) (A:lvs 2 0 root s=some ys) (w:ys.length≤512) (l: ∀x∈ys,x.1<1000000) (m:s.bits≤256) (h:(k0M root from_ b s).1≠ .big):
 a0G prog 121 #[ptr a.maps,.int .i64 root,.int .i64 from_,.int .i64 b] (RS W a s) (Ran fT (RS W a) a0H (k0M root from_ b s)):=by
 obtain⟨out,c⟩: ∃out,out=(g0I (d0L from_ b) ys []).2:=⟨_,rfl⟩;have D:out.length≤512:=by rw[c];have:=r2Y from_ b ys [];simp only[List.length_nil]at this;omega
 have p: ∀x∈out,x.1<1000000:=by rw[c];exact fun x E=>l x (d2G from_ b ys [] x E |>.resolve_left (by simp))
 have e0:k0M root from_ b s=s0G (fun r x=>m0G r x.1 0) root out s:=by
  unfold k0M;rw[a0A (show m0B root from_ b s=(.ok out,s) by unfold m0B;rw[A,c])]
 have g:=a2E W a s root from_ b ys A w;rw[←c]at g;refine en func121 ntmps121 fun R w0=> ?_;refine ce 12 (g) ?_;rintro v _;refine ns ?_;refine a0D (i0N Tsl.o rfl gFd) ?_;refine go 4 ?_;refine a0V (X:= {y:Nat×St×Int // y.1≤out.length∧y.2.1.bits=s.bits∧k0M root from_ b s=s0G (fun r x=>m0G r x.1 0) y.2.2 (out.drop y.1) y.2.1}) (fun y=> [(0,ptr a.maps),(1,.int .i64 y.1.2.2),(15,v),(16,.int .i64 out.length),(17,.int .i64 y.1.1)]) (fun y=>RS W a y.1.2.1++ [b0I 244 2 v out.length (out.flatMap w0W),R]) (fun y=>out.length-y.1.1) ⟨(0,s,root),Nat.zero_le _,rfl,e0⟩ gSu gSp ?_;rintro⟨⟨i,u,r⟩,hi,hub,he⟩ m0 hm0
 try simp only at hm0
 try dsimp only
 simp only at hi hub he;refine ns ?_;refine go 6 ?_;refine a0O rfl (fun d=> ?_) (fun d=> ?_)
 ·have f:i<out.length:=by have:=of_decide_eq_true d;omega
  refine i0T (e:=244) gFd (by omega) fun G z q n=> ?_;subst q;rw[List.drop_eq_getElem_cons f,n2C]at he;refine go 7 ?_;refine a0D (x0T Ag.o rfl gFd (vs:=w0W out[i]) (by rw[Nat.zero_add];exact r2X out f) rfl (by decide)) ?_;refine al fun B=> ?_;refine go 8 ?_;refine a0U rfl Hb.o rfl (f1R W C a u r out[i].1 0 (by omega) (p _ (List.getElem_mem f)) (by rw[he]at h;exact c0I h)) gSp (fun F t k=> ?_) (fun e t k=>by refine pn ?_;exact kx ((by rw[he];exact a0F k)));refine ns ?_;have j:=o1X r out[i].1 0 u;rw[k]at j;rw[a0A k]at he;refine go 7 ?_;exact rd idh (⟨(i+1,t,F),f,j.trans hub,he⟩)
 ·obtain rfl:i=out.length:=by have:=of_decide_eq_false d;omega
  rw[List.drop_length,r2Z]at he;refine go 8 ?_;exact rR idh he
theorem x1R {g:Nat→Int→Option (List (Nat×Int))} {from_ m:Nat} : ∀(kids:List Int) (i:Nat) (ys:List (Nat×Int)),(∀j k a,g j k=some a→a.length≤m∧ ∀x∈a,x.1<from_+(j+1)*m)→lvK g i kids=some ys→ys.length≤kids.length*m∧ ∀x∈ys,x.1<from_+(i+kids.length)*m
 | [],i,ys,hg,h=>by
  unfold lvK at h;obtain rfl:=Option.some.inj h;exact⟨by simp,fun x c=>by cases c⟩
 |k::kids,i,ys,hg,h=>by
  unfold lvK at h;obtain⟨a,e,f⟩:=Option.bind_eq_some_iff.1 h;obtain⟨b,l,n⟩:=Option.map_eq_some_iff.1 f;obtain⟨q,o⟩:=hg i k a e;obtain⟨r,p⟩:=x1R kids (i+1) b hg l;subst n;refine⟨?_,fun x c=> ?_⟩
  ·rw[List.length_append,List.length_cons,Nat.succ_mul];omega
  ·rw[List.length_cons];rcases List.mem_append.1 c with c|c
   ·have d:=o x c;have:(i+1)*m≤(i+(kids.length+1))*m:=Nat.mul_le_mul_right _ (by omega);omega
   ·have d:=p x c;rw[show i+(kids.length+1)=i+1+kids.length by omega];exact d
theorem z2C: ∀(l from_:Nat) (at_:Int) (s:St) (ys:List (Nat×Int)),lvs l from_ at_ s=some ys→ys.length≤8^(l+1)∧ ∀x∈ys,x.1<from_+8^(l+1):=by
 intro l
 induction l with
 |zero=>
  intro from_ at_ s ys h;unfold lvs at h;cases g:Go.Sb.load at_ 0 s with
  |mk o t=>
   rw[g]at h;cases o with
   |ok n=>
    have i:n.kids.length=8:=(h0Q g).2.n;obtain⟨d,f⟩:=x1R (m:=1) (from_:=from_) n.kids 0 ys (fun j k a c=>by
     have c:=Option.some.inj c;subst c;split
     ·exact⟨by simp,fun x b=>by cases b⟩
     ·exact⟨by simp,fun x b=>by rw[List.mem_singleton.1 b];show from_+j<_;omega⟩) h
    rw[i]at d f;exact⟨d,fun x b=>by have:=f x b;omega⟩
   |err e=>cases h
   |big=>cases h
 |succ l ih=>
  intro from_ at_ s ys h;unfold lvs at h;cases g:Go.Sb.load at_ (l+1) s with
  |mk o t=>
   rw[g]at h;cases o with
   |ok n=>
    have i:n.kids.length=8:=(h0Q g).2.n;obtain⟨d,f⟩:=x1R (m:=8^(l+1)) (from_:=from_) n.kids 0 ys (fun j k a c=>by
     split at c
     ·have c:=Option.some.inj c;subst c;exact⟨by simp,fun x b=>by cases b⟩
     ·obtain⟨p,q⟩:=ih _ _ _ _ c;refine⟨p,fun x b=> ?_⟩;have:=q x b;rw[Nat.succ_mul];omega) h
    rw[i]at d f;have e:8^(l+1+1)=8*8^(l+1):=by rw[Nat.pow_succ,Nat.mul_comm]
    rw[e];exact⟨d,fun x b=>by have:=f x b;rw[Nat.zero_add]at this;exact this⟩
   |err e=>cases h
   |big=>cases h
theorem a2M {root:Int} {from_ a:Nat} {s:St} (h:(m0B root from_ a s).1≠ .big): ∃ys,lvs 2 0 root s=some ys:=by
 unfold m0B at h;cases b:lvs 2 0 root s with
 |some ys=>exact⟨ys,rfl⟩
 |none=>rw[b]at h;exact absurd rfl h
theorem a2N (W:World) (h:i0L W) (a:Ad) (s:St) (root:Int) (from_ b:Nat) (c:s.bits≤256) (d:(k0M root from_ b s).1≠ .big):
 a0G prog 121 #[ptr a.maps,.int .i64 root,.int .i64 from_,.int .i64 b] (RS W a s) (Ran fT (RS W a) a0H (k0M root from_ b s)):=by
 obtain⟨ys,e⟩:=a2M (show(m0B root from_ b s).1≠ .big from c0I d);obtain⟨f,g⟩:=z2C 2 0 root s ys e;exact h2Q W h a s root from_ b ys e f (fun x i=>by have:=g x i;have:(8:Nat)^(2+1)=512:=rfl;omega) c d
abbrev h2R (b b1:Nat):a0E:=pts b (.cells #[ptr b1] 129 (0,0))
abbrev x1S (a:Ad) (b2 b3 b:Nat) (y:Ent):a0E:=b0E [f0G b2 a,h2R b3 b,s0M b y]
theorem a1J (W:World) (r:i0L W) (a:Ad) (s:St) (g i b:Nat) (x:Ent) (fr c:Nat) (A:fr≤c) (B:c≤5000) (d:s.bits≤256) (j:(e0T x fr (a0L ((c-fr)*64)) s).1≠ .big):
 a0G prog 120 #[.int .i64 fr,.int .i64 c,ptr g,ptr i] (RS W a s++ [f0G g a,h2R i b,s0M b x]) (Ran fT (RSo W a (x1S a g i b)) i0S (u0B (e0T x fr (a0L ((c-fr)*64)) s))):=by
 have q:=a1X ((c-fr)*64) (by omega);have n:(a0L ((c-fr)*64)).length=(c-fr)*64:=by simp[a0L]
 rw[show((((c-fr)*64:Nat):Int))=(((c:Nat):Int)- ((fr:Nat):Int))*64 by omega]at q;refine ns ?_;refine en func120 ntmps120 fun R w0=> ?_;refine v0O 8 (by rfl) (.soft 0 (.soft 1 (.soft 2 (.soft 3 (.soft 4 (.soft 5 (.soft 6 (.hard 7 .done)))))))) [f0G g a,h2R i b] Fol.o (by kernel_rfl) (by repeat (first|with_reducible exact b0T.bp|with_reducible apply b0T.then|with_reducible apply b0T.inBlock)) gSp ?_;simp only[List.take_succ_cons,List.take_zero];refine go 7 ?_;refine b0Y rfl (fun l EE FF=> ?_);refine ns ?_;refine cg 0 (q) ?_;refine go 1 ?_;refine fn (E:=EE) (F:=FF) (l.put rfl) ?_;refine go 1 ?_;refine a1K ?_;refine a0U rfl Hb.o rfl (m1R W r a s b x fr (a0L ((c-fr)*64)) (by rw[n];omega) d j) gSp (fun v ⟨p,u⟩ k=> ?_) (fun e t k=>by refine pn ?_;(obtain⟨t1,z⟩:=t;obtain⟨m,f⟩:=r0B k;obtain rfl:z=none:=congrArg Prod.snd m;have f:_=(Out.err e,t1):=f;simp only[RSo,List.cons_append,List.nil_append];exact b0W (by rw[f];rfl) idh gSp));refine ns ?_;refine go 1 ?_;obtain⟨y,m,f⟩:=s0Z k;obtain rfl:u=some y:=congrArg Prod.snd m;have f:_=(Out.ok y,p):=f;simp only[RSo,List.cons_append,List.nil_append];refine b0F (L':=x1S a g i b y::(RS W a p++ [R])) (fun w h=>b0M.2 ?_) ?_
 ·refine ns ?_;exact h.sub gSp
 ·refine ns ?_;exact fR (s:=(p,some y)) (by rw[f];rfl)
section
theorem n2D (root:Int) (f u:Nat):PB (m0B root f u):=fun s=>by unfold m0B;split<;>rfl
theorem d2H {α β:Type} {f:β→α→M β} (a: ∀b x,PB (f b x)): ∀(l:List α) (b:β),PB (s0G f b l)
 | [],b=>c0V _
 |x::l,b=>b0L (a b x) fun c=>d2H a l c
theorem s2A (root:Int) (f u:Nat):PB (k0M root f u):=b0L (n2D _ _ _) fun l=>d2H (fun r x=>o1X r x.1 0) l root
set_option maxRecDepth 8000
theorem i1I (W:World) (I:i0L W) (a:Ad) (s:St) (b:Nat) (x:Ent) (fr c:Nat) (K:fr≤c) (i:s.bits≤256) (j:(i0C x fr c s).1≠ .big):
 a0G prog 71 #[ptr a.core,ptr b,.int .i64 fr,.int .i64 c] (RS W a s++ [s0M b x]) (Ran fT (RSo W a (s0M b)) i0S (u0B (i0C x fr c s))):=by
 have G:c≤5000:=by
  rcases Nat.lt_or_ge 5000 c with h|h
  ·unfold i0C at j;rw[if_pos h]at j;exact absurd rfl j
  ·exact h
 have e0:i0C x fr c s=(if c/4≤(fr+3)/4 then e0T x fr (a0L ((c-fr)*64))else
  a0B (e0T x fr (a0L (((fr+3)/4*4-fr)*64))) fun y=>a0B (k0M y.root ((fr+3)/4) (c/4)) fun r=>e0T {y with root:=r} (c/4*4) (a0L ((c-c/4*4)*64))) s:=by unfold i0C;rw[if_neg (by omega)]
 obtain⟨p,P⟩: ∃p,p=(fr+3)/4:=⟨_,rfl⟩;obtain⟨q,Q⟩: ∃q,q=c/4:=⟨_,rfl⟩;rw[←P,←Q]at e0;refine ns ?_;refine en func71 ntmps71 fun R w0=> ?_;refine go 2 ?_;refine bx fun A=> ?_;refine bx fun B=> ?_;refine go 14 ?_;rw[show(((fr:Nat):Int)+4-1)/4=(p:Int) by omega];refine go 2 ?_;rw[show((c:Nat):Int)/4=(q:Int) by omega];refine go 12 ?_;refine a0O rfl (fun g=> ?_) (fun g=> ?_)
 ·have E:q≤p:=by have h:=g;simp only[decide_eq_true_eq]at h;omega
  rw[if_pos E]at e0;refine go 5 ?_;refine a0U rfl Hb.o rfl (a1J W I a s A B b x fr c K G i (by rw[←e0];exact j)) gSp (fun v ⟨n,N⟩ f=> ?_) (fun e t f=>by refine pn ?_;(obtain⟨t1,F⟩:=t;obtain⟨m,d⟩:=r0B f;obtain rfl:F=none:=congrArg Prod.snd m;have d:_=(Out.err e,t1):=d;simp only[RSo,List.cons_append,List.nil_append];exact b0W (by rw[e0,d];rfl) idh gSp));refine ns ?_;refine go 1 ?_;obtain⟨y,m,d⟩:=s0Z f;obtain rfl:N=some y:=congrArg Prod.snd m;have d:_=(Out.ok y,n):=d;simp only[RSo,List.cons_append,List.nil_append];refine go 1 ?_;refine l0C (show Fnd _ (x1S a A B b y) _ from gFd) ?_;refine ns ?_;exact rR idh (s:=(n,some y)) (by rw[e0,d];rfl)
 ·have E: ¬q≤p:=by have h:=g;simp only[decide_eq_false_iff_not]at h;omega
  rw[if_neg E]at e0;have k:=j;rw[e0]at k;refine go 8 ?_;rw[show((p:Nat):Int)*4=((p*4:Nat):Int) by omega];refine a0U rfl Hb.o rfl (a1J W I a s A B b x fr (p*4) (by omega) (by omega) i (c0I k)) gSp (fun v ⟨n,N⟩ f=> ?_) (fun e t f=>by refine pn ?_;(obtain⟨t1,F⟩:=t;obtain⟨m,d⟩:=r0B f;obtain rfl:F=none:=congrArg Prod.snd m;have d:_=(Out.err e,t1):=d;simp only[RSo,List.cons_append,List.nil_append];exact b0W (by rw[e0,a0F d];rfl) idh gSp));refine ns ?_;refine go 1 ?_;obtain⟨y,m,d⟩:=s0Z f;obtain rfl:N=some y:=congrArg Prod.snd m;have d:_=(Out.ok y,n):=d;have D:=x1F (a0L ((p*4-fr)*64)).length x fr (a0L ((p*4-fr)*64)) s;rw[show j0S (a0L ((p*4-fr)*64)).length x fr (a0L ((p*4-fr)*64)) s=(Out.ok y,n)from d]at D;have D:n.bits=s.bits:=D;rw[a0A d]at e0;have u:=p0H k d;simp only[RSo,List.cons_append,List.nil_append];refine go 2 ?_;refine l0C (show Fnd _ (x1S a A B b y) _ from gFd) ?_;refine ns ?_;refine a1U (.soft 0 (.soft 1 (.soft 2 (.soft 3 (.soft 4 (.soft 5 (.soft 6 (.soft 7 (.soft 9 (.soft 10 (.hard 8 (.hard 11 (.soft 12 (.soft 13 (.hard 14 .done))))))))))))))) [HLX a,mpC a,f0G A a,h2R B b] Fol.o (by kernel_rfl) (by repeat (first|with_reducible exact b0T.bp|with_reducible apply b0T.then|with_reducible apply b0T.inBlock)) (g0T gSp) ?_;refine go 4 ?_;refine d0A rfl (r0T Sc.o rfl gFd (fun _ _=>rfl)) ?_;refine go 6 ?_;refine a0D (b0N Sc.o rfl rfl) ?_;refine go 1 ?_;refine h0B (g0T gSp) ?_;refine go 1 ?_;refine a0U rfl Hb.o rfl (a2N W I a n y.root p q (by omega) (c0I u)) gSp (fun r F f=> ?_) (fun e t f=>by refine pn ?_;(exact b0W (show u0B (i0C x fr c s)=(.err e,(t,none)) by rw[e0,a0F f];rfl) idh gSp));refine ns ?_;refine go 1 ?_;refine h0B (g0T gSp) ?_;have l:=s2A y.root p q n;rw[f]at l;have l:F.bits=n.bits:=l;have O:=e0.trans (a0A f);have H:=p0H u f;clear f;refine go 3 ?_;refine d0T (cs':=f0U {y with root:=r}) Sz.o rfl rfl rfl (by rfl) rfl ?_;refine go 1 ?_;refine h0B (g0T gSp) ?_;refine go 6 ?_;rw[show((q:Nat):Int)*4=((q*4:Nat):Int) by omega];refine go 1 ?_;refine a0U rfl Hb.o rfl (a1J W I a F A B b {y with root:=r} (q*4) c (by omega) G (by omega) H) gSp (fun V ⟨J,S⟩ f=> ?_) (fun e t f=>by refine pn ?_;(obtain⟨T,U⟩:=t;obtain⟨m,d⟩:=r0B f;obtain rfl:U=none:=congrArg Prod.snd m;have d:_=(Out.err e,T):=d;simp only[RSo,List.cons_append,List.nil_append];exact b0W (by rw[O,d];rfl) idh gSp));refine ns ?_;refine go 1 ?_;obtain⟨z,M,C⟩:=s0Z f;obtain rfl:S=some z:=congrArg Prod.snd M;have C:_=(Out.ok z,J):=C;simp only[RSo,List.cons_append,List.nil_append];refine b0F (L':=s0M b z::(RS W a J++ [R])) (fun w h=> ?_) ?_
  ·have K:=h.sub (show b0A _ (x1S a A B b z::(RS W a J++ [R])) _ from by simp only[List.cons_append,List.nil_append];exact gSp);have G:=b0M.1 K;simp only[List.cons_append,List.nil_append]at G ⊢;exact G.sub gSp
  ·refine ns ?_;exact fR (s:=(J,some z)) (by rw[O,C];rfl)
end
end Go.Proofs.Q

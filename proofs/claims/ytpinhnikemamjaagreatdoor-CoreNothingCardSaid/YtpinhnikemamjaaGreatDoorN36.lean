/- Part of the proof; no statement of its own. -/
import Derived.Test.YtpinhnikemamjaaGreatDoorN18
import Derived.Test.YtpinhnikemamjaaGreatDoorN23
import Derived.Test.YtpinhnikemamjaaGreatDoorN35
import Derived.Test.YtpinhnikemamjaaGreatDoorN17
import Derived.Test.YtpinhnikemamjaaGreatDoorN13
import Derived.Test.YtpinhnikemamjaaGreatDoorN10
set_option linter.all false
set_option maxRecDepth 4000
set_option maxHeartbeats 4000000
attribute [local irreducible] Go.Sl.a0O Go.Sl.OW Go.Sl.CW Go.Sl.OS Go.Sl.OM Go.Sl.OMf Go.Sl.KM
namespace Go.Proofs.Q
open Go.Sl Go.Sb Tryz
set_option maxRecDepth 8000
abbrev j1E (b bw:Nat):a0C:=pts b (.cells #[ptr bw] 26 (0,0))
abbrev j1F (b:Nat) (v:Value):a0C:=pts b (.cells #[v] 90 (0,0))
abbrev f2Z (v:Value) (l:List Int):a0C:=b0H 3 1 v l.length (j0P l)
abbrev l1X (a:Ad) (b1 b4 b9 bw:Nat) (c:Rx) (rv:Value) (roots:List Int):a0C:=b0D [j1E b1 bw,j1F b4 rv,j1F b9 (.slice none 0 0),f2Z rv roots,h0N bw a.core c]
abbrev l1Y (a:Ad) (b1 b9 bw:Nat) (c:Rx) (n:Nat):a0C:=ex fun x:Value×List Int=>b0D [m0K (x.2.length=n),j1E b1 bw,j1F b9 x.1,f2Z x.1 x.2,h0N bw a.core c]
theorem g2A (W:World) (a:Ad) (s:St) (G:Gh) (P:List Int) (hi:Inv s G P) (b1 b4 b9 bw:Nat) (c:Rx) (rv:Value) (hrv:rv.oneCell'=true) (roots:List Int) (hk: ∀r∈roots,a0Y G 3 r) (hP: ∀p∈P,p∈roots) (hrl:roots.length≤1000):
 a0F prog 55 #[ptr b1,ptr b4,ptr b9] (RS W a s++ [l1X a b1 b4 b9 bw c rv roots]) (Ran fT (RSC W a (l1X a b1 b4 b9 bw c rv roots) fun _:Unit=>l1Y a b1 b9 bw c (s.g.count 1)) k0I (f0F (ret ()) (s,.start))):=by
 refine ns ?_;refine en func55 ntmps55 fun R w0=> ?_;refine k0Q (show Fnd _ (l1X a b1 b4 b9 bw c rv roots) _ from gFd) ?_;refine ns ?_;refine tl 8 ?_;refine go 6 ?_;refine b0X (j0K Sc.o rfl gFd rfl) ?_;refine ce 2 (q1M W a s G P hi roots hk hP rv hrl) ?_;rintro⟨v,xs⟩ hx;refine ns ?_;dsimp only at hx ⊢;refine y0K (e:=3) (v:=v) gFd fun hv1=> ?_;refine go 2 ?_;refine b0G (L':=l1Y a b1 b9 bw c (s.g.count 1)::(RS W a s++ [R])) (fun w h=>g0X.2 ⟨(v,xs),b0J.2 ?_⟩) ?_
 ·refine ns ?_;exact n0H hx w (h.sub gSp)
 ·exact fR (s:=(s,.done ())) rfl
theorem u2R (x:Ent):eqK [0,0,2,0,0,0] (h0L x) (h0L x)=some true:=by simp[h0L,eqK]
theorem u2S {α:Type} {m:M α} {s t t':St} {e:Int} {c c':Car α} (h:n0T (f0F m) (s,.start)=(.ok e,(t,c))) (h':h0V m s=(.ok (0,c'),t')):0=e∧c'=c∧t'=t:=by
 rw[s0M h]at h';simp only[Prod.mk.injEq,Out.ok.injEq]at h';exact⟨h'.1.1.symm,h'.1.2.symm,h'.2.symm⟩
theorem b2K {s:St} {G:Gh} (h:CI s G):h0V (ret ():M Unit) s=(.ok (0,.done ()),s):=by
 have:=q0I h (m:=(ret ():M Unit)) (a:=()) rfl (Rel.refl h.deep.u);rw[s1H h.dep h.log h.gone]at this;exact this
theorem l2E (W:World) (a:Ad) (s:St) (bw:Nat) (H:b0A) (c:Rx) (G:Gh) (hJ:J s G (er c)) (hsm:Sml (er c)) (hc:c0T H c) (hnx:c.next<1000000):
 a0F prog 16 #[ptr bw] (RS W a s++ [h0N bw a.core c,b0Z H]) (a0T (.bool true) (RS W a s++ [h0N bw a.core c,b0Z H])):=by
 have hel:(er c).l.length=c.l.length:=List.length_map ..;have h16:s.vols.length≤16:=hJ.ci.few;have hcl:c.l.length≤16:=by have:=hJ.len;omega
 have hnn:(er c).next=c.next:=rfl;have hpos:=hJ.pos;have hsn:=hJ.next;have hwn:IntKind.i64.wrap s.next=c.next:=by rw[hsn];exact e0L .i64 _ (by omega) (by show(er c).next<9223372036854775808;omega)
 obtain⟨pr,capr,hlv,hcapr⟩:=d0Q hc.vols;have hrow:=hc.vols;rw[hlv]at hrow;obtain⟨roots,hroots⟩: ∃roots,roots=(er c).l.map (x0N s):=⟨_,rfl⟩;have hrtl:roots.length=c.l.length:=by rw[hroots,List.length_map,hel]
 refine ns ?_;refine en func16 ntmps16 fun R w0=> ?_;refine go 2 ?_;refine bx fun b1=> ?_;refine ce 9 (v1P a s h16 hJ.ci.inv.u.m.vols) ?_;rintro⟨lv,xs⟩ ⟨h1,h2⟩;refine ns ?_;dsimp only at h1 h2 ⊢;have hxs:=hJ.keys h1 h2;have hxl:xs.length=c.l.length:=by rw[hxs,List.length_map,hel]
 clear h1 h2;refine go 5 ?_;refine o0L (e:=50) (v:=lv) gFd fun pe cape hve hcape _=> ?_;subst hve;refine mx (.r 0 14 (.r 16 5 (.hard 14 (.soft 15 (.r 21 2 .done))))) [j1E b1 bw,h0N bw a.core c] ?_;refine go 6 ?_;refine c0V rfl (b0M (v:= .slice pr c.l.length capr) Sc.o rfl (by exact congrArg some hlv)) ?_;refine cg 14 (f2S W a s) ?_;refine go 3 ?_;rw[hwn];refine go 9 ?_;refine bl fun b39=> ?_;refine al fun b4=> ?_;refine go 10 ?_;refine a0D (b0M (v:= .slice pr c.l.length capr) Sc.o rfl (by exact congrArg some hlv)) ?_;refine go 5 ?_;refine b0V (fun w h=>n0U 1 ((show Fnd _ (pts b39 _) _ from gFd).sat h)) ?_;refine a0V (X:= {y:Nat×Value // y.1≤c.l.length∧y.2.oneCell'=true}) (fun y=> [(1,ptr b1),(2,.bool false),(3,.slice pe xs.length cape),(4,ptr b4),(44,.slice pr c.l.length capr),(45,.int .i64 c.l.length),(46,.int .i64 y.1.1)]) (fun y=>RS W a s++ [h0N bw a.core c,b0Z H,j1E b1 bw,j1F b4 y.1.2,b0H 3 1 y.1.2 y.1.1 (j0P (roots.take y.1.1)),b0H 50 6 (.slice pe xs.length cape) xs.length (xs.flatMap (c1I s)),R]) (fun y=>c.l.length-y.1.1) ⟨(0,.slice (some ⟨b39,0,none⟩) 0 0),Nat.zero_le _,rfl⟩ gSu gSp ?_;rintro⟨⟨j,rv⟩,hj,hrv⟩ m0 hm0
 try simp only at hm0
 try dsimp only
 simp only at hj hrv;refine ns ?_;refine go 6 ?_;refine a0P rfl (fun hb47=> ?_) (fun hb47=> ?_)
 ·have hjl:j<c.l.length:=by have:=of_decide_eq_true hb47;omega
  have hjr:j<roots.length:=by omega
  obtain⟨b,o,cap',cur,hv,hcp,hmem,hcut,hlen⟩:=g0G hrow (by omega);cases hv
  have hcu:(cur.drop (o+j*6)).take 6=a0S c.l[j]:=(h0R hcut hjl).trans (m0V c.l hjl);have hvi:=hc.maps _ (List.getElem_mem hjl);have hin:c.l[j].v∈(er c).l:=List.mem_map.2 ⟨_,List.getElem_mem hjl,rfl⟩;have hid:=hJ.ids _ hin;have hwu:IntKind.u32.wrap c.l[j].v.id=c.l[j].v.id:=e0L .u32 _ (by omega) (by show c.l[j].v.id<2147483648;omega);obtain⟨x,hx,hxr⟩:=hJ.vol _ hin;refine i0Y (e:=50) (v:= .slice pe xs.length cape) gFd (by omega) fun be cpe hve2 hcpe=> ?_;cases hve2
  have hxj:xs[j]'(by omega)=c.l[j].v.id:=by simp[hxs,er]
  have hcut2:((xs.flatMap (c1I s)).drop (j*6)).take 6=h0L x:=by rw[q0E (f:=c1I s) (size:=6) (fun _=>rfl) xs (by omega)];show h0L ((a0E xs[j] s.vols).getD h0T)=_;rw[hxj,hx];rfl
  have hrj:roots[j]=x.root:=by have:x0N s c.l[j].v=x.root:=(by unfold x0N;rw[hx];rfl);simp[hroots,er,this]
  refine go 8 ?_;refine a0D (e0U (vs:=a0S c.l[j]) Ag.o rfl gFd hmem hcu rfl (by decide)) ?_;refine al fun b6=> ?_;refine go 1 ?_;refine a0M Sz.o rfl rfl rfl (fun u hu=>q0Q hvi u (by simpa using hu)) (by simp[Value.cells,a0H,a0S]) (a0N (by simp[Value.cells,a0H,a0S])) ?_;refine go 3 ?_;refine fx (.r 0 7 (.float 11 (.hard 7 (.r 8 3 (.res (.hard 12 (.soft 13 .done))))))) [h0N bw a.core c,j1E b1 bw,v1F b6 c.l[j]] ?_;refine go 7 ?_;refine l0Z (e0:= []) rfl gSu (fun _ _ _=>rfl) Zr.o rfl ?_;rw[hwu];refine c0F rfl (fun hok EE FF=> ?_);refine ns ?_;refine cg 0 ((by have h:=e1P W a s c.l[j].v.id;rw[hx]at h;exact h)) ?_;refine go 1 ?_;refine fn (E:=EE) (F:=FF) (hok.put rfl) ?_;refine go 3 ?_;refine n0A (fun b7=> ?_);dsimp only;refine c0F rfl (fun hok EE FF=> ?_);refine ns ?_;refine go 2 ?_;refine fn (E:=EE) (F:=FF) hok ?_;refine go 5 ?_;refine tl 14 ?_;refine go 7 ?_;refine m0W (wg rfl rfl rfl (wFF rfl)) (c1Z (e:=50) (size:=6) (xs:=xs.flatMap (c1I s)) Ag.o rfl gFd (vs:=h0L x) (by rw[Nat.zero_add];exact hcut2) rfl (by decide)) ?_;refine m0W (wg rfl rfl rfl (wFF rfl)) (t1D F.fk50 rfl rfl (u2R x)) ?_;refine cg 7 (u2Q W a s bw H c G hJ hsm hc hnx j hjl x hx) ?_;refine go 11 ?_;refine bl fun b82=> ?_;refine(c0Z Tsl.o Ttb.o Zr.o rfl rfl rfl gFd (e0Z Tsl.o (by simp;rfl) (by simp) (by simp[Value.oneCell'])) (by simp only[maxLen];omega) (by omega) (fun v83 hv83=> ?_));refine go 2 ?_;rw[show j0P (roots.take j)++ [Value.int .i64 x.root]=j0P (roots.take (j+1)) by rw[List.take_succ,List.getElem?_eq_getElem hjr,hrj];simp[j0P]];refine go 5 ?_;exact rd idh (⟨(j+1,v83),hjl,hv83⟩)
 ·obtain rfl:j=c.l.length:=by have:=of_decide_eq_false hb47;omega
  rw[show b0H 3 1 rv c.l.length (j0P (roots.take c.l.length))=f2Z rv roots by rw[List.take_of_length_le (by omega),←hrtl]];refine go 4 ?_;refine al fun b9=> ?_;refine go 10 ?_;refine a0D (j0K Sc.o rfl gFd rfl) ?_;refine go 1 ?_;refine e0K (k0Z (N:= [j1E b1 bw,j1F b4 rv,j1F b9 (.slice none 0 0),f2Z rv roots,h0N bw a.core c]) gSp) ?_;refine a0X rfl Hb.o rfl (t0D (C:=Car Unit) W a (u0A (l1X a b1 b4 b9 bw c rv roots) (fun _:Unit=>l1Y a b1 b9 bw c (s.g.count 1))) 55 [ptr b1,ptr b4,ptr b9] (f0F (ret ())) s .start Hb.o (c1G (by rw[b2K hJ.ci];simp)) (fun _=>g2A W a {s with depth:=s.depth+1} G (h0J s) (by rw[hJ.ci.dep];exact hJ.ci.deep) b1 b4 b9 bw c rv hrv roots (by rw[hroots];exact hJ.rootKid) (by rw[hroots];exact hJ.rootAll) (by omega))) gSp (fun e ⟨t,oc⟩ ho=> ?_) (fun e t ho=>by refine pn ?_;(exact(m0F ho).elim));refine ns ?_;refine go 2 ?_;obtain⟨rfl,rfl,rfl⟩:=u2S ho (b2K hJ.ci);simp only[u0A];refine go 2 ?_;refine u0N (show Fnd _ (l1Y a b1 b9 bw c (s.g.count 1)) _ from gFd) fun x=> ?_;obtain⟨rv2,ys⟩:=x;refine ns ?_;refine o0E (p:=ys.length=s.g.count 1) gFd fun hyl=> ?_;refine o0L (e:=3) (v:=rv2) gFd fun py cpy hvy hcpy _=> ?_;subst hvy;refine f1J (.soft 0 (.soft 1 (.soft 2 (.soft 3 (.soft 4 (.soft 5 (.soft 6 (.soft 7 (.soft 8 (.soft 9 (.soft 10 (.soft 11 (.hard 12 (.soft 13 (.soft 14 (.soft 15 .done)))))))))))))))) [HLX a,j1E b1 bw,j1F b9 (.slice py ys.length cpy),h0N bw a.core c] Fol.o (by kernel_rfl) (by repeat (first|with_reducible exact b0S.bp|with_reducible apply b0S.then|with_reducible apply b0S.inBlock)) (h0M gSp) ?_;refine go 11 ?_;refine v0K rfl (a1C Sc.o rfl gFd (fun _ _=>rfl)) (wg rfl rfl rfl (wTT rfl)) ?_;refine cg 2 (d2L a s) ?_;refine go 1 ?_;refine i0R (h0M gSp) ?_;refine go 5 ?_;exact rG (hu:=(by rw[hyl];simp[q2E]))
end Go.Proofs.Q
namespace Go.Proofs.Q
open Go.Sl Go.Sb Tryz
theorem h1A {α:Type} {Q:Nat→α→Prop} : ∀n:Nat,(∀i,i<n→ ∃x,Q i x)→ ∃l:List α,l.length=n∧ ∀i (h:i<l.length),Q i l[i]
 |0,_=>⟨[],rfl,fun i h=>absurd h (Nat.not_lt_zero _)⟩
 |n+1,h=>by
  obtain⟨l,hl,hq⟩:=h1A n fun i hi=>h i (by omega);obtain⟨x,hx⟩:=h n (by omega);refine⟨l++ [x],by simp[hl],fun i hi=> ?_⟩;by_cases e:i<l.length
  ·rw[List.getElem_append_left e];exact hq i e
  ·have hi':i=n:=by rw[List.length_append,List.length_singleton]at hi;omega
   subst hi';rw[List.getElem_append_right (by omega)];simpa using hx
theorem y2C (s:ByteArray): ∃l:B,s=bs l:=⟨s.data.toList,by show s=ByteArray.mk s.data.toList.toArray;simp⟩
def w1I (W:World) (v:Value):Prop:= ∃(p:Option Addr) (n cap:Nat),v= .slice p n cap∧n≤maxLen∧ ∀i,i<n→ ∃A,p=some A∧ ∃a b c d s,∀q u,(m2W a b c d s)[q]? =some u→W.cell? ((A.add (i*5)).add q)=some u
theorem u2T {W:World} {v:Value} (h:w1I W v): ∃acts,l2D W v acts:=by
 obtain⟨p,n,cap,rfl,hn,hc⟩:=h;obtain⟨l,hl,hq⟩:=h1A (Q:=fun i (x:AP)=> ∃a,p=some a∧ ∀q u,(p2Y x)[q]? =some u→W.cell? ((a.add (i*5)).add q)=some u) n fun i hi=>by
  obtain⟨A,hp,a,b,c,d,s,hcell⟩:=hc i hi;obtain⟨l,rfl⟩:=y2C s;exact⟨{ki:=a,ai:=b,at_:=c,n:=d,l:=l},A,hp,hcell⟩
 exact⟨l,p,cap,by rw[hl],by omega,hq⟩
theorem w1J:e1W (j0T (g0A 100) 2 256 1):=w1U
section
structure CP (m n:Nat) (x:Nat×St×Gh×Rx×b0A):Prop where
 le:x.1≤n
 lim:x.1≤m
 j:J x.2.1 x.2.2.1 (er x.2.2.2.1)
 bud:Bud x.1 x.2.1 (er x.2.2.2.1)
 next:x.2.2.2.1.next≤1+x.1
 bits:x.2.2.2.1.bits≤256
 core:c0T x.2.2.2.2 x.2.2.2.1
 sml:Sml (er x.2.2.2.1)
structure CQ (m:Nat) (x:St×Gh×Rx×b0A):Prop where
 j:J x.1 x.2.1 (er x.2.2.1)
 bud:Bud m x.1 (er x.2.2.1)
 next:x.2.2.1.next≤1+m
 bits:x.2.2.1.bits≤256
 core:c0T x.2.2.2 x.2.2.1
 sml:Sml (er x.2.2.1)
def cbx (bits:Nat):Rx:= {lv:= .slice none 0 0,l:= [],next:=1,bits:=bits,epoch:=1}
theorem cp0 (m n bits:Nat) (hb:1≤bits∧bits≤256):CP m n (0,j0T (g0A (2498+2)) 2 bits 1,[],cbx bits,[]) where
 le:=Nat.zero_le _
 lim:=Nat.zero_le _
 j:=v2W bits hb
 bud:=m2V bits
 next:=by show(1:Int)≤1+((0:Nat):Int);decide
 bits:=hb.2
 core:=⟨j1X _ _ _,fun x hx=>(by cases hx),by show 0≤1000;decide⟩
 sml:=sml0 bits
theorem CP.done {m n:Nat} {i:Nat} {s:St} {G:Gh} {c:Rx} {H:b0A} (h:CP m n (i,s,G,c,H)):CQ m (s,G,c,H):=
 ⟨h.j,p2Z h.bud h.lim,by have h1:=h.next;have h2:=h.lim;simp only at h1 h2 ⊢;omega,h.bits,h.core,h.sml⟩
theorem CP.step {m n:Nat} {i:Nat} {s t:St} {G G2:Gh} {c c2:Rx} {H H2:b0A} {k:Nat} {id at_ nn e:Int} {data:B} {Q:Rp} (h:CP m n (i,s,G,c,H)) (hn:i<n) (hm:i<m) (hk:k<14) (hid:0≤id∧id<32) (hact:b1J k id at_ nn data s (er c) e t Q)
 (hj2:J t G2 Q) (hb2:Bud (i+1) t Q) (hn2:Q.next≤(er c).next+1) (hc2:c0T H2 c2) (hr2:er c2=Q):CP m n (i+1,t,G2,c2,H2) where
 le:=hn
 lim:=hm
 j:=by show J t G2 (er c2);rw[hr2];exact hj2
 bud:=by show Bud (i+1) t (er c2);rw[hr2];exact hb2
 next:=by
  have e1:c2.next=Q.next:=congrArg (fun q:Rp=>q.next) hr2;have e2:(er c).next=c.next:=rfl;have:=h.next;simp only at this;show c2.next≤1+((i+1:Nat):Int);omega
 bits:=by
  have e1:c2.bits=Q.bits:=congrArg (fun q:Rp=>q.bits) hr2;have e2:=hact.bits_ hk;have e3:(er c).bits=c.bits:=rfl;have:=h.bits;show c2.bits≤256;simp only at this;omega
 core:=hc2
 sml:=by show Sml (er c2);rw[hr2];exact hact.sml hk hid h.sml
set_option maxRecDepth 8000
end
end Go.Proofs.Q
namespace Go.Proofs.Q
open Go.Sl Go.Sb Tryz
set_option maxRecDepth 8000
theorem y2G (W:World) (hW:h0W W) (hA:e1W (j0T (g0A 100) 2 256 1)) (v:Value) (acts:List AP) (hv:l2D W v acts) (at0 n0:Int):
 a0F prog 6 #[v,.int .i64 at0,.int .i64 n0] [whole W] (a0T (.bool true) [whole W]):=by
 obtain⟨p,cap,rfl,hml,hcell⟩:=hv;have hmax:acts.length≤9223372036854775807:=Nat.le_trans hml (by decide);obtain⟨nb,hnb,hb1⟩: ∃bits:Nat,min (max (256:Int) 1) 256=(bits:Int)∧1≤bits∧bits≤256:=⟨256,rfl,by decide⟩;refine en func6 ntmps6 fun R w0=> ?_;refine cg 8 (f2M W hW hA) ?_;refine ce 8 (v1O W 2498 nb 256 hnb (by omega) hb1) ?_;rintro⟨ad,bw⟩ _;refine ns ?_;refine go 7 ?_;refine i0P (X:= {y:St×Gh×Rx×b0A // CQ 10 y}) (fun y=> [(1,.int .i64 at0),(2,.int .i64 n0),(6,.bool false),(7,ptr bw),(8,.bool true)]) (fun y=>RS W ad y.1.1++ [h0N bw ad.core y.1.2.2.1,b0Z y.1.2.2.2,R]) ?_ ?_
 ·refine go 6 ?_;refine b0V (fun w h=>m2A h) ?_;refine a0V (X:= {y:Nat×St×Gh×Rx×b0A // CP 10 acts.length y}) (fun y=> [(0,.slice p acts.length cap),(1,.int .i64 at0),(2,.int .i64 n0),(6,.bool false),(7,ptr bw),(8,.bool true),(9,.int .i64 (y.1.1:Nat))]) (fun y=>RS W ad y.1.2.1++ [h0N bw ad.core y.1.2.2.2.1,b0Z y.1.2.2.2.2,R]) (fun y=>acts.length-y.1.1) ⟨_,cp0 10 acts.length nb hb1⟩ gSu gSp ?_;rintro⟨⟨i,s,G,c,H⟩,hca⟩ m0 hm0
  try simp only at hm0
  try dsimp only
  have hle:=hca.le;have h18:=hca.lim;dsimp only at hle h18;simp only[RS,List.cons_append,List.nil_append];refine go 2 ?_;by_cases hlt:i<acts.length
  ·refine go 9 ?_;refine c0R (d0V rfl) (wg rfl rfl rfl (wTT (by simpa using (by omega:(i:Int)<(acts.length:Int))))) ?_;refine c0R (q2D rfl rfl) (wg rfl rfl rfl (wTT (by simpa using (by omega:(i:Int)<(acts.length:Int))))) ?_;refine a0D (i0B rfl (by simpa using (by omega:(i:Int)<(acts.length:Int))) rfl) ?_;refine go 2 ?_;refine a0P rfl (fun hb37=> ?_) (fun hb37=> ?_)
   ·have hi18:i<10:=by have:=of_decide_eq_true hb37;omega
    obtain⟨k,hk⟩: ∃k:Nat,acts[i].ki%256%14=(k:Int):=⟨(acts[i].ki%256%14).toNat,by omega⟩;have hnx:=hca.next;have hbt:=hca.bits;have hjj:=hca.j;have hcc:=hca.core;dsimp only at hnx hbt hjj hcc;have hpos:1≤c.next:=hjj.pos;obtain⟨e,t,Q,G2,hact,hj2,hb2,hn2,hkp⟩:=hjj.act hca.bud (by dsimp only;omega) (show c.next<1000000 by omega) (k:=k) (by omega) (acts[i].ai%32) acts[i].at_ acts[i].n (data:=p0X acts[i].l acts[i].n) (q1C _ _).2;obtain⟨aa,hpa,hcl⟩:=hcell i hlt;subst hpa;refine go 9 ?_;refine a0D (g2I Tsl.o rfl rfl (by omega)) ?_;refine a0D (b2Y (vs:=p2Y acts[i]) Ag.o rfl gFd rfl hcl) ?_;refine ce 0 (l2C W hW ad s t bw H c acts[i].ki acts[i].ai acts[i].at_ acts[i].n (acts[i].ai%32) e acts[i].l k Q hk rfl (x2C hjj hbt) ⟨hjj.ci.dep,hjj.ci.log⟩ hcc hjj.sized hbt ⟨hpos,by omega⟩ hact) ?_;rintro⟨H2,c2⟩ ⟨hs2,hc2,hr2⟩;refine ns ?_;refine go 16 ?_;rw[show(e == e)=true by simp];refine go 8 ?_;exact rd idh (⟨(i+1,t,G2,c2,H2),hca.step hlt hi18 (by omega) (by omega) hact hj2 hb2 hn2 hc2 hr2⟩)
   ·refine go 1 ?_;exact me idh (⟨(s,G,c,H),hca.done⟩)
  ·refine go 9 ?_;refine c0J rfl (wg rfl rfl rfl (wTF (by simpa using (by omega: ¬(i:Int)<(acts.length:Int))))) ?_;refine c0J rfl (wg rfl rfl rfl (wTF (by simpa using (by omega: ¬(i:Int)<(acts.length:Int))))) ?_;refine a0D (i0W rfl (by simpa using (by omega: ¬(i:Int)<(acts.length:Int))) rfl) ?_;refine go 4 ?_;exact me idh (⟨(s,G,c,H),hca.done⟩)
 rintro⟨⟨s,G,c,H⟩,hcb⟩;have hnx:=hcb.next;have hbt:=hcb.bits;have hjb:=hcb.j;have hcc:=hcb.core;have hsm:=hcb.sml;dsimp only at hnx hbt hjb hcc hsm ⊢;have hpos:1≤c.next:=hjb.pos;have hnn:(er c).next=c.next:=rfl;have hel:(er c).l.length=c.l.length:=List.length_map ..;obtain⟨pr,capr,hlv,hcapr⟩:=d0Q hcc.vols;have hrow:=hcc.vols;rw[hlv]at hrow;have hfew:=hcc.few;simp only[RS,List.cons_append,List.nil_append];refine go 17 ?_;refine a0D (b0M (v:= .slice pr c.l.length capr) Sc.o rfl (by exact congrArg some hlv)) ?_;refine go 5 ?_;refine a0V (X:= {y:Nat×St // y.1≤c.l.length∧J y.2 G (er c)}) (fun y=> [(1,.int .i64 at0),(2,.int .i64 n0),(6,.bool false),(7,ptr bw),(62,.slice pr c.l.length capr),(63,.int .i64 c.l.length),(64,.int .i64 y.1.1)]) (fun y=>RS W ad y.1.2++ [h0N bw ad.core c,b0Z H,R]) (fun y=>c.l.length-y.1.1) ⟨(0,s),Nat.zero_le _,hjb⟩ gSu gSp ?_;rintro⟨⟨j,s⟩,hj,hJ⟩ m2 hm2
 try simp only at hm2
 try dsimp only
 simp only at hj hJ;simp only[RS,List.cons_append,List.nil_append];refine go 6 ?_;refine a0P rfl (fun hb65=> ?_) (fun hb65=> ?_)
 ·have hjl:j<c.l.length:=by have:=of_decide_eq_true hb65;omega
  have hje:j<(er c).l.length:=by omega
  have hjv:(er c).l[j]=c.l[j].v:=by simp[er]
  obtain⟨b,o,cap',cur,hv,hcp,hmem,hcut,hlen⟩:=g0G hrow (by omega);cases hv
  have hcu:(cur.drop (o+j*6)).take 6=a0S c.l[j]:=(h0R hcut hjl).trans (m0V c.l hjl);have hvi:=hcc.maps _ (List.getElem_mem hjl);have hin:c.l[j].v∈(er c).l:=List.mem_map.2 ⟨_,List.getElem_mem hjl,rfl⟩;have hid:=hJ.ids _ hin;have hwu:IntKind.u32.wrap c.l[j].v.id=c.l[j].v.id:=e0L .u32 _ (by omega) (by show c.l[j].v.id<2147483648;omega);obtain⟨x,hx,hxr⟩:=hJ.vol _ hin;have hsz:=hJ.size hx;have hxs:=hxr.size;refine go 7 ?_;refine a0D (e0U (vs:=a0S c.l[j]) Ag.o rfl gFd hmem hcu rfl (by decide)) ?_;refine al fun b14=> ?_;refine a0M Sz.o rfl rfl rfl (fun u hu=>q0Q hvi u (by simpa using hu)) (by simp[Value.cells,a0H,a0S]) (a0N (by simp[Value.cells,a0H,a0S])) ?_;refine go 9 ?_;refine a0P rfl (fun hb69=> ?_) (fun hb69=> ?_)
  ·refine go 6 ?_;exact rd idh (⟨(j+1,s),hjl,hJ⟩)
  ·have hon:c.l[j].v.only=false:=by simpa using hb69
   obtain⟨A,hA0⟩: ∃A:Nat,at0%65536%c.l[j].v.size=(A:Int):=⟨(at0%65536%c.l[j].v.size).toNat,by have:=Int.emod_nonneg (at0%65536) (show c.l[j].v.size≠0 by omega);omega⟩;have hAs:(A:Int)<c.l[j].v.size:=by rw[←hA0];exact Int.emod_lt_of_pos _ (by omega)
   obtain⟨K,hK0⟩: ∃K:Nat,min (n0%256%12) (c.l[j].v.size-A)=(K:Int):=⟨(min (n0%256%12) (c.l[j].v.size-A)).toNat,by omega⟩;have hAK:((A+K:Nat):Int)≤c.l[j].v.size:=by omega
   have hfi:=hJ.findOf hje;rw[hjv]at hfi;have hgd:(er c).l.getD j v0=c.l[j].v:=by rw[List.getD_eq_getElem?_getD,List.getElem?_eq_getElem hje,hjv];rfl
   have hrd:=hJ.readIn (at_:=A) (n:=K) hfi (by rw[hgd];unfold m0B;refine decide_eq_false ?_;omega);obtain⟨D,hD,hDl⟩: ∃D,m0C (er c) c.l[j].v.id A K=(D,0)∧D.length=K*64:=by unfold m0C;rw[hfi];simp only;rw[if_neg (by rw[hgd];unfold m0B;simp;omega)];exact⟨_,rfl,by rw[hgd,l1U hxr.map.ok,Int.toNat_natCast]⟩
   rw[hD]at hrd;obtain⟨s1,e1,j1,_⟩:=hJ.writeSame hje (by rw[hjv];exact hon) (a:=A) (n:=K) (by rw[hjv];exact hAK);rw[hjv,hD]at e1;obtain⟨s2,e2,j2,_⟩:=j1.writeNone hje (by rw[hjv];exact hon) (a:=A) (by rw[hjv];omega);rw[hjv]at e2;obtain⟨s3,e3,j3,_⟩:=j2.trimNone hje (by rw[hjv];exact hon) (a:=A) (by rw[hjv];omega);rw[hjv]at e3;obtain⟨s4,e4,j4,_⟩:=j3.resizeSame hje (by rw[hjv];exact hon);rw[hjv]at e4;have hh:=J.heldSame hJ j4;refine go 7 ?_;rw[hwu];refine go 6 ?_;refine a0D (n0Y rfl rfl) ?_;rw[show bits .and .i64 at0 65535=at0%65536 from a1L .i64 16 (.inr ⟨by decide,by decide⟩) 65535 (by decide) at0];refine go 3 ?_;rw[hA0];refine go 6 ?_;refine a0D (n0Y rfl rfl) ?_;rw[f1C _ (by decide)];refine go 6 ?_;rw[hK0];refine cg 12 (v1Y (W:=W) hrd ad) ?_;refine go 15 ?_;refine a0D (j0K Sc.o rfl gFd rfl) ?_;refine cg 0 (d2L ad s) ?_;refine go 4 ?_;refine f1J (.soft 0 (.soft 1 (.soft 2 (.soft 3 (.soft 4 (.soft 5 (.soft 6 (.soft 7 (.soft 8 (.soft 9 (.hard 10 (.soft 11 (.soft 12 (.soft 13 (.soft 14 (.soft 15 (.soft 16 (.soft 17 (.soft 18 (.soft 19 (.hard 20 (.soft 21 (.soft 22 (.soft 23 (.soft 24 (.soft 25 (.soft 26 (.soft 27 (.soft 28 (.soft 29 (.hard 30 (.soft 31 (.soft 32 (.soft 33 (.soft 34 (.soft 35 (.soft 36 (.soft 37 (.soft 38 (.soft 39 (.soft 40 (.hard 41 (.soft 42 (.soft 43 (.soft 44 (.soft 45 (.soft 46 (.soft 47 (.soft 48 (.soft 49 (.soft 50 (.soft 51 (.soft 53 (.hard 52 (.soft 54 (.soft 55 .done)))))))))))))))))))))))))))))))))))))))))))))))))))))))) [HLX ad,h0N bw ad.core c,v1F b14 c.l[j]] Fol.o (by kernel_rfl) (by repeat (first|with_reducible exact b0S.bp|with_reducible apply b0S.then|with_reducible apply b0S.inBlock)) (h0M gSp) ?_;refine go 12 ?_;refine b0U rfl Hb.o rfl (y0T (W:=W) hW (x2C hJ hbt) (by show D.length≤_;omega) e1 ad) gSp ?_;refine ns ?_;refine go 1 ?_;refine i0R (h0M gSp) ?_;refine cg 11 (y0T (W:=W) hW (x2C j1 hbt) (by decide) e2 ad) ?_;refine go 1 ?_;refine i0R (h0M gSp) ?_;refine cg 11 (p2W (W:=W) hW (x2C j2 hbt) e3 ad) ?_;refine go 1 ?_;refine i0R (h0M gSp) ?_;refine cg 12 (f2V (W:=W) hW (x2C j3 hbt) e4 ad) ?_;refine go 1 ?_;refine i0R (h0M gSp) ?_;refine go 9 ?_;refine v0K rfl (a1C Sc.o rfl gFd (fun _ _=>rfl)) (wg rfl rfl rfl (wFF rfl)) ?_;refine cg 3 (d2L ad s4) ?_;refine go 1 ?_;refine i0R (h0M gSp) ?_;refine go 4 ?_;refine b0R rfl (by simp[hh]) ?_;refine go 6 ?_;exact rd idh (⟨(j+1,s4),hjl,j4⟩)
 ·refine cg 5 (l2E W ad s bw H c G hJ hsm hcc (by omega)) ?_;refine go 3 ?_;exact rG
theorem y2H (W:World) (hW:h0W W) (v:Value) (hv:w1I W v) (at0:Int) (_:(Lit.int .i64 at0).wf=true) (n0:Int) (_:(Lit.int .i64 n0).wf=true):
 a0F prog 6 #[v,.int .i64 at0,.int .i64 n0] [whole W] (a0T (.bool true) [whole W]):=by
 obtain⟨acts,ha⟩:=u2T hv;exact y2G W hW w1J v acts ha at0 n0
end Go.Proofs.Q

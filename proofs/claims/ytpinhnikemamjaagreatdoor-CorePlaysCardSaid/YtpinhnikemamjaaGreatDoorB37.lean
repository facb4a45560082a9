/- Part of the proof; no statement of its own. -/
import Derived.Test.YtpinhnikemamjaaGreatDoorB18
import Derived.Test.YtpinhnikemamjaaGreatDoorB23
import Derived.Test.YtpinhnikemamjaaGreatDoorB36
import Derived.Test.YtpinhnikemamjaaGreatDoorB17
import Derived.Test.YtpinhnikemamjaaGreatDoorB13
set_option linter.all false
set_option maxRecDepth 4000
set_option maxHeartbeats 4000000
attribute [local irreducible] Go.Sl.a0O Go.Sl.OW Go.Sl.CW Go.Sl.OS Go.Sl.OM Go.Sl.OMf Go.Sl.KM
namespace Go.Proofs.Q
open Go.Sl Go.Sb Tryz
set_option maxRecDepth 8000
abbrev j1E (b bw:Nat):a0C:=pts b (.cells #[ptr bw] 26 (0,0))
abbrev j1F (b:Nat) (v:Value):a0C:=pts b (.cells #[v] 90 (0,0))
abbrev f2Z (v:Value) (l:List Int):a0C:=b0H 3 1 v l.length (j0P l)
abbrev l1X (a:Ad) (b1 b4 b9 bw:Nat) (c:Rx) (rv:Value) (roots:List Int):a0C:=b0D [j1E b1 bw,j1F b4 rv,j1F b9 (.slice none 0 0),f2Z rv roots,h0N bw a.core c]
abbrev l1Y (a:Ad) (b1 b9 bw:Nat) (c:Rx) (n:Nat):a0C:=ex fun x:Value×List Int=>b0D [m0K (x.2.length=n),j1E b1 bw,j1F b9 x.1,f2Z x.1 x.2,h0N bw a.core c]
theorem g2A (W:World) (a:Ad) (s:St) (G:Gh) (P:List Int) (hi:Inv s G P) (b1 b4 b9 bw:Nat) (c:Rx) (rv:Value) (hrv:rv.oneCell'=true) (roots:List Int) (hk: ∀r∈roots,a0Y G 3 r) (hP: ∀p∈P,p∈roots) (hrl:roots.length≤1000):
 a0F prog 55 #[ptr b1,ptr b4,ptr b9] (RS W a s++ [l1X a b1 b4 b9 bw c rv roots]) (Ran fT (RSC W a (l1X a b1 b4 b9 bw c rv roots) fun _:Unit=>l1Y a b1 b9 bw c (s.g.count 1)) k0I (f0F (ret ()) (s,.start))):=by
 refine ns ?_
 refine en func55 ntmps55 fun R w0=> ?_
 refine k0Q (show Fnd _ (l1X a b1 b4 b9 bw c rv roots) _ from gFd) ?_
 refine ns ?_
 refine tl 8 ?_
 refine go 6 ?_
 refine b0X (j0K Sc.o rfl gFd rfl) ?_
 refine ce 2 (q1M W a s G P hi roots hk hP rv hrl) ?_
 rintro⟨v,xs⟩ hx
 refine ns ?_
 dsimp only at hx ⊢
 refine y0K (e:=3) (v:=v) gFd fun hv1=> ?_
 refine go 2 ?_
 refine b0G (L':=l1Y a b1 b9 bw c (s.g.count 1)::(RS W a s++ [R])) (fun w h=>g0X.2 ⟨(v,xs),b0J.2 ?_⟩) ?_
 ·refine ns ?_
  exact n0H hx w (h.sub gSp)
 ·exact fR (s:=(s,.done ())) rfl
theorem u2R (x:Ent):eqK [0,0,2,0,0,0] (h0L x) (h0L x)=some true:=by simp[h0L,eqK]
theorem u2S {α:Type} {m:M α} {s t t':St} {e:Int} {c c':Car α} (h:n0T (f0F m) (s,.start)=(.ok e,(t,c))) (h':h0V m s=(.ok (0,c'),t')):0=e∧c'=c∧t'=t:=by
 rw[s0M h]at h'
 simp only[Prod.mk.injEq,Out.ok.injEq]at h'
 exact⟨h'.1.1.symm,h'.1.2.symm,h'.2.symm⟩
theorem b2K {s:St} {G:Gh} (h:CI s G):h0V (ret ():M Unit) s=(.ok (0,.done ()),s):=by
 have:=q0I h (m:=(ret ():M Unit)) (a:=()) rfl (Rel.refl h.deep.u)
 rw[s1H h.dep h.log h.gone]at this
 exact this
theorem l2E (W:World) (a:Ad) (s:St) (bw:Nat) (H:b0A) (c:Rx) (G:Gh) (hJ:J s G (er c)) (hsm:Sml (er c)) (hc:c0T H c) (hnx:c.next<1000000):
 a0F prog 16 #[ptr bw] (RS W a s++ [h0N bw a.core c,b0Z H]) (a0T (.bool true) (RS W a s++ [h0N bw a.core c,b0Z H])):=by
 have hel:(er c).l.length=c.l.length:=List.length_map ..
 have h16:s.vols.length≤16:=hJ.ci.few
 have hcl:c.l.length≤16:=by have:=hJ.len;omega
 have hnn:(er c).next=c.next:=rfl
 have hpos:=hJ.pos
 have hsn:=hJ.next
 have hwn:IntKind.i64.wrap s.next=c.next:=by rw[hsn];exact e0L .i64 _ (by omega) (by show(er c).next<9223372036854775808;omega)
 obtain⟨pr,capr,hlv,hcapr⟩:=d0Q hc.vols
 have hrow:=hc.vols
 rw[hlv]at hrow
 obtain⟨roots,hroots⟩: ∃roots,roots=(er c).l.map (x0N s):=⟨_,rfl⟩
 have hrtl:roots.length=c.l.length:=by rw[hroots,List.length_map,hel]
 refine ns ?_
 refine en func16 ntmps16 fun R w0=> ?_
 refine go 2 ?_
 refine bx fun b1=> ?_
 refine ce 9 (v1P a s h16 hJ.ci.inv.u.m.vols) ?_
 rintro⟨lv,xs⟩ ⟨h1,h2⟩
 refine ns ?_
 dsimp only at h1 h2 ⊢
 have hxs:=hJ.keys h1 h2
 have hxl:xs.length=c.l.length:=by rw[hxs,List.length_map,hel]
 clear h1 h2
 refine go 5 ?_
 refine o0L (e:=50) (v:=lv) gFd fun pe cape hve hcape _=> ?_
 subst hve
 refine mx (.r 0 14 (.r 16 5 (.hard 14 (.soft 15 (.r 21 2 .done))))) [j1E b1 bw,h0N bw a.core c] ?_
 refine go 6 ?_
 refine c0V rfl (b0M (v:= .slice pr c.l.length capr) Sc.o rfl (by exact congrArg some hlv)) ?_
 refine cg 14 (f2S W a s) ?_
 refine go 3 ?_
 rw[hwn]
 refine go 9 ?_
 refine bl fun b39=> ?_
 refine al fun b4=> ?_
 refine go 10 ?_
 refine a0D (b0M (v:= .slice pr c.l.length capr) Sc.o rfl (by exact congrArg some hlv)) ?_
 refine go 5 ?_
 refine b0V (fun w h=>n0U 1 ((show Fnd _ (pts b39 _) _ from gFd).sat h)) ?_
 refine a0V (X:= {y:Nat×Value // y.1≤c.l.length∧y.2.oneCell'=true}) (fun y=> [(1,ptr b1),(2,.bool false),(3,.slice pe xs.length cape),(4,ptr b4),(44,.slice pr c.l.length capr),(45,.int .i64 c.l.length),(46,.int .i64 y.1.1)]) (fun y=>RS W a s++ [h0N bw a.core c,b0Z H,j1E b1 bw,j1F b4 y.1.2,b0H 3 1 y.1.2 y.1.1 (j0P (roots.take y.1.1)),b0H 50 6 (.slice pe xs.length cape) xs.length (xs.flatMap (c1I s)),R]) (fun y=>c.l.length-y.1.1) ⟨(0,.slice (some ⟨b39,0,none⟩) 0 0),Nat.zero_le _,rfl⟩ gSu gSp ?_
 rintro⟨⟨j,rv⟩,hj,hrv⟩ m0 hm0
 try simp only at hm0
 try dsimp only
 simp only at hj hrv
 refine ns ?_
 refine go 6 ?_
 refine a0P rfl (fun hb47=> ?_) (fun hb47=> ?_)
 ·have hjl:j<c.l.length:=by have:=of_decide_eq_true hb47;omega
  have hjr:j<roots.length:=by omega
  obtain⟨b,o,cap',cur,hv,hcp,hmem,hcut,hlen⟩:=g0G hrow (by omega)
  cases hv
  have hcu:(cur.drop (o+j*6)).take 6=a0S c.l[j]:=(h0R hcut hjl).trans (m0V c.l hjl)
  have hvi:=hc.maps _ (List.getElem_mem hjl)
  have hin:c.l[j].v∈(er c).l:=List.mem_map.2 ⟨_,List.getElem_mem hjl,rfl⟩
  have hid:=hJ.ids _ hin
  have hwu:IntKind.u32.wrap c.l[j].v.id=c.l[j].v.id:=e0L .u32 _ (by omega) (by show c.l[j].v.id<2147483648;omega)
  obtain⟨x,hx,hxr⟩:=hJ.vol _ hin
  refine i0Y (e:=50) (v:= .slice pe xs.length cape) gFd (by omega) fun be cpe hve2 hcpe=> ?_
  cases hve2
  have hxj:xs[j]'(by omega)=c.l[j].v.id:=by simp[hxs,er]
  have hcut2:((xs.flatMap (c1I s)).drop (j*6)).take 6=h0L x:=by rw[q0E (f:=c1I s) (size:=6) (fun _=>rfl) xs (by omega)];show h0L ((a0E xs[j] s.vols).getD h0T)=_;rw[hxj,hx];rfl
  have hrj:roots[j]=x.root:=by have:x0N s c.l[j].v=x.root:=(by unfold x0N;rw[hx];rfl);simp[hroots,er,this]
  refine go 8 ?_
  refine a0D (e0U (vs:=a0S c.l[j]) Ag.o rfl gFd hmem hcu rfl (by decide)) ?_
  refine al fun b6=> ?_
  refine go 1 ?_
  refine a0M Sz.o rfl rfl rfl (fun u hu=>q0Q hvi u (by simpa using hu)) (by simp[Value.cells,a0H,a0S]) (a0N (by simp[Value.cells,a0H,a0S])) ?_
  refine go 3 ?_
  refine fx (.r 0 7 (.float 11 (.hard 7 (.r 8 3 (.res (.hard 12 (.soft 13 .done))))))) [h0N bw a.core c,j1E b1 bw,v1F b6 c.l[j]] ?_
  refine go 7 ?_
  refine l0Z (e0:= []) rfl gSu (fun _ _ _=>rfl) Zr.o rfl ?_
  rw[hwu]
  refine c0F rfl (fun hok EE FF=> ?_)
  refine ns ?_
  refine cg 0 ((by have h:=e1P W a s c.l[j].v.id;rw[hx]at h;exact h)) ?_
  refine go 1 ?_
  refine fn (E:=EE) (F:=FF) (hok.put rfl) ?_
  refine go 3 ?_
  refine n0A (fun b7=> ?_)
  dsimp only
  refine c0F rfl (fun hok EE FF=> ?_)
  refine ns ?_
  refine go 2 ?_
  refine fn (E:=EE) (F:=FF) hok ?_
  refine go 5 ?_
  refine tl 14 ?_
  refine go 7 ?_
  refine m0W (wg rfl rfl rfl (wFF rfl)) (c1Z (e:=50) (size:=6) (xs:=xs.flatMap (c1I s)) Ag.o rfl gFd (vs:=h0L x) (by rw[Nat.zero_add];exact hcut2) rfl (by decide)) ?_
  refine m0W (wg rfl rfl rfl (wFF rfl)) (t1D F.fk50 rfl rfl (u2R x)) ?_
  refine cg 7 (u2Q W a s bw H c G hJ hsm hc hnx j hjl x hx) ?_
  refine go 11 ?_
  refine bl fun b82=> ?_
  refine(c0Z Tsl.o Ttb.o Zr.o rfl rfl rfl gFd (e0Z Tsl.o (by simp;rfl) (by simp) (by simp[Value.oneCell'])) (by simp only[maxLen];omega) (by omega) (fun v83 hv83=> ?_))
  refine go 2 ?_
  rw[show j0P (roots.take j)++ [Value.int .i64 x.root]=j0P (roots.take (j+1)) by rw[List.take_succ,List.getElem?_eq_getElem hjr,hrj];simp[j0P]]
  refine go 5 ?_
  exact rd idh (⟨(j+1,v83),hjl,hv83⟩)
 ·obtain rfl:j=c.l.length:=by have:=of_decide_eq_false hb47;omega
  rw[show b0H 3 1 rv c.l.length (j0P (roots.take c.l.length))=f2Z rv roots by rw[List.take_of_length_le (by omega),←hrtl]]
  refine go 4 ?_
  refine al fun b9=> ?_
  refine go 10 ?_
  refine a0D (j0K Sc.o rfl gFd rfl) ?_
  refine go 1 ?_
  refine e0K (k0Z (N:= [j1E b1 bw,j1F b4 rv,j1F b9 (.slice none 0 0),f2Z rv roots,h0N bw a.core c]) gSp) ?_
  refine a0X rfl Hb.o rfl (t0D (C:=Car Unit) W a (u0A (l1X a b1 b4 b9 bw c rv roots) (fun _:Unit=>l1Y a b1 b9 bw c (s.g.count 1))) 55 [ptr b1,ptr b4,ptr b9] (f0F (ret ())) s .start Hb.o (c1G (by rw[b2K hJ.ci];simp)) (fun _=>g2A W a {s with depth:=s.depth+1} G (h0J s) (by rw[hJ.ci.dep];exact hJ.ci.deep) b1 b4 b9 bw c rv hrv roots (by rw[hroots];exact hJ.rootKid) (by rw[hroots];exact hJ.rootAll) (by omega))) gSp (fun e ⟨t,oc⟩ ho=> ?_) (fun e t ho=>by refine pn ?_;(exact(m0F ho).elim))
  refine ns ?_
  refine go 2 ?_
  obtain⟨rfl,rfl,rfl⟩:=u2S ho (b2K hJ.ci)
  simp only[u0A]
  refine go 2 ?_
  refine u0N (show Fnd _ (l1Y a b1 b9 bw c (s.g.count 1)) _ from gFd) fun x=> ?_
  obtain⟨rv2,ys⟩:=x
  refine ns ?_
  refine o0E (p:=ys.length=s.g.count 1) gFd fun hyl=> ?_
  refine o0L (e:=3) (v:=rv2) gFd fun py cpy hvy hcpy _=> ?_
  subst hvy
  refine f1J (.soft 0 (.soft 1 (.soft 2 (.soft 3 (.soft 4 (.soft 5 (.soft 6 (.soft 7 (.soft 8 (.soft 9 (.soft 10 (.soft 11 (.hard 12 (.soft 13 (.soft 14 (.soft 15 .done)))))))))))))))) [HLX a,j1E b1 bw,j1F b9 (.slice py ys.length cpy),h0N bw a.core c] Fol.o (by kernel_rfl) (by repeat (first|with_reducible exact b0S.bp|with_reducible apply b0S.then|with_reducible apply b0S.inBlock)) (h0M gSp) ?_
  refine go 11 ?_
  refine v0K rfl (a1C Sc.o rfl gFd (fun _ _=>rfl)) (wg rfl rfl rfl (wTT rfl)) ?_
  refine cg 2 (d2L a s) ?_
  refine go 1 ?_
  refine i0R (h0M gSp) ?_
  refine go 5 ?_
  exact rG (hu:=(by rw[hyl];simp[q2E]))
end Go.Proofs.Q
namespace Go.Proofs.Q
open Go.Sl Go.Sb Tryz
theorem h1A {α:Type} {Q:Nat→α→Prop} : ∀n:Nat,(∀i,i<n→ ∃x,Q i x)→ ∃l:List α,l.length=n∧ ∀i (h:i<l.length),Q i l[i]
 |0,_=>⟨[],rfl,fun i h=>absurd h (Nat.not_lt_zero _)⟩
 |n+1,h=>by
  obtain⟨l,hl,hq⟩:=h1A n fun i hi=>h i (by omega)
  obtain⟨x,hx⟩:=h n (by omega)
  refine⟨l++ [x],by simp[hl],fun i hi=> ?_⟩
  by_cases e:i<l.length
  ·rw[List.getElem_append_left e];exact hq i e
  ·have hi':i=n:=by rw[List.length_append,List.length_singleton]at hi;omega
   subst hi'
   rw[List.getElem_append_right (by omega)]
   simpa using hx
theorem y2C (s:ByteArray): ∃l:B,s=bs l:=⟨s.data.toList,by show s=ByteArray.mk s.data.toList.toArray;simp⟩
def w1I (W:World) (v:Value):Prop:= ∃(p:Option Addr) (n cap:Nat),v= .slice p n cap∧n≤maxLen∧ ∀i,i<n→ ∃A,p=some A∧ ∃a b c d s,∀q u,(m2W a b c d s)[q]? =some u→W.cell? ((A.add (i*5)).add q)=some u
theorem u2T {W:World} {v:Value} (h:w1I W v): ∃acts,l2D W v acts:=by
 obtain⟨p,n,cap,rfl,hn,hc⟩:=h
 obtain⟨l,hl,hq⟩:=h1A (Q:=fun i (x:AP)=> ∃a,p=some a∧ ∀q u,(p2Y x)[q]? =some u→W.cell? ((a.add (i*5)).add q)=some u) n fun i hi=>by
  obtain⟨A,hp,a,b,c,d,s,hcell⟩:=hc i hi
  obtain⟨l,rfl⟩:=y2C s
  exact⟨{ki:=a,ai:=b,at_:=c,n:=d,l:=l},A,hp,hcell⟩
 exact⟨l,p,cap,by rw[hl],by omega,hq⟩
theorem w1J:e1W (j0T (g0A 100) 2 256 1):=w1U
section
structure CP (m n:Nat) (x:Nat×St×Gh×Rx×b0A):Prop where
 le:x.1≤n
 lim:x.1≤m
 j:J x.2.1 x.2.2.1 (er x.2.2.2.1)
 bud:Bud x.1 x.2.1 (er x.2.2.2.1)
 next:x.2.2.2.1.next≤1+x.1
 bits:x.2.2.2.1.bits≤256
 core:c0T x.2.2.2.2 x.2.2.2.1
 sml:Sml (er x.2.2.2.1)
structure CQ (m:Nat) (x:St×Gh×Rx×b0A):Prop where
 j:J x.1 x.2.1 (er x.2.2.1)
 bud:Bud m x.1 (er x.2.2.1)
 next:x.2.2.1.next≤1+m
 bits:x.2.2.1.bits≤256
 core:c0T x.2.2.2 x.2.2.1
 sml:Sml (er x.2.2.1)
def cbx (bits:Nat):Rx:= {lv:= .slice none 0 0,l:= [],next:=1,bits:=bits,epoch:=1}
theorem cp0 (m n bits:Nat) (hb:1≤bits∧bits≤256):CP m n (0,j0T (g0A (2498+2)) 2 bits 1,[],cbx bits,[]) where
 le:=Nat.zero_le _
 lim:=Nat.zero_le _
 j:=v2W bits hb
 bud:=m2V bits
 next:=by show(1:Int)≤1+((0:Nat):Int);decide
 bits:=hb.2
 core:=⟨j1X _ _ _,fun x hx=>(by cases hx),by show 0≤1000;decide⟩
 sml:=sml0 bits
theorem CP.done {m n:Nat} {i:Nat} {s:St} {G:Gh} {c:Rx} {H:b0A} (h:CP m n (i,s,G,c,H)):CQ m (s,G,c,H):=
 ⟨h.j,p2Z h.bud h.lim,by have h1:=h.next;have h2:=h.lim;simp only at h1 h2 ⊢;omega,h.bits,h.core,h.sml⟩
theorem CP.step {m n:Nat} {i:Nat} {s t:St} {G G2:Gh} {c c2:Rx} {H H2:b0A} {k:Nat} {id at_ nn e:Int} {data:B} {Q:Rp} (h:CP m n (i,s,G,c,H)) (hn:i<n) (hm:i<m) (hk:k<14) (hid:0≤id∧id<32) (hact:b1J k id at_ nn data s (er c) e t Q)
 (hj2:J t G2 Q) (hb2:Bud (i+1) t Q) (hn2:Q.next≤(er c).next+1) (hc2:c0T H2 c2) (hr2:er c2=Q):CP m n (i+1,t,G2,c2,H2) where
 le:=hn
 lim:=hm
 j:=by show J t G2 (er c2);rw[hr2];exact hj2
 bud:=by show Bud (i+1) t (er c2);rw[hr2];exact hb2
 next:=by
  have e1:c2.next=Q.next:=congrArg (fun q:Rp=>q.next) hr2
  have e2:(er c).next=c.next:=rfl
  have:=h.next
  simp only at this
  show c2.next≤1+((i+1:Nat):Int);omega
 bits:=by
  have e1:c2.bits=Q.bits:=congrArg (fun q:Rp=>q.bits) hr2
  have e2:=hact.bits_ hk
  have e3:(er c).bits=c.bits:=rfl
  have:=h.bits
  show c2.bits≤256
  simp only at this
  omega
 core:=hc2
 sml:=by show Sml (er c2);rw[hr2];exact hact.sml hk hid h.sml
set_option maxRecDepth 8000
theorem n1Y (W:World) (hW:h0W W) (hA:e1W (j0T (g0A 100) 2 256 1)) (ib:Int) (v:Value) (acts:List AP) (hv:l2D W v acts):
 a0F prog 4 #[.int .i64 ib,v] [whole W] (a0T (.bool true) [whole W]):=by
 obtain⟨p,cap,rfl,hml,hcell⟩:=hv
 have hmax:acts.length≤9223372036854775807:=Nat.le_trans hml (by decide)
 obtain⟨bits,hbits⟩: ∃bits:Nat,min (max ib 1) 256=(bits:Int):=⟨(min (max ib 1) 256).toNat,by omega⟩
 have hb1:1≤bits∧bits≤256:=by omega
 refine en func4 ntmps4 fun R w0=> ?_
 refine cg 8 (f2M W hW hA) ?_
 refine ce 9 (v1O W 2498 bits ib hbits (by omega) hb1) ?_
 rintro⟨ad,bw⟩ _
 refine ns ?_
 refine go 7 ?_
 refine i0P (X:= {y:St×Gh×Rx×b0A // CQ 18 y}) (fun y=> [(4,.bool false),(5,ptr bw),(6,.bool true)]) (fun y=>RS W ad y.1.1++ [h0N bw ad.core y.1.2.2.1,b0Z y.1.2.2.2,R]) ?_ ?_
 ·refine go 6 ?_
  refine b0V (fun w h=>m2A h) ?_
  refine a0V (X:= {y:Nat×St×Gh×Rx×b0A // CP 18 acts.length y}) (fun y=> [(1,.slice p acts.length cap),(4,.bool false),(5,ptr bw),(6,.bool true),(7,.int .i64 (y.1.1:Nat))]) (fun y=>RS W ad y.1.2.1++ [h0N bw ad.core y.1.2.2.2.1,b0Z y.1.2.2.2.2,R]) (fun y=>acts.length-y.1.1) ⟨_,cp0 18 acts.length bits hb1⟩ gSu gSp ?_
  rintro⟨⟨i,s,G,c,H⟩,hca⟩ m0 hm0
  try simp only at hm0
  try dsimp only
  have hle:=hca.le
  have h18:=hca.lim
  dsimp only at hle h18
  simp only[RS,List.cons_append,List.nil_append]
  refine go 2 ?_
  by_cases hlt:i<acts.length
  ·refine go 9 ?_
   refine c0R (d0V rfl) (wg rfl rfl rfl (wTT (by simpa using (by omega:(i:Int)<(acts.length:Int))))) ?_
   refine c0R (q2D rfl rfl) (wg rfl rfl rfl (wTT (by simpa using (by omega:(i:Int)<(acts.length:Int))))) ?_
   refine a0D (i0B rfl (by simpa using (by omega:(i:Int)<(acts.length:Int))) rfl) ?_
   refine go 2 ?_
   refine a0P rfl (fun hb28=> ?_) (fun hb28=> ?_)
   ·have hi18:i<18:=by have:=of_decide_eq_true hb28;omega
    obtain⟨k,hk⟩: ∃k:Nat,acts[i].ki%256%14=(k:Int):=⟨(acts[i].ki%256%14).toNat,by omega⟩
    have hnx:=hca.next
    have hbt:=hca.bits
    have hjj:=hca.j
    have hcc:=hca.core
    dsimp only at hnx hbt hjj hcc
    have hpos:1≤c.next:=hjj.pos
    obtain⟨e,t,Q,G2,hact,hj2,hb2,hn2,hkp⟩:=hjj.act hca.bud (by dsimp only;omega) (show c.next<1000000 by omega) (k:=k) (by omega) (acts[i].ai%32) acts[i].at_ acts[i].n (data:=p0X acts[i].l acts[i].n) (q1C _ _).2
    obtain⟨aa,hpa,hcl⟩:=hcell i hlt
    subst hpa
    refine go 9 ?_
    refine a0D (g2I Tsl.o rfl rfl (by omega)) ?_
    refine a0D (b2Y (vs:=p2Y acts[i]) Ag.o rfl gFd rfl hcl) ?_
    refine ce 0 (l2C W hW ad s t bw H c acts[i].ki acts[i].ai acts[i].at_ acts[i].n (acts[i].ai%32) e acts[i].l k Q hk rfl (x2C hjj hbt) ⟨hjj.ci.dep,hjj.ci.log⟩ hcc hjj.sized hbt ⟨hpos,by omega⟩ hact) ?_
    rintro⟨H2,c2⟩ ⟨hs2,hc2,hr2⟩
    refine ns ?_
    refine go 16 ?_
    rw[show(e == e)=true by simp]
    refine go 8 ?_
    exact rd idh (⟨(i+1,t,G2,c2,H2),hca.step hlt hi18 (by omega) (by omega) hact hj2 hb2 hn2 hc2 hr2⟩)
   ·refine go 1 ?_
    exact me idh (⟨(s,G,c,H),hca.done⟩)
  ·refine go 9 ?_
   refine c0J rfl (wg rfl rfl rfl (wTF (by simpa using (by omega: ¬(i:Int)<(acts.length:Int))))) ?_
   refine c0J rfl (wg rfl rfl rfl (wTF (by simpa using (by omega: ¬(i:Int)<(acts.length:Int))))) ?_
   refine a0D (i0W rfl (by simpa using (by omega: ¬(i:Int)<(acts.length:Int))) rfl) ?_
   refine go 4 ?_
   exact me idh (⟨(s,G,c,H),hca.done⟩)
 rintro⟨⟨s,G,c,H⟩,hcb⟩
 have hnx:=hcb.next
 dsimp only at hnx ⊢
 simp only[RS,List.cons_append,List.nil_append]
 refine cg 6 (l2E W ad s bw H c G hcb.j hcb.sml hcb.core (by omega)) ?_
 refine go 4 ?_
 exact rG
theorem n1Z (W:World) (hW:h0W W) (ib:Int) (_:(Lit.int .i64 ib).wf=true) (v:Value) (hv:w1I W v):
 a0F prog 4 #[.int .i64 ib,v] [whole W] (a0T (.bool true) [whole W]):=by
 obtain⟨acts,ha⟩:=u2T hv
 exact n1Y W hW w1J ib v acts ha
end
end Go.Proofs.Q

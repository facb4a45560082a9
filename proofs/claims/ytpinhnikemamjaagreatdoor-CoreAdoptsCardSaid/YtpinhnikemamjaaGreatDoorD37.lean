/- Part of the proof; no statement of its own. -/
import Derived.Test.YtpinhnikemamjaaGreatDoorD19
import Derived.Test.YtpinhnikemamjaaGreatDoorD24
import Derived.Test.YtpinhnikemamjaaGreatDoorD36
import Derived.Test.YtpinhnikemamjaaGreatDoorD27
import Derived.Test.YtpinhnikemamjaaGreatDoorD18
import Derived.Test.YtpinhnikemamjaaGreatDoorD13
set_option linter.all false
set_option maxRecDepth 4000
set_option maxHeartbeats 4000000
attribute [local irreducible] Go.Sl.a0P Go.Sl.OW Go.Sl.CW Go.Sl.OS Go.Sl.OM Go.Sl.OMf Go.Sl.KM
namespace Go.Proofs.Q
open Go.Sl Go.Sb Tryz
set_option maxRecDepth 8000
abbrev s0N (b bw:Nat):a0E:=pts b (.cells #[ptr bw] 26 (0,0))
abbrev k1L (b:Nat) (v:Value):a0E:=pts b (.cells #[v] 90 (0,0))
abbrev i2C (v:Value) (l:List Int):a0E:=b0I 3 1 v l.length (j0W l)
abbrev n1G (a:Ad) (b1 b4 b9 bw:Nat) (c:Rx) (rv:Value) (roots:List Int):a0E:=b0E [s0N b1 bw,k1L b4 rv,k1L b9 (.slice none 0 0),i2C rv roots,f0Z bw a.core c]
abbrev n1H (a:Ad) (b1 b9 bw:Nat) (c:Rx) (n:Nat):a0E:=ex fun x:Value×List Int=>b0E [m0X (x.2.length=n),s0N b1 bw,k1L b9 x.1,i2C x.1 x.2,f0Z bw a.core c]
theorem i2D (W:World) (a:Ad) (s:St) (G:Gh) (P:List Int) (hi:Inv s G P) (b j d f:Nat) (c:Rx) (i:Value) (n:i.oneCell'=true) (roots:List Int) (m: ∀r∈roots,a0W G 3 r) (l: ∀p∈P,p∈roots) (k:roots.length≤1000):
 a0G prog 55 #[ptr b,ptr j,ptr d] (RS W a s++ [n1G a b j d f c i roots]) (Ran fT (RSC W a (n1G a b j d f c i roots) fun _:Unit=>n1H a b d f c (s.g.count 1)) i0S (f0P (ret ()) (s,.start))):=by
 refine ns ?_;refine en func55 ntmps55 fun R w0=> ?_;refine l0C (show Fnd _ (n1G a b j d f c i roots) _ from gFd) ?_;refine ns ?_;refine tl 8 ?_;refine go 6 ?_;refine b0V (j0R Sc.o rfl gFd rfl) ?_;refine ce 2 (r1Y W a s G P hi roots m l i k) ?_;rintro⟨v,xs⟩ hx;refine ns ?_;dsimp only at hx ⊢;refine z0F (e:=3) (v:=v) gFd fun q=> ?_;refine go 2 ?_;refine b0F (L':=n1H a b d f c (s.g.count 1)::(RS W a s++ [R])) (fun w h=>g0K.2 ⟨(v,xs),b0M.2 ?_⟩) ?_
 ·refine ns ?_;exact n0V hx w (h.sub gSp)
 ·exact fR (s:=(s,.done ())) rfl
theorem w2Q (x:Ent):eqK [0,0,2,0,0,0] (f0U x) (f0U x)=some true:=by simp[f0U,eqK]
theorem w2R {α:Type} {m:M α} {s t b:St} {e:Int} {c c':Car α} (h:o0J (f0P m) (s,.start)=(.ok e,(t,c))) (a:i0K m s=(.ok (0,c'),b)):0=e∧c'=c∧b=t:=by
 rw[t0A h]at a;simp only[Prod.mk.injEq,Out.ok.injEq]at a;exact⟨a.1.1.symm,a.1.2.symm,a.2.symm⟩
theorem d2J {s:St} {G:Gh} (h:CI s G):i0K (ret ():M Unit) s=(.ok (0,.done ()),s):=by
 have:=q0U h (m:=(ret ():M Unit)) (a:=()) rfl (Rel.refl h.deep.u);rw[t1V h.dep h.log h.gone]at this;exact this
theorem i2E (W:World) (a:Ad) (s:St) (i:Nat) (H:b0B) (c:Rx) (G:Gh) (ep:Int) (k:J s G {er c with epoch:=ep}) (hsm:Sml (er c)) (hc:c0Z H c) (hnx:c.next<1000000):
 a0G prog 16 #[ptr i] (RS W a s++ [f0Z i a.core c,c0B H]) (a0T (.bool true) (RS W a s++ [f0Z i a.core c,c0B H])):=by
 have S:(er c).l.length=c.l.length:=List.length_map ..;have h16:s.vols.length≤16:=k.ci.few;have hcl:c.l.length≤16:=by have h:s.vols.length=(er c).l.length:=k.len;omega
 have hnn:(er c).next=c.next:=rfl;have hpos:1≤(er c).next:=k.pos;have hsn:s.next=(er c).next:=k.next;have hwn:IntKind.i64.wrap s.next=c.next:=by rw[hsn];exact e0P .i64 _ (by omega) (by show(er c).next<9223372036854775808;omega)
 obtain⟨pr,A,L,hcapr⟩:=d0W hc.vols;have D:=hc.vols;rw[L]at D;obtain⟨roots,d⟩: ∃roots,roots=(er c).l.map (y0H s):=⟨_,rfl⟩;have V:roots.length=c.l.length:=by rw[d,List.length_map,S]
 refine ns ?_;refine en func16 ntmps16 fun R w0=> ?_;refine go 2 ?_;refine bx fun q=> ?_;refine ce 9 (g1A a s h16 k.ci.inv.u.m.vols) ?_;rintro⟨lv,xs⟩ ⟨h1,h2⟩;refine ns ?_;dsimp only at h1 h2 ⊢;have hxs:xs=(er c).l.map (·.id):=k.keys h1 h2;have hxl:xs.length=c.l.length:=by rw[hxs,List.length_map,S]
 clear h1 h2;refine go 5 ?_;refine n0W (e:=50) (v:=lv) gFd fun pe z hve hcape _=> ?_;subst hve;refine mx (.r 0 14 (.r 16 5 (.hard 14 (.soft 15 (.r 21 2 .done))))) [s0N q i,f0Z i a.core c] ?_;refine go 6 ?_;refine d0A rfl (b0N (v:= .slice pr c.l.length A) Sc.o rfl (by exact congrArg some L)) ?_;refine cg 14 (n1F W a s) ?_;refine go 3 ?_;rw[hwn];refine go 9 ?_;refine bl fun P=> ?_;refine al fun O=> ?_;refine go 10 ?_;refine a0D (b0N (v:= .slice pr c.l.length A) Sc.o rfl (by exact congrArg some L)) ?_;refine go 5 ?_;refine b0U (fun w h=>o0K 1 ((show Fnd _ (pts P _) _ from gFd).sat h)) ?_;refine a0V (X:= {y:Nat×Value // y.1≤c.l.length∧y.2.oneCell'=true}) (fun y=> [(1,ptr q),(2,.bool false),(3,.slice pe xs.length z),(4,ptr O),(44,.slice pr c.l.length A),(45,.int .i64 c.l.length),(46,.int .i64 y.1.1)]) (fun y=>RS W a s++ [f0Z i a.core c,c0B H,s0N q i,k1L O y.1.2,b0I 3 1 y.1.2 y.1.1 (j0W (roots.take y.1.1)),b0I 50 6 (.slice pe xs.length z) xs.length (xs.flatMap (a1H s)),R]) (fun y=>c.l.length-y.1.1) ⟨(0,.slice (some ⟨P,0,none⟩) 0 0),Nat.zero_le _,rfl⟩ gSu gSp ?_;rintro⟨⟨j,rv⟩,hj,hrv⟩ m0 hm0
 try simp only at hm0
 try dsimp only
 simp only at hj hrv;refine ns ?_;refine go 6 ?_;refine a0O rfl (fun B=> ?_) (fun B=> ?_)
 ·have n:j<c.l.length:=by have:=of_decide_eq_true B;omega
  have hjr:j<roots.length:=by omega
  obtain⟨b,o,cap',cur,hv,hcp,U,Q,hlen⟩:=g0V D (by omega);cases hv
  have hcu:(cur.drop (o+j*6)).take 6=a0S c.l[j]:=(i0I Q n).trans (n0G c.l n);have hvi:=hc.maps _ (List.getElem_mem n);have T:c.l[j].v∈(er c).l:=List.mem_map.2 ⟨_,List.getElem_mem n,rfl⟩;have hid:1≤c.l[j].v.id∧c.l[j].v.id<(er c).next:=k.ids _ T;have hwu:IntKind.u32.wrap c.l[j].v.id=c.l[j].v.id:=e0P .u32 _ (by omega) (by show c.l[j].v.id<2147483648;omega);obtain⟨x,hx,hxr⟩:=k.vol c.l[j].v T;refine i0T (e:=50) (v:= .slice pe xs.length z) gFd (by omega) fun be cpe Z hcpe=> ?_;cases Z
  have hxj:xs[j]'(by omega)=c.l[j].v.id:=by simp[hxs,er]
  have K:((xs.flatMap (a1H s)).drop (j*6)).take 6=f0U x:=by rw[p0J (f:=a1H s) (size:=6) (fun _=>rfl) xs (by omega)];show f0U ((a0C xs[j] s.vols).getD g0L)=_;rw[hxj,hx];rfl
  have hrj:roots[j]=x.root:=by have:y0H s c.l[j].v=x.root:=(by unfold y0H;rw[hx];rfl);simp[d,er,this]
  refine go 8 ?_;refine a0D (f0A (vs:=a0S c.l[j]) Ag.o rfl gFd U hcu rfl (by decide)) ?_;refine al fun b6=> ?_;refine go 1 ?_;refine a0M Sz.o rfl rfl rfl (fun u hu=>r0D hvi u (by simpa using hu)) (by simp[Value.cells,a0J,a0S]) (a0N (by simp[Value.cells,a0J,a0S])) ?_;refine go 3 ?_;refine fx (.r 0 7 (.float 11 (.hard 7 (.r 8 3 (.res (.hard 12 (.soft 13 .done))))))) [f0Z i a.core c,s0N q i,w1X b6 c.l[j]] ?_;refine go 7 ?_;refine j0Y (e0:= []) rfl gSu (fun _ _ _=>rfl) Zr.o rfl ?_;rw[hwu];refine b0Y rfl (fun M EE FF=> ?_);refine ns ?_;refine cg 0 ((by have h:=f1U W a s c.l[j].v.id;rw[hx]at h;exact h)) ?_;refine go 1 ?_;refine fn (E:=EE) (F:=FF) (M.put rfl) ?_;refine go 3 ?_;refine l0Y (fun b7=> ?_);dsimp only;refine b0Y rfl (fun M EE FF=> ?_);refine ns ?_;refine go 2 ?_;refine fn (E:=EE) (F:=FF) M ?_;refine go 5 ?_;refine tl 14 ?_;refine go 7 ?_;refine n0H (wg rfl rfl rfl (wFF rfl)) (x0T (e:=50) (size:=6) (xs:=xs.flatMap (a1H s)) Ag.o rfl gFd (vs:=f0U x) (by rw[Nat.zero_add];exact K) rfl (by decide)) ?_;refine n0H (wg rfl rfl rfl (wFF rfl)) (u1V F.fk50 rfl rfl (w2Q x)) ?_;refine cg 7 (w2P W a s i H c G ep k hsm hc hnx j n x hx) ?_;refine go 11 ?_;refine bl fun b82=> ?_;refine(d0E Tsl.o Ttb.o Zr.o rfl rfl rfl gFd (f0I Tsl.o (by simp;rfl) (by simp) (by simp[Value.oneCell'])) (by simp only[maxLen];omega) (by omega) (fun v83 Y=> ?_));refine go 2 ?_;rw[show j0W (roots.take j)++ [Value.int .i64 x.root]=j0W (roots.take (j+1)) by rw[List.take_succ,List.getElem?_eq_getElem hjr,hrj];simp[j0W]];refine go 5 ?_;exact rd idh (⟨(j+1,v83),n,Y⟩)
 ·obtain rfl:j=c.l.length:=by have:=of_decide_eq_false B;omega
  rw[show b0I 3 1 rv c.l.length (j0W (roots.take c.l.length))=i2C rv roots by rw[List.take_of_length_le (by omega),←V]];refine go 4 ?_;refine al fun I=> ?_;refine go 10 ?_;refine a0D (j0R Sc.o rfl gFd rfl) ?_;refine go 1 ?_;refine e0X (l0O (N:= [s0N q i,k1L O rv,k1L I (.slice none 0 0),i2C rv roots,f0Z i a.core c]) gSp) ?_;refine a0U rfl Hb.o rfl (t0V (C:=Car Unit) W a (u0Y (n1G a q O I i c rv roots) (fun _:Unit=>n1H a q I i c (s.g.count 1))) 55 [ptr q,ptr O,ptr I] (f0P (ret ())) s .start Hb.o (d1L (by rw[d2J k.ci];simp)) (fun _=>i2D W a {s with depth:=s.depth+1} G (g0Q s) (by rw[k.ci.dep];exact k.ci.deep) q O I i c rv hrv roots (by rw[d];exact k.rootKid) (by rw[d];exact k.rootAll) (by omega))) gSp (fun e ⟨t,oc⟩ ho=> ?_) (fun e t ho=>by refine pn ?_;(exact(m0T ho).elim));refine ns ?_;refine go 2 ?_;obtain⟨rfl,rfl,rfl⟩:=w2R ho (d2J k.ci);simp only[u0Y];refine go 2 ?_;refine v0M (show Fnd _ (n1H a q I i c (s.g.count 1)) _ from gFd) fun x=> ?_;obtain⟨rv2,ys⟩:=x;refine ns ?_;refine n0N (p:=ys.length=s.g.count 1) gFd fun hyl=> ?_;refine n0W (e:=3) (v:=rv2) gFd fun py cpy hvy hcpy _=> ?_;subst hvy;refine a1U (.soft 0 (.soft 1 (.soft 2 (.soft 3 (.soft 4 (.soft 5 (.soft 6 (.soft 7 (.soft 8 (.soft 9 (.soft 10 (.soft 11 (.hard 12 (.soft 13 (.soft 14 (.soft 15 .done)))))))))))))))) [HLX a,s0N q i,k1L I (.slice py ys.length cpy),f0Z i a.core c] Fol.o (by kernel_rfl) (by repeat (first|with_reducible exact b0T.bp|with_reducible apply b0T.then|with_reducible apply b0T.inBlock)) (g0T gSp) ?_;refine go 11 ?_;refine t0D rfl (r0T Sc.o rfl gFd (fun _ _=>rfl)) (wg rfl rfl rfl (wTT rfl)) ?_;refine cg 2 (c1R a s) ?_;refine go 1 ?_;refine h0B (g0T gSp) ?_;refine go 5 ?_;exact rG (hu:=(by rw[hyl];simp[d2R]))
section
theorem d1O {a b:Ad} {s t:St} {K L R:List a0E} (e:b0A L (HL a s::HL b t::K) R) (w:World) (h:Sat w L):Sat w (HLX a::HLX b::K):=by
 have c:=g0T e w h;have d:=g0T (a:=b) (s:=t) (L:=HLX a::HL b t::K) (K:=HLX a::K) (R:= []) (by show List.Perm _ (_++ []);rw[List.append_nil];exact List.Perm.swap _ _ _) w c;exact d.perm (List.Perm.swap _ _ _)
section
variable {c:Cx} {d:Option Tmp} {ty:TypeId} {pos:String} {af:Array Edge} {g:Option (Nat×Bool)} {env:List (Nat×Value)} {L M:List a0E} {a:Ad}
theorem a3O {s:St} {x:Operand} {t:TypeId} (h:f0Q c.P t=true) (i:evo env x=some (.pointer (some ⟨a.heap,0,none⟩))) (hL:Fnd L (HL a s) M):
 Sl.a0P c ⟨d,.load t x,ty,pos,af,g⟩ env L (ptr a.disk):=
 w0Z h i hL fun w L' b=>by
  obtain⟨y,b⟩:=g0K.1 b;have e:=b0M.1 b;simp only[hlV,d0B,c0R,List.cons_append,List.nil_append]at e;have f:=((show Fnd _ (pts a.heap _) _ from gFd).sat e).pts;simp[World.cell?,f,c0R]
end
theorem y1A (W:World) (a b:Ad) (s s0 t:St) (h g f:Nat) (c:Rx) (G:Gh) (P:Rp) (i:J s G P) (e:s0.bits≤256)
 (d:s0C ((P.l.map (·.id)).map fun k=>(a0C k s.vols).getD g0L) s0=(.ok (),t)):
 a0G prog 35 #[ptr h,ptr g] (RS W b s0++ [HL a s,f0G h b,s0N g f,f0Z f a.core c]) (a0T (.tuple #[]) (RS W b t++ [HL a s,f0G h b,s0N g f,f0Z f a.core c])):=by
 have j:s.vols.length≤16:=i.ci.few;have n:=i.len;refine ns ?_;refine en func35 ntmps35 fun R w0=> ?_;refine mx (.r 0 5 (.hard 5 (.hard 6 .done))) [f0G h b,s0N g f,f0Z f a.core c] ?_;refine ce 6 (g1A a s j i.ci.inv.u.m.vols) ?_;rintro⟨lv,xs⟩ ⟨h1,h2⟩;refine ns ?_;refine go 3 ?_;dsimp only at h1 h2 ⊢;obtain rfl:xs=P.l.map (·.id):=i.keys h1 h2;have o:=z1T W b s0 lv ((P.l.map (·.id)).map fun k=>(a0C k s.vols).getD g0L) (P.l.map (·.id)).length ((P.l.map (·.id)).flatMap (a1H s)) (by simp) (by simp[List.flatMap_map]) e (by simp;omega) (by rw[d];simp);rw[d]at o;refine cg 0 (o.ran_ok) ?_;refine go 3 ?_;refine d0Q rfl rfl gSp
end
end Go.Proofs.Q
namespace Go.Proofs.Q
open Go.Sl Go.Sb Tryz
theorem i1J {α:Type} {Q:Nat→α→Prop} : ∀n:Nat,(∀i,i<n→ ∃x,Q i x)→ ∃l:List α,l.length=n∧ ∀i (h:i<l.length),Q i l[i]
 |0,_=>⟨[],rfl,fun i h=>absurd h (Nat.not_lt_zero _)⟩
 |n+1,h=>by
  obtain⟨l,b,c⟩:=i1J n fun i hi=>h i (by omega);obtain⟨x,d⟩:=h n (by omega);refine⟨l++ [x],by simp[b],fun i hi=> ?_⟩;by_cases e:i<l.length
  ·rw[List.getElem_append_left e];exact c i e
  ·have a:i=n:=by rw[List.length_append,List.length_singleton]at hi;omega
   subst a;rw[List.getElem_append_right (by omega)];simpa using d
theorem a3B (s:ByteArray): ∃l:B,s=bs l:=⟨s.data.toList,by show s=ByteArray.mk s.data.toList.toArray;simp⟩
def y1B (W:World) (v:Value):Prop:= ∃(p:Option Addr) (n cap:Nat),v= .slice p n cap∧n≤maxLen∧ ∀i,i<n→ ∃A,p=some A∧ ∃a b c d s,∀q u,(p2C a b c d s)[q]? =some u→W.cell? ((A.add (i*5)).add q)=some u
theorem w2T {W:World} {v:Value} (h:y1B W v): ∃acts,n2J W v acts:=by
 obtain⟨p,n,cap,rfl,m,f⟩:=h;obtain⟨l,g,k⟩:=i1J (Q:=fun i (x:AP)=> ∃a,p=some a∧ ∀q u,(i2B x)[q]? =some u→W.cell? ((a.add (i*5)).add q)=some u) n fun i hi=>by
  obtain⟨A,j,a,b,c,d,s,e⟩:=f i hi;obtain⟨l,rfl⟩:=a3B s;exact⟨{ki:=a,ai:=b,at_:=c,n:=d,l:=l},A,j,e⟩
 exact⟨l,p,cap,by rw[g],by omega,k⟩
theorem y1C:g1C (f0X (k0Q 100) 2 256 1):=y1N
section
structure CP (m n:Nat) (x:Nat×St×Gh×Rx×b0B):Prop where
 le:x.1≤n
 lim:x.1≤m
 j:J x.2.1 x.2.2.1 (er x.2.2.2.1)
 bud:Bud x.1 x.2.1 (er x.2.2.2.1)
 next:x.2.2.2.1.next≤1+x.1
 bits:x.2.2.2.1.bits≤256
 core:c0Z x.2.2.2.2 x.2.2.2.1
 sml:Sml (er x.2.2.2.1)
structure CQ (m:Nat) (x:St×Gh×Rx×b0B):Prop where
 j:J x.1 x.2.1 (er x.2.2.1)
 bud:Bud m x.1 (er x.2.2.1)
 next:x.2.2.1.next≤1+m
 bits:x.2.2.1.bits≤256
 core:c0Z x.2.2.2 x.2.2.1
 sml:Sml (er x.2.2.1)
def cbx (bits:Nat):Rx:= {lv:= .slice none 0 0,l:= [],next:=1,bits:=bits,epoch:=1}
theorem cp0 (m n bits:Nat) (hb:1≤bits∧bits≤256):CP m n (0,f0X (k0Q (2498+2)) 2 bits 1,[],cbx bits,[]) where
 le:=Nat.zero_le _
 lim:=Nat.zero_le _
 j:=x2X bits hb
 bud:=p2B bits
 next:=by show(1:Int)≤1+((0:Nat):Int);decide
 bits:=hb.2
 core:=⟨l1D _ _ _,fun x a=>(by cases a),by show 0≤1000;decide⟩
 sml:=sml0 bits
theorem CP.done {m n:Nat} {i:Nat} {s:St} {G:Gh} {c:Rx} {H:b0B} (h:CP m n (i,s,G,c,H)):CQ m (s,G,c,H):=
 ⟨h.j,s2E h.bud h.lim,by have a:=h.next;have b:=h.lim;simp only at a b ⊢;omega,h.bits,h.core,h.sml⟩
theorem CP.step {m n:Nat} {i:Nat} {s t:St} {G d:Gh} {c c2:Rx} {H r:b0B} {k:Nat} {id at_ A e f:Int} {data:B} {Q:Rp} (h:CP m n (i,s,G,c,H)) (y:i<n) (x:i<m) (u:k<14) (o:0≤id∧id<32) (b:c1K k id at_ A data s (er c) e f t Q)
 (p:J t d Q) (g:Bud (i+1) t Q) (z:Q.next≤(er c).next+1) (l:c0Z r c2) (a:er c2=Q):CP m n (i+1,t,d,c2,r) where
 le:=y
 lim:=x
 j:=by show J t d (er c2);rw[a];exact p
 bud:=by show Bud (i+1) t (er c2);rw[a];exact g
 next:=by
  have v:c2.next=Q.next:=congrArg (fun q:Rp=>q.next) a;have w:(er c).next=c.next:=rfl;have:=h.next;simp only at this;show c2.next≤1+((i+1:Nat):Int);omega
 bits:=by
  have v:c2.bits=Q.bits:=congrArg (fun q:Rp=>q.bits) a;have w:=b.bits_ u;have C:(er c).bits=c.bits:=rfl;have:=h.bits;show c2.bits≤256;simp only at this;omega
 core:=l
 sml:=by show Sml (er c2);rw[a];exact b.sml u o h.sml
set_option maxRecDepth 8000
end
end Go.Proofs.Q
namespace Go.Proofs.Q
open Go.Sl Go.Sb Tryz
set_option maxRecDepth 8000
theorem a3P {s:St} {G:Gh} {P:Rp} (h:J s G P) (hd:l0N s.d): ∃n,s.d.l.length=n+2∧n≤4094:=
 ⟨s.g.length,by have:=h.ci.inv.u.size;have:=h.ci.inv.lo;omega,by have:=h.ci.inv.u.size;have:=h.ci.inv.lo;have:=hd.2.1;omega⟩
theorem n1I (W:World) (hW:i0L W) (hA:g1C (f0X (k0Q 100) 2 256 1)) (v:Value) (a:List AP) (hv:n2J W v a):
 a0G prog 9 #[v] [whole W] (a0T (.bool true) [whole W]):=by
 obtain⟨p,cap,rfl,hml,I⟩:=hv;have hmax:a.length≤9223372036854775807:=Nat.le_trans hml (by decide);refine en func9 ntmps9 fun R w0=> ?_;refine cg 8 (h2P W hW hA) ?_;refine ce 8 (r1J W 2498 256 (by omega) (by omega)) ?_;rintro⟨ad,bw⟩ _;refine ns ?_;refine go 3 ?_;refine al fun z=> ?_;refine go 4 ?_;refine j0D (X:= {y:St×Gh×Rx×b0B // CQ 12 y∧y.2.2.1.bits=256}) (fun y=> [(2,.bool false),(3,ptr z),(4,.bool true)]) (fun y=>RS W ad y.1.1++ [f0Z bw ad.core y.1.2.2.1,c0B y.1.2.2.2,s0N z bw,R]) ?_ ?_
 ·refine go 6 ?_;refine b0U (fun w h=>o2G h) ?_;refine a0V (X:= {y:Nat×St×Gh×Rx×b0B // CP 12 a.length y∧y.2.2.2.1.bits=256}) (fun y=> [(0,.slice p a.length cap),(2,.bool false),(3,ptr z),(4,.bool true),(5,.int .i64 (y.1.1:Nat))]) (fun y=>RS W ad y.1.2.1++ [f0Z bw ad.core y.1.2.2.2.1,c0B y.1.2.2.2.2,s0N z bw,R]) (fun y=>a.length-y.1.1) ⟨_,cp0 12 a.length 256 (by decide),rfl⟩ gSu gSp ?_;rintro⟨⟨i,s,G,c,H⟩,hca,hcb⟩ m0 hm0
  try simp only at hm0
  try dsimp only
  have hle:=hca.le;have h18:=hca.lim;dsimp only at hle h18 hcb;simp only[RS,List.cons_append,List.nil_append];refine go 2 ?_;by_cases J:i<a.length
  ·refine go 9 ?_;refine b0Z (d0H rfl) (wg rfl rfl rfl (wTT (by simpa using (by omega:(i:Int)<(a.length:Int))))) ?_;refine b0Z (s2H rfl rfl) (wg rfl rfl rfl (wTT (by simpa using (by omega:(i:Int)<(a.length:Int))))) ?_;refine a0D (h0V rfl (by simpa using (by omega:(i:Int)<(a.length:Int))) rfl) ?_;refine go 2 ?_;refine a0O rfl (fun B=> ?_) (fun B=> ?_)
   ·have C:i<12:=by have:=of_decide_eq_true B;omega
    obtain⟨k,hk⟩: ∃k:Nat,a[i].ki%256%14=(k:Int):=⟨(a[i].ki%256%14).toNat,by omega⟩;have K:=hca.next;have x:=hca.bits;have f:=hca.j;have u:=hca.core;dsimp only at K x f u;have D:1≤c.next:=f.pos;obtain⟨e,t,Q,G2,g,A,M,S,hkp⟩:=f.act hca.bud (by dsimp only;omega) (show c.next<1000000 by omega) (k:=k) (by omega) (a[i].ai%32) a[i].at_ a[i].n (data:=q0K a[i].l a[i].n) (r1N _ _).2;have N:Q.bits=256:=(g.bits_ (by omega)).trans hcb;obtain⟨aa,hpa,O⟩:=I i J;subst hpa;refine go 5 ?_;refine mx (.r 1 3 (.two 0 (.hard 4 (.hard 5 (.r 6 7 .done))) 4 (.hard 0 (.hard 5 (.r 6 7 .done))))) [] ?_;refine go 2 ?_;refine d0A rfl (i2M Tsl.o rfl rfl (by omega)) ?_;refine p0R rfl rfl ?_ ?_
    ·refine go 4 ?_;refine a0D (l1E (vs:=i2B a[i]) Ag.o rfl gFd rfl O) ?_;refine ce 3 (r1O W hW ad s t bw H c a[i].ki a[i].ai a[i].at_ a[i].n (a[i].ai%32) e e a[i].l k Q hk rfl (n2K f x) ⟨f.ci.dep,f.ci.log⟩ u f.sized x ⟨D,by omega⟩ g) ?_;rintro⟨H2,c2⟩ ⟨hs2,hc2,hr2⟩;refine ns ?_;refine go 18 ?_;rw[show(e == e)=true by simp];refine go 8 ?_;exact rd idh (⟨(i+1,t,G2,c2,H2),hca.step J C (by omega) (by omega) g A M S hc2 hr2,(congrArg (fun q:Rp=>q.bits) hr2).trans N⟩)
    ·refine a0D (l1E (vs:=i2B a[i]) Ag.o rfl gFd rfl O) ?_;refine ce 7 (r1O W hW ad s t bw H c a[i].ki a[i].ai a[i].at_ a[i].n (a[i].ai%32) e e a[i].l k Q hk rfl (n2K f x) ⟨f.ci.dep,f.ci.log⟩ u f.sized x ⟨D,by omega⟩ g) ?_;rintro⟨H2,c2⟩ ⟨hs2,hc2,hr2⟩;refine ns ?_;refine go 18 ?_;rw[show(e == e)=true by simp];refine go 8 ?_;exact rd idh (⟨(i+1,t,G2,c2,H2),hca.step J C (by omega) (by omega) g A M S hc2 hr2,(congrArg (fun q:Rp=>q.bits) hr2).trans N⟩)
   ·refine go 1 ?_;exact me idh (⟨(s,G,c,H),hca.done,hcb⟩)
  ·refine go 9 ?_;refine c0D rfl (wg rfl rfl rfl (wTF (by simpa using (by omega: ¬(i:Int)<(a.length:Int))))) ?_;refine c0D rfl (wg rfl rfl rfl (wTF (by simpa using (by omega: ¬(i:Int)<(a.length:Int))))) ?_;refine a0D (h0H rfl (by simpa using (by omega: ¬(i:Int)<(a.length:Int))) rfl) ?_;refine go 4 ?_;exact me idh (⟨(s,G,c,H),hca.done,hcb⟩)
 rintro⟨⟨s,G,c,H⟩,hcb,hb256⟩;have K:=hcb.next;have f:=hcb.j;have U:=hcb.sml;have u:=hcb.core;dsimp only at K hb256 f U u ⊢;simp only[RS,List.cons_append,List.nil_append];refine n0N (p:=l0N s.d) gFd fun P=> ?_;have hsb:s.bits=256:=f.bits.trans hb256;have hsn:s.next=(er c).next:=f.next;have hsp:1≤(er c).next:=f.pos;obtain⟨n,hn,T⟩:=a3P f P;obtain⟨t,ht,A,htd,htg⟩:=f.adopted (by omega);rw[hsb]at ht;refine go 11 ?_;refine fx (.r 0 10 (.r 11 4 (.float 17 (.hard 10 (.hard 15 (.hard 16 (.res (.hard 18 .done)))))))) [HL ad s,s0N z bw,f0Z bw ad.core c] ?_;refine go 6 ?_;refine h0L rfl (j0R Sc.o rfl gFd rfl) ?_;refine go 2 ?_;refine h0L rfl (a3O Sc.o rfl gFd) ?_;refine go 4 ?_;refine j0Y (e0:= []) rfl gSu (fun _ _ _=>rfl) Zr.o rfl ?_;refine b0Y rfl (fun m EE FF=> ?_);refine ns ?_;refine ce 0 (x1G ad.disk ad.vd s.d n hn T) ?_;rintro h _;refine ns ?_;refine go 1 ?_;refine fn (E:=EE) (F:=FF) (m.put rfl) ?_;refine b0Y rfl (fun m EE FF=> ?_);refine ns ?_;refine cg 0 (n1F W ad s) ?_;refine go 1 ?_;refine fn (E:=EE) (F:=FF) (m.put rfl) ?_;refine b0Y rfl (fun m EE FF=> ?_);refine ns ?_;refine ce 0 (r1I h.heap 256 s.next (by decide) (by omega)) ?_;rintro Z _;refine ns ?_;refine go 1 ?_;refine fn (E:=EE) (F:=FF) (m.put rfl) ?_;refine l0Y (fun V=> ?_);dsimp only;refine b0Y rfl (fun m EE FF=> ?_);refine ns ?_;refine go 2 ?_;refine fn (E:=EE) (F:=FF) m ?_;refine go 3 ?_;refine b0U (L':=RS W (adN ad.disk ad.vd h Z) (f0X s.d 2 256 s.next)++ [stC ad s.bits,mpC ad,HL ad s,s0N z bw,f0G V (adN ad.disk ad.vd h Z),f0Z bw ad.core c,c0B H,R]) (fun w hs=>x1H hn P T (by decide) (by omega) (by simp only[List.cons_append,List.nil_append];exact hs.sub gSp)) ?_;obtain⟨b,hb⟩: ∃b,b=adN ad.disk ad.vd h Z:=⟨_,rfl⟩;rw[←hb];simp only[RS,List.cons_append,List.nil_append];have k67:=u1Z 35 [ptr V,ptr z] _ _ _ Hb.o (y1A W ad b s (f0X s.d 2 256 s.next) t V z bw c G (er c) f (by show min (max 256 1) 256≤256;decide) ht);refine cg 2 (k67) ?_;refine go 4 ?_;refine tl 5 ?_;refine go 4 ?_;refine b0V (a0K (v:=(a0J c).toArray) Ag.o rfl (by simp[Value.cells,a0J]) (by rfl)) ?_;refine go 2 ?_;refine bx fun Y=> ?_;refine go 4 ?_;refine a1U (.soft 0 (.soft 1 (.soft 2 (.soft 3 (.hard 4 (.soft 5 (.soft 6 (.soft 7 (.soft 8 (.soft 9 (.soft 10 (.soft 12 (.soft 13 (.soft 14 (.soft 15 (.soft 16 (.soft 17 (.soft 18 (.hard 11 (.hard 19 (.soft 20 (.soft 21 (.soft 22 .done))))))))))))))))))))))) [HLX b,HLX ad,f0G V b,s0N z bw,f0Z bw ad.core c] Fol.o (by kernel_rfl) (by repeat (first|with_reducible exact b0T.bp|with_reducible apply b0T.then|with_reducible apply b0T.inBlock)) (d1O gSp) ?_;refine cg 6 (i2E W b t Y H c G 1 A U u (by omega)) ?_;refine go 1 ?_;refine h0B (d1O gSp) ?_;refine go 5 ?_;refine t0D rfl (r0T Sc.o rfl gFd (fun _ _=>rfl)) (wg rfl rfl rfl (wTT rfl)) ?_;refine go 6 ?_;refine t0D rfl (r0T Sc.o rfl gFd (fun _ _=>rfl)) (wg rfl rfl rfl (wTT rfl)) ?_;refine cg 2 (c1R b t) ?_;refine go 1 ?_;refine h0B (d1O gSp) ?_;refine cg 2 (c1R ad s) ?_;refine go 1 ?_;refine h0B (d1O gSp) ?_;refine go 5 ?_;exact rG (hu:=(by simp[d2R,htg]))
theorem n1J (W:World) (b:i0L W) (v:Value) (d:y1B W v):
 a0G prog 9 #[v] [whole W] (a0T (.bool true) [whole W]):=by
 obtain⟨a,c⟩:=w2T d;exact n1I W b y1C v a c
end Go.Proofs.Q

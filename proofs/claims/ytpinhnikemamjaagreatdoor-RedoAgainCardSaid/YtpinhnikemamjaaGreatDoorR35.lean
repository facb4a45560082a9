/- Part of the proof; no statement of its own. -/
import Derived.Test.YtpinhnikemamjaaGreatDoorR18
import Derived.Test.YtpinhnikemamjaaGreatDoorR23
import Derived.Test.YtpinhnikemamjaaGreatDoorR24
import Derived.Test.YtpinhnikemamjaaGreatDoorR34
import Derived.Test.YtpinhnikemamjaaGreatDoorR17
import Derived.Test.YtpinhnikemamjaaGreatDoorR15
import Derived.Test.YtpinhnikemamjaaGreatDoorR07
import Derived.Test.YtpinhnikemamjaaGreatDoorR32
import Derived.Test.YtpinhnikemamjaaGreatDoorR13
import Derived.Test.YtpinhnikemamjaaGreatDoorR10
set_option linter.all false
set_option maxRecDepth 4000
set_option maxHeartbeats 4000000
attribute [local irreducible] Go.Sl.a0O Go.Sl.OW Go.Sl.CW Go.Sl.OS Go.Sl.OM Go.Sl.OMf Go.Sl.KM
namespace Go.Proofs.Q
open Go.Sl Go.Sb Tryz
section
theorem k2Y (W:World) (a:Ad) (s:St) (root:Int):a0F prog 52 #[ptr a.maps,.int .i64 root] (RS W a s) (Ran fT (RS W a) e0C (h1P root s)):=by
 have e0:h1P root s=a0B (Go.Sb.load root 2) (fun n=>ret n.sum) s:=rfl;refine en func52 ntmps52 fun R w0=> ?_;refine go 2 ?_;refine al fun b4=> ?_;refine go 6 ?_;refine a0X rfl Hb.o rfl (q0N W a s root 2) gSp (fun x t ho=> ?_) (fun e t ho=>by refine pn ?_;exact kx ((by rw[e0];exact a0I ho)));refine ns ?_;have hln:=(h0U ho).2;have e1:=e0.trans (a0A ho);have hs2:(x.sum.map a0Q).toArray.size=32:=by rw[List.size_toArray,List.length_map,hln.sum]
 refine a0D (o0Q (v:=(x.sum.map a0Q).toArray) F.fa182_2 rfl (a2P hln)) ?_;refine a0M Sz.o rfl rfl hs2 (fun x hx=>by simp at hx;obtain⟨_,_,rfl⟩:=hx;rfl) (by rw[hs2];simp[Value.cells]) (a0N (by rw[hs2];simp[Value.cells])) ?_;refine go 2 ?_;exact j0R e1 idh (RV.agg Ag.o rfl (by rw[hs2];omega) (a0G hs2) RV.nil) rfl gSp
theorem p2V {root:Int} {s t:St} {v:B} (h:h1P root s=(.ok v,t)):v.length=32:=by
 unfold h1P at h;cases hg:Go.Sb.load root 2 s with
 |mk o u=>
  cases o with
  |ok x=>rw[a0A hg]at h;cases h;exact(h0U hg).2.sum
  |err e=>rw[a0I hg]at h;cases h
  |big=>unfold a0B at h;rw[hg]at h;cases h
abbrev x0Z (b:Nat) (v:B):a0C:=pts b (.cells (v.map a0Q).toArray 44 (0,0))
abbrev q2R (a:Ad) (b0 b1 b2:Nat) (id:Int):a0C:=b0D [g0B b0 a,j0O b1 id,x0Z b2 (a0K 32)]
theorem f2T (W:World) (a:Ad) (b0 b1 b2:Nat) (id:Int) (bits:Nat):
 r0G W a (q2R a b0 b1 b2 id) (fun v:B=>b0D [m0K (v.length=32),x0Z b2 v]) 51 [ptr b0,ptr b1,ptr b2] bits (d1M id):=by
 intro s hsb hnb;have e0:d1M id s=a0B (find id) (fun x=>h1P x.root) s:=rfl;refine ns ?_;refine en func51 ntmps51 fun R w0=> ?_;refine k0Q (show Fnd _ (b0D [g0B b0 a,j0O b1 id,x0Z b2 (a0K 32)]) _ from gFd) ?_;refine ns ?_;refine f1J (.soft 0 (.soft 1 (.soft 2 (.soft 3 (.soft 4 (.soft 5 (.hard 6 (.soft 7 (.hard 8 (.hard 9 .done)))))))))) [HLX a,g0B b0 a,j0O b1 id] Fol.o (by kernel_rfl) (by repeat (first|with_reducible exact b0S.bp|with_reducible apply b0S.then|with_reducible apply b0S.inBlock)) (h0M gSp) ?_;refine go 3 ?_;refine c0V rfl (a1C Sc.o rfl gFd (fun _ _=>rfl)) ?_;refine go 3 ?_;refine a0X rfl Hb.o rfl (u0X W a s id) gSp (fun x t ho=> ?_) (fun e t ho=>by refine pn ?_;(refine b0G (fun w h=>b0Y h) ?_;exact b0W (c0L (e0.trans (a0I ho))) idh gSp));refine ns ?_;refine go 1 ?_;refine i0R (h0M gSp) ?_;have e1:=e0.trans (a0A ho);clear ho;refine c0V rfl (q2T F.fs50_4 rfl rfl) ?_;refine go 1 ?_;refine a0X rfl Hb.o rfl (k2Y W a t x.root) gSp (fun v t2 ho=> ?_) (fun e t ho=>by refine pn ?_;(refine b0G (fun w h=>b0Y h) ?_;exact b0W (c0L (e1.trans ho)) idh gSp));refine ns ?_;refine go 1 ?_;refine i0R (h0M gSp) ?_;refine go 1 ?_;have hvl:=p2V ho;have hs2:(v.map a0Q).toArray.size=32:=by rw[List.size_toArray,List.length_map,hvl]
 refine a0M Sz.o rfl rfl hs2 (fun x hx=>by simp at hx;obtain⟨_,_,rfl⟩:=hx;rfl) (by rw[hs2];simp[a0K]) (a0N (by rw[hs2];simp[a0K])) ?_;refine go 1 ?_;refine i0R (h0M gSp) ?_;refine go 1 ?_;refine b0G (L':=b0D [m0K (v.length=32),x0Z b2 v]::(RS W a t2++ [R])) (fun w h=>b0J.2 ?_) ?_
 ·refine ns ?_;exact n0H hvl w (h.sub gSp)
 ·exact fR (s:=(t2,.done v)) (m0I (e1.trans ho))
def q2S (p:B×Int):Value:= .tuple #[e0C p.1,.int .i64 p.2]
set_option maxRecDepth 8000
theorem k2Z (W:World) (a:Ad) (s:St) (id:Int) (hnb:(v0O id s).1≠ .big):a0F prog 13 #[ptr a.core,.int .u32 id] (RS W a s) (Ran fT (RS W a) q2S (v0O id s)):=by
 have e0:v0O id s=a0B (h0V (d1M id)) (fun r=>if r.1=0 then ret (a1Z (a0K 32) r.2,0)else fun s=>(.big,s)) s:=rfl;have hn:=c1G (show(h0V (d1M id) s).1≠ .big by rw[e0]at hnb;exact c0I hnb);refine en func13 ntmps13 fun R w0=> ?_;refine go 2 ?_;refine bx fun b2=> ?_;refine bx fun b3=> ?_;refine al fun b4=> ?_;refine go 5 ?_;refine al fun b6=> ?_;refine go 7 ?_;refine a0D (j0K Sc.o rfl gFd rfl) ?_;refine go 1 ?_;refine e0K (k0Z (N:= [g0B b2 a,j0O b3 id,x0Z b6 (a0K 32)]) gSp) ?_;refine a0X rfl Hb.o rfl (t0D (C:=Car B) W a (u0A (q2R a b2 b3 b6 id) (fun v:B=>b0D [m0K (v.length=32),x0Z b6 v])) 51 [ptr b2,ptr b3,ptr b6] (f0F (d1M id)) s .start Hb.o hn (fun h=>f2T W a b2 b3 b6 id s.bits {s with depth:=s.depth+1} rfl (e1R.1 h))) gSp (fun e ⟨t,oc⟩ ho=> ?_) (fun e t ho=>by refine pn ?_;(exact(m0F ho).elim));refine ns ?_;refine go 2 ?_;have e1:=e0.trans (a0A (s0M ho));refine go 2 ?_;have hz:e=0:=by
  by_cases h:e=0
  ·exact h
  ·rw[e1,if_neg h]at hnb;exact absurd rfl hnb
 obtain⟨y,rfl,_⟩| ⟨_,h9⟩:=g1B ho
 rotate_left
 ·exact(h9 hz).elim
 simp only[u0A];subst hz;refine k0Q (show Fnd _ (b0D [m0K (y.length=32),x0Z b6 y]) _ from gFd) ?_;refine ns ?_;refine o0E (p:=y.length=32) gFd fun hyl=> ?_;have hs2:(y.map a0Q).toArray.size=32:=by rw[List.size_toArray,List.length_map,hyl]
 refine go 1 ?_;refine a0D (a0L Ag.o rfl (by rw[hs2];omega) (a0G hs2)) ?_;refine go 1 ?_;refine a0M Sz.o rfl rfl hs2 (fun x hx=>by simp at hx;obtain⟨_,_,rfl⟩:=hx;rfl) (by rw[hs2];simp[Value.cells]) (a0N (by rw[hs2];simp[Value.cells])) ?_;refine go 3 ?_;exact j0R (by rw[e1,if_pos rfl];rfl) idh (RV.agg Ag.o rfl (by rw[hs2];omega) (a0G hs2) (RV.tmp rfl RV.nil)) rfl gSp
end
section
section
variable {W:World} {s t:St}
theorem f2U {id e:Int} (hf:Fit s) (h:r0U id s=(.ok e,t)) (a:Ad):a0F prog 74 #[ptr a.core,.int .u32 id] (RS W a s) (a0T (a0J e) (RS W a t)):=by
 have k:=w1D W a s id hf.1 hf.2 (by rw[h];simp);rw[h]at k;exact k.ran_ok
theorem f2V (hW:h0W W) {id n e:Int} (hf:Fit s) (h:r0V id n s=(.ok e,t)) (a:Ad):a0F prog 23 #[ptr a.core,.int .u32 id,.int .i64 n] (RS W a s) (a0T (a0J e) (RS W a t)):=by
 have k:=w1G W hW a s id n hf.1 hf.2 (by rw[h];simp);rw[h]at k;exact k.ran_ok
theorem p2W (hW:h0W W) {id at_ n e:Int} (hf:Fit s) (h:x0G id at_ n s=(.ok e,t)) (a:Ad):a0F prog 22 #[ptr a.core,.int .u32 id,.int .i64 at_,.int .i64 n] (RS W a s) (a0T (a0J e) (RS W a t)):=by
 have k:=f2R W hW a s id at_ n hf.1 hf.2 (by rw[h];simp);rw[h]at k;exact k.ran_ok
theorem l2A {id:Int} {p:Int×Int} (hf:Fit s) (h:i0G id false s=(.ok p,t)) (a:Ad):a0F prog 44 #[ptr a.core,.int .u32 id] (RS W a s) (a0T (y0Q p) (RS W a t)):=by
 have k:=y1Q W a s id hf.2 (by rw[h];simp);rw[h]at k;exact k.ran_ok
end
def actV (ki ai at_ n:Int) (l:B):Value:= .agg #[.int .i64 ki,.int .i64 ai,.int .i64 at_,.int .i64 n,b0B l]
end
end Go.Proofs.Q
namespace Go.Proofs.Q
section
open Go.Sl Go.Sb Tryz
end
section
open Go.Sl Go.Sb Tryz
end
end Go.Proofs.Q
namespace Go.Proofs.Q
open Go.Sl Go.Sb Tryz
structure AP where
 ki:Int
 ai:Int
 at_:Int
 n:Int
 l:B
def p2Y (x:AP):List Value:= [.int .i64 x.ki,.int .i64 x.ai,.int .i64 x.at_,.int .i64 x.n,b0B x.l]
def l2D (W:World) (v:Value) (acts:List AP):Prop:= ∃(p:Option Addr) (cap:Nat),v= .slice p acts.length cap∧acts.length≤maxLen∧ ∀i (h:i<acts.length),∃a,p=some a∧ ∀q u,(p2Y acts[i])[q]? =some u→W.cell? ((a.add (i*5)).add q)=some u
structure CA (n:Nat) (x:Nat×St×Gh×Rx×b0A):Prop where
 le:x.1≤n
 i12:x.1≤12
 j:J x.2.1 x.2.2.1 (er x.2.2.2.1)
 bud:Bud x.1 x.2.1 (er x.2.2.2.1)
 next:x.2.2.2.1.next≤1+x.1
 bits:x.2.2.2.1.bits≤256
 core:c0T x.2.2.2.2 x.2.2.2.1
theorem u2P {W:World} {s t:St} {id:Int} {p:B×Int} (h:v0O id s=(.ok p,t)) (a:Ad):a0F prog 13 #[ptr a.core,.int .u32 id] (RS W a s) (a0T (q2S p) (RS W a t)):=by
 have k:=k2Z W a s id (by rw[h];simp);rw[h]at k;exact k.ran_ok
section
structure CB (x:St×Gh×Rx×b0A):Prop where
 j:J x.1 x.2.1 (er x.2.2.1)
 bud:Bud 12 x.1 (er x.2.2.1)
 next:x.2.2.1.next≤13
 bits:x.2.2.1.bits≤256
 core:c0T x.2.2.2 x.2.2.1
theorem p2Z {i j:Nat} {s:St} {P:Rp} (h:Bud i s P) (hij:i≤j):Bud j s P:=by
 obtain⟨w,t,h1,h2,h3⟩:=h;exact⟨w,t,by omega,h2,h3⟩
theorem x2C {s:St} {G:Gh} {c:Rx} (h:J s G (er c)) (hb:c.bits≤256):Fit s:=⟨by have e:s.bits=c.bits:=h.bits;omega,by have:=h.ci.few;omega⟩
set_option maxRecDepth 8000
end
end Go.Proofs.Q
namespace Go.Proofs.Q
open Go.Sl Go.Sb Tryz
set_option maxRecDepth 8000
theorem u2Q (W:World) (a:Ad) (s:St) (bw:Nat) (H:b0A) (c:Rx) (G:Gh) (hJ:J s G (er c)) (hsm:Sml (er c)) (hc:c0T H c) (hnx:c.next<1000000) (j:Nat) (hj:j<c.l.length) (x:Ent) (hx:a0E c.l[j].v.id s.vols=some x):
 a0F prog 54 #[ptr bw,d0Z x,z0H c.l[j]] (RS W a s++ [h0N bw a.core c,b0Z H]) (a0T (.bool true) (RS W a s++ [h0N bw a.core c,b0Z H])):=by
 have hin:c.l[j].v∈(er c).l:=List.mem_map.2 ⟨_,List.getElem_mem hj,rfl⟩;have hvi:=hc.maps _ (List.getElem_mem hj);obtain⟨x',hx',hr⟩:=hJ.vol _ hin;rw[hx]at hx';cases hx'
 have hid:=hJ.ids _ hin;have hxi:=(hJ.ci.ids _ (hJ.ci.mem hx)).1;have hsv:=hsm.vol _ hin;have hsz:=hJ.sized _ hin;have hsum:=hJ.sumDoc hin;have hjl:j<(er c).l.length:=by show j<(c.l.map (·.v)).length;rw[List.length_map];exact hj
 have hjv:(er c).l[j]=c.l[j].v:=by simp[er]
 have hfi:=hJ.findOf hjl;have hgd:(er c).l.getD j v0=c.l[j].v:=by rw[List.getD_eq_getElem?_getD,List.getElem?_eq_getElem hjl,hjv];rfl
 rw[hjv]at hfi;have hnn:(er c).next=c.next:=rfl;obtain⟨r1,r2,r3,r4,r5⟩:=hr;obtain⟨xi,xp,xo,xs,xr,xb⟩:=x;simp only at hxi r1 r2 r3 r4;subst hxi r1 r2 r3 r4;obtain⟨k,hk⟩: ∃k:Int,k=min c.l[j].v.size 30:=⟨_,rfl⟩;have hbad:m0B ((er c).l.getD j v0) (c.l[j].v.size-k) k=false:=by rw[hgd];unfold m0B;refine decide_eq_false ?_;omega
 have hrd:=hJ.readIn hfi hbad;obtain⟨B0,hB0⟩: ∃B0,m0C (er c) c.l[j].v.id (c.l[j].v.size-k) k=(B0,0):=by unfold m0C;rw[hfi];simp only;rw[if_neg (by rw[hbad];decide)];exact⟨_,rfl⟩
 have hrs:=l1V H c c.l[j].v.id (c.l[j].v.size-k) k hc hJ.sized;rw[hB0]at hrd hrs;have hw1:IntKind.i64.wrap c.l[j].v.id=c.l[j].v.id:=e0L .i64 _ (by omega) (by show c.l[j].v.id<9223372036854775808;omega);have hw2:IntKind.i64.wrap c.l[j].v.parent=c.l[j].v.parent:=e0L .i64 _ hsv.1.1 (by show c.l[j].v.parent<9223372036854775808;have:=hsv.1.2;omega);have hw3:IntKind.i64.wrap c.l[j].v.born=c.l[j].v.born:=e0L .i64 _ hsv.2.1 (by show c.l[j].v.born<9223372036854775808;have:=hsv.2.2;omega);obtain⟨D,hD⟩: ∃D,D=dgR c.l[j].v.m 2 0:=⟨_,rfl⟩;have hDl:D.length=32:=by rw[hD];exact b2A _ _ _
 have hs2:(D.map a0Q).toArray.size=32:=by simp[hDl]
 rw[←hD]at hsum;refine ns ?_;refine en func54 ntmps54 fun R w0=> ?_;refine go 2 ?_;refine bx fun b4=> ?_;refine bx fun b5=> ?_;refine go 9 ?_;rw[hw1];refine go 7 ?_;rw[hw2];refine go 9 ?_;refine c0R (b2Z F.bo4 rfl rfl) (wg rfl rfl rfl (wFF (by simp))) ?_;refine go 12 ?_;rw[hw3];refine go 10 ?_;refine fx (.r 0 6 (.float 10 (.hard 6 (.r 7 3 (.res (.hard 11 (.soft 12 .done))))))) [h0N bw a.core c,r0Y b4 ⟨c.l[j].v.id,c.l[j].v.parent,c.l[j].v.only,c.l[j].v.size,xr,c.l[j].v.born⟩] ?_;refine go 6 ?_;refine l0Z (e0:= []) rfl gSu (fun _ _ _=>rfl) Zr.o rfl ?_;refine c0F rfl (fun hok EE FF=> ?_);refine ns ?_;refine cg 0 (u2P (W:=W) hsum a) ?_;refine go 1 ?_;refine fn (E:=EE) (F:=FF) (hok.put rfl) ?_;refine go 3 ?_;refine n0A (fun b7=> ?_);dsimp only;refine c0F rfl (fun hok EE FF=> ?_);refine ns ?_;refine a0M Sz.o rfl rfl hs2 (fun x hx=>by simp at hx;obtain⟨_,_,rfl⟩:=hx;rfl) (by rw[hs2];simp[Value.cells]) (a0N (by rw[hs2];simp[Value.cells])) ?_;refine go 1 ?_;refine fn (E:=EE) (F:=FF) hok ?_;refine go 8 ?_;rw[←hk];refine go 4 ?_;refine mx (.r 0 11 (.hard 11 (.r 12 5 .done))) [h0N bw a.core c,r0Y b4 ⟨c.l[j].v.id,c.l[j].v.parent,c.l[j].v.only,c.l[j].v.size,xr,c.l[j].v.born⟩,v1F b5 c.l[j]] ?_;refine cg 12 (v1Y (W:=W) hrd a) ?_;refine go 10 ?_;refine mx (.r 0 11 (.hard 11 (.r 12 5 .done))) [h0N bw a.core c,v1F b5 c.l[j]] ?_;refine go 3 ?_;refine c0V rfl (a0L (v:=(a0H c).toArray) Ag.o rfl (by simp[Value.cells,a0H]) (by rfl)) ?_;refine cg 8 (hrs) ?_;refine go 10 ?_;refine mx (.r 0 8 (.r 9 2 (.hard 8 (.hard 11 (.r 12 8 .done))))) [v1F b5 c.l[j],pts b7 (.cells (D.map a0Q).toArray 44 (0,0))] ?_;refine go 7 ?_;refine v0K rfl (a0L Ag.o rfl (by rw[hs2];omega) (a0G hs2)) (wg rfl rfl rfl (wTT rfl)) ?_;refine cg 4 (v0V D hDl) ?_;refine cg 4 (y1B H c.l[j].mv c.l[j].v.m hvi.1 hvi.2) ?_;refine go 2 ?_;refine v0K rfl (r0Z rfl rfl) (wg rfl rfl rfl (wTT rfl)) ?_;refine go 2 ?_;refine v0K rfl (d0V rfl) (wg rfl rfl rfl (wTT (by rw[hD];simp))) ?_;refine v0K rfl (d0V rfl) (wg rfl rfl rfl (wTT (by rw[hD];simp))) ?_;refine v0K rfl (r0Z rfl rfl) (wg rfl rfl rfl (wTT (by rw[hD];simp))) ?_;refine c0V rfl (i0B rfl (by rw[hD];simp) rfl) ?_;refine go 3 ?_;exact rG (hu:=(by simp))
abbrev j1E (b bw:Nat):a0C:=pts b (.cells #[ptr bw] 26 (0,0))
abbrev j1F (b:Nat) (v:Value):a0C:=pts b (.cells #[v] 90 (0,0))
abbrev f2Z (v:Value) (l:List Int):a0C:=b0H 3 1 v l.length (j0P l)
abbrev l1X (a:Ad) (b1 b4 b9 bw:Nat) (c:Rx) (rv:Value) (roots:List Int):a0C:=b0D [j1E b1 bw,j1F b4 rv,j1F b9 (.slice none 0 0),f2Z rv roots,h0N bw a.core c]
abbrev l1Y (a:Ad) (b1 b9 bw:Nat) (c:Rx) (n:Nat):a0C:=ex fun x:Value×List Int=>b0D [m0K (x.2.length=n),j1E b1 bw,j1F b9 x.1,f2Z x.1 x.2,h0N bw a.core c]
theorem g2A (W:World) (a:Ad) (s:St) (G:Gh) (P:List Int) (hi:Inv s G P) (b1 b4 b9 bw:Nat) (c:Rx) (rv:Value) (hrv:rv.oneCell'=true) (roots:List Int) (hk: ∀r∈roots,a0Y G 3 r) (hP: ∀p∈P,p∈roots) (hrl:roots.length≤1000):
 a0F prog 55 #[ptr b1,ptr b4,ptr b9] (RS W a s++ [l1X a b1 b4 b9 bw c rv roots]) (Ran fT (RSC W a (l1X a b1 b4 b9 bw c rv roots) fun _:Unit=>l1Y a b1 b9 bw c (s.g.count 1)) k0I (f0F (ret ()) (s,.start))):=by
 refine ns ?_;refine en func55 ntmps55 fun R w0=> ?_;refine k0Q (show Fnd _ (l1X a b1 b4 b9 bw c rv roots) _ from gFd) ?_;refine ns ?_;refine tl 8 ?_;refine go 6 ?_;refine b0X (j0K Sc.o rfl gFd rfl) ?_;refine ce 2 (q1M W a s G P hi roots hk hP rv hrl) ?_;rintro⟨v,xs⟩ hx;refine ns ?_;dsimp only at hx ⊢;refine y0K (e:=3) (v:=v) gFd fun hv1=> ?_;refine go 2 ?_;refine b0G (L':=l1Y a b1 b9 bw c (s.g.count 1)::(RS W a s++ [R])) (fun w h=>g0X.2 ⟨(v,xs),b0J.2 ?_⟩) ?_
 ·refine ns ?_;exact n0H hx w (h.sub gSp)
 ·exact fR (s:=(s,.done ())) rfl
theorem u2R (x:Ent):eqK [0,0,2,0,0,0] (h0L x) (h0L x)=some true:=by simp[h0L,eqK]
theorem u2S {α:Type} {m:M α} {s t t':St} {e:Int} {c c':Car α} (h:n0T (f0F m) (s,.start)=(.ok e,(t,c))) (h':h0V m s=(.ok (0,c'),t')):0=e∧c'=c∧t'=t:=by
 rw[s0M h]at h';simp only[Prod.mk.injEq,Out.ok.injEq]at h';exact⟨h'.1.1.symm,h'.1.2.symm,h'.2.symm⟩
theorem b2K {s:St} {G:Gh} (h:CI s G):h0V (ret ():M Unit) s=(.ok (0,.done ()),s):=by
 have:=q0I h (m:=(ret ():M Unit)) (a:=()) rfl (Rel.refl h.deep.u);rw[s1H h.dep h.log h.gone]at this;exact this
theorem l2E (W:World) (a:Ad) (s:St) (bw:Nat) (H:b0A) (c:Rx) (G:Gh) (hJ:J s G (er c)) (hsm:Sml (er c)) (hc:c0T H c) (hnx:c.next<1000000):
 a0F prog 16 #[ptr bw] (RS W a s++ [h0N bw a.core c,b0Z H]) (a0T (.bool true) (RS W a s++ [h0N bw a.core c,b0Z H])):=by
 have hel:(er c).l.length=c.l.length:=List.length_map ..;have h16:s.vols.length≤16:=hJ.ci.few;have hcl:c.l.length≤16:=by have:=hJ.len;omega
 have hnn:(er c).next=c.next:=rfl;have hpos:=hJ.pos;have hsn:=hJ.next;have hwn:IntKind.i64.wrap s.next=c.next:=by rw[hsn];exact e0L .i64 _ (by omega) (by show(er c).next<9223372036854775808;omega)
 obtain⟨pr,capr,hlv,hcapr⟩:=d0Q hc.vols;have hrow:=hc.vols;rw[hlv]at hrow;obtain⟨roots,hroots⟩: ∃roots,roots=(er c).l.map (x0N s):=⟨_,rfl⟩;have hrtl:roots.length=c.l.length:=by rw[hroots,List.length_map,hel]
 refine ns ?_;refine en func16 ntmps16 fun R w0=> ?_;refine go 2 ?_;refine bx fun b1=> ?_;refine ce 9 (v1P a s h16 hJ.ci.inv.u.m.vols) ?_;rintro⟨lv,xs⟩ ⟨h1,h2⟩;refine ns ?_;dsimp only at h1 h2 ⊢;have hxs:=hJ.keys h1 h2;have hxl:xs.length=c.l.length:=by rw[hxs,List.length_map,hel]
 clear h1 h2;refine go 5 ?_;refine o0L (e:=50) (v:=lv) gFd fun pe cape hve hcape _=> ?_;subst hve;refine mx (.r 0 14 (.r 16 5 (.hard 14 (.soft 15 (.r 21 2 .done))))) [j1E b1 bw,h0N bw a.core c] ?_;refine go 6 ?_;refine c0V rfl (b0M (v:= .slice pr c.l.length capr) Sc.o rfl (by exact congrArg some hlv)) ?_;refine cg 14 (f2S W a s) ?_;refine go 3 ?_;rw[hwn];refine go 9 ?_;refine bl fun b39=> ?_;refine al fun b4=> ?_;refine go 10 ?_;refine a0D (b0M (v:= .slice pr c.l.length capr) Sc.o rfl (by exact congrArg some hlv)) ?_;refine go 5 ?_;refine b0V (fun w h=>n0U 1 ((show Fnd _ (pts b39 _) _ from gFd).sat h)) ?_;refine a0V (X:= {y:Nat×Value // y.1≤c.l.length∧y.2.oneCell'=true}) (fun y=> [(1,ptr b1),(2,.bool false),(3,.slice pe xs.length cape),(4,ptr b4),(44,.slice pr c.l.length capr),(45,.int .i64 c.l.length),(46,.int .i64 y.1.1)]) (fun y=>RS W a s++ [h0N bw a.core c,b0Z H,j1E b1 bw,j1F b4 y.1.2,b0H 3 1 y.1.2 y.1.1 (j0P (roots.take y.1.1)),b0H 50 6 (.slice pe xs.length cape) xs.length (xs.flatMap (c1I s)),R]) (fun y=>c.l.length-y.1.1) ⟨(0,.slice (some ⟨b39,0,none⟩) 0 0),Nat.zero_le _,rfl⟩ gSu gSp ?_;rintro⟨⟨j,rv⟩,hj,hrv⟩ m0 hm0
 try simp only at hm0
 try dsimp only
 simp only at hj hrv;refine ns ?_;refine go 6 ?_;refine a0P rfl (fun hb47=> ?_) (fun hb47=> ?_)
 ·have hjl:j<c.l.length:=by have:=of_decide_eq_true hb47;omega
  have hjr:j<roots.length:=by omega
  obtain⟨b,o,cap',cur,hv,hcp,hmem,hcut,hlen⟩:=g0G hrow (by omega);cases hv
  have hcu:(cur.drop (o+j*6)).take 6=a0S c.l[j]:=(h0R hcut hjl).trans (m0V c.l hjl);have hvi:=hc.maps _ (List.getElem_mem hjl);have hin:c.l[j].v∈(er c).l:=List.mem_map.2 ⟨_,List.getElem_mem hjl,rfl⟩;have hid:=hJ.ids _ hin;have hwu:IntKind.u32.wrap c.l[j].v.id=c.l[j].v.id:=e0L .u32 _ (by omega) (by show c.l[j].v.id<2147483648;omega);obtain⟨x,hx,hxr⟩:=hJ.vol _ hin;refine i0Y (e:=50) (v:= .slice pe xs.length cape) gFd (by omega) fun be cpe hve2 hcpe=> ?_;cases hve2
  have hxj:xs[j]'(by omega)=c.l[j].v.id:=by simp[hxs,er]
  have hcut2:((xs.flatMap (c1I s)).drop (j*6)).take 6=h0L x:=by rw[q0E (f:=c1I s) (size:=6) (fun _=>rfl) xs (by omega)];show h0L ((a0E xs[j] s.vols).getD h0T)=_;rw[hxj,hx];rfl
  have hrj:roots[j]=x.root:=by have:x0N s c.l[j].v=x.root:=(by unfold x0N;rw[hx];rfl);simp[hroots,er,this]
  refine go 8 ?_;refine a0D (e0U (vs:=a0S c.l[j]) Ag.o rfl gFd hmem hcu rfl (by decide)) ?_;refine al fun b6=> ?_;refine go 1 ?_;refine a0M Sz.o rfl rfl rfl (fun u hu=>q0Q hvi u (by simpa using hu)) (by simp[Value.cells,a0H,a0S]) (a0N (by simp[Value.cells,a0H,a0S])) ?_;refine go 3 ?_;refine fx (.r 0 7 (.float 11 (.hard 7 (.r 8 3 (.res (.hard 12 (.soft 13 .done))))))) [h0N bw a.core c,j1E b1 bw,v1F b6 c.l[j]] ?_;refine go 7 ?_;refine l0Z (e0:= []) rfl gSu (fun _ _ _=>rfl) Zr.o rfl ?_;rw[hwu];refine c0F rfl (fun hok EE FF=> ?_);refine ns ?_;refine cg 0 ((by have h:=e1P W a s c.l[j].v.id;rw[hx]at h;exact h)) ?_;refine go 1 ?_;refine fn (E:=EE) (F:=FF) (hok.put rfl) ?_;refine go 3 ?_;refine n0A (fun b7=> ?_);dsimp only;refine c0F rfl (fun hok EE FF=> ?_);refine ns ?_;refine go 2 ?_;refine fn (E:=EE) (F:=FF) hok ?_;refine go 5 ?_;refine tl 14 ?_;refine go 7 ?_;refine m0W (wg rfl rfl rfl (wFF rfl)) (c1Z (e:=50) (size:=6) (xs:=xs.flatMap (c1I s)) Ag.o rfl gFd (vs:=h0L x) (by rw[Nat.zero_add];exact hcut2) rfl (by decide)) ?_;refine m0W (wg rfl rfl rfl (wFF rfl)) (t1D F.fk50 rfl rfl (u2R x)) ?_;refine cg 7 (u2Q W a s bw H c G hJ hsm hc hnx j hjl x hx) ?_;refine go 11 ?_;refine bl fun b82=> ?_;refine(c0Z Tsl.o Ttb.o Zr.o rfl rfl rfl gFd (e0Z Tsl.o (by simp;rfl) (by simp) (by simp[Value.oneCell'])) (by simp only[maxLen];omega) (by omega) (fun v83 hv83=> ?_));refine go 2 ?_;rw[show j0P (roots.take j)++ [Value.int .i64 x.root]=j0P (roots.take (j+1)) by rw[List.take_succ,List.getElem?_eq_getElem hjr,hrj];simp[j0P]];refine go 5 ?_;exact rd idh (⟨(j+1,v83),hjl,hv83⟩)
 ·obtain rfl:j=c.l.length:=by have:=of_decide_eq_false hb47;omega
  rw[show b0H 3 1 rv c.l.length (j0P (roots.take c.l.length))=f2Z rv roots by rw[List.take_of_length_le (by omega),←hrtl]];refine go 4 ?_;refine al fun b9=> ?_;refine go 10 ?_;refine a0D (j0K Sc.o rfl gFd rfl) ?_;refine go 1 ?_;refine e0K (k0Z (N:= [j1E b1 bw,j1F b4 rv,j1F b9 (.slice none 0 0),f2Z rv roots,h0N bw a.core c]) gSp) ?_;refine a0X rfl Hb.o rfl (t0D (C:=Car Unit) W a (u0A (l1X a b1 b4 b9 bw c rv roots) (fun _:Unit=>l1Y a b1 b9 bw c (s.g.count 1))) 55 [ptr b1,ptr b4,ptr b9] (f0F (ret ())) s .start Hb.o (c1G (by rw[b2K hJ.ci];simp)) (fun _=>g2A W a {s with depth:=s.depth+1} G (h0J s) (by rw[hJ.ci.dep];exact hJ.ci.deep) b1 b4 b9 bw c rv hrv roots (by rw[hroots];exact hJ.rootKid) (by rw[hroots];exact hJ.rootAll) (by omega))) gSp (fun e ⟨t,oc⟩ ho=> ?_) (fun e t ho=>by refine pn ?_;(exact(m0F ho).elim));refine ns ?_;refine go 2 ?_;obtain⟨rfl,rfl,rfl⟩:=u2S ho (b2K hJ.ci);simp only[u0A];refine go 2 ?_;refine u0N (show Fnd _ (l1Y a b1 b9 bw c (s.g.count 1)) _ from gFd) fun x=> ?_;obtain⟨rv2,ys⟩:=x;refine ns ?_;refine o0E (p:=ys.length=s.g.count 1) gFd fun hyl=> ?_;refine o0L (e:=3) (v:=rv2) gFd fun py cpy hvy hcpy _=> ?_;subst hvy;refine f1J (.soft 0 (.soft 1 (.soft 2 (.soft 3 (.soft 4 (.soft 5 (.soft 6 (.soft 7 (.soft 8 (.soft 9 (.soft 10 (.soft 11 (.hard 12 (.soft 13 (.soft 14 (.soft 15 .done)))))))))))))))) [HLX a,j1E b1 bw,j1F b9 (.slice py ys.length cpy),h0N bw a.core c] Fol.o (by kernel_rfl) (by repeat (first|with_reducible exact b0S.bp|with_reducible apply b0S.then|with_reducible apply b0S.inBlock)) (h0M gSp) ?_;refine go 11 ?_;refine v0K rfl (a1C Sc.o rfl gFd (fun _ _=>rfl)) (wg rfl rfl rfl (wTT rfl)) ?_;refine cg 2 (d2L a s) ?_;refine go 1 ?_;refine i0R (h0M gSp) ?_;refine go 5 ?_;exact rG (hu:=(by rw[hyl];simp[q2E]))
end Go.Proofs.Q
namespace Go.Proofs.Q
open Go.Sl Go.Sb Tryz
def opI (q id at_ n:Int) (l:B):List Value:= [.int .i64 q,.int .u32 id,.int .i64 at_,.int .i64 n,b0B l]
def roI (q id at_ n:Int) (l:B):List Value:= [.int .i64 q,.int .i64 id,.int .i64 at_,.int .i64 n,b0B l]
theorem z2Q (l:B): ∃k:Nat,k≤12∧m0S k (o0D l):=by
 refine⟨(l.take 12).length,by rw[List.length_take];omega,(l.take 12).map fun c=>c.toNat%4,by rw[List.length_map],fun k hk=> ?_,?_⟩
 ·obtain⟨c,_,rfl⟩:=List.mem_map.1 hk;omega
 ·unfold o0D;rw[List.flatMap_map];rfl
def z2A (q:Int) (l:B):B:=if q=6 then o0D l else []
theorem z2W (ki ai at_ n:Int) (l:B) (q id:Int) (hq:ki%256%8=q) (hid:ai%16=id):a0F prog 25 #[actV ki ai at_ n l] [] (a0T (.agg (opI q id at_ n (z2A q l)).toArray) []):=by
 have hwu:IntKind.u32.wrap id=id:=e0L .u32 id (by omega) (by show id<2147483648;omega);refine en func25 ntmps25 fun R w0=> ?_
 try simp only[actV]
 refine go 2 ?_;refine bx fun b1=> ?_;refine al fun b2=> ?_;refine go 6 ?_;refine a0D (n0Y rfl rfl) ?_;rw[f1C _ (by decide)];refine go 1 ?_;rw[hq];refine go 2 ?_;refine a0D (n0Y rfl rfl) ?_;rw[g2G,hid];refine go 1 ?_;rw[hwu];refine go 5 ?_;refine al fun b3=> ?_;refine(a0M Sz.o rfl rfl (by first|rfl|simp) (by simp[Value.oneCell']) (by simp[Value.cells]) (by simp[i0X,Value.cells]<;>rfl) ?_);refine go 10 ?_;refine a0P rfl (fun hb19=> ?_) (fun hb19=> ?_)
 ·rw[show z2A q l=o0D l from if_pos (by simpa using hb19)];refine cg 3 (k2M l) ?_;refine go 7 ?_;refine(a0M Sz.o rfl rfl (by first|rfl|simp) (by simp[Value.oneCell']) (by simp[Value.cells]) (by simp[i0X,Value.cells]<;>rfl) ?_);refine go 2 ?_;refine p0Y idh (RV.agg Ag.o rfl (by simp) (by rfl) RV.nil) rfl gSp
 ·rw[show z2A q l= []from if_neg (by simpa using hb19)];refine go 5 ?_;refine(a0M Sz.o rfl rfl (by first|rfl|simp) (by simp[Value.oneCell']) (by simp[Value.cells]) (by simp[i0X,Value.cells]<;>rfl) ?_);refine go 2 ?_;refine p0Y idh (RV.agg Ag.o rfl (by simp) (by rfl) RV.nil) rfl gSp
theorem z2G (q id at_ n:Int) (l:B) (hid:0≤id∧id<4294967296):a0F prog 28 #[.agg (opI q id at_ n l).toArray] [] (a0T (.agg (roI q id at_ n l).toArray) []):=by
 have w2:IntKind.i64.wrap id=id:=e0L _ _ hid.1 (by simp only[IntKind.bits];omega);refine en func28 ntmps28 fun R w0=> ?_
 try simp only[opI]
 refine go 2 ?_;refine bx fun b1=> ?_;refine al fun b2=> ?_;refine go 15 ?_;rw[w2];refine go 1 ?_;refine(a0M Sz.o rfl rfl (by first|rfl|simp) (by simp[Value.oneCell']) (by simp[Value.cells]) (by simp[i0X,Value.cells]<;>rfl) ?_);refine go 2 ?_;refine p0Y idh (RV.agg Ag.o rfl (by simp) (by rfl) RV.nil) rfl gSp
theorem z2B:a0F prog 24 #[] [] (a0T (.bool true) []):=by
 have hp:a0F prog 29 #[.string ⟨#[8,0,0,0,0,0,0,0,0]⟩] [] (a0T (.tuple #[.agg #[.int .i64 0,.int .u32 0,.int .i64 0,.int .i64 0,.string ByteArray.empty],.int .i64 15]) []):=y2V [8,0,0,0,0,0,0,0,0] (by decide);have hb:a0F prog 30 #[.agg #[.int .i64 4,.int .u32 3,.int .i64 0,.int .i64 0,.string ByteArray.empty]] [] (a0T (.string (bs [4,0,0,0,3,0,0,0,0])) []):=y2U 4 3 0 0 ByteArray.empty (by decide) (by decide) (by decide) (by decide) (by decide);refine en func24 ntmps24 fun R w0=> ?_;refine cg 7 (hp) ?_;refine go 3 ?_;refine al fun b1=> ?_;refine(a0M Sz.o rfl rfl (by first|rfl|simp) (by simp[Value.oneCell']) (by simp[Value.cells]) (by simp[i0X,Value.cells]<;>rfl) ?_);refine cg 6 (hb) ?_;refine a0D (r0Z rfl rfl) ?_;refine go 1 ?_;refine c0R (d0V rfl) (wg rfl rfl rfl (wTT (beq_self_eq_true _))) ?_;refine c0R (a1G rfl rfl) (wg rfl rfl rfl (wTT (beq_self_eq_true _))) ?_;refine a0D (i0B rfl (beq_self_eq_true _) rfl) ?_;refine go 3 ?_;exact rG
abbrev fnV (f:Nat):Value:= .func (.func f) #[] #[]
abbrev copM:List (Int×Nat):= [(2,40),(3,44)]
theorem y2W:a0F prog 73 #[] [] (b0N (fun _:Nat=>True) (fun b=> .map (some b)) (fun b=> [b0L b a0J fnV copM])):=by
 refine en func73 ntmps73 fun R w0=> ?_;refine go 7 ?_;refine(q0T (fun b1=> ?_));refine e0K (fun w h=>t0M a0J fnV ((show Fnd _ (pts b1 _) _ from gFd).sat h)) ?_;refine(z2F (ek:=a0J) (ev:=fnV) d0I.o i0T (tt fun _=>trivial) trivial rfl rfl rfl gFd ?_);refine(z2F (ek:=a0J) (ev:=fnV) d0I.o i0T (tt fun _=>trivial) trivial rfl rfl rfl gFd ?_);rw[show b0T 3 44 (b0T 2 40 [])=copM from rfl];refine go 4 ?_;exact rE idh b1 trivial
theorem z2L (W:World) (hW:h0W W) (a:Ad) (s t:St) (P Q:Rp) (q id at_ n m e:Int) (l:B) (hq:1≤q∧q≤7) (hl:l.length≤768) (hf:Fit s) (hO:OpR q id at_ n l s P m e t Q):
 a0F prog 26 #[.agg (opI q id at_ n l).toArray,ptr a.core] (RS W a s) (a0T (y0Q (m,e)) (RS W a t)):=by
 refine en func26 ntmps26 fun R w0=> ?_
 try simp only[opI]
 refine go 2 ?_;refine bx fun b2=> ?_;refine go 18 ?_;refine a0P rfl (fun hb8=> ?_) (fun hb8=> ?_)
 ·obtain rfl:q=1:=by simpa using hb8
  have k1:=l1W (W:=W) hf (hO.o1 rfl) a;refine cg 5 (k1) ?_;refine go 6 ?_;exact rG
 ·refine go 7 ?_;refine a0P rfl (fun hb16=> ?_) (fun hb16=> ?_)
  ·refine go 4 ?_;obtain rfl:q=2:=by simpa using hb16
   have k1:=v1X (W:=W) hf (hO.o2 (.inl rfl)) a;refine mx (.r 1 2 (.r 4 3 (.hard 0 (.hard 3 (.hard 7 (.r 8 4 .done)))))) [pts b2 (.cells #[.int .i64 2,.int .u32 id,.int .i64 at_,.int .i64 n,b0B l] 70 (0,0))] ?_;refine ce 6 (y2W) ?_;rintro mb _;refine ns ?_;refine go 3 ?_;refine a0D (z2K (ek:=a0J) (ev:=fnV) d0I.o i0T (tt fun _=>trivial) trivial Zr.o rfl rfl gFd rfl) ?_;refine cg 3 (k1) ?_;refine go 8 ?_;exact rG
  ·have hq2: ¬q=2:=by simpa using hb16
   refine go 5 ?_;refine a0P rfl (fun hb16=> ?_) (fun hb16=> ?_)
   ·refine go 1 ?_;obtain rfl:q=3:=by simpa using hb16
    have k1:=l2A (W:=W) hf (hO.o2 (.inr rfl)) a;refine mx (.r 1 2 (.r 4 3 (.hard 0 (.hard 3 (.hard 7 (.r 8 4 .done)))))) [pts b2 (.cells #[.int .i64 3,.int .u32 id,.int .i64 at_,.int .i64 n,b0B l] 70 (0,0))] ?_;refine ce 6 (y2W) ?_;rintro mb _;refine ns ?_;refine go 3 ?_;refine a0D (z2K (ek:=a0J) (ev:=fnV) d0I.o i0T (tt fun _=>trivial) trivial Zr.o rfl rfl gFd rfl) ?_;refine cg 3 (k1) ?_;refine go 8 ?_;exact rG
   ·refine go 6 ?_;refine a0P rfl (fun hb29=> ?_) (fun hb29=> ?_)
    ·obtain rfl:q=4:=by simpa using hb29
     obtain rfl:=hO.no (by decide);have k1:=f2U (W:=W) hf (hO.o4 rfl) a;refine cg 5 (k1) ?_;refine go 4 ?_;exact rG
    ·refine go 6 ?_;refine a0P rfl (fun hb35=> ?_) (fun hb35=> ?_)
     ·obtain rfl:q=5:=by simpa using hb35
      obtain rfl:=hO.no (by decide);have k1:=f2V (W:=W) hW hf (hO.o5 rfl) a;refine cg 7 (k1) ?_;refine go 4 ?_;exact rG
     ·refine go 6 ?_;refine a0P rfl (fun hb43=> ?_) (fun hb43=> ?_)
      ·obtain rfl:q=6:=by simpa using hb43
       obtain rfl:=hO.no (by decide);have k1:=y0T (W:=W) hW hf (by omega) (hO.o6 rfl) a;refine cg 9 (k1) ?_;refine go 4 ?_;exact rG
      ·obtain rfl:q=7:=by simp at hb8 hb16 hb29 hb35 hb43;omega
       obtain rfl:=hO.no (by decide);have k1:=p2W (W:=W) hW hf (hO.o7 rfl) a;refine cg 16 (k1) ?_;refine go 4 ?_;exact rG
theorem y2Y (H:b0A) (c:Rx) (q id at_ n:Int) (l:B) (hc:c0T H c) (hsz:y0S (er c)) (hbits:c.bits≤256) (hnx:0≤c.next∧c.next<1000000000) (hl:l.length≤768) (hq:1≤q∧q≤7):
 a0F prog 27 #[e0R c,.agg (roI q id at_ n l).toArray] [b0Z H] (b0N (x0X H (rdo (er c) q id at_ n l).1) (p2N (rdo (er c) q id at_ n l).2.2 (rdo (er c) q id at_ n l).2.1) (fun x=> [b0Z x.1])):=by
 have hone:=c0H hc;refine en func27 ntmps27 fun R w0=> ?_
 try simp only[roI]
 refine go 2 ?_;refine bx fun b2=> ?_;refine bx fun b3=> ?_;refine al fun b4=> ?_;refine go 18 ?_;refine a0P rfl (fun hb17=> ?_) (fun hb17=> ?_)
 ·obtain rfl:q=1:=by simpa using hb17
  rw[show rdo (er c) 1 id at_ n l=e0S (er c) n from rfl];refine go 2 ?_;refine a0D (a0L (v:=(a0H c).toArray) Ag.o rfl (by simp[Value.cells,e0R,a0H]) (by rfl)) ?_;refine ce 2 (v1Q H c n hc hnx) ?_;rintro⟨H2,c2⟩ ⟨hs2,hc2,hr2⟩;refine ns ?_;refine go 3 ?_;refine a0M Sz.o rfl rfl rfl (fun u hu=>c0H hc2 u (by simpa using hu)) (by simp[Value.cells,a0H,a0S]) (a0N (by simp[Value.cells,a0H,a0S])) ?_;refine go 4 ?_;exact c0N (x:=((H2,c2):b0A×Rx)) ⟨hs2,hc2,hr2⟩ idh (RV.agg Ag.o rfl (by simp[a0H]) (by rfl) (RV.tmp rfl (RV.tmp rfl RV.nil))) rfl gSp
 ·refine go 7 ?_;refine a0P rfl (fun hb26=> ?_) (fun hb26=> ?_)
  ·refine go 4 ?_;obtain rfl:q=2:=by simpa using hb26
   rw[show rdo (er c) 2 id at_ n l=i0N (er c) id true from rfl];refine go 1 ?_;refine a0D (a0L (v:=(a0H c).toArray) Ag.o rfl (by simp[Value.cells,e0R,a0H]) (by rfl)) ?_;refine ce 5 (l1S H c id true hc hnx) ?_;rintro⟨H2,c2⟩ ⟨hs2,hc2,hr2⟩;refine ns ?_;refine go 3 ?_;refine a0M Sz.o rfl rfl rfl (fun u hu=>c0H hc2 u (by simpa using hu)) (by simp[Value.cells,a0H,a0S]) (a0N (by simp[Value.cells,a0H,a0S])) ?_;refine go 4 ?_;exact c0N (x:=((H2,c2):b0A×Rx)) ⟨hs2,hc2,hr2⟩ idh (RV.agg Ag.o rfl (by simp[a0H]) (by rfl) (RV.tmp rfl (RV.tmp rfl RV.nil))) rfl gSp
  ·have hq2: ¬q=2:=by simpa using hb26
   refine go 5 ?_;refine a0P rfl (fun hb26=> ?_) (fun hb26=> ?_)
   ·refine go 1 ?_;obtain rfl:q=3:=by simpa using hb26
    rw[show rdo (er c) 3 id at_ n l=i0N (er c) id false from rfl];refine go 1 ?_;refine a0D (a0L (v:=(a0H c).toArray) Ag.o rfl (by simp[Value.cells,e0R,a0H]) (by rfl)) ?_;refine ce 5 (l1S H c id false hc hnx) ?_;rintro⟨H2,c2⟩ ⟨hs2,hc2,hr2⟩;refine ns ?_;refine go 3 ?_;refine a0M Sz.o rfl rfl rfl (fun u hu=>c0H hc2 u (by simpa using hu)) (by simp[Value.cells,a0H,a0S]) (a0N (by simp[Value.cells,a0H,a0S])) ?_;refine go 4 ?_;exact c0N (x:=((H2,c2):b0A×Rx)) ⟨hs2,hc2,hr2⟩ idh (RV.agg Ag.o rfl (by simp[a0H]) (by rfl) (RV.tmp rfl (RV.tmp rfl RV.nil))) rfl gSp
   ·refine go 6 ?_;refine a0P rfl (fun hb39=> ?_) (fun hb39=> ?_)
    ·obtain rfl:q=4:=by simpa using hb39
     rw[show rdo (er c) 4 id at_ n l=((g0T (er c) id).1,0,(g0T (er c) id).2)from rfl];refine go 2 ?_;refine a0D (a0L (v:=(a0H c).toArray) Ag.o rfl (by simp[Value.cells,e0R,a0H]) (by rfl)) ?_;refine ce 2 (v1R H c id hc) ?_;rintro⟨H2,c2⟩ ⟨hs2,hc2,hr2⟩;refine ns ?_;refine go 3 ?_;refine al fun b7=> ?_;refine a0M Sz.o rfl rfl rfl (fun u hu=>c0H hc2 u (by simpa using hu)) (by simp[Value.cells,a0H,a0S]) (a0N (by simp[Value.cells,a0H,a0S])) ?_;refine go 7 ?_;refine a0M Sz.o rfl rfl rfl (fun u hu=>c0H hc2 u (by simpa using hu)) (by simp[Value.cells,a0H,a0S]) (a0N (by simp[Value.cells,a0H,a0S])) ?_;refine go 4 ?_;exact c0N (x:=((H2,c2):b0A×Rx)) ⟨hs2,hc2,hr2⟩ idh (RV.agg Ag.o rfl (by simp[a0H]) (by rfl) (RV.tmp rfl (RV.tmp rfl RV.nil))) rfl gSp
    ·refine go 6 ?_;refine a0P rfl (fun hb50=> ?_) (fun hb50=> ?_)
     ·obtain rfl:q=5:=by simpa using hb50
      rw[show rdo (er c) 5 id at_ n l=((g0U (er c) id n).1,0,(g0U (er c) id n).2)from rfl];refine go 2 ?_;refine a0D (a0L (v:=(a0H c).toArray) Ag.o rfl (by simp[Value.cells,e0R,a0H]) (by rfl)) ?_;refine ce 4 (v1U H c id n hc hsz hbits) ?_;rintro⟨H2,c2⟩ ⟨hs2,hc2,hr2⟩;refine ns ?_;refine go 3 ?_;refine al fun b9=> ?_;refine a0M Sz.o rfl rfl rfl (fun u hu=>c0H hc2 u (by simpa using hu)) (by simp[Value.cells,a0H,a0S]) (a0N (by simp[Value.cells,a0H,a0S])) ?_;refine go 7 ?_;refine a0M Sz.o rfl rfl rfl (fun u hu=>c0H hc2 u (by simpa using hu)) (by simp[Value.cells,a0H,a0S]) (a0N (by simp[Value.cells,a0H,a0S])) ?_;refine go 4 ?_;exact c0N (x:=((H2,c2):b0A×Rx)) ⟨hs2,hc2,hr2⟩ idh (RV.agg Ag.o rfl (by simp[a0H]) (by rfl) (RV.tmp rfl (RV.tmp rfl RV.nil))) rfl gSp
     ·refine go 6 ?_;refine a0P rfl (fun hb63=> ?_) (fun hb63=> ?_)
      ·obtain rfl:q=6:=by simpa using hb63
       rw[show rdo (er c) 6 id at_ n l=((j0E (er c) id at_ l).1,0,(j0E (er c) id at_ l).2)from rfl];refine go 2 ?_;refine a0D (a0L (v:=(a0H c).toArray) Ag.o rfl (by simp[Value.cells,e0R,a0H]) (by rfl)) ?_;refine ce 6 (y1M H c id at_ l hc hsz hbits (by omega)) ?_;rintro⟨H2,c2⟩ ⟨hs2,hc2,hr2⟩;refine ns ?_;refine go 3 ?_;refine al fun b11=> ?_;refine a0M Sz.o rfl rfl rfl (fun u hu=>c0H hc2 u (by simpa using hu)) (by simp[Value.cells,a0H,a0S]) (a0N (by simp[Value.cells,a0H,a0S])) ?_;refine go 7 ?_;refine a0M Sz.o rfl rfl rfl (fun u hu=>c0H hc2 u (by simpa using hu)) (by simp[Value.cells,a0H,a0S]) (a0N (by simp[Value.cells,a0H,a0S])) ?_;refine go 4 ?_;exact c0N (x:=((H2,c2):b0A×Rx)) ⟨hs2,hc2,hr2⟩ idh (RV.agg Ag.o rfl (by simp[a0H]) (by rfl) (RV.tmp rfl (RV.tmp rfl RV.nil))) rfl gSp
      ·obtain rfl:q=7:=by simp at hb17 hb26 hb39 hb50 hb63;omega
       rw[show rdo (er c) 7 id at_ n l=((l0J (er c) id at_ n).1,0,(l0J (er c) id at_ n).2)from rfl];refine go 9 ?_;refine a0D (a0L (v:=(a0H c).toArray) Ag.o rfl (by simp[Value.cells,e0R,a0H]) (by rfl)) ?_;refine ce 6 (f2L H c id at_ n hc hsz hbits) ?_;rintro⟨H2,c2⟩ ⟨hs2,hc2,hr2⟩;refine ns ?_;refine go 3 ?_;refine al fun b13=> ?_;refine a0M Sz.o rfl rfl rfl (fun u hu=>c0H hc2 u (by simpa using hu)) (by simp[Value.cells,a0H,a0S]) (a0N (by simp[Value.cells,a0H,a0S])) ?_;refine go 7 ?_;refine a0M Sz.o rfl rfl rfl (fun u hu=>c0H hc2 u (by simpa using hu)) (by simp[Value.cells,a0H,a0S]) (a0N (by simp[Value.cells,a0H,a0S])) ?_;refine go 4 ?_;exact c0N (x:=((H2,c2):b0A×Rx)) ⟨hs2,hc2,hr2⟩ idh (RV.agg Ag.o rfl (by simp[a0H]) (by rfl) (RV.tmp rfl (RV.tmp rfl RV.nil))) rfl gSp
theorem h1A {α:Type} {Q:Nat→α→Prop} : ∀n:Nat,(∀i,i<n→ ∃x,Q i x)→ ∃l:List α,l.length=n∧ ∀i (h:i<l.length),Q i l[i]
 |0,_=>⟨[],rfl,fun i h=>absurd h (Nat.not_lt_zero _)⟩
 |n+1,h=>by
  obtain⟨l,hl,hq⟩:=h1A n fun i hi=>h i (by omega);obtain⟨x,hx⟩:=h n (by omega);refine⟨l++ [x],by simp[hl],fun i hi=> ?_⟩;by_cases e:i<l.length
  ·rw[List.getElem_append_left e];exact hq i e
  ·have hi':i=n:=by rw[List.length_append,List.length_singleton]at hi;omega
   subst hi';rw[List.getElem_append_right (by omega)];simpa using hx
theorem y2C (s:ByteArray): ∃l:B,s=bs l:=⟨s.data.toList,by show s=ByteArray.mk s.data.toList.toArray;simp⟩
def w1I (W:World) (v:Value):Prop:= ∃(p:Option Addr) (n cap:Nat),v= .slice p n cap∧n≤maxLen∧ ∀i,i<n→ ∃A,p=some A∧ ∃a b c d s,∀q u,(m2W a b c d s)[q]? =some u→W.cell? ((A.add (i*5)).add q)=some u
theorem u2T {W:World} {v:Value} (h:w1I W v): ∃acts,l2D W v acts:=by
 obtain⟨p,n,cap,rfl,hn,hc⟩:=h;obtain⟨l,hl,hq⟩:=h1A (Q:=fun i (x:AP)=> ∃a,p=some a∧ ∀q u,(p2Y x)[q]? =some u→W.cell? ((a.add (i*5)).add q)=some u) n fun i hi=>by
  obtain⟨A,hp,a,b,c,d,s,hcell⟩:=hc i hi;obtain⟨l,rfl⟩:=y2C s;exact⟨{ki:=a,ai:=b,at_:=c,n:=d,l:=l},A,hp,hcell⟩
 exact⟨l,p,cap,by rw[hl],by omega,hq⟩
section
structure CP (m n:Nat) (x:Nat×St×Gh×Rx×b0A):Prop where
 le:x.1≤n
 lim:x.1≤m
 j:J x.2.1 x.2.2.1 (er x.2.2.2.1)
 bud:Bud x.1 x.2.1 (er x.2.2.2.1)
 next:x.2.2.2.1.next≤1+x.1
 bits:x.2.2.2.1.bits≤256
 core:c0T x.2.2.2.2 x.2.2.2.1
 sml:Sml (er x.2.2.2.1)
structure CQ (m:Nat) (x:St×Gh×Rx×b0A):Prop where
 j:J x.1 x.2.1 (er x.2.2.1)
 bud:Bud m x.1 (er x.2.2.1)
 next:x.2.2.1.next≤1+m
 bits:x.2.2.1.bits≤256
 core:c0T x.2.2.2 x.2.2.1
 sml:Sml (er x.2.2.1)
def cbx (bits:Nat):Rx:= {lv:= .slice none 0 0,l:= [],next:=1,bits:=bits,epoch:=1}
theorem cp0 (m n bits:Nat) (hb:1≤bits∧bits≤256):CP m n (0,j0T (g0A (2498+2)) 2 bits 1,[],cbx bits,[]) where
 le:=Nat.zero_le _
 lim:=Nat.zero_le _
 j:=v2W bits hb
 bud:=m2V bits
 next:=by show(1:Int)≤1+((0:Nat):Int);decide
 bits:=hb.2
 core:=⟨j1X _ _ _,fun x hx=>(by cases hx),by show 0≤1000;decide⟩
 sml:=sml0 bits
theorem CP.done {m n:Nat} {i:Nat} {s:St} {G:Gh} {c:Rx} {H:b0A} (h:CP m n (i,s,G,c,H)):CQ m (s,G,c,H):=
 ⟨h.j,p2Z h.bud h.lim,by have h1:=h.next;have h2:=h.lim;simp only at h1 h2 ⊢;omega,h.bits,h.core,h.sml⟩
theorem CP.step {m n:Nat} {i:Nat} {s t:St} {G G2:Gh} {c c2:Rx} {H H2:b0A} {k:Nat} {id at_ nn e:Int} {data:B} {Q:Rp} (h:CP m n (i,s,G,c,H)) (hn:i<n) (hm:i<m) (hk:k<14) (hid:0≤id∧id<32) (hact:b1J k id at_ nn data s (er c) e t Q)
 (hj2:J t G2 Q) (hb2:Bud (i+1) t Q) (hn2:Q.next≤(er c).next+1) (hc2:c0T H2 c2) (hr2:er c2=Q):CP m n (i+1,t,G2,c2,H2) where
 le:=hn
 lim:=hm
 j:=by show J t G2 (er c2);rw[hr2];exact hj2
 bud:=by show Bud (i+1) t (er c2);rw[hr2];exact hb2
 next:=by
  have e1:c2.next=Q.next:=congrArg (fun q:Rp=>q.next) hr2;have e2:(er c).next=c.next:=rfl;have:=h.next;simp only at this;show c2.next≤1+((i+1:Nat):Int);omega
 bits:=by
  have e1:c2.bits=Q.bits:=congrArg (fun q:Rp=>q.bits) hr2;have e2:=hact.bits_ hk;have e3:(er c).bits=c.bits:=rfl;have:=h.bits;show c2.bits≤256;simp only at this;omega
 core:=hc2
 sml:=by show Sml (er c2);rw[hr2];exact hact.sml hk hid h.sml
set_option maxRecDepth 8000
end
theorem CP.skip {m n i:Nat} {s:St} {G:Gh} {c:Rx} {H:b0A} (h:CP m n (i,s,G,c,H)) (hn:i<n) (hm:i<m):CP m n (i+1,s,G,c,H):=
 ⟨hn,hm,h.j,p2Z h.bud (Nat.le_succ _),by have:=h.next;simp only at this ⊢;omega,h.bits,h.core,h.sml⟩
theorem CP.op {m n i:Nat} {s t:St} {G G2:Gh} {c c2:Rx} {H H2:b0A} {Q:Rp} (h:CP m n (i,s,G,c,H)) (hn:i<n) (hm:i<m) (hj2:J t G2 Q) (hb2:Bud (i+1) t Q) (hn2:Q.next≤(er c).next+1) (hs:y2Q Q) (hsm:Sml Q) (hc2:c0T H2 c2) (hr2:er c2=Q):CP m n (i+1,t,G2,c2,H2) where
 le:=hn
 lim:=hm
 j:=by show J t G2 (er c2);rw[hr2];exact hj2
 bud:=by show Bud (i+1) t (er c2);rw[hr2];exact hb2
 next:=by
  have e1:c2.next=Q.next:=congrArg (fun q:Rp=>q.next) hr2;have e2:(er c).next=c.next:=rfl;have:=h.next;simp only at this;show c2.next≤1+((i+1:Nat):Int);omega
 bits:=by
  have e1:c2.bits=Q.bits:=congrArg (fun q:Rp=>q.bits) hr2;have e2:=hs.bits;show c2.bits≤256;omega
 core:=hc2
 sml:=by show Sml (er c2);rw[hr2];exact hsm
theorem y2R (x:Int):bits .and .i64 x 65535=x%65536:=a1L .i64 16 (.inr ⟨by decide,by decide⟩) 65535 (by decide) x
theorem z2X (kind id at_ n:Nat) (d:List UInt8):(opB kind id at_ n d).take 1=beB kind 1 1∧((opB kind id at_ n d).drop 1).take 4=beB id 4 4∧((opB kind id at_ n d).drop 5).take 2=beB at_ 2 2∧((opB kind id at_ n d).drop 7).take 2=beB n 2 2∧(opB kind id at_ n d).drop 9=d:=by
 have l1:=Go.Sb.m0A kind 1 1;have l2:=Go.Sb.m0A id 4 4;have l3:=Go.Sb.m0A at_ 2 2;have l4:=Go.Sb.m0A n 2 2;unfold opB;generalize beB kind 1 1=A at*
 generalize beB id 4 4=B at*
 generalize beB at_ 2 2=C at*
 generalize beB n 2 2=D at*
 match A,l1,B,l2,C,l3,D,l4 with
 | [a],_,[b1,b2,b3,b4],_,[c1,c2],_,[d1,d2],_=>exact⟨rfl,rfl,rfl,rfl,rfl⟩
theorem z2M (kind id at_ n:Nat) (d:List UInt8):(opB kind id at_ n d).length=9+d.length:=by simp[opB,Go.Sb.m0A];omega
theorem z2Y (kind id at_ n:Nat) (d:List UInt8) (hk:1≤kind∧kind≤7) (hid:id<4294967296) (ha:at_<65536) (hn:n<65536):y2T (opB kind id at_ n d)=0∧y2Z (opB kind id at_ n d)=opI kind id at_ n d:=by
 obtain⟨t1,t2,t3,t4,t5⟩:=z2X kind id at_ n d;have e:y2T (opB kind id at_ n d)=0:=by unfold y2T;rw[if_neg (by rw[z2M];omega),t1,Go.Sb.r1Y (by omega),if_pos hk]
 refine⟨e,?_⟩;unfold y2Z;rw[e,if_pos rfl,t1,t2,t3,t4,t5,Go.Sb.r1Y (by omega),Go.Sb.r1Y (by omega),Go.Sb.r1Y (by omega),Go.Sb.r1Y (by omega)];rfl
theorem a3B (q id at_ n:Int) (l:B):eqK [0,0,0,0,1] (opI q id at_ n l) (opI q id at_ n l)=some true:=by
 simp[opI,eqK]
theorem z2Z (q:Int) (l:B): ∃w,w≤12∧m0S w (z2A q l):=by
 unfold z2A;split
 ·exact z2Q l
 ·exact⟨0,by decide,[],rfl,fun _ h=>(by cases h),rfl⟩
abbrev RT (a:Ad) (s:St):List a0C:= [dkC a s.d,dkR a s.d,m0K (l0R s.d),stC a s.bits,mpC a,HL a s]
end Go.Proofs.Q

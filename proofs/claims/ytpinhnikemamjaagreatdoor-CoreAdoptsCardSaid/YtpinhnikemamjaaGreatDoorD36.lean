/- Part of the proof; no statement of its own. -/
import Derived.Test.YtpinhnikemamjaaGreatDoorD24
import Derived.Test.YtpinhnikemamjaaGreatDoorD19
import Derived.Test.YtpinhnikemamjaaGreatDoorD35
import Derived.Test.YtpinhnikemamjaaGreatDoorD31
import Derived.Test.YtpinhnikemamjaaGreatDoorD28
import Derived.Test.YtpinhnikemamjaaGreatDoorD27
import Derived.Test.YtpinhnikemamjaaGreatDoorD18
import Derived.Test.YtpinhnikemamjaaGreatDoorD15
import Derived.Test.YtpinhnikemamjaaGreatDoorD33
import Derived.Test.YtpinhnikemamjaaGreatDoorD16
import Derived.Test.YtpinhnikemamjaaGreatDoorD07
set_option linter.all false
set_option maxRecDepth 4000
set_option maxHeartbeats 4000000
attribute [local irreducible] Go.Sl.a0P Go.Sl.OW Go.Sl.CW Go.Sl.OS Go.Sl.OM Go.Sl.OMf Go.Sl.KM
namespace Go.Proofs.Q
open Go.Sl Go.Sb Tryz
theorem h2S (W:World) (a:Ad) (s:St) (root:Int) (b:s.bits≤256) (c:(v0D root 2 s).1≠ .big):a0G prog 124 #[ptr a.maps,.int .i64 root] (RS W a s) (Ran fT (RS W a) i0S (v0D root 2 s)):=by
 refine en func124 ntmps124 fun R w0=> ?_;refine go 3 ?_;refine a0U rfl Hb.o rfl (f1P W a 2 (by omega) s root b c) gSp (fun u t d=> ?_) (fun e t d=>by refine pn ?_;exact kx (d));refine ns ?_;refine go 1 ?_;exact fR d
theorem x1T {s:St} {k:Int} (h:(o0H k s).1≠ .big):s.log.length<1000000000:=t0W h fun a=>by simp[o0H,a0B,back,a]
theorem a2O {s:St} (k:Int) (h:s.log.length<1000000000):o0H k s=(.ok (),{s with log:=bk s.depth s.log (.vols k (a0C k s.vols)),vols:=b0D k s.vols}):=by
 simp[o0H,a0B,back,show ¬1000000000≤s.log.length by omega]
abbrev idA0 (a:Ad) (b0 b1:Nat) (id:Int):a0E:=b0E [f0G b0 a,j0V b1 id]
theorem x1U (W:World) (a:Ad) (b0 g:Nat) (id:Int) (bits:Nat) (i:bits≤256):
 r0U W a (idA0 a b0 g id) (fun _:Unit=>b0E []) 122 [ptr b0,ptr g] bits (q0C id):=by
 intro s m c;have e0:q0C id s=a0B (find id) (fun x=>a0B (o0H id) fun _=>v0D x.root 2) s:=rfl;refine ns ?_;refine en func122 ntmps122 fun R w0=> ?_;refine l0C (show Fnd _ (b0E [f0G b0 a,j0V g id]) _ from gFd) ?_;refine ns ?_;refine go 4 ?_;refine a0U rfl Hb.o rfl (v0X W a s id) gSp (fun x t b=> ?_) (fun e t b=>by refine pn ?_;(refine b0F (fun w h=>c0C h) ?_;exact b0W (c0S (e0.trans (a0F b))) idh gSp));refine ns ?_;have f:t=s:=by have h:=b;unfold find at h;split at h<;>cases h;rfl
 rw[f]at b ⊢;have d:=e0.trans (a0A b);clear b f;have k:=x1T (show(o0H id s).1≠ .big by rw[d]at c;exact c0I c);rw[a0A (a2O id k)]at d;refine al fun p=> ?_;refine go 4 ?_;refine e0C gFd fun by_ gv gc o l j=> ?_;simp only[d0B,o0F,c0R,List.cons_append,List.nil_append];refine tl 12 ?_;refine ce 13 (v1E a by_ o s.log s.depth s.vols id k) ?_;rintro e _;refine ns ?_;refine go 1 ?_;refine b0F (c0W (s:= {s with log:=bk s.depth s.log (.vols id (a0C id s.vols)),vols:=b0D id s.vols}) l j gSp) ?_;refine go 1 ?_;refine tl 6 ?_;refine go 3 ?_;refine b0V (j0R Sc.o rfl gFd rfl) ?_;refine go 3 ?_;refine a0U rfl Hb.o rfl (h2S W a {s with log:=bk s.depth s.log (.vols id (a0C id s.vols)),vols:=b0D id s.vols} x.root (by show s.bits≤256;omega) (by rw[d]at c;exact c)) gSp (fun v n b=> ?_) (fun e t b=>by refine pn ?_;(refine b0F (fun w h=>c0C h) ?_;exact b0W (c0S (d.trans b)) idh gSp));refine ns ?_;refine go 1 ?_;refine b0F (fun w h=>c0C h) ?_;exact fR (s:=(n,.done ())) (m0W (d.trans b))
theorem x1V (W:World) (a:Ad) (s:St) (id:Int) (b:s.bits≤256) (h:s.vols.length≤1000) (c:(q0W id s).1≠ .big):
 a0G prog 74 #[ptr a.core,.int .u32 id] (RS W a s) (Ran fT (RS W a) a0H (q0W id s)):=by
 have e0:q0W id s=a0B (i0K (e0M 0 (q0C id))) (fun r=>ret r.1) s:=rfl;refine en func74 ntmps74 fun R w0=> ?_;refine go 2 ?_;refine bx fun d=> ?_;refine bx fun f=> ?_;refine go 7 ?_;refine e0X (l0O (N:= [f0G d a,j0V f id]) gSp) ?_;refine a0U rfl Hb.o rfl (w0A W a (idA0 a d f id) (fun _:Unit=>b0E []) 0 122 [ptr d,ptr f] (q0C id) s Hb.o (by omega) h (x1U W a d f id s.bits b) (by rw[e0]at c;exact c0I c)) gSp (fun e ⟨t,i⟩ g=> ?_) (fun e t g=>by refine pn ?_;(exact(m0T g).elim));refine ns ?_;refine go 3 ?_;exact rR idh (e0.trans (a0A (t0A g)))
abbrev x1W (a:Ad) (b0 b1 b2:Nat) (id size:Int):a0E:=b0E [f0G b0 a,j0V b1 id,f0W b2 size]
theorem x1X (W:World) (G:i0L W) (a:Ad) (b0 r u:Nat) (id size:Int) (bits:Nat) (z:bits≤256):
 r0U W a (x1W a b0 r u id size) (fun _:Unit=>b0E []) 72 [ptr b0,ptr r,ptr u] bits (m0C id size):=by
 intro s H c;have e0:m0C id size s=a0B (l0Z id) (fun x=>if size<1∨2048<size then n0L 4 else a0B (if size<x.size then i0C x size.toNat x.size.toNat else ret x) fun y=>m0H {y with size:=size}) s:=rfl;refine ns ?_;refine en func72 ntmps72 fun R w0=> ?_;refine l0C (show Fnd _ (b0E [f0G b0 a,j0V r id,f0W u size]) _ from gFd) ?_;refine ns ?_;refine go 4 ?_;refine a0U rfl Hb.o rfl (d1K W a s id) gSp (fun x t b=> ?_) (fun e t b=>by refine pn ?_;(refine b0F (fun w h=>c0C h) ?_;exact b0W (c0S (e0.trans (a0F b))) idh gSp));refine ns ?_;have n:=k1G id s;rw[b]at n;have n:t.bits=s.bits:=n;have g:=e0.trans (a0A b);clear b;refine al fun E=> ?_;refine go 5 ?_;by_cases A:size<1
 ·refine go 10 ?_;refine b0U (fun w h=>c0C h) ?_;refine go 1 ?_;refine c0A rfl Hb.o rfl (c0M 4) gSp ?_;refine ns ?_;refine pn ?_;exact b0W (c0S (g.trans (by rw[if_pos (.inl A)];rfl))) idh gSp
 ·refine go 9 ?_;refine a0O rfl (fun d=> ?_) (fun d=> ?_)
  ·have q:2048<size:=by have h:=d;simp only[decide_eq_true_eq]at h;exact h
   refine b0U (fun w h=>c0C h) ?_;refine go 1 ?_;refine c0A rfl Hb.o rfl (c0M 4) gSp ?_;refine ns ?_;refine pn ?_;exact b0W (c0S (g.trans (by rw[if_pos (.inr q)];rfl))) idh gSp
  ·have q: ¬2048<size:=by have h:=d;simp only[decide_eq_false_iff_not]at h;exact h
   rw[if_neg (by omega)]at g;refine go 11 ?_;refine a0O rfl (fun f=> ?_) (fun f=> ?_)
   ·have j:size<x.size:=of_decide_eq_true f;rw[if_pos j]at g;obtain⟨k,rfl⟩: ∃k:Nat,size=k:=⟨size.toNat,by omega⟩;obtain⟨m,p⟩: ∃m:Nat,x.size=m:=⟨x.size.toNat,by omega⟩;rw[p,Int.toNat_natCast,Int.toNat_natCast]at g;refine go 5 ?_;rw[p];refine a0U rfl Hb.o rfl (i1I W G a t E x k m (by omega) (by omega) (by rw[g]at c;exact c0I c)) gSp (fun v ⟨C,I⟩ b=> ?_) (fun e t b=>by refine pn ?_;(obtain⟨t1,J⟩:=t;obtain⟨B,p⟩:=r0B b;obtain rfl:J=none:=congrArg Prod.snd B;have p:_=(Out.err e,t1):=p;simp only[RSo,List.cons_append,List.nil_append];have F:m0C id (k:Int) s=(.err e,t1):=g.trans (a0F p);refine b0F (fun w h=>c0C h) ?_;exact b0W (c0S F) idh gSp));refine ns ?_;refine go 1 ?_;obtain⟨y,B,l⟩:=s0Z b;obtain rfl:I=some y:=congrArg Prod.snd B;have l:_=(Out.ok y,C):=l;simp only[RSo,List.cons_append,List.nil_append];have i:m0C id (k:Int) s=m0H {y with size:=(k:Int)} C:=g.trans (a0A l);refine go 5 ?_;refine d0T (cs':=f0U {y with size:=(k:Int)}) Sz.o rfl rfl rfl (by rfl) rfl ?_;refine go 5 ?_;refine a0U rfl Hb.o rfl (v0Y W a C {y with size:=(k:Int)} (by rw[i]at c;exact c)) gSp (fun K D b=> ?_) (fun e t b=>by refine pn ?_;(refine b0F (fun w h=>c0C h) ?_;exact b0W (c0S (i.trans b)) idh gSp));refine ns ?_;refine go 1 ?_;refine b0F (fun w h=>c0C h) ?_;exact fR (s:=(D,.done ())) (m0W (i.trans b))
   ·have j: ¬size<x.size:=of_decide_eq_false f;rw[if_neg j,a0A (show ret x t=(.ok x,t)from rfl)]at g;have i:m0C id size s=m0H {x with size:=size} t:=g;refine go 6 ?_;refine d0T (cs':=f0U {x with size:=size}) Sz.o rfl rfl rfl (by rfl) rfl ?_;refine go 5 ?_;refine a0U rfl Hb.o rfl (v0Y W a t {x with size:=size} (by rw[i]at c;exact c)) gSp (fun K D b=> ?_) (fun e t b=>by refine pn ?_;(refine b0F (fun w h=>c0C h) ?_;exact b0W (c0S (i.trans b)) idh gSp));refine ns ?_;refine go 1 ?_;refine b0F (fun w h=>c0C h) ?_;exact fR (s:=(D,.done ())) (m0W (i.trans b))
theorem x1Y (W:World) (j:i0L W) (a:Ad) (s:St) (id size:Int) (b:s.bits≤256) (i:s.vols.length≤1000) (c:(q0X id size s).1≠ .big):
 a0G prog 23 #[ptr a.core,.int .u32 id,.int .i64 size] (RS W a s) (Ran fT (RS W a) a0H (q0X id size s)):=by
 have e0:q0X id size s=a0B (i0K (e0M 0 (m0C id size))) (fun r=>ret r.1) s:=rfl;refine en func23 ntmps23 fun R w0=> ?_;refine go 2 ?_;refine bx fun d=> ?_;refine bx fun f=> ?_;refine bx fun g=> ?_;refine go 7 ?_;refine e0X (l0O (N:= [f0G d a,j0V f id,f0W g size]) gSp) ?_;refine a0U rfl Hb.o rfl (w0A W a (x1W a d f g id size) (fun _:Unit=>b0E []) 0 72 [ptr d,ptr f,ptr g] (m0C id size) s Hb.o (by omega) i (x1X W j a d f g id size s.bits b) (by rw[e0]at c;exact c0I c)) gSp (fun e ⟨t,k⟩ h=> ?_) (fun e t h=>by refine pn ?_;(exact(m0T h).elim));refine ns ?_;refine go 3 ?_;exact rR idh (e0.trans (a0A (t0A h)))
abbrev n2E (a:Ad) (b0 b1 b2 b3:Nat) (id at_ n:Int):a0E:=b0E [f0G b0 a,j0V b1 id,f0W b2 at_,f0W b3 n]
theorem h2T (W:World) (E:i0L W) (a:Ad) (b0 i j l:Nat) (id at_ n:Int) (bits:Nat) (r:bits≤256):
 r0U W a (n2E a b0 i j l id at_ n) (fun _:Unit=>b0E []) 70 [ptr b0,ptr i,ptr j,ptr l] bits (r0Q id at_ n):=by
 intro s F c;have e0:r0Q id at_ n s=a0B (l0Z id) (fun x=>a0B (h0J x at_ n) fun _=>a0B (i0C x at_.toNat (at_+n).toNat) m0H) s:=rfl;refine ns ?_;refine en func70 ntmps70 fun R w0=> ?_;refine l0C (show Fnd _ (b0E [f0G b0 a,j0V i id,f0W j at_,f0W l n]) _ from gFd) ?_;refine ns ?_;refine go 4 ?_;refine a0U rfl Hb.o rfl (d1K W a s id) gSp (fun x t b=> ?_) (fun e t b=>by refine pn ?_;(refine b0F (fun w h=>c0C h) ?_;exact b0W (c0S (e0.trans (a0F b))) idh gSp));refine ns ?_;have f:=k1G id s;rw[b]at f;have f:t.bits=s.bits:=f;have p:=e0.trans (a0A b);clear b;refine al fun B=> ?_;refine go 8 ?_;refine a0U rfl Hb.o rfl (a1F W a t x at_ n (by rw[p]at c;exact c0I c)) gSp (fun v A b=> ?_) (fun e t b=>by refine pn ?_;(refine b0F (fun w h=>c0C h) ?_;exact b0W (c0S (p.trans (a0F b))) idh gSp));refine ns ?_;refine go 1 ?_;obtain⟨D,I,J,K,L⟩:=w0V b;rw[D]at b ⊢;have g:=p.trans (a0A b);clear b;obtain⟨k,rfl⟩: ∃k:Nat,at_=k:=⟨at_.toNat,by omega⟩;obtain⟨m,rfl⟩: ∃k:Nat,n=k:=⟨n.toNat,by omega⟩;rw[Int.toNat_natCast,show(((k:Nat):Int)+((m:Nat):Int)).toNat=k+m by omega]at g;refine go 8 ?_;rw[show((k:Nat):Int)+((m:Nat):Int)=((k+m:Nat):Int) by omega];refine a0U rfl Hb.o rfl (i1I W E a t B x k (k+m) (by omega) (by omega) (by rw[g]at c;exact c0I c)) gSp (fun v ⟨z,G⟩ b=> ?_) (fun e t b=>by refine pn ?_;(obtain⟨t1,A⟩:=t;obtain⟨u,d⟩:=r0B b;obtain rfl:A=none:=congrArg Prod.snd u;have d:_=(Out.err e,t1):=d;simp only[RSo,List.cons_append,List.nil_append];have C:r0Q id (k:Int) (m:Int) s=(.err e,t1):=g.trans (a0F d);refine b0F (fun w h=>c0C h) ?_;exact b0W (c0S C) idh gSp));refine ns ?_;refine go 1 ?_;obtain⟨y,u,d⟩:=s0Z b;obtain rfl:G=some y:=congrArg Prod.snd u;have d:_=(Out.ok y,z):=d;simp only[RSo,List.cons_append,List.nil_append];have q:r0Q id (k:Int) (m:Int) s=m0H y z:=g.trans (a0A d);refine go 4 ?_;refine a0U rfl Hb.o rfl (v0Y W a z y (by rw[q]at c;exact c)) gSp (fun v H b=> ?_) (fun e t b=>by refine pn ?_;(refine b0F (fun w h=>c0C h) ?_;exact b0W (c0S (q.trans b)) idh gSp));refine ns ?_;refine go 1 ?_;refine b0F (fun w h=>c0C h) ?_;exact fR (s:=(H,.done ())) (m0W (q.trans b))
theorem h2U (W:World) (k:i0L W) (a:Ad) (s:St) (id at_ n:Int) (b:s.bits≤256) (j:s.vols.length≤1000) (c:(v0U id at_ n s).1≠ .big):
 a0G prog 22 #[ptr a.core,.int .u32 id,.int .i64 at_,.int .i64 n] (RS W a s) (Ran fT (RS W a) a0H (v0U id at_ n s)):=by
 have e0:v0U id at_ n s=a0B (i0K (e0M 0 (r0Q id at_ n))) (fun r=>ret r.1) s:=rfl;refine en func22 ntmps22 fun R w0=> ?_;refine go 2 ?_;refine bx fun d=> ?_;refine bx fun f=> ?_;refine bx fun g=> ?_;refine bx fun h=> ?_;refine go 7 ?_;refine e0X (l0O (N:= [f0G d a,j0V f id,f0W g at_,f0W h n]) gSp) ?_;refine a0U rfl Hb.o rfl (w0A W a (n2E a d f g h id at_ n) (fun _:Unit=>b0E []) 0 70 [ptr d,ptr f,ptr g,ptr h] (r0Q id at_ n) s Hb.o (by omega) j (h2T W k a d f g h id at_ n s.bits b) (by rw[e0]at c;exact c0I c)) gSp (fun e ⟨t,l⟩ i=> ?_) (fun e t i=>by refine pn ?_;(exact(m0T i).elim));refine ns ?_;refine go 3 ?_;exact rR idh (e0.trans (a0A (t0A i)))
theorem a2P (W:World) (a:Ad) (s:St) (id:Int) (d:s.vols.length≤1000) (b:(h0S id false s).1≠ .big):a0G prog 44 #[ptr a.core,.int .u32 id] (RS W a s) (Ran fT (RS W a) z0M (h0S id false s)):=by
 refine en func44 ntmps44 fun R w0=> ?_;refine go 10 ?_;refine a0U rfl Hb.o rfl (m1W W a s id false d b) gSp (fun p t c=> ?_) (fun e t c=>by refine pn ?_;exact kx (c));refine ns ?_;refine go 6 ?_;exact rR idh c
theorem a2Q (W:World) (a:Ad) (s:St) (n:Int):a0G prog 47 #[ptr a.core,.int .u32 n] (RS W a s) (a0T (.tuple #[]) (RS W a {s with epoch:=n})):=by
 refine en func47 ntmps47 fun R w0=> ?_;refine e0C gFd fun by_ gv gc o c b=> ?_;simp only[d0B,o0F,c0R,List.cons_append,List.nil_append];refine go 7 ?_;refine b0F (c0W (s:= {s with epoch:=n}) c b gSp) (d0Q rfl rfl gSp)
theorem n1F (W:World) (a:Ad) (s:St):a0G prog 33 #[ptr a.core] (RS W a s) (a0T (.int .u32 s.next) (RS W a s)):=by
 refine en func33 ntmps33 fun R w0=> ?_;refine go 10 ?_;refine a0D (j0R Sc.o rfl gFd rfl) ?_;refine go 3 ?_;exact rG
section
theorem n2F (W:World) (a:Ad) (s:St) (root:Int):a0G prog 52 #[ptr a.maps,.int .i64 root] (RS W a s) (Ran fT (RS W a) d0X (i1Y root s)):=by
 have e0:i1Y root s=a0B (Go.Sb.load root 2) (fun n=>ret n.sum) s:=rfl;refine en func52 ntmps52 fun R w0=> ?_;refine go 2 ?_;refine al fun h=> ?_;refine go 6 ?_;refine a0U rfl Hb.o rfl (p0F W a s root 2) gSp (fun x t d=> ?_) (fun e t d=>by refine pn ?_;exact kx ((by rw[e0];exact a0F d)));refine ns ?_;have c:=(h0Q d).2;have g:=e0.trans (a0A d);have b:(x.sum.map a0Q).toArray.size=32:=by rw[List.size_toArray,List.length_map,c.sum]
 refine a0D (n0S (v:=(x.sum.map a0Q).toArray) F.fa182_2 rfl (c2O c)) ?_;refine a0M Sz.o rfl rfl b (fun x f=>by simp at f;obtain⟨_,_,rfl⟩:=f;rfl) (by rw[b];simp[Value.cells]) (a0N (by rw[b];simp[Value.cells])) ?_;refine go 2 ?_;exact k0A g idh (RV.agg Ag.o rfl (by rw[b];omega) (a0I b) RV.nil) rfl gSp
theorem s2B {root:Int} {s t:St} {v:B} (h:i1Y root s=(.ok v,t)):v.length=32:=by
 unfold i1Y at h;cases a:Go.Sb.load root 2 s with
 |mk o u=>
  cases o with
  |ok x=>rw[a0A a]at h;cases h;exact(h0Q a).2.sum
  |err e=>rw[a0F a]at h;cases h
  |big=>unfold a0B at h;rw[a]at h;cases h
abbrev y0T (b:Nat) (v:B):a0E:=pts b (.cells (v.map a0Q).toArray 44 (0,0))
abbrev s2S (a:Ad) (b0 b1 b2:Nat) (id:Int):a0E:=b0E [f0G b0 a,j0V b1 id,y0T b2 (a0L 32)]
theorem h2V (W:World) (a:Ad) (b0 g d:Nat) (id:Int) (bits:Nat):
 r0U W a (s2S a b0 g d id) (fun v:B=>b0E [m0X (v.length=32),y0T d v]) 51 [ptr b0,ptr g,ptr d] bits (e1P id):=by
 intro s m l;have e0:e1P id s=a0B (find id) (fun x=>i1Y x.root) s:=rfl;refine ns ?_;refine en func51 ntmps51 fun R w0=> ?_;refine l0C (show Fnd _ (b0E [f0G b0 a,j0V g id,y0T d (a0L 32)]) _ from gFd) ?_;refine ns ?_;refine a1U (.soft 0 (.soft 1 (.soft 2 (.soft 3 (.soft 4 (.soft 5 (.hard 6 (.soft 7 (.hard 8 (.hard 9 .done)))))))))) [HLX a,f0G b0 a,j0V g id] Fol.o (by kernel_rfl) (by repeat (first|with_reducible exact b0T.bp|with_reducible apply b0T.then|with_reducible apply b0T.inBlock)) (g0T gSp) ?_;refine go 3 ?_;refine d0A rfl (r0T Sc.o rfl gFd (fun _ _=>rfl)) ?_;refine go 3 ?_;refine a0U rfl Hb.o rfl (v0X W a s id) gSp (fun x t b=> ?_) (fun e t b=>by refine pn ?_;(refine b0F (fun w h=>c0C h) ?_;exact b0W (c0S (e0.trans (a0F b))) idh gSp));refine ns ?_;refine go 1 ?_;refine h0B (g0T gSp) ?_;have i:=e0.trans (a0A b);clear b;refine d0A rfl (s2U F.fs50_4 rfl rfl) ?_;refine go 1 ?_;refine a0U rfl Hb.o rfl (n2F W a t x.root) gSp (fun v k b=> ?_) (fun e t b=>by refine pn ?_;(refine b0F (fun w h=>c0C h) ?_;exact b0W (c0S (i.trans b)) idh gSp));refine ns ?_;refine go 1 ?_;refine h0B (g0T gSp) ?_;refine go 1 ?_;have f:=s2B b;have c:(v.map a0Q).toArray.size=32:=by rw[List.size_toArray,List.length_map,f]
 refine a0M Sz.o rfl rfl c (fun x j=>by simp at j;obtain⟨_,_,rfl⟩:=j;rfl) (by rw[c];simp[a0L]) (a0N (by rw[c];simp[a0L])) ?_;refine go 1 ?_;refine h0B (g0T gSp) ?_;refine go 1 ?_;refine b0F (L':=b0E [m0X (v.length=32),y0T d v]::(RS W a k++ [R])) (fun w h=>b0M.2 ?_) ?_
 ·refine ns ?_;exact n0V f w (h.sub gSp)
 ·exact fR (s:=(k,.done v)) (m0W (i.trans b))
def s2T (p:B×Int):Value:= .tuple #[d0X p.1,.int .i64 p.2]
set_option maxRecDepth 8000
theorem n2G (W:World) (a:Ad) (s:St) (id:Int) (c:(w0M id s).1≠ .big):a0G prog 13 #[ptr a.core,.int .u32 id] (RS W a s) (Ran fT (RS W a) s2T (w0M id s)):=by
 have e0:w0M id s=a0B (i0K (e1P id)) (fun r=>if r.1=0 then ret (b1Z (a0L 32) r.2,0)else fun s=>(.big,s)) s:=rfl;have q:=d1L (show(i0K (e1P id) s).1≠ .big by rw[e0]at c;exact c0I c);refine en func13 ntmps13 fun R w0=> ?_;refine go 2 ?_;refine bx fun f=> ?_;refine bx fun g=> ?_;refine al fun u=> ?_;refine go 5 ?_;refine al fun d=> ?_;refine go 7 ?_;refine a0D (j0R Sc.o rfl gFd rfl) ?_;refine go 1 ?_;refine e0X (l0O (N:= [f0G f a,j0V g id,y0T d (a0L 32)]) gSp) ?_;refine a0U rfl Hb.o rfl (t0V (C:=Car B) W a (u0Y (s2S a f g d id) (fun v:B=>b0E [m0X (v.length=32),y0T d v])) 51 [ptr f,ptr g,ptr d] (f0P (e1P id)) s .start Hb.o q (fun h=>h2V W a f g d id s.bits {s with depth:=s.depth+1} rfl (f1W.1 h))) gSp (fun e ⟨t,w⟩ i=> ?_) (fun e t i=>by refine pn ?_;(exact(m0T i).elim));refine ns ?_;refine go 2 ?_;have k:=e0.trans (a0A (t0A i));refine go 2 ?_;have m:e=0:=by
  by_cases h:e=0
  ·exact h
  ·rw[k,if_neg h]at c;exact absurd rfl c
 obtain⟨y,rfl,_⟩| ⟨_,n⟩:=h1J i
 rotate_left
 ·exact(n m).elim
 simp only[u0Y];subst m;refine l0C (show Fnd _ (b0E [m0X (y.length=32),y0T d y]) _ from gFd) ?_;refine ns ?_;refine n0N (p:=y.length=32) gFd fun j=> ?_;have b:(y.map a0Q).toArray.size=32:=by rw[List.size_toArray,List.length_map,j]
 refine go 1 ?_;refine a0D (a0K Ag.o rfl (by rw[b];omega) (a0I b)) ?_;refine go 1 ?_;refine a0M Sz.o rfl rfl b (fun x l=>by simp at l;obtain⟨_,_,rfl⟩:=l;rfl) (by rw[b];simp[Value.cells]) (a0N (by rw[b];simp[Value.cells])) ?_;refine go 3 ?_;exact k0A (by rw[k,if_pos rfl];rfl) idh (RV.agg Ag.o rfl (by rw[b];omega) (a0I b) (RV.tmp rfl RV.nil)) rfl gSp
end
section
section
variable {W:World} {s t:St}
theorem h2W {id e:Int} (b:Fit s) (h:q0W id s=(.ok e,t)) (a:Ad):a0G prog 74 #[ptr a.core,.int .u32 id] (RS W a s) (a0T (a0H e) (RS W a t)):=by
 have k:=x1V W a s id b.1 b.2 (by rw[h];simp);rw[h]at k;exact k.ran_ok
theorem h2X (c:i0L W) {id n e:Int} (b:Fit s) (h:q0X id n s=(.ok e,t)) (a:Ad):a0G prog 23 #[ptr a.core,.int .u32 id,.int .i64 n] (RS W a s) (a0T (a0H e) (RS W a t)):=by
 have k:=x1Y W c a s id n b.1 b.2 (by rw[h];simp);rw[h]at k;exact k.ran_ok
theorem s2C (c:i0L W) {id at_ n e:Int} (b:Fit s) (h:v0U id at_ n s=(.ok e,t)) (a:Ad):a0G prog 22 #[ptr a.core,.int .u32 id,.int .i64 at_,.int .i64 n] (RS W a s) (a0T (a0H e) (RS W a t)):=by
 have k:=h2U W c a s id at_ n b.1 b.2 (by rw[h];simp);rw[h]at k;exact k.ran_ok
theorem n2H {id:Int} {p:Int×Int} (b:Fit s) (h:h0S id false s=(.ok p,t)) (a:Ad):a0G prog 44 #[ptr a.core,.int .u32 id] (RS W a s) (a0T (z0M p) (RS W a t)):=by
 have k:=a2P W a s id b.2 (by rw[h];simp);rw[h]at k;exact k.ran_ok
end
def h2Y (ki ai at_ n:Int) (l:B):Value:= .agg #[.int .i64 ki,.int .i64 ai,.int .i64 at_,.int .i64 n,b0C l]
def q0K (l:B) (n:Int):B:=o0U l++if n%16=9 then [120]else []
theorem r1N (l:B) (n:Int):(q0K l n).length≤769∧((q0K l n).length%64=0→(q0K l n).length≤768):=by
 have h:=f1X l;unfold q0K;rw[List.length_append];split
 ·simp only[List.length_singleton];omega
 ·simp only[List.length_nil];omega
def x1Z (e f:Int) (x:b0B×Rx):Value:= .tuple #[.int .i64 e,e0W x.2,.int .i64 f]
end
abbrev ChE (H:b0B) (e:Int) (Q:Rp) (x:b0B×Rx):Prop:=(∀p∈H,p∈x.1)∧c0Z x.1 x.2∧(e=0→er x.2=Q)
theorem a2R (W:World) (P:i0L W) (a:Ad) (s t:St) (g:Nat) (H:b0B) (c:Rx) (ki ai at_ n id e f:Int) (l:B) (k:Nat) (Q:Rp) (Y:ki%256%14=(k:Int)) (Z:k<11∧2<k) (T:0≤id∧id<32) (K:Fit s) (J:c0Z H c) (G:w0X (er c)) (d:c.bits≤256)
 (I:c1K k id at_ n (q0K l n) s (er c) e f t Q):a0G prog 49 #[ptr g,h2Y ki ai at_ n l,.int .u32 id] (RS W a s++ [f0Z g a.core c,c0B H])
 (b0P (ChE H e Q) (x1Z e f) (fun x=>RS W a t++ [f0Z g a.core c,c0B x.1])):=by
 have X:=r1N l n;have S:=f1X l;have q:IntKind.i64.wrap id=id:=e0P .i64 id T.1 (by show id<9223372036854775808;omega);have V:(bs (o0U l)).size=(o0U l).length:=b0H _;refine en func49 ntmps49 fun R w0=> ?_
 try simp only[h2Y]
 refine go 2 ?_;refine bx fun w=> ?_;refine go 1 ?_;refine al fun U=> ?_;refine go 8 ?_;refine a0D (o0O rfl rfl) ?_;rw[g1J _ (by decide)];refine go 1 ?_;rw[Y];refine go 11 ?_;refine a0O rfl (fun i=> ?_) (fun i=> ?_)
 ·obtain rfl:k=3:=by have h:(k:Int)=3:=(by simpa using i);omega
  obtain⟨z,A,C⟩:=I.k3 rfl;have k1:=h2W (W:=W) K z a;refine go 5 ?_;refine a0D (a0K (v:=(a0J c).toArray) Ag.o rfl (by simp[Value.cells,a0J]) (by rfl)) ?_;refine go 2 ?_;rw[q];refine ce 0 (x1J H c id J) ?_;rintro⟨H2,c2⟩ ⟨hs2,hc2,hr2⟩;refine ns ?_;refine go 3 ?_;refine al fun L=> ?_;refine a0M Sz.o rfl rfl rfl (fun u hu=>c0K hc2 u (by simpa using hu)) (by simp[Value.cells,a0J,a0S]) (a0N (by simp[Value.cells,a0J,a0S])) ?_;refine go 4 ?_;refine mx (.r 0 5 (.r 6 2 (.hard 5 (.soft 8 (.hard 9 (.soft 10 .done)))))) [f0Z g a.core c,w0F L c2] ?_;refine go 5 ?_;refine d0A rfl (a0K (v:=(a0J c2).toArray) Ag.o rfl (by simp[Value.cells,a0J]) (a0I (by simp[Value.cells,a0J]))) ?_;refine cg 2 (k1) ?_;refine go 4 ?_;refine a0M Sz.o rfl rfl rfl (fun u hu=>c0K hc2 u (by simpa using hu)) (by simp[Value.cells,a0J,a0S]) (a0N (by simp[Value.cells,a0J,a0S])) ?_;refine go 5 ?_;exact c0T (x:=((H2,c2):b0B×Rx)) ⟨hs2,hc2,fun y=>by rw[show er c2=_ from hr2,C,if_pos y]⟩ idh (RV.tmp rfl (RV.agg Ag.o rfl (by simp[a0J]) (by rfl) (RV.tmp rfl RV.nil))) (by unfold x1Z;rw[A];rfl) gSp
 ·have k3: ¬k=3:=fun h=>by subst h;simp at i
  refine go 7 ?_;refine a0O rfl (fun j=> ?_) (fun j=> ?_)
  ·obtain rfl:k=4:=by have h:(k:Int)=4:=(by simpa using j);omega
   obtain⟨z,A,C⟩:=I.k4 rfl;have k1:=h2X (W:=W) P K z a;refine go 1 ?_;refine fx (.r 0 8 (.float 12 (.hard 8 (.r 9 3 (.res (.hard 13 (.soft 14 .done))))))) [f0Z g a.core c,pts w (.cells #[.int .i64 ki,.int .i64 ai,.int .i64 at_,.int .i64 n,b0C l] 24 (0,0))] ?_;refine go 3 ?_;refine h0L rfl (a0K (v:=(a0J c).toArray) Ag.o rfl (by simp[Value.cells,a0J]) (by rfl)) ?_;refine go 2 ?_;rw[q];refine go 2 ?_;refine j0Y (e0:= []) rfl gSu (fun _ _ _=>rfl) Zr.o rfl ?_;refine b0Y rfl (fun b EE FF=> ?_);refine ns ?_;refine ce 0 (x1M H c id n J G d) ?_;rintro⟨H2,c2⟩ ⟨hs2,hc2,hr2⟩;refine ns ?_;refine go 1 ?_;refine fn (E:=EE) (F:=FF) (b.put rfl) ?_;refine go 3 ?_;refine l0Y (fun M=> ?_);dsimp only;refine b0Y rfl (fun b EE FF=> ?_);refine ns ?_;refine a0M Sz.o rfl rfl rfl (fun u hu=>c0K hc2 u (by simpa using hu)) (by simp[Value.cells,a0J,a0S]) (a0N (by simp[Value.cells,a0J,a0S])) ?_;refine go 1 ?_;refine fn (E:=EE) (F:=FF) b ?_;refine go 4 ?_;refine mx (.r 0 7 (.r 8 2 (.hard 7 (.soft 10 (.hard 11 (.soft 12 .done)))))) [f0Z g a.core c,w0F M c2,pts w (.cells #[.int .i64 ki,.int .i64 ai,.int .i64 at_,.int .i64 n,b0C l] 24 (0,0))] ?_;refine go 7 ?_;refine d0A rfl (a0K (v:=(a0J c2).toArray) Ag.o rfl (by simp[Value.cells,a0J]) (a0I (by simp[Value.cells,a0J]))) ?_;refine cg 2 (k1) ?_;refine go 4 ?_;refine a0M Sz.o rfl rfl rfl (fun u hu=>c0K hc2 u (by simpa using hu)) (by simp[Value.cells,a0J,a0S]) (a0N (by simp[Value.cells,a0J,a0S])) ?_;refine go 5 ?_;exact c0T (x:=((H2,c2):b0B×Rx)) ⟨hs2,hc2,fun y=>by rw[show er c2=_ from hr2,C,if_pos y]⟩ idh (RV.tmp rfl (RV.agg Ag.o rfl (by simp[a0J]) (by rfl) (RV.tmp rfl RV.nil))) (by unfold x1Z;rw[A];rfl) gSp
  ·have k4: ¬k=4:=fun h=>by subst h;simp at j
   refine go 7 ?_;refine a0O rfl (fun m=> ?_) (fun m=> ?_)
   ·have k9:4<k∧k<9:=by have h:(k:Int)<9:=(by simpa using m);omega
    obtain⟨z,A,C⟩:=I.k5 k9;have k1:=z0O (W:=W) P K (by omega) z a;refine cg 4 (m2T l) ?_;refine go 3 ?_;refine r0I ([(0,ptr g),(2,.int .u32 id),(4,.pointer (some ⟨w,0,none⟩)),(6,.int .i64 0),(7,.pointer (some ⟨U,0,none⟩)),(8,.int .i64 0),(14,b0C (q0K l n))]) (RS W a s++ [f0Z g a.core c,pts w (.cells #[.int .i64 ki,.int .i64 ai,.int .i64 at_,.int .i64 n,b0C l] 24 (0,0)),pts U (.cells #[.slice none 0 0,.int .i64 0,.int .i64 0,.int .i64 0] 34 (0,0)),c0B H,R]) ?_ ?_
    ·refine go 4 ?_;refine a0D (o0O rfl rfl) ?_;rw[i2K];refine go 3 ?_;refine a0O rfl (fun p=> ?_) (fun p=> ?_)
     ·have D:q0K l n=o0U l++ [120]:=by unfold q0K;rw[if_pos (by simpa using p)]
      refine go 2 ?_;refine a0D (h0N rfl rfl (by rw[b0H,S,show(⟨#[120]⟩:ByteArray).size=1 from rfl];omega)) ?_;rw[show bs (o0U l)++(⟨#[120]⟩:ByteArray)=bs (q0K l n) by rw[D,h0U]];refine go 2 ?_;exact h0W idh gSu gSp
     ·have D:q0K l n=o0U l:=by unfold q0K;rw[if_neg (by simpa using p),List.append_nil]
      rw[D];refine go 1 ?_;exact h0W idh gSu gSp
    simp only[RS,List.cons_append,List.nil_append];refine go 1 ?_;refine fx (.r 0 9 (.float 13 (.hard 9 (.r 10 3 (.res (.hard 14 (.soft 15 .done))))))) [f0Z g a.core c,pts w (.cells #[.int .i64 ki,.int .i64 ai,.int .i64 at_,.int .i64 n,b0C l] 24 (0,0))] ?_;refine go 3 ?_;refine h0L rfl (a0K (v:=(a0J c).toArray) Ag.o rfl (by simp[Value.cells,a0J]) (by rfl)) ?_;refine go 2 ?_;rw[q];refine go 3 ?_;refine j0Y (e0:= []) rfl gSu (fun _ _ _=>rfl) Zr.o rfl ?_;refine b0Y rfl (fun b EE FF=> ?_);refine ns ?_;refine ce 0 (a2L H c id at_ (q0K l n) J G d (by omega)) ?_;rintro⟨H2,c2⟩ ⟨hs2,hc2,hr2⟩;refine ns ?_;refine go 1 ?_;refine fn (E:=EE) (F:=FF) (b.put rfl) ?_;refine go 3 ?_;refine l0Y (fun N=> ?_);dsimp only;refine b0Y rfl (fun b EE FF=> ?_);refine ns ?_;refine a0M Sz.o rfl rfl rfl (fun u hu=>c0K hc2 u (by simpa using hu)) (by simp[Value.cells,a0J,a0S]) (a0N (by simp[Value.cells,a0J,a0S])) ?_;refine go 1 ?_;refine fn (E:=EE) (F:=FF) b ?_;refine go 4 ?_;refine mx (.r 0 8 (.r 9 2 (.hard 8 (.soft 11 (.hard 12 (.soft 13 .done)))))) [f0Z g a.core c,w0F N c2,pts w (.cells #[.int .i64 ki,.int .i64 ai,.int .i64 at_,.int .i64 n,b0C l] 24 (0,0))] ?_;refine go 8 ?_;refine d0A rfl (a0K (v:=(a0J c2).toArray) Ag.o rfl (by simp[Value.cells,a0J]) (a0I (by simp[Value.cells,a0J]))) ?_;refine cg 2 (k1) ?_;refine go 4 ?_;refine a0M Sz.o rfl rfl rfl (fun u hu=>c0K hc2 u (by simpa using hu)) (by simp[Value.cells,a0J,a0S]) (a0N (by simp[Value.cells,a0J,a0S])) ?_;refine go 5 ?_;exact c0T (x:=((H2,c2):b0B×Rx)) ⟨hs2,hc2,fun y=>by rw[show er c2=_ from hr2,C,if_pos y]⟩ idh (RV.tmp rfl (RV.agg Ag.o rfl (by simp[a0J]) (by rfl) (RV.tmp rfl RV.nil))) (by unfold x1Z;rw[A];rfl) gSp
   ·have k9:k=9∨k=10:=by have h: ¬(k:Int)<9:=(by simpa using m);omega
    obtain⟨z,A,C⟩:=I.k9 k9;have k1:=s2C (W:=W) P K z a;refine go 3 ?_;refine fx (.r 0 10 (.float 14 (.hard 10 (.r 11 3 (.res (.hard 15 (.soft 16 .done))))))) [f0Z g a.core c,pts w (.cells #[.int .i64 ki,.int .i64 ai,.int .i64 at_,.int .i64 n,b0C l] 24 (0,0))] ?_;refine go 3 ?_;refine h0L rfl (a0K (v:=(a0J c).toArray) Ag.o rfl (by simp[Value.cells,a0J]) (by rfl)) ?_;refine go 2 ?_;rw[q];refine go 4 ?_;refine j0Y (e0:= []) rfl gSu (fun _ _ _=>rfl) Zr.o rfl ?_;refine b0Y rfl (fun b EE FF=> ?_);refine ns ?_;refine ce 0 (h2O H c id at_ n J G d) ?_;rintro⟨H2,c2⟩ ⟨hs2,hc2,hr2⟩;refine ns ?_;refine go 1 ?_;refine fn (E:=EE) (F:=FF) (b.put rfl) ?_;refine go 3 ?_;refine l0Y (fun O=> ?_);dsimp only;refine b0Y rfl (fun b EE FF=> ?_);refine ns ?_;refine a0M Sz.o rfl rfl rfl (fun u hu=>c0K hc2 u (by simpa using hu)) (by simp[Value.cells,a0J,a0S]) (a0N (by simp[Value.cells,a0J,a0S])) ?_;refine go 1 ?_;refine fn (E:=EE) (F:=FF) b ?_;refine go 4 ?_;refine mx (.r 0 9 (.r 10 2 (.hard 9 (.soft 12 (.hard 13 (.soft 14 .done)))))) [f0Z g a.core c,w0F O c2,pts w (.cells #[.int .i64 ki,.int .i64 ai,.int .i64 at_,.int .i64 n,b0C l] 24 (0,0))] ?_;refine go 9 ?_;refine d0A rfl (a0K (v:=(a0J c2).toArray) Ag.o rfl (by simp[Value.cells,a0J]) (a0I (by simp[Value.cells,a0J]))) ?_;refine cg 2 (k1) ?_;refine go 4 ?_;refine a0M Sz.o rfl rfl rfl (fun u hu=>c0K hc2 u (by simpa using hu)) (by simp[Value.cells,a0J,a0S]) (a0N (by simp[Value.cells,a0J,a0S])) ?_;refine go 5 ?_;exact c0T (x:=((H2,c2):b0B×Rx)) ⟨hs2,hc2,fun y=>by rw[show er c2=_ from hr2,C,if_pos y]⟩ idh (RV.tmp rfl (RV.agg Ag.o rfl (by simp[a0J]) (by rfl) (RV.tmp rfl RV.nil))) (by unfold x1Z;rw[A];rfl) gSp
theorem d2I (P:Rp) (v:Vp):(g0M P v).2.1=P.next∨(g0M P v).2.1=0:=by
 unfold g0M;split
 ·exact .inr rfl
 ·exact .inl rfl
theorem h2Z (P:Rp) (n:Int):(e0R P n).2.1=P.next∨(e0R P n).2.1=0:=by
 unfold e0R;split
 ·exact .inr rfl
 ·exact d2I _ _
theorem s2D (P:Rp) (id:Int) (o:Bool):(i0P P id o).2.1=P.next∨(i0P P id o).2.1=0:=by
 unfold i0P;split
 ·exact .inr rfl
 ·exact d2I _ _
theorem p1J {H a:b0B} {c c2:Rx} {e:Int} (f: ∀p∈H,p∈a) (d:c0Z H c) (b:c0Z a c2):c0Z a (if e=0 then c2 else c):=by
 split
 ·exact b
 ·exact d.more f
theorem i2A {c c2:Rx} {e:Int} {r:Rp} (h:er c2=r):er (if e=0 then c2 else c)=if e=0 then r else er c:=by
 split
 ·exact h
 ·rfl
abbrev DoE (H:b0B) (Q:Rp) (x:b0B×Rx):Prop:=(∀p∈H,p∈x.1)∧c0Z x.1 x.2∧er x.2=Q
theorem n2I {k:Nat} {id at_ n e f:Int} {data:B} {s t:St} {P Q:Rp} (h:c1K k id at_ n data s P e f t Q) (c:k<11∧2<k) (b:e≠0):Q=P:=by
 have a:k=3∨k=4∨(4<k∧k<9)∨(k=9∨k=10):=by omega
 rcases a with a|a|a|a
 ·have:=(h.k3 a).2.2;rw[if_neg b]at this;exact this
 ·have:=(h.k4 a).2.2;rw[if_neg b]at this;exact this
 ·have:=(h.k5 a).2.2;rw[if_neg b]at this;exact this
 ·have:=(h.k9 a).2.2;rw[if_neg b]at this;exact this
theorem r1O (W:World) (hW:i0L W) (a:Ad) (s t:St) (q:Nat) (H:b0B) (c:Rx) (ki ai at_ n id e f:Int) (l:B) (k:Nat) (Q:Rp) (hk:ki%256%14=(k:Int)) (Y:ai%32=id) (V:Fit s) (S:s.depth=0∧s.log= []) (p:c0Z H c) (T:w0X (er c)) (I:c.bits≤256) (hnx:1≤c.next∧c.next<1000000)
 (w:c1K k id at_ n (q0K l n) s (er c) e f t Q):a0G prog 12 #[ptr q,h2Y ki ai at_ n l] (RS W a s++ [f0Z q a.core c,c0B H])
 (b0P (DoE H Q) (fun _=>x1N e f true) (fun x=>RS W a t++ [f0Z q a.core x.2,c0B x.1])):=by
 have hk14:k<14:=by omega
 have A:e=0→f=0:=fun h0=>by rcases w.same with g|g<;>omega
 have hnn:(er c).next=c.next:=rfl;have J:0≤id∧id<32:=by omega
 have M:IntKind.i64.wrap id=id:=e0P .i64 id J.1 (by show id<9223372036854775808;omega);have Z:IntKind.u32.wrap id=id:=e0P .u32 id J.1 (by show id<2147483648;omega);refine en func12 ntmps12 fun R w0=> ?_
 try simp only[h2Y]
 refine go 2 ?_;refine bx fun U=> ?_;refine go 9 ?_;refine a0D (o0O rfl rfl) ?_;rw[s1Q,Y];refine go 1 ?_;rw[Z];refine go 8 ?_;refine a0D (o0O rfl rfl) ?_;rw[g1J _ (by decide)];refine go 1 ?_;rw[hk];refine go 11 ?_;refine a0O rfl (fun y=> ?_) (fun y=> ?_)
 ·obtain rfl:k=0:=by have h:(k:Int)=0:=(by simpa using y);omega
  obtain⟨m,D,G,O,P,N⟩:=w.k0 rfl;have C:0≤m∧m<4294967296:=by by_cases j:e=0;{have:=O j;rcases h2Z (er c) n with g|g<;>omega};{have:=P j;omega}
  have k1:=n1E (W:=W) V D a;refine go 1 ?_;refine mx (.r 0 6 (.hard 6 (.r 7 5 .done))) [f0Z q a.core c,pts U (.cells #[.int .i64 ki,.int .i64 ai,.int .i64 at_,.int .i64 n,b0C l] 24 (0,0))] ?_;refine cg 7 (k1) ?_;refine go 10 ?_;refine fx (.r 0 6 (.float 11 (.hard 6 (.r 7 4 (.res (.hard 12 (.r 13 2 .done))))))) [f0Z q a.core c,pts U (.cells #[.int .i64 ki,.int .i64 ai,.int .i64 at_,.int .i64 n,b0C l] 24 (0,0))] ?_;refine go 3 ?_;refine h0L rfl (a0K (v:=(a0J c).toArray) Ag.o rfl (by simp[Value.cells,a0J]) (by rfl)) ?_;refine go 2 ?_;refine j0Y (e0:= []) rfl gSu (fun _ _ _=>rfl) Zr.o rfl ?_;refine b0Y rfl (fun L EE FF=> ?_);refine ns ?_;refine ce 0 (x1I H c n p (by omega)) ?_;rintro⟨H2,c2⟩ ⟨hs2,hc2,hr2⟩;refine ns ?_;refine go 1 ?_;refine fn (E:=EE) (F:=FF) (L.put rfl) ?_;refine go 4 ?_;refine l0Y (fun b11=> ?_);dsimp only;refine b0Y rfl (fun L EE FF=> ?_);refine ns ?_;refine a0M Sz.o rfl rfl rfl (fun u hu=>c0K hc2 u (by simpa using hu)) (by simp[Value.cells,a0J,a0S]) (a0N (by simp[Value.cells,a0J,a0S])) ?_;refine go 1 ?_;refine fn (E:=EE) (F:=FF) L ?_;refine go 9 ?_;refine a0D (a0K (v:=(a0J c2).toArray) Ag.o rfl (by simp[Value.cells,a0J]) (a0I (by simp[Value.cells,a0J]))) ?_;refine go 2 ?_;rw[G];refine cg 0 (k1K q a.core m (e0R (er c) n).2.1 e f c c2 (c0K hc2) C O P A) ?_;refine go 8 ?_;exact rE idh (H2,if e=0 then c2 else c) ⟨hs2,p1J hs2 p hc2,by rw[N];exact i2A hr2⟩
 ·have k0: ¬k=0:=fun h=>by subst h;simp at y
  refine go 7 ?_;refine a0O rfl (fun z=> ?_) (fun z=> ?_)
  ·have k3:k=1∨k=2:=by have h:(k:Int)<3:=(by simpa using z);omega
   obtain⟨m,D,G,O,P,N⟩:=w.k1 k3;have C:0≤m∧m<4294967296:=by by_cases j:e=0;{have:=O j;rcases s2D (er c) id (decide (k=1))with g|g<;>omega};{have:=P j;omega}
   refine go 12 ?_;by_cases K:k=1
   ·refine go 5 ?_;refine b0S rfl (by subst K;rfl) ?_;refine cg 6 (x1P (W:=W) V (by rw[decide_eq_true K]at D;exact D) a) ?_;refine go 12 ?_;refine a0D (a0K (v:=(a0J c).toArray) Ag.o rfl (by simp[Value.cells,a0J]) (by rfl)) ?_;refine go 2 ?_;rw[M];refine go 2 ?_;rw[show((k:Int) == 1)=decide (k=1) by by_cases h:k=1;{subst h;rfl};{rw[decide_eq_false h];simp;omega}];refine ce 0 (n1A H c id (decide (k=1)) p (by omega)) ?_;rintro⟨H2,c2⟩ ⟨hs2,hc2,hr2⟩;refine ns ?_;refine go 4 ?_;refine al fun X=> ?_;refine a0M Sz.o rfl rfl rfl (fun u hu=>c0K hc2 u (by simpa using hu)) (by simp[Value.cells,a0J,a0S]) (a0N (by simp[Value.cells,a0J,a0S])) ?_;refine go 9 ?_;refine a0D (a0K (v:=(a0J c2).toArray) Ag.o rfl (by simp[Value.cells,a0J]) (a0I (by simp[Value.cells,a0J]))) ?_;refine go 2 ?_;rw[G];refine cg 0 (k1K q a.core m (i0P (er c) id (decide (k=1))).2.1 e f c c2 (c0K hc2) C O P A) ?_;refine go 8 ?_;exact rE idh (H2,if e=0 then c2 else c) ⟨hs2,p1J hs2 p hc2,by rw[N];exact i2A hr2⟩
   ·refine go 5 ?_;refine d0P rfl (by have h:k=2:=(by omega);subst h;rfl) ?_;refine cg 13 (n2H (W:=W) V (by rw[decide_eq_false K]at D;exact D) a) ?_;refine go 12 ?_;refine a0D (a0K (v:=(a0J c).toArray) Ag.o rfl (by simp[Value.cells,a0J]) (by rfl)) ?_;refine go 2 ?_;rw[M];refine go 2 ?_;rw[show((k:Int) == 1)=decide (k=1) by by_cases h:k=1;{subst h;rfl};{rw[decide_eq_false h];simp;omega}];refine ce 0 (n1A H c id (decide (k=1)) p (by omega)) ?_;rintro⟨H2,c2⟩ ⟨hs2,hc2,hr2⟩;refine ns ?_;refine go 4 ?_;refine al fun X=> ?_;refine a0M Sz.o rfl rfl rfl (fun u hu=>c0K hc2 u (by simpa using hu)) (by simp[Value.cells,a0J,a0S]) (a0N (by simp[Value.cells,a0J,a0S])) ?_;refine go 9 ?_;refine a0D (a0K (v:=(a0J c2).toArray) Ag.o rfl (by simp[Value.cells,a0J]) (a0I (by simp[Value.cells,a0J]))) ?_;refine go 2 ?_;rw[G];refine cg 0 (k1K q a.core m (i0P (er c) id (decide (k=1))).2.1 e f c c2 (c0K hc2) C O P A) ?_;refine go 8 ?_;exact rE idh (H2,if e=0 then c2 else c) ⟨hs2,p1J hs2 p hc2,by rw[N];exact i2A hr2⟩
  ·have k3: ¬k<3:=fun h=>by have G: ¬(k:Int)<3:=(by simpa using z);omega
   refine go 7 ?_;refine a0O rfl (fun b=> ?_) (fun b=> ?_)
   ·obtain rfl:k=11:=by have h:(k:Int)=11:=(by simpa using b);omega
    obtain⟨D,G,N⟩:=w.k11 rfl;obtain rfl:f=e:=w.rest (by decide);have k1:=x1Q (W:=W) D a;refine go 1 ?_;refine mx (.r 0 9 (.hard 9 (.r 10 5 .done))) [f0Z q a.core c,pts U (.cells #[.int .i64 ki,.int .i64 ai,.int .i64 at_,.int .i64 n,b0C l] 24 (0,0))] ?_;refine cg 10 (k1) ?_;refine go 10 ?_;refine mx (.r 0 10 (.hard 10 (.r 11 5 .done))) [f0Z q a.core c,pts U (.cells #[.int .i64 ki,.int .i64 ai,.int .i64 at_,.int .i64 n,b0C l] 24 (0,0))] ?_;refine go 3 ?_;refine d0A rfl (a0K (v:=(a0J c).toArray) Ag.o rfl (by simp[Value.cells,a0J]) (by rfl)) ?_;refine go 2 ?_;rw[M];refine cg 5 (n1D H c id at_ n p T) ?_;refine go 15 ?_;refine a0D (s0O rfl rfl) ?_;refine go 5 ?_;refine g1I (H,c) ⟨fun _ h=>h,p,N.symm⟩ idh rfl (by unfold x1N;simp[G]) gSp
   ·have k11: ¬k=11:=fun h=>by subst h;simp at b
    refine go 7 ?_;refine a0O rfl (fun d=> ?_) (fun d=> ?_)
    ·obtain rfl:k=12:=by have h:(k:Int)=12:=(by simpa using d);omega
     obtain rfl:f=e:=w.rest (by decide);obtain⟨rfl,rfl,rfl⟩:=w.k12 rfl;refine go 1 ?_;refine tl 8 ?_;refine go 6 ?_;refine b0V (o0O rfl rfl) ?_;rw[g1J _ (by decide)];refine go 2 ?_;rw[e0P .u32 (n%256) (by omega) (by show n%256<2147483648;omega)];refine cg 0 (a2Q W a s (n%256)) ?_;refine go 7 ?_;refine a0D (o0O rfl rfl) ?_;refine go 3 ?_;rw[g1J _ (by decide)];refine go 10 ?_;exact rE idh (H,{c with epoch:=n%256}) ⟨fun _ h=>h,⟨p.vols,p.maps,p.few⟩,rfl⟩
    ·have k12: ¬k=12:=fun h=>by subst h;simp at d
     refine go 7 ?_;refine a0O rfl (fun i=> ?_) (fun i=> ?_)
     ·obtain rfl:k=13:=by have h:(k:Int)=13:=(by simpa using i);omega
      obtain rfl:f=e:=w.rest (by decide);obtain⟨rfl,rfl,rfl⟩:=w.k13 rfl;refine go 8 ?_;refine a0D (j0R Sc.o rfl gFd rfl) ?_;refine cg 0 (v1M a s S) ?_;refine go 9 ?_;exact rE idh (H,c) ⟨fun _ h=>h,p,rfl⟩
     ·have k13: ¬k=13:=fun h=>by subst h;simp at i
      refine go 5 ?_;refine a0D (a0K (v:= #[.int .i64 ki,.int .i64 ai,.int .i64 at_,.int .i64 n,b0C l]) Ag.o rfl (by simp[Value.cells]) (a0I (by simp[Value.cells]))) ?_;refine ce 1 (a2R W hW a s t q H c ki ai at_ n id e f l k Q hk (by omega) J V p T I w) ?_;rintro⟨H2,c2⟩ ⟨hs2,hc2,hq2⟩;refine ns ?_;refine go 4 ?_;refine al fun b25=> ?_;refine go 1 ?_;refine a0M Sz.o rfl rfl rfl (fun u hu=>c0K hc2 u (by simpa using hu)) (by simp[Value.cells,a0J,a0S]) (a0N (by simp[Value.cells,a0J,a0S])) ?_;refine go 5 ?_;by_cases j:e=0
      ·refine go 4 ?_;refine b0Z (d0H rfl) (wg rfl rfl rfl (wTT (by simpa using j))) ?_;refine b0Z (b1F rfl rfl) (wg rfl rfl rfl (wTT (by simpa using j))) ?_;refine a0D (h0V rfl (by simpa using j) rfl) ?_;refine go 2 ?_;refine d0P rfl (by simpa using A j) ?_;refine go 2 ?_;refine a0D (a0K (v:=(a0J c2).toArray) Ag.o rfl (by simp[Value.cells,a0J]) (a0I (by simp[Value.cells,a0J]))) ?_;refine go 2 ?_;refine a0M Sz.o rfl rfl rfl (fun u hu=>c0K hc2 u (by simpa using hu)) (by simp[a0J]) (by simp[j0I,a0J];rfl) ?_;refine go 11 ?_;exact rE idh (H2,c2) ⟨hs2,hc2,hq2 j⟩
      ·refine go 4 ?_;refine c0D rfl (wg rfl rfl rfl (wTF (by simpa using j))) ?_;refine c0D rfl (wg rfl rfl rfl (wTF (by simpa using j))) ?_;refine a0D (h0H rfl (by simpa using j) rfl) ?_;refine go 14 ?_;exact rE idh (H2,c) ⟨hs2,p.more hs2,(n2I w (by omega) j).symm⟩
structure AP where
 ki:Int
 ai:Int
 at_:Int
 n:Int
 l:B
def i2B (x:AP):List Value:= [.int .i64 x.ki,.int .i64 x.ai,.int .i64 x.at_,.int .i64 x.n,b0C x.l]
def n2J (W:World) (v:Value) (b:List AP):Prop:= ∃(p:Option Addr) (cap:Nat),v= .slice p b.length cap∧b.length≤maxLen∧ ∀i (h:i<b.length),∃a,p=some a∧ ∀q u,(i2B b[i])[q]? =some u→W.cell? ((a.add (i*5)).add q)=some u
structure CA (n:Nat) (x:Nat×St×Gh×Rx×b0B):Prop where
 le:x.1≤n
 i12:x.1≤12
 j:J x.2.1 x.2.2.1 (er x.2.2.2.1)
 bud:Bud x.1 x.2.1 (er x.2.2.2.1)
 next:x.2.2.2.1.next≤1+x.1
 bits:x.2.2.2.1.bits≤256
 core:c0Z x.2.2.2.2 x.2.2.2.1
theorem w2O {W:World} {s t:St} {id:Int} {p:B×Int} (h:w0M id s=(.ok p,t)) (a:Ad):a0G prog 13 #[ptr a.core,.int .u32 id] (RS W a s) (a0T (s2T p) (RS W a t)):=by
 have k:=n2G W a s id (by rw[h];simp);rw[h]at k;exact k.ran_ok
section
structure CB (x:St×Gh×Rx×b0B):Prop where
 j:J x.1 x.2.1 (er x.2.2.1)
 bud:Bud 12 x.1 (er x.2.2.1)
 next:x.2.2.1.next≤13
 bits:x.2.2.1.bits≤256
 core:c0Z x.2.2.2 x.2.2.1
theorem s2E {i j:Nat} {s:St} {P:Rp} (h:Bud i s P) (c:i≤j):Bud j s P:=by
 obtain⟨w,t,d,a,b⟩:=h;exact⟨w,t,by omega,a,b⟩
theorem n2K {s:St} {G:Gh} {c:Rx} (h:J s G (er c)) (hb:c.bits≤256):Fit s:=⟨by have e:s.bits=c.bits:=h.bits;omega,by have:=h.ci.few;omega⟩
set_option maxRecDepth 8000
end
end Go.Proofs.Q
namespace Go.Proofs.Q
open Go.Sl Go.Sb Tryz
set_option maxRecDepth 8000
theorem w2P (W:World) (a:Ad) (s:St) (p:Nat) (H:b0B) (c:Rx) (G:Gh) (ep:Int) (f:J s G {er c with epoch:=ep}) (P:Sml (er c)) (X:c0Z H c) (hnx:c.next<1000000) (j:Nat) (O:j<c.l.length) (x:Ent) (C:a0C c.l[j].v.id s.vols=some x):
 a0G prog 54 #[ptr p,e0E x,a1G c.l[j]] (RS W a s++ [f0Z p a.core c,c0B H]) (a0T (.bool true) (RS W a s++ [f0Z p a.core c,c0B H])):=by
 have b:c.l[j].v∈(er c).l:=List.mem_map.2 ⟨_,List.getElem_mem O,rfl⟩;have B:=X.maps _ (List.getElem_mem O);obtain⟨x',I,hr⟩:=f.vol c.l[j].v b;rw[C]at I;cases I
 have hid:1≤c.l[j].v.id∧c.l[j].v.id<(er c).next:=f.ids _ b;have K:=(f.ci.ids _ (f.ci.mem C)).1;have e:=P.vol _ b;have A:w0X (er c):=f.sized;have hsz:=A _ b;have h:=f.sumDoc b;have u:j<(er c).l.length:=by show j<(c.l.map (·.v)).length;rw[List.length_map];exact O
 have w:(er c).l[j]=c.l[j].v:=by simp[er]
 have i:c0Q (er c).l (er c).l[j].id=some j:=f.findOf u;have N:(er c).l.getD j v0=c.l[j].v:=by rw[List.getD_eq_getElem?_getD,List.getElem?_eq_getElem u,w];rfl
 rw[w]at i;have hnn:(er c).next=c.next:=rfl;obtain⟨Y,Z,r3,r4,r5⟩:=hr;obtain⟨xi,xp,xo,xs,xr,xb⟩:=x;simp only at K Y Z r3 r4;subst K Y Z r3 r4;obtain⟨k,hk⟩: ∃k:Int,k=min c.l[j].v.size 30:=⟨_,rfl⟩;have g:m0Q ((er c).l.getD j v0) (c.l[j].v.size-k) k=false:=by rw[N];unfold m0Q;refine decide_eq_false ?_;omega
 have y:n0Y c.l[j].v.id (c.l[j].v.size-k) k s=(.ok (m0A (er c) c.l[j].v.id (c.l[j].v.size-k) k),s):=f.readIn i g;obtain⟨U,M⟩: ∃U,m0A (er c) c.l[j].v.id (c.l[j].v.size-k) k=(U,0):=by unfold m0A;rw[i];simp only;rw[if_neg (by rw[g];decide)];exact⟨_,rfl⟩
 have z:=n1D H c c.l[j].v.id (c.l[j].v.size-k) k X A;rw[M]at y z;have Q:IntKind.i64.wrap c.l[j].v.id=c.l[j].v.id:=e0P .i64 _ (by omega) (by show c.l[j].v.id<9223372036854775808;omega);have S:IntKind.i64.wrap c.l[j].v.parent=c.l[j].v.parent:=e0P .i64 _ e.1.1 (by show c.l[j].v.parent<9223372036854775808;have:=e.1.2;omega);have T:IntKind.i64.wrap c.l[j].v.born=c.l[j].v.born:=e0P .i64 _ e.2.1 (by show c.l[j].v.born<9223372036854775808;have:=e.2.2;omega);obtain⟨D,q⟩: ∃D,D=dgR c.l[j].v.m 2 0:=⟨_,rfl⟩;have t:D.length=32:=by rw[q];exact c2Z _ _ _
 have d:(D.map a0Q).toArray.size=32:=by simp[t]
 rw[←q]at h;refine ns ?_;refine en func54 ntmps54 fun R w0=> ?_;refine go 2 ?_;refine bx fun V=> ?_;refine bx fun L=> ?_;refine go 9 ?_;rw[Q];refine go 7 ?_;rw[S];refine go 9 ?_;refine b0Z (d2Y F.bo4 rfl rfl) (wg rfl rfl rfl (wFF (by simp))) ?_;refine go 12 ?_;rw[T];refine go 10 ?_;refine fx (.r 0 6 (.float 10 (.hard 6 (.r 7 3 (.res (.hard 11 (.soft 12 .done))))))) [f0Z p a.core c,s0M V ⟨c.l[j].v.id,c.l[j].v.parent,c.l[j].v.only,c.l[j].v.size,xr,c.l[j].v.born⟩] ?_;refine go 6 ?_;refine j0Y (e0:= []) rfl gSu (fun _ _ _=>rfl) Zr.o rfl ?_;refine b0Y rfl (fun n EE FF=> ?_);refine ns ?_;refine cg 0 (w2O (W:=W) h a) ?_;refine go 1 ?_;refine fn (E:=EE) (F:=FF) (n.put rfl) ?_;refine go 3 ?_;refine l0Y (fun b7=> ?_);dsimp only;refine b0Y rfl (fun n EE FF=> ?_);refine ns ?_;refine a0M Sz.o rfl rfl d (fun x C=>by simp at C;obtain⟨_,_,rfl⟩:=C;rfl) (by rw[d];simp[Value.cells]) (a0N (by rw[d];simp[Value.cells])) ?_;refine go 1 ?_;refine fn (E:=EE) (F:=FF) n ?_;refine go 8 ?_;rw[←hk];refine go 4 ?_;refine mx (.r 0 11 (.hard 11 (.r 12 5 .done))) [f0Z p a.core c,s0M V ⟨c.l[j].v.id,c.l[j].v.parent,c.l[j].v.only,c.l[j].v.size,xr,c.l[j].v.born⟩,w1X L c.l[j]] ?_;refine cg 12 (x1Q (W:=W) y a) ?_;refine go 10 ?_;refine mx (.r 0 11 (.hard 11 (.r 12 5 .done))) [f0Z p a.core c,w1X L c.l[j]] ?_;refine go 3 ?_;refine d0A rfl (a0K (v:=(a0J c).toArray) Ag.o rfl (by simp[Value.cells,a0J]) (by rfl)) ?_;refine cg 8 (z) ?_;refine go 10 ?_;refine mx (.r 0 8 (.r 9 2 (.hard 8 (.hard 11 (.r 12 8 .done))))) [w1X L c.l[j],pts b7 (.cells (D.map a0Q).toArray 44 (0,0))] ?_;refine go 7 ?_;refine t0D rfl (a0K Ag.o rfl (by rw[d];omega) (a0I d)) (wg rfl rfl rfl (wTT rfl)) ?_;refine cg 4 (w0T D t) ?_;refine cg 4 (a2A H c.l[j].mv c.l[j].v.m B.1 B.2) ?_;refine go 2 ?_;refine t0D rfl (s0O rfl rfl) (wg rfl rfl rfl (wTT rfl)) ?_;refine go 2 ?_;refine t0D rfl (d0H rfl) (wg rfl rfl rfl (wTT (by rw[q];simp))) ?_;refine t0D rfl (d0H rfl) (wg rfl rfl rfl (wTT (by rw[q];simp))) ?_;refine t0D rfl (s0O rfl rfl) (wg rfl rfl rfl (wTT (by rw[q];simp))) ?_;refine d0A rfl (h0V rfl (by rw[q];simp) rfl) ?_;refine go 3 ?_;exact rG (hu:=(by simp))
end Go.Proofs.Q

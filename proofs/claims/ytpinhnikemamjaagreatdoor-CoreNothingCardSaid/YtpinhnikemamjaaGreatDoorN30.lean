/- Part of the proof; no statement of its own. -/
import Derived.Test.YtpinhnikemamjaaGreatDoorN18
import Derived.Test.YtpinhnikemamjaaGreatDoorN23
import Derived.Test.YtpinhnikemamjaaGreatDoorN29
import Derived.Test.YtpinhnikemamjaaGreatDoorN24
import Derived.Test.YtpinhnikemamjaaGreatDoorN21
import Derived.Test.YtpinhnikemamjaaGreatDoorN16
set_option linter.all false
set_option maxRecDepth 4000
set_option maxHeartbeats 4000000
attribute [local irreducible] Go.Sl.a0O Go.Sl.OW Go.Sl.CW Go.Sl.OS Go.Sl.OM Go.Sl.OMf Go.Sl.KM
namespace Go.Proofs.Q
open Go.Sl Go.Sb Tryz
theorem k0Z {L N M:List a0C} (hL:a0Z L N M) (w:World) (h:Sat w L):Sat w (b0D N::M):=b0J.2 (h.perm hL)
theorem g1B {α:Type} {m:M α} {s t:St} {c:Car α} {e:Int} (h:n0T (f0F m) (s,.start)=(.ok e,(t,c))):(∃a,c= .done a∧e=0)∨(c= .lost∧e≠0):=by
 unfold n0T n0S a0B f0F at h;simp only at h;split at h<;>rename_i h1
 ·simp only[Prod.mk.injEq,Out.ok.injEq]at h;obtain⟨rfl,h2,h3⟩:=h;split at h1
  ·cases h1
  ·rename_i hd;cases hm:m {s with depth:=s.depth+1} with
   |mk o u=>
    rw[hm]at h1;cases o with
    |ok a=>
     simp only at h1;split at h1
     ·cases h1
     ·cases h1;exact .inl ⟨a,h3.symm,rfl⟩
    |err e'=>
     simp only at h1;split at h1
     ·cases h1
     ·rename_i h4;cases h1;exact .inr ⟨h3.symm,fun h5=>h4 (.inr h5)⟩
    |big=>cases h1
 ·cases h
 ·cases h
theorem m0F {α:Type} {m:M α} {s:St} {x:St×Car α} {e:Int} :n0T (f0F m) (s,.start)≠(.err e,x):=by
 unfold n0T a0B;intro h;cases ho:n0S (f0F m) (s,.start)with
 |mk o u=>
  rw[ho]at h;cases o with
  |ok a=>cases h
  |err e'=>exact k1U _ _ _ _ ho
  |big=>cases h
theorem s0M {α:Type} {m:M α} {s t:St} {c:Car α} {e:Int} (h:n0T (f0F m) (s,.start)=(.ok e,(t,c))):h0V m s=(.ok (e,c),t):=by unfold h0V s1C;rw[h]
theorem c1G {α:Type} {m:M α} {s:St} (h:(h0V m s).1≠ .big):(n0T (f0F m) (s,.start)).1≠ .big:=by
 intro e;apply h;unfold h0V s1C;cases ho:n0T (f0F m) (s,.start)with
 |mk o u=>
  rw[ho]at e;simp only at e;subst e;rfl
theorem v0A {α:Type} (W:World) (a:Ad) (A0:a0C) (A1:α→a0C) (more:Nat) (g:FuncId) (cap:List Value) (m:M α) (s:St) (hb:e0Y prog g=true) (hmo:more≤1000) (hvl:s.vols.length≤1000)
 (hg:r0G W a A0 A1 g cap s.bits m) (hnb:(h0V (e0O more m) s).1≠ .big):
 a0F prog 64 #[ptr a.core,.int .i64 more,.func (.func g) #[] cap.toArray] (RS W a s++ [A0]) (Ran fT (RSC W a A0 A1) a0J (n0T (f0F (e0O more m)) (s,.start))):=by
 have hn:=c1G hnb;refine ns ?_;refine en func64 ntmps64 fun R w0=> ?_;refine go 2 ?_;refine bx fun b3=> ?_;refine bx fun b4=> ?_;refine bx fun b5=> ?_;refine go 8 ?_;refine a0D (j0K Sc.o rfl gFd rfl) ?_;refine go 1 ?_;refine e0K (k0Z (N:= [g0B b3 a,f0L b4 more,e2Q b5 g cap,A0]) gSp) ?_;refine a0X rfl Hb.o rfl (t0D (C:=Car α) W a (u0A (e2R a A0 b3 b4 b5 more g cap) A1) 116 [ptr b3,ptr b4,ptr b5] (f0F (e0O more m)) s .start Hb.o hn (fun h=>j2X W a A0 A1 b3 b4 b5 more g cap m {s with depth:=s.depth+1} hb hmo hvl hg (e1R.1 h))) gSp (fun e ⟨t,oc⟩ ho=> ?_) (fun e t ho=>by refine pn ?_;(exact(m0F ho).elim));refine ns ?_;refine go 3 ?_;rcases g1B ho with ⟨y,rfl,rfl⟩| ⟨rfl,_⟩
 ·simp only[u0A];exact p0I ho idh rfl rfl gSp
 ·simp only[u0A];exact p0I ho idh rfl rfl gSp
theorem y1C {s:St} {v:Int} (h:(p0H v s).1≠ .big):s.log.length<1000000000:=t0E h fun h'=>by simp[p0H,a0B,back,h']
theorem e2S {s:St} (v:Int) (h:s.log.length<1000000000):p0H v s=(.ok (),{s with log:=bk s.depth s.log (.next s.next),next:=v}):=by
 simp[p0H,a0B,back,show ¬1000000000≤s.log.length by omega]
theorem j2Y (W:World) (a:Ad) (s:St) (x:Ent) (hnb:(v0E x s).1≠ .big):a0F prog 138 #[ptr a.core,d0Z x] (RS W a s) (Ran fT (RS W a) e0H (v0E x s)):=by
 obtain⟨y,hy⟩: ∃y:Ent,y= {x with id:=s.next,born:=s.epoch} :=⟨_,rfl⟩;have e0:v0E x s=a0B (p0H (m0N (s.next+1))) (fun _=>a0B (l0Q y) fun _=>ret y.id) s:=by rw[hy];rfl
 have hn:=y1C (show(p0H (m0N (s.next+1)) s).1≠ .big by rw[e0]at hnb;exact c0I hnb);rw[a0A (e2S _ hn)]at e0;have hyid:y.id=s.next:=by rw[hy]
 refine en func138 ntmps138 fun R w0=> ?_
 try simp only[d0Z]
 refine go 2 ?_;refine bx fun b3=> ?_;refine go 4 ?_;refine mx (.r 0 9 (.hard 9 (.soft 10 (.hard 11 .done)))) [HL a s] ?_;refine go 3 ?_;refine c0V rfl (j0K Sc.o rfl gFd rfl) ?_;refine go 3 ?_;refine c0V rfl (j0K Sc.o rfl gFd rfl) ?_;refine go 11 ?_;refine b0G (L':=r0Y b3 y::(RS W a s++ [R])) (fun w h=>by rw[hy];exact h.re gSp) ?_;refine ns ?_;refine go 2 ?_;refine e0J gFd fun by_ gv gc o hg hok=> ?_;simp only[d0M,o0J,c0Y,List.cons_append,List.nil_append];refine tl 15 ?_;refine go 14 ?_;refine b0X (j1H rfl rfl) ?_;refine go 1 ?_;rw[show IntKind.u32.wrap (s.next+1)=m0N (s.next+1)from IntKind.wrap_u32 _];refine ce 0 (x1F a by_ o s.log s.depth s.next (m0N (s.next+1)) s.epoch hn) ?_;rintro e _;refine ns ?_;refine go 1 ?_;refine b0G (d0A (s:= {s with log:=bk s.depth s.log (.next s.next),next:=m0N (s.next+1)}) hg hok gSp) ?_;refine go 5 ?_;refine a0X rfl Hb.o rfl (u0Y W a {s with log:=bk s.depth s.log (.next s.next),next:=m0N (s.next+1)} y (by rw[e0]at hnb;exact c0I hnb)) gSp (fun u t ho=> ?_) (fun e t ho=>by refine pn ?_;exact kx ((by rw[e0];exact a0I ho)));refine ns ?_;refine go 9 ?_;exact rR idh (by rw[e0,a0A ho];rfl)
abbrev q1U (b:Nat) (g:FuncId) (cap:List Value):a0C:=pts b (.cells #[.func (.func g) #[] cap.toArray] 165 (0,0))
abbrev c1H (W:World) (a:Ad) (AD:a0C) (g:FuncId) (cap:List Value) (bits:Nat) (made:M Ent):Prop:= ∀t:St,t.bits=bits→(made t).1≠ .big→
 a0F prog g cap.toArray (RS W a t++ [AD]) (Ran fT (fun u=>RS W a u++ [AD]) d0Z (made t))
abbrev j2Z (a:Ad) (AD:a0C) (b0 b1 b2:Nat) (g:FuncId) (cap:List Value):a0C:=b0D [g0B b0 a,q1U b1 g cap,j0O b2 0,AD]
theorem e2T (W:World) (a:Ad) (AD:a0C) (b0 b1 b2:Nat) (g:FuncId) (cap:List Value) (made:M Ent) (bits:Nat) (hb:e0Y prog g=true) (hg:c1H W a AD g cap bits made):
 r0G W a (j2Z a AD b0 b1 b2 g cap) (fun id=>j0O b2 id) 137 [ptr b0,ptr b1,ptr b2] bits (a0B made v0E):=by
 intro s hbits hnb;refine ns ?_;refine en func137 ntmps137 fun R w0=> ?_;refine k0Q (show Fnd _ (b0D [g0B b0 a,q1U b1 g cap,j0O b2 0,AD]) _ from gFd) ?_;refine ns ?_;refine mx (.r 0 2 (.hard 2 (.hard 3 (.hard 4 .done)))) [g0B b0 a,q1U b1 g cap] ?_;refine go 3 ?_;refine a0X rfl hb rfl (hg s hbits (c0I hnb)) gSp (fun x t ho=> ?_) (fun e t ho=>by refine pn ?_;(refine b0G (fun w h=>b0Y h) ?_;exact b0W (c0L (a0I ho)) idh gSp));refine ns ?_;refine go 3 ?_;have h9:=ho;refine a0X rfl Hb.o rfl (j2Y W a t x (o0S hnb h9)) gSp (fun id u ho=> ?_) (fun e t ho=>by refine pn ?_;(refine b0G (fun w h=>b0Y h) ?_;exact b0W (c0L ((a0A h9).trans ho)) idh gSp));refine ns ?_;refine go 7 ?_;exact fR (s:=(u,.done id)) (m0I ((a0A h9).trans ho))
def y0Q (p:Int×Int):Value:= .tuple #[.int .u32 p.1,.int .i64 p.2]
theorem l1N (W:World) (a:Ad) (AD:a0C) (g:FuncId) (cap:List Value) (made:M Ent) (s:St) (hb:e0Y prog g=true) (hvl:s.vols.length≤1000) (hg:c1H W a AD g cap s.bits made) (hnb:(l0U made s).1≠ .big):
 a0F prog 92 #[ptr a.core,.func (.func g) #[] cap.toArray] (RS W a s++ [AD]) (Ran fT (RS W a) y0Q (l0U made s)):=by
 refine ns ?_;by_cases h16:16≤s.vols.length
 ·rw[show l0U made s=(.ok (0,13),s) by unfold l0U;rw[if_pos h16]];refine en func92 ntmps92 fun R w0=> ?_;refine go 2 ?_;refine bx fun b2=> ?_;refine bx fun b3=> ?_;refine go 10 ?_;refine a0D (j0K Sc.o rfl gFd rfl) ?_;refine a0D (l1M gFd fun by_ gv gc o=>by rw[d0M];simp only[List.cons_append,List.nil_append];exact j1T d0I.o rfl gFd) ?_;refine go 10 ?_;exact rR idh rfl
 ·have e0:l0U made s=a0B (h0V (e0O 1 (a0B made v0E))) (fun r=>ret (if r.1=0 then(a1Z 0 r.2,0)else(0,r.1))) s:=by unfold l0U;rw[if_neg h16]
  have hn:(h0V (e0O 1 (a0B made v0E)) s).1≠ .big:=by rw[e0]at hnb;exact c0I hnb
  refine en func92 ntmps92 fun R w0=> ?_;refine go 2 ?_;refine bx fun b2=> ?_;refine bx fun b3=> ?_;refine go 10 ?_;refine a0D (j0K Sc.o rfl gFd rfl) ?_;refine a0D (l1M gFd fun by_ gv gc o=>by rw[d0M];simp only[List.cons_append,List.nil_append];exact j1T d0I.o rfl gFd) ?_;refine go 8 ?_;refine al fun b6=> ?_;refine go 7 ?_;refine e0K (k0Z (N:= [g0B b2 a,q1U b3 g cap,j0O b6 0,AD]) gSp) ?_;refine a0X rfl Hb.o rfl (v0A W a (j2Z a AD b2 b3 b6 g cap) (fun id=>j0O b6 id) 1 137 [ptr b2,ptr b3,ptr b6] (a0B made v0E) s Hb.o (by omega) hvl (e2T W a AD b2 b3 b6 g cap made s.bits hb hg) hn) gSp (fun e ⟨t,oc⟩ ho=> ?_) (fun e t ho=>by refine pn ?_;(exact(m0F ho).elim));refine ns ?_;refine go 2 ?_;have e1:=e0.trans (a0A (s0M ho))
  try simp only[RSC]
  refine go 8 ?_;refine a0P rfl (fun hb18=> ?_) (fun hb18=> ?_)
  ·have hz:e≠0:=by have h:=hb18;simp only[bne_iff_ne,ne_eq]at h;exact h
   refine go 7 ?_;exact rR idh (by rw[e1,if_neg hz];rfl)
  ·have hz:e=0:=by have h:=hb18;simp only[bne_eq_false_iff_eq]at h;exact h
   obtain⟨y,rfl,_⟩| ⟨_,h9⟩:=g1B ho
   rotate_left
   ·exact(h9 hz).elim
   simp only[u0A];subst hz;refine go 10 ?_;exact rR idh (by rw[e1,if_pos rfl];rfl)
theorem v1L (W:World) (a:Ad) (b0:Nat) (size:Int) (bits:Nat):c1H W a (f0L b0 size) 93 [ptr b0] bits (ret {h0T with size:=size}):=by
 intro s hbits hnb;have hs1:(h0L {h0T with size:=size}).toArray.size=6:=rfl;refine ns ?_;refine en func93 ntmps93 fun R w0=> ?_;refine go 2 ?_;refine al fun b1=> ?_;refine go 5 ?_;refine a0D (s0B (cs:=h0L {h0T with size:=size}) Pl.o rfl (by rfl)) ?_;refine go 3 ?_;exact j0R rfl idh (RV.agg Ag.o rfl (by simp[Value.cells,h0L]) (a0G (by simp[Value.cells,h0L])) RV.nil) rfl gSp
theorem v1M (W:World) (a:Ad) (s:St) (size:Int) (hvl:s.vols.length≤1000) (hnb:(g0K size s).1≠ .big):a0F prog 38 #[ptr a.core,.int .i64 size] (RS W a s) (Ran fT (RS W a) y0Q (g0K size s)):=by
 by_cases h1:size<1
 ·rw[show g0K size s=(.ok (0,4),s) by unfold g0K;rw[if_pos (.inl h1)];rfl];refine en func38 ntmps38 fun R w0=> ?_;refine go 2 ?_;refine bx fun b3=> ?_;refine go 22 ?_;exact rR idh rfl
 ·by_cases h2:2048<size
  ·rw[show g0K size s=(.ok (0,4),s) by unfold g0K;rw[if_pos (.inr h2)];rfl];refine en func38 ntmps38 fun R w0=> ?_;refine go 2 ?_;refine bx fun b3=> ?_;refine go 22 ?_;exact rR idh rfl
  ·have e0:g0K size s=l0U (ret {h0T with size:=size}) s:=by unfold g0K;rw[if_neg (by omega)]
   rw[e0]at hnb ⊢;refine en func38 ntmps38 fun R w0=> ?_;refine go 2 ?_;refine bx fun b3=> ?_;refine go 22 ?_;refine a0X rfl Hb.o rfl (l1N W a (f0L b3 size) 93 [ptr b3] (ret {h0T with size:=size}) s Hb.o hvl (v1L W a b3 size s.bits) hnb) gSp (fun p t ho=> ?_) (fun e t ho=>by refine pn ?_;exact kx (ho));refine ns ?_;refine go 6 ?_;exact rR idh ho
theorem e2U (W:World) (a:Ad) (s:St) (root:Int) (hnb:(g0N root 3 s).1≠ .big):a0F prog 144 #[ptr a.maps,.int .i64 root] (RS W a s) (Ran fT (RS W a) k0I (g0N root 3 s)):=by
 refine en func144 ntmps144 fun R w0=> ?_;refine go 3 ?_;refine a0X rfl Hb.o rfl (l1F W a s root 3 hnb) gSp (fun u t ho=> ?_) (fun e t ho=>by refine pn ?_;exact kx (ho));refine ns ?_;refine go 1 ?_;exact fR ho
abbrev n1S (b:Nat) (x:Bool):a0C:=pts b (.cells #[.bool x] 4 (0,0))
abbrev k2A (a:Ad) (b0 b1 b2:Nat) (id:Int) (only:Bool):a0C:=b0D [g0B b0 a,j0O b1 id,n1S b2 only]
theorem e2V (W:World) (a:Ad) (b0 b1 b2:Nat) (id:Int) (only:Bool) (bits:Nat):c1H W a (k2A a b0 b1 b2 id only) 143 [ptr b0,ptr b1,ptr b2] bits (y0G id only):=by
 intro s hbits hnb;have e0:y0G id only s=a0B (find id) (fun x=>a0B (g0N x.root 3) fun _=>ret {h0T with parent:=id,only:=only,size:=x.size,root:=x.root}) s:=rfl;refine ns ?_;refine en func143 ntmps143 fun R w0=> ?_;refine k0Q (show Fnd _ (b0D [g0B b0 a,j0O b1 id,n1S b2 only]) _ from gFd) ?_;refine ns ?_;refine go 2 ?_;refine al fun b3=> ?_;refine go 6 ?_;refine a0X rfl Hb.o rfl (u0X W a s id) gSp (fun x t ho=> ?_) (fun e t ho=>by refine pn ?_;(refine b0G (k0Z (N:= [g0B b0 a,j0O b1 id,n1S b2 only]) gSp) ?_;exact b0W (e0.trans (a0I ho)) idh gSp));refine ns ?_;have h9:=ho;refine al fun b4=> ?_;refine go 4 ?_;refine tl 6 ?_;refine go 3 ?_;refine b0X (j0K Sc.o rfl gFd rfl) ?_;refine go 3 ?_;refine a0X rfl Hb.o rfl (e2U W a t x.root (c0I (o0S (m:=find id) (by rw[e0]at hnb;exact hnb) h9))) gSp (fun v u ho=> ?_) (fun e t ho=>by refine pn ?_;(refine b0G (k0Z (N:= [g0B b0 a,j0O b1 id,n1S b2 only]) gSp) ?_;exact b0W (e0.trans ((a0A h9).trans (a0I ho))) idh gSp));refine ns ?_;refine go 10 ?_;refine a0D (s0B (cs:=h0L {h0T with parent:=id,only:=only,size:=x.size,root:=x.root}) Pl.o rfl (by rfl)) ?_;refine go 3 ?_;refine b0V (k0Z (N:= [g0B b0 a,j0O b1 id,n1S b2 only]) gSp) ?_;exact j0R (e0.trans ((a0A h9).trans (by rw[a0A ho];rfl))) idh (RV.agg Ag.o rfl (by simp[Value.cells,h0L]) (a0G (by simp[Value.cells,h0L])) RV.nil) rfl gSp
theorem l1O (W:World) (a:Ad) (s:St) (id:Int) (only:Bool) (hvl:s.vols.length≤1000) (hnb:(i0G id only s).1≠ .big):a0F prog 98 #[ptr a.core,.int .u32 id,.bool only] (RS W a s) (Ran fT (RS W a) y0Q (i0G id only s)):=by
 have hi:=e1P W a s id;cases hm:a0E id s.vols with
 |none=>
  rw[hm]at hi;rw[show i0G id only s=(.ok (0,5),s) by unfold i0G;rw[hm]];refine en func98 ntmps98 fun R w0=> ?_;refine go 2 ?_;refine bx fun b3=> ?_;refine bx fun b4=> ?_;refine bx fun b5=> ?_;refine cg 9 (hi) ?_;refine go 3 ?_;refine al fun b8=> ?_;refine go 18 ?_;exact rR idh rfl
 |some x=>
  rw[hm]at hi;have e0:i0G id only s=l0U (y0G id only) s:=by unfold i0G;rw[hm]
  rw[e0]at hnb ⊢;refine en func98 ntmps98 fun R w0=> ?_;refine go 2 ?_;refine bx fun b3=> ?_;refine bx fun b4=> ?_;refine bx fun b5=> ?_;refine cg 9 (hi) ?_;refine go 3 ?_;refine al fun b8=> ?_;refine go 17 ?_;refine e0K (k0Z (N:= [g0B b3 a,j0O b4 id,n1S b5 only]) gSp) ?_;refine a0X rfl Hb.o rfl (l1N W a (k2A a b3 b4 b5 id only) 143 [ptr b3,ptr b4,ptr b5] (y0G id only) s Hb.o hvl (e2V W a b3 b4 b5 id only s.bits) hnb) gSp (fun p t ho=> ?_) (fun e t ho=>by refine pn ?_;exact kx (ho));refine ns ?_;refine go 6 ?_;exact rR idh ho
theorem e2W (W:World) (a:Ad) (s:St) (id:Int) (hvl:s.vols.length≤1000) (hnb:(i0G id true s).1≠ .big):a0F prog 40 #[ptr a.core,.int .u32 id] (RS W a s) (Ran fT (RS W a) y0Q (i0G id true s)):=by
 refine en func40 ntmps40 fun R w0=> ?_;refine go 10 ?_;refine a0X rfl Hb.o rfl (l1O W a s id true hvl hnb) gSp (fun p t ho=> ?_) (fun e t ho=>by refine pn ?_;exact kx (ho));refine ns ?_;refine go 6 ?_;exact rR idh ho
abbrev p2B (b:Nat) (x:B):a0C:=pts b (.cells #[b0B x] 9 (0,0))
theorem u2H (id:Int):PB (find id):=fun s=>by unfold find;split<;>rfl
theorem i1Z (id:Int):PB (l0H id):=b0P (u2H id) fun x=>l0D (f1X _) (d0C _)
theorem v1N: ∀k x a d,PB (j0L k x a d)
 |0,x,a,d=>d0C _
 |k+1,x,a,d=>by
  unfold j0L;exact l0D (d0C _) (b0P (t2V _ _) fun _=>b0P (a2W _ _ _) fun _=>v1N k _ _ _)
theorem v0Z {x:Ent} {at_ n:Int} {s t:St} {u:Unit} (h:g0S x at_ n s=(.ok u,t)):t=s∧0≤at_∧0≤n∧at_+n≤x.size∧x.size≤5000:=by
 unfold g0S at h;split at h
 ·cases h
 ·unfold l0E at h;split at h
  ·cases h
  ·cases h;exact⟨rfl,by omega,by omega,by omega,by omega⟩
abbrev b2B (a:Ad) (b0 b1 b2 b3:Nat) (id at_:Int) (data:B):a0C:=b0D [g0B b0 a,j0O b1 id,p2B b2 data,f0L b3 at_]
theorem y1D (W:World) (hW:h0W W) (a:Ad) (b0 b1 b2 b3:Nat) (id at_:Int) (data:B) (bits:Nat) (hbits:bits≤256) (hdl:data.length≤100000):
 r0G W a (b2B a b0 b1 b2 b3 id at_ data) (fun _:Unit=>b0D []) 65 [ptr b0,ptr b1,ptr b2,ptr b3] bits (i0H id at_ data):=by
 intro s hsb hnb;have e0:i0H id at_ data s=a0B (l0H id) (fun x=>if data.length%64≠0 then n0Q 4 else a0B (g0S x at_ (data.length/64:Nat)) fun _=>a0B (e0N x at_.toNat data) l0Q) s:=rfl;refine ns ?_;refine en func65 ntmps65 fun R w0=> ?_;refine k0Q (show Fnd _ (b0D [g0B b0 a,j0O b1 id,p2B b2 data,f0L b3 at_]) _ from gFd) ?_;refine ns ?_;refine go 4 ?_;refine a0X rfl Hb.o rfl (c1F W a s id) gSp (fun x t ho=> ?_) (fun e t ho=>by refine pn ?_;(refine b0G (fun w h=>b0Y h) ?_;exact b0W (c0L (e0.trans (a0I ho))) idh gSp));refine ns ?_;have hpb:=i1Z id s;rw[ho]at hpb;have hpb:t.bits=s.bits:=hpb;have e1:=e0.trans (a0A ho);clear ho;refine al fun b4=> ?_;refine go 8 ?_;rw[b0F];refine go 4 ?_;refine a0P rfl (fun hb11=> ?_) (fun hb11=> ?_)
 ·have hm:data.length%64≠0:=by have h:=hb11;simp only[bne_iff_ne,ne_eq]at h;omega
  refine b0V (fun w h=>b0Y h) ?_;refine go 1 ?_;refine c0G rfl Hb.o rfl (c0S 4) gSp ?_;refine ns ?_;refine pn ?_;exact b0W (c0L (e1.trans (by rw[if_pos hm];rfl))) idh gSp
 ·have hm: ¬data.length%64≠0:=by have h:=hb11;simp only[bne_eq_false_iff_eq]at h;omega
  rw[if_neg hm]at e1;refine go 8 ?_;rw[b0F];refine go 1 ?_;rw[show((data.length:Nat):Int)/64=((data.length/64:Nat):Int) by omega];refine a0X rfl Hb.o rfl (z0G W a t x at_ ((data.length/64:Nat):Int) (by rw[e1]at hnb;exact c0I hnb)) gSp (fun v t2 ho=> ?_) (fun e t ho=>by refine pn ?_;(refine b0G (fun w h=>b0Y h) ?_;exact b0W (c0L (e1.trans (a0I ho))) idh gSp));refine ns ?_;refine go 1 ?_;obtain⟨h1,h2,h3,h4,h5⟩:=v0Z ho;rw[h1]at ho ⊢;have e2:=e1.trans (a0A ho);clear ho;obtain⟨k,rfl⟩: ∃k:Nat,at_=k:=⟨at_.toNat,by omega⟩;rw[Int.toNat_natCast]at e2;refine go 6 ?_;refine a0X rfl Hb.o rfl (l1J W hW a t b4 x k data (by omega) (by omega) (by rw[e2]at hnb;exact c0I hnb)) gSp (fun v ⟨t3,ox⟩ ho=> ?_) (fun e t ho=>by refine pn ?_;(obtain⟨t1,t2⟩:=t;obtain⟨hx,hm⟩:=q0O ho;obtain rfl:t2=none:=congrArg Prod.snd hx;have hm:_=(Out.err e,t1):=hm;simp only[RSo,List.cons_append,List.nil_append];have e4:i0H id (k:Int) data s=(.err e,t1):=e2.trans (a0I hm);refine b0G (fun w h=>b0Y h) ?_;exact b0W (c0L e4) idh gSp));refine ns ?_;refine go 1 ?_;obtain⟨y,hx,hm⟩:=s0L ho;obtain rfl:ox=some y:=congrArg Prod.snd hx;have hm:_=(Out.ok y,t3):=hm;simp only[RSo,List.cons_append,List.nil_append];have e3:i0H id (k:Int) data s=l0Q y t3:=e2.trans (a0A hm);refine go 4 ?_;refine a0X rfl Hb.o rfl (u0Y W a t3 y (by rw[e3]at hnb;exact hnb)) gSp (fun v t4 ho=> ?_) (fun e t ho=>by refine pn ?_;(refine b0G (fun w h=>b0Y h) ?_;exact b0W (c0L (e3.trans ho)) idh gSp));refine ns ?_;refine go 1 ?_;refine b0G (fun w h=>b0Y h) ?_;exact fR (s:=(t4,.done ())) (m0I (e3.trans ho))
theorem y1E (W:World) (hW:h0W W) (a:Ad) (s:St) (id at_:Int) (data:B) (hbits:s.bits≤256) (hdl:data.length≤100000) (hvl:s.vols.length≤1000) (hnb:(h0I id at_ data s).1≠ .big):
 a0F prog 21 #[ptr a.core,.int .u32 id,.int .i64 at_,b0B data] (RS W a s) (Ran fT (RS W a) a0J (h0I id at_ data s)):=by
 have e0:h0I id at_ data s=a0B (h0V (e0O 0 (i0H id at_ data))) (fun r=>ret r.1) s:=rfl;refine en func21 ntmps21 fun R w0=> ?_;refine go 2 ?_;refine bx fun b4=> ?_;refine bx fun b5=> ?_;refine bx fun b6=> ?_;refine bx fun b7=> ?_;refine go 7 ?_;refine e0K (k0Z (N:= [g0B b4 a,j0O b5 id,p2B b7 data,f0L b6 at_]) gSp) ?_;refine a0X rfl Hb.o rfl (v0A W a (b2B a b4 b5 b7 b6 id at_ data) (fun _:Unit=>b0D []) 0 65 [ptr b4,ptr b5,ptr b7,ptr b6] (i0H id at_ data) s Hb.o (by omega) hvl (y1D W hW a b4 b5 b7 b6 id at_ data s.bits hbits hdl) (by rw[e0]at hnb;exact c0I hnb)) gSp (fun e ⟨t,oc⟩ ho=> ?_) (fun e t ho=>by refine pn ?_;(exact(m0F ho).elim));refine ns ?_;refine go 3 ?_;exact rR idh (e0.trans (a0A (s0M ho)))
section
def rdR (k:Nat) (x:Ent) (at_ n:Nat) (acc:B) (s:St):Out B×St:=a0B (j0S k x at_ n) (fun r=>ret (acc++r)) s
section
variable {k:Nat} {x:Ent} {at_ n:Nat} {acc b:B} {s t:St} {e:Int}
theorem u2I:rdR k x at_ 0 acc s=(.ok acc,s):=by unfold rdR a0B;cases k<;>simp[j0S,ret]
theorem u2J (hn:n≠0) (h:o0U x (at_/4) s=(.err e,t)):rdR (k+1) x at_ n acc s=(.err e,t):=by
 unfold rdR
 conv=>lhs;unfold j0S
 rw[if_neg hn];rw[a0I];exact a0I h
theorem w2P (hn:n≠0) (h:o0U x (at_/4) s=(.ok b,t)):rdR (k+1) x at_ n acc s=rdR k x (at_+min n (4-at_%4)) (n-min n (4-at_%4)) (acc++(b.drop (at_%4*64)).take (min n (4-at_%4)*64)) t:=by
 unfold rdR
 conv=>lhs;unfold j0S
 rw[if_neg hn];dsimp only;unfold a0B;rw[h];dsimp only;cases j0S k x (at_+min n (4-at_%4)) (n-min n (4-at_%4)) t with
 |mk o u=>cases o<;>simp[ret]
end
theorem k2B (b:B) (f m:Nat):(bs b).extract ((f:Int)*64).toNat ((((f:Int)+(m:Int)))*64).toNat=bs ((b.drop (f*64)).take (m*64)):=by
 rw[show((f:Int)*64).toNat=f*64 by omega,show((((f:Int)+(m:Int)))*64).toNat=(f+m)*64 by omega,k1O,List.drop_take,show(f+m)*64-f*64=m*64 by omega]
def l1P (b:Nat) (out:B):a0C:=ex fun x:Value×Value=>b0D (m0K (out= []→x.2= .slice none 0 0)::t0V b x.1 x.2 out)
abbrev k2C (a:Ad) (b0 b1 b2 b3 b4:Nat) (id at_ n:Int):a0C:=b0D ([g0B b0 a,j0O b1 id,f0L b2 at_,f0L b3 n]++t0V b4 (.pointer none) (.slice none 0 0) [])
set_option maxRecDepth 4000 in
theorem e2X (W:World) (a:Ad) (b0 b1 b2 b3 b4:Nat) (id at_ n:Int) (bits:Nat):
 r0G W a (k2C a b0 b1 b2 b3 b4 id at_ n) (l1P b4) 58 [ptr b0,ptr b1,ptr b2,ptr b3,ptr b4] bits (o0B id at_ n):=by
 intro s hsb hnb;have e0:o0B id at_ n s=a0B (find id) (fun x=>a0B (g0S x at_ n) fun _=>j0S n.toNat x at_.toNat n.toNat) s:=rfl;refine ns ?_;refine en func58 ntmps58 fun R w0=> ?_;refine k0Q (show Fnd _ (b0D ([g0B b0 a,j0O b1 id,f0L b2 at_,f0L b3 n]++t0V b4 (.pointer none) (.slice none 0 0) [])) _ from gFd) ?_;refine ns ?_;refine o0E (p:=l0R s.d) gFd fun hdk=> ?_;refine go 4 ?_;refine a0X rfl Hb.o rfl (u0X W a s id) gSp (fun x t ho=> ?_) (fun e t ho=>by refine pn ?_;(refine b0G (fun w h=>b0Y h) ?_;exact b0W (c0L (e0.trans (a0I ho))) idh gSp));refine ns ?_;have hts:t=s:=by have h:=ho;unfold find at h;split at h<;>cases h;rfl
 rw[hts]at ho ⊢;have e1:=e0.trans (a0A ho);clear ho hts;refine al fun b5=> ?_;refine go 8 ?_;refine a0X rfl Hb.o rfl (z0G W a s x at_ n (by rw[e1]at hnb;exact c0I hnb)) gSp (fun v t2 ho=> ?_) (fun e t ho=>by refine pn ?_;(refine b0G (fun w h=>b0Y h) ?_;exact b0W (c0L (e1.trans (a0I ho))) idh gSp));refine ns ?_;refine go 1 ?_;obtain⟨h1,h2,h3,h4,h5⟩:=v0Z ho;rw[h1]at ho ⊢;have e2:=e1.trans (a0A ho);clear ho;obtain⟨k,rfl⟩: ∃k:Nat,at_=k:=⟨at_.toNat,by omega⟩;obtain⟨m,rfl⟩: ∃k:Nat,n=k:=⟨n.toNat,by omega⟩;rw[Int.toNat_natCast,Int.toNat_natCast]at e2;have e3:o0B id (k:Int) (m:Int) s=rdR m x k m [] s:=by rw[e2];unfold rdR a0B;cases j0S m x k m s with|mk o u=>cases o<;>rfl
 refine go 2 ?_;refine a0V (X:= {y:Nat×Nat×Nat×B×Value×Value // y.2.2.1≤y.1∧y.2.1+y.2.2.1≤5000∧y.2.2.2.1.length+64*y.2.2.1≤320000∧(y.2.2.2.2.1= .pointer none∨y.2.2.2.2.1=ptr b4)∧(y.2.2.2.1= []→y.2.2.2.2.2= .slice none 0 0)∧o0B id (k:Int) (m:Int) s=rdR y.1 x y.2.1 y.2.2.1 y.2.2.2.1 s}) (fun y=> [(0,ptr b0),(2,ptr b2),(3,ptr b3),(4,ptr b4),(5,ptr b5)]) (fun y=>RS W a s++(t0V b4 y.1.2.2.2.2.1 y.1.2.2.2.2.2 y.1.2.2.2.1++ [g0B b0 a,f0L b2 y.1.2.1,f0L b3 y.1.2.2.1,r0Y b5 x,R])) (fun y=>y.1.1) ⟨(m,k,m,[],.pointer none,.slice none 0 0),Nat.le_refl _,by(show k+m≤5000);omega,by(show 0+64*m≤320000);omega,.inl rfl,fun _=>rfl,e3⟩ gSu gSp ?_;rintro⟨⟨j,at',n',acc,p,v'⟩,hj,ha,hl,hp,hv,he⟩ m0 hm0
 try simp only at hm0
 try dsimp only
 simp only at hj ha hl hp hv he;refine ns ?_;refine go 7 ?_;refine a0P rfl (fun hb16=> ?_) (fun hb16=> ?_)
 ·have hn0:n'≠0:=by have h:=hb16;simp only[decide_eq_true_eq]at h;omega
  obtain⟨i,rfl⟩: ∃i,j=i+1:=⟨j-1,by omega⟩;obtain⟨f,hf⟩: ∃f,f=at'%4:=⟨_,rfl⟩;have hf4:f<4:=by omega
  obtain⟨q,hq⟩: ∃q,q=min n' (4-f):=⟨_,rfl⟩;refine go 7 ?_;rw[show((at':Nat):Int)%4=(f:Int) by omega];refine go 9 ?_;rw[show min ((n':Nat):Int) (4- (f:Int))=(q:Int) by omega];refine go 9 ?_;rw[show((at':Nat):Int)/4=((at'/4:Nat):Int) by omega];refine a0X rfl Hb.o rfl (j2M W a s x (at'/4) (by omega)) gSp (fun b t ho=> ?_) (fun e t ho=>by refine pn ?_;(have hts:=n1P x (at'/4) s;rw[ho]at hts;have hts:t=s:=hts;subst hts;refine b0G (fun w h=>b0Y h) ?_;exact b0W (c0L (he.trans (u2J hn0 ho))) idh gSp));refine ns ?_;obtain⟨hts,hbl⟩:=v1B hdk ho;rw[hts]at ho;have hbs:(bs b).size=256:=by rw[b0F,hbl]
  rw[w2P hn0 ho,←hf,←hq]at he;refine go 6 ?_;refine a0D (e1Y Tst.o rfl rfl rfl (by omega)) ?_;rw[k2B b f q];refine ce 0 (b1V b4 p v' hp acc ((b.drop (f*64)).take (q*64)) (by omega) (by rw[List.length_take,List.length_drop];omega)) ?_;rintro v35 hv35;refine ns ?_;refine go 2 ?_;refine mx (.soft 1 (.soft 4 (.two 0 (.soft 2 (.two 3 (.soft 5 (.hard 6 (.hard 7 .done))) 6 (.hard 3 (.soft 5 (.hard 7 .done))))) 3 (.soft 5 (.hard 0 (.soft 2 (.hard 6 (.hard 7 .done)))))))) [] ?_;refine go 2 ?_;refine q0A rfl rfl ?_ ?_
  ·refine go 4 ?_;refine q0A rfl rfl ?_ ?_
   ·refine go 13 ?_;rw[show((at':Nat):Int)+(q:Int)=((at'+q:Nat):Int) by omega,show((n':Nat):Int)- (q:Int)=((n'-q:Nat):Int) by omega];exact rd idh (⟨(i,at'+q,n'-q,acc++(b.drop (f*64)).take (q*64),ptr b4,v35),by(show n'-q≤i);omega,by(show at'+q+(n'-q)≤5000);omega,by(show(acc++(b.drop (f*64)).take (q*64)).length+64*(n'-q)≤320000);rw[List.length_append,List.length_take,List.length_drop];omega,.inr rfl,fun h=>by have h:=congrArg List.length h;simp only[List.length_append,List.length_take,List.length_drop,List.length_nil]at h;omega,he⟩)
   ·refine go 13 ?_;rw[show((at':Nat):Int)+(q:Int)=((at'+q:Nat):Int) by omega,show((n':Nat):Int)- (q:Int)=((n'-q:Nat):Int) by omega];exact rd idh (⟨(i,at'+q,n'-q,acc++(b.drop (f*64)).take (q*64),ptr b4,v35),by(show n'-q≤i);omega,by(show at'+q+(n'-q)≤5000);omega,by(show(acc++(b.drop (f*64)).take (q*64)).length+64*(n'-q)≤320000);rw[List.length_append,List.length_take,List.length_drop];omega,.inr rfl,fun h=>by have h:=congrArg List.length h;simp only[List.length_append,List.length_take,List.length_drop,List.length_nil]at h;omega,he⟩)
  ·refine go 18 ?_;rw[show((at':Nat):Int)+(q:Int)=((at'+q:Nat):Int) by omega,show((n':Nat):Int)- (q:Int)=((n'-q:Nat):Int) by omega];exact rd idh (⟨(i,at'+q,n'-q,acc++(b.drop (f*64)).take (q*64),ptr b4,v35),by(show n'-q≤i);omega,by(show at'+q+(n'-q)≤5000);omega,by(show(acc++(b.drop (f*64)).take (q*64)).length+64*(n'-q)≤320000);rw[List.length_append,List.length_take,List.length_drop];omega,.inr rfl,fun h=>by have h:=congrArg List.length h;simp only[List.length_append,List.length_take,List.length_drop,List.length_nil]at h;omega,he⟩)
 ·obtain rfl:n'=0:=by have h:=hb16;simp only[decide_eq_false_iff_not]at h;omega
  rw[u2I]at he;have hdone: ∀w,Sat w (t0V b4 p v' acc++(RS W a s++ [R]))→Sat w (l1P b4 acc::(RS W a s++ [R])):=fun w h=>g0X.2 ⟨(p,v'),b0J.2 (n0H hv w h)⟩;refine b0V (L':=l1P b4 acc::(RS W a s++ [R])) (fun w h=>hdone w (((h.perm (show a0Z _ (t0V b4 p v' acc++(RS W a s++ [R])) _ from gSp)).perm List.perm_append_comm).drop)) ?_;refine ns ?_;refine go 1 ?_;exact fR (s:=(s,.done acc)) (m0I he)
end
theorem k2D {α:Type} {m:M α} {s t:St} {y:α} {e:Int} (h:n0T (f0F m) (s,.start)=(.ok e,(t,.done y))): ∃u,m {s with depth:=s.depth+1} =(.ok y,u):=by
 unfold n0T n0S a0B f0F at h;simp only at h;split at h<;>rename_i h1
 ·simp only[Prod.mk.injEq,Out.ok.injEq]at h;obtain⟨rfl,h2,h3⟩:=h;split at h1
  ·cases h1
  ·rename_i hd;cases hm:m {s with depth:=s.depth+1} with
   |mk o u=>
    rw[hm]at h1;cases o with
    |ok a=>
     simp only at h1;split at h1
     ·cases h1
     ·cases h1;cases h3;exact⟨_,rfl⟩
    |err e'=>
     simp only at h1;split at h1
     ·cases h1
     ·cases h1;cases h3
    |big=>cases h1
 ·cases h
 ·cases h
def e2Y (p:B×Int):Value:= .tuple #[b0B p.1,.int .i64 p.2]
set_option maxRecDepth 4000 in
theorem e2Z (W:World) (a:Ad) (s:St) (id at_ n:Int) (hlen: ∀ {b:B} {t:St},o0B id at_ n {s with depth:=s.depth+1} =(.ok b,t)→b.length≤1000000) (hnb:(o0G id at_ n s).1≠ .big):
 a0F prog 19 #[ptr a.core,.int .u32 id,.int .i64 at_,.int .i64 n] (RS W a s) (Ran fT (RS W a) e2Y (o0G id at_ n s)):=by
 have e0:o0G id at_ n s=a0B (h0V (o0B id at_ n)) (fun r=>ret (if r.1=0 then(a1Z [] r.2,0)else([],r.1))) s:=rfl;have hn:=c1G (show(h0V (o0B id at_ n) s).1≠ .big by rw[e0]at hnb;exact c0I hnb);refine en func19 ntmps19 fun R w0=> ?_;refine go 2 ?_;refine bx fun b4=> ?_;refine bx fun b5=> ?_;refine bx fun b6=> ?_;refine bx fun b7=> ?_;refine go 6 ?_;refine al fun b10=> ?_;refine go 3 ?_;refine b0V (L':=t0V b10 (.pointer none) (.slice none 0 0) []++_) (fun w hs=>e0W 5 1 w hs |>.perm (List.Perm.swap _ _ _)) ?_;refine ns ?_;refine go 4 ?_;refine a0D (j0K Sc.o rfl gFd rfl) ?_;refine go 1 ?_;refine e0K (k0Z (N:= [g0B b4 a,j0O b5 id,f0L b6 at_,f0L b7 n]++t0V b10 (.pointer none) (.slice none 0 0) []) gSp) ?_;refine a0X rfl Hb.o rfl (t0D (C:=Car B) W a (u0A (k2C a b4 b5 b6 b7 b10 id at_ n) (l1P b10)) 58 [ptr b4,ptr b5,ptr b6,ptr b7,ptr b10] (f0F (o0B id at_ n)) s .start Hb.o hn (fun h=>e2X W a b4 b5 b6 b7 b10 id at_ n s.bits {s with depth:=s.depth+1} rfl (e1R.1 h))) gSp (fun e ⟨t,oc⟩ ho=> ?_) (fun e t ho=>by refine pn ?_;(exact(m0F ho).elim));refine ns ?_;refine go 2 ?_;have e1:=e0.trans (a0A (s0M ho));refine go 8 ?_;refine a0P rfl (fun hb19=> ?_) (fun hb19=> ?_)
 ·have hz:e≠0:=by have h:=hb19;simp only[bne_iff_ne,ne_eq]at h;exact h
  refine go 7 ?_;exact rR idh (by rw[e1,if_neg hz];rfl)
 ·have hz:e=0:=by have h:=hb19;simp only[bne_eq_false_iff_eq]at h;exact h
  obtain⟨y,rfl,_⟩| ⟨_,h9⟩:=g1B ho
  rotate_left
  ·exact(h9 hz).elim
  simp only[u0A];subst hz;have hyl:y.length≤1000000:=by obtain⟨u,hu⟩:=k2D ho;exact hlen hu
  refine u0N (show Fnd _ (l1P b10 y) _ from gFd) fun x=> ?_;obtain⟨p,v⟩:=x;refine ns ?_;refine o0E (p:=y= []→v= .slice none 0 0) gFd fun hv=> ?_;refine go 3 ?_;by_cases hy0:y= []
  ·refine go 1 ?_;have hv2:=hv hy0;subst hy0;subst hv2;refine cg 0 (q1J b10 p) ?_;refine go 5 ?_;exact rR idh (by rw[e1,if_pos rfl];rfl)
  ·refine cg 1 (e1I b10 p v y hy0 hyl) ?_;refine go 5 ?_;exact rR idh (by rw[e1,if_pos rfl];rfl)
theorem l1Q:a0F prog 99 #[] [] (a0T (b0B (a0K 64)) []):=by
 refine en func99 ntmps99 fun R w0=> ?_;refine cg 7 (z0X 64 (by omega)) ?_;refine go 3 ?_;exact rG
theorem f2A (b:Nat) (v:Value) (d:Dk):a0F prog 87 #[ptr b] [pts b (.cells #[v,.bool d.armed,.int .i64 d.left,.bool d.dead] 173 (0,0)),b0H 175 2 v d.l.length (d.l.flatMap t0U)] (a0T (.int .i64 d.l.length) [pts b (.cells #[v,.bool d.armed,.int .i64 d.left,.bool d.dead] 173 (0,0)),b0H 175 2 v d.l.length (d.l.flatMap t0U)]):=by
 refine en func87 ntmps87 fun R w0=> ?_;refine go 11 ?_;refine a0D (h0Y Tsl.o rfl gFd) ?_;refine go 3 ?_;exact rG
def j1A (n:Nat):List Value:=(List.replicate n (a0K 64,a0K 64)).flatMap t0U
theorem k2E (n:Nat):j1A (n+1)=j1A n++ [b0B (a0K 64),b0B (a0K 64)]:=by unfold j1A;rw[List.replicate_succ',List.flatMap_append];rfl
set_option maxRecDepth 4000 in
theorem k2F (n:Nat) (hn:n≤4096):a0F prog 41 #[.int .i64 n] [] (b0N (fun x:Nat×Value=>x.2.oneCell'=true) (fun x=>ptr x.1) (fun x=> [pts x.1 (.cells #[x.2,.bool false,.int .i64 0,.bool false] 173 (0,0)),b0H 175 2 x.2 n (j1A n)])):=by
 refine en func41 ntmps41 fun R w0=> ?_;refine go 8 ?_;refine bx fun b5=> ?_;refine go 9 ?_;rw[show min (max ((n:Nat):Int) 0) 4096=(n:Int) by omega];refine go 4 ?_;refine b0V (L':=b0H 175 2 (.slice none 0 0) 0 (j1A 0)::_) (fun w hs=>e0W 175 2 w hs) ?_;refine a0V (X:= {y:Nat×Value // y.1≤n∧y.2.oneCell'=true}) (fun y=> [(3,ptr b5),(8,.int .i64 n),(9,.int .i64 y.1.1)]) (fun y=> [pts b5 (.cells #[y.1.2,.bool false,.int .i64 0,.bool false] 173 (0,0)),b0H 175 2 y.1.2 y.1.1 (j1A y.1.1),R]) (fun y=>n-y.1.1) ⟨(0,.slice none 0 0),by omega,rfl⟩ gSu gSp ?_;rintro⟨⟨i,v⟩,hi,hv⟩ m0 hm0
 try simp only at hm0
 try dsimp only
 simp only at hi hv;refine go 6 ?_;refine a0P rfl (fun hb10=> ?_) (fun hb10=> ?_)
 ·have hin:i<n:=by have:=of_decide_eq_true hb10;omega
  refine go 4 ?_;refine u0P 12 (by rfl) (.soft 0 (.soft 1 (.soft 2 (.soft 3 (.soft 4 (.hard 5 (.hard 6 (.soft 7 (.hard 8 (.hard 9 (.soft 10 (.soft 11 .done)))))))))))) [pts b5 (.cells #[v,.bool false,.int .i64 0,.bool false] 173 (0,0))] Fol.o (by kernel_rfl) (by repeat (first|with_reducible exact b0S.bp|with_reducible apply b0S.then|with_reducible apply b0S.inBlock)) gSp ?_;simp only[List.take_succ_cons,List.take_zero];refine go 5 ?_;refine c0F rfl (fun hok EE FF=> ?_);refine ns ?_;refine cg 0 (l1Q) ?_;refine go 1 ?_;refine fn (E:=EE) (F:=FF) (hok.put rfl) ?_;refine c0F rfl (fun hok EE FF=> ?_);refine ns ?_;refine cg 0 (l1Q) ?_;refine go 1 ?_;refine fn (E:=EE) (F:=FF) (hok.put rfl) ?_;refine go 1 ?_;refine c0F rfl (fun hok EE FF=> ?_);refine ns ?_;refine bl fun b19=> ?_;refine go 1 ?_;refine fn (E:=EE) (F:=FF) (hok.put rfl) ?_;refine c0F rfl (fun hok EE FF=> ?_);refine ns ?_;refine(c0Z Tsl.o Ttb.o Zr.o rfl rfl rfl gFd (e0Z Tsl.o (by simp;rfl) (by simp) (by simp[Value.oneCell'])) (by simp only[maxLen];omega) (by omega) (fun v20 hv20=> ?_));refine go 1 ?_;refine fn (E:=EE) (F:=FF) (hok.put rfl) ?_;refine go 3 ?_;refine z0L ?_;refine go 2 ?_;rw[←k2E];refine go 5 ?_;exact rd idh (⟨(i+1,v20),hin,hv20⟩)
 ·obtain rfl:i=n:=by have:=of_decide_eq_false hb10;omega
  refine go 8 ?_;exact rE idh (b5,v) hv
abbrev dkN (b:Nat) (v:Value) (n:Nat):List a0C:= [pts b (.cells #[v,.bool false,.int .i64 0,.bool false] 173 (0,0)),b0H 175 2 v n (j1A n)]
theorem f2B (b:Nat) (v:Value) (n:Nat):a0F prog 87 #[ptr b] (dkN b v n) (a0T (.int .i64 n) (dkN b v n)):=by
 have h:=f2A b v (g0A n);simp only[g0A,List.length_replicate]at h;exact h
structure HN where
 log:Nat
 gr:Nat
 grl:Nat
 refs:Nat
 by_:Nat
 heap:Nat
abbrev q2O (x:HN) (bd n:Nat):List a0C:= [pts x.heap (.cells #[ptr bd,ptr x.log,ptr x.gr,.map (some x.refs),.map (some x.by_),.slice none 0 0,.int .i64 0] 92 (0,0)),pts x.log (.cells #[.slice none 0 0,.int .i64 0] 154 (0,0)),
 b0L x.refs a0J a0J ([]:List (Int×Int)),b0L x.by_ a0J a0J ([]:List (Int×Int)),pts x.gr (.cells (l0F 2 x.grl (List.replicate n 0)).toArray 192 (0,0)),pts x.grl (.cells ((List.replicate n 0).map gst).toArray 3 (0,0))]
theorem k2G (bd:Nat) (v:Value) (n:Nat) (hn:n≤4000):a0F prog 32 #[ptr bd,.int .i64 2] (dkN bd v (n+2)) (b0N (fun _:HN=>True) (fun x=>ptr x.heap) (fun x=>q2O x bd n++dkN bd v (n+2))):=by
 refine en func32 ntmps32 fun R w0=> ?_;refine go 9 ?_;refine bx fun b7=> ?_;refine cg 2 (f2B bd v (n+2)) ?_;refine ce 0 (h2Z 2 n ((n+2:Nat):Int) (by omega) (by omega) (by omega)) ?_;rintro⟨bg,bgl⟩ _;refine ns ?_;refine(q0T (fun b12=> ?_));refine(q0T (fun b13=> ?_));refine e0K (fun w h=>t0M a0J a0J ((show Fnd _ (pts b12 _) _ from gFd).sat h)) ?_;refine e0K (fun w h=>t0M a0J a0J ((show Fnd _ (pts b13 _) _ from gFd).sat h)) ?_;refine go 1 ?_;refine bx fun b15=> ?_;refine go 3 ?_;exact rE idh ({log:=b7,gr:=bg,grl:=bgl,refs:=b12,by_:=b13,heap:=b15} :HN) trivial
theorem k2H (bh:Nat) (bits:Nat) (hb:1≤bits∧bits≤256):a0F prog 85 #[ptr bh,.int .i64 bits] [] (b0N (fun _:Nat×Nat=>True) (fun x=>ptr x.1) (fun x=> [pts x.1 (.cells #[ptr bh,.int .i64 bits,.map (some x.2)] 210 (0,0)),b0L x.2 e0C a0J ([]:List (B×Int))])):=by
 refine en func85 ntmps85 fun R w0=> ?_;refine go 11 ?_;refine(q0T (fun b9=> ?_));rw[show min (max ((bits:Nat):Int) 1) 256=(bits:Int) by omega];refine go 1 ?_;refine e0K (fun w h=>t0M e0C a0J ((show Fnd _ (pts b9 _) _ from gFd).sat h)) ?_;refine bx fun b11=> ?_;refine go 3 ?_;exact rE idh (b11,b9) trivial
theorem k2I (bh bxx:Nat):a0F prog 84 #[ptr bh,ptr bxx] [] (b0N (fun _:Nat=>True) (fun x=>ptr x) (fun x=> [pts x (.cells #[ptr bh,ptr bxx] 194 (0,0))])):=by
 refine en func84 ntmps84 fun R w0=> ?_;refine go 10 ?_;refine bx fun b8=> ?_;refine go 3 ?_;exact rE idh b8 trivial
structure CN where
 st:Nat
 ix:Nat
 maps:Nat
 core:Nat
 vols:Nat
abbrev q2P (x:CN) (bh bits:Nat):List a0C:= [pts x.st (.cells #[ptr bh,.int .i64 bits,.map (some x.ix)] 210 (0,0)),b0L x.ix e0C a0J ([]:List (B×Int)),pts x.maps (.cells #[ptr bh,ptr x.st] 194 (0,0)),
 b0L x.vols e0H d0Z ([]:List (Int×Ent)),pts x.core (.cells #[ptr bh,ptr x.maps,.map (some x.vols),.int .u32 1,.int .u32 1] 59 (0,0))]
theorem k2J (bh bits:Nat) (hb:1≤bits∧bits≤256):a0F prog 31 #[ptr bh,.int .i64 bits,.int .u32 1] [] (b0N (fun _:CN=>True) (fun x=>ptr x.core) (fun x=>q2P x bh bits)):=by
 refine en func31 ntmps31 fun R w0=> ?_;refine ce 11 (k2H bh bits hb) ?_;rintro⟨bs,bi⟩ _;refine ns ?_;refine ce 0 (k2I bh bs) ?_;rintro bm _;refine ns ?_;refine(q0T (fun b13=> ?_));refine go 2 ?_;refine e0K (fun w h=>t0M e0H d0Z ((show Fnd _ (pts b13 _) _ from gFd).sat h)) ?_;refine go 1 ?_;refine bx fun b17=> ?_;refine go 3 ?_;exact rE idh ({st:=bs,ix:=bi,maps:=bm,core:=b17,vols:=b13} :CN) trivial
def adN (bd:Nat) (v:Value) (h:HN) (c:CN):Ad:= {disk:=bd,vd:=v,log:=h.log,gr:=h.gr,grl:=h.grl,refs:=h.refs,heap:=h.heap,st:=c.st,ix:=c.ix,maps:=c.maps,core:=c.core,vols:=c.vols}
theorem u2K {W w:World} {L:List a0C} {bd n bits:Nat} {v:Value} {h:HN} {c:CN} (hn:n≤4000) (hb:1≤bits∧bits≤256)
 (hs:Sat w (whole W::(dkN bd v (n+2)++(q2O h bd n++(q2P c h.heap bits++L))))):Sat w (RS W (adN bd v h c) (j0T (g0A (n+2)) 2 bits 1)++L):=by
 have hbits:(j0T (g0A (n+2)) 2 bits 1).bits=bits:=by show min (max bits 1) 256=bits;omega
 have hg:(j0T (g0A (n+2)) 2 bits 1).g=List.replicate n 0:=by simp[j0T,g0A]
 have hdk:l0R (g0A (n+2)):=⟨fun x hx=>by rw[List.eq_of_mem_replicate hx];simp[a0K],by simp[g0A];omega,by show 0<4611686018427387904;decide⟩;have hst:n0W (j0T (g0A (n+2)) 2 bits 1):=⟨by show 2≤5000;omega,by rw[hg];simp;omega,fun x hx=>by rw[hg]at hx;rw[List.eq_of_mem_replicate hx];omega,by intro p hp;cases hp⟩;have h1:=b0Y (e0W 1 1 w hs);have h2:=p0P (a:=adN bd v h c) (by_:=h.by_) (o:= []) (log:= []) (depth:=0) (v:= .slice none 0 0) (vals:= []) ⟨by simp,[],[],List.Perm.refl _,rfl,rfl,by simp⟩ (by omega)
  (by simp only[List.cons_append,List.nil_append];exact gSp) w h1
 have h3:=b0Y h2;have h4:=d0A (a:=adN bd v h c) (s:=j0T (g0A (n+2)) 2 bits 1) (by_:=h.by_) (gv:= .slice none 0 0) (gc:= []) (o:= []) ⟨by simp[j0T],.inl ⟨rfl,rfl,rfl⟩⟩ hst
  (by rw[d0M,hg];exact gSp) w h3
 have h5:=n0H (p:=l0R (g0A (n+2))) hdk w h4;exact h5.perm (show a0Z _ [whole W,dkC (adN bd v h c) (g0A (n+2)),dkR (adN bd v h c) (g0A (n+2)),m0K (l0R (g0A (n+2))),stC (adN bd v h c) (j0T (g0A (n+2)) 2 bits 1).bits,mpC (adN bd v h c),HL (adN bd v h c) (j0T (g0A (n+2)) 2 bits 1)] L by rw[hbits];unfold dkR;rw[show(g0A (n+2)).l.length=n+2 by simp[g0A]];exact gSp)
abbrev n1T (b core bits:Nat):a0C:=pts b (.cells #[ptr core,.slice none 0 0,.int .i64 1,.int .i64 bits,.int .i64 1] 37 (0,0))
theorem v1O (W:World) (n bits:Nat) (ib:Int) (hib:min (max ib 1) 256=(bits:Int)) (hn:n≤4000) (hb:1≤bits∧bits≤256):a0F prog 11 #[.int .i64 ((n+2:Nat):Int),.int .i64 ib] [whole W] (b0N (fun _:Ad×Nat=>True) (fun x=> .tuple #[ptr x.2,.bool true]) (fun x=>RS W x.1 (j0T (g0A (n+2)) 2 bits 1)++ [n1T x.2 x.1.core bits])):=by
 refine en func11 ntmps11 fun R w0=> ?_;refine go 11 ?_;rw[hib];refine ce 6 (k2F (n+2) (by omega)) ?_;rintro⟨bd,v⟩ hv;refine ns ?_;refine ce 0 (k2G bd v n hn) ?_;rintro h _;refine ns ?_;refine ce 1 (k2J h.heap bits hb) ?_;rintro c _;refine ns ?_;refine go 4 ?_;refine mx (.r 0 4 (.r 5 16 (.hard 4 (.r 21 2 .done)))) [pts c.core (.cells #[ptr h.heap,ptr c.maps,.map (some c.vols),.int .u32 1,.int .u32 1] 59 (0,0))] ?_;refine go 5 ?_;refine c0V rfl (c1S F.pt35 rfl rfl) ?_;refine go 5 ?_;refine v0K rfl (c1S F.pt55 rfl rfl) (wg rfl rfl rfl (wTT rfl)) ?_;refine go 6 ?_;refine v0K rfl (c1S F.pt56 rfl rfl) (wg rfl rfl rfl (wTT rfl)) ?_;refine go 2 ?_;refine bx fun b19=> ?_;refine go 6 ?_;refine b0V (L':=RS W (adN bd v h c) (j0T (g0A (n+2)) 2 bits 1)++ [n1T b19 c.core bits,R]) (fun w hs=>u2K (L:= [n1T b19 c.core bits,R]) hn hb (by simp only[List.cons_append,List.nil_append];exact hs.re gSp)) ?_;refine ns ?_;exact rE idh (x:=((adN bd v h c,b19):Ad×Nat)) trivial
theorem k2K (W:World) (n bits:Nat) (hn:n≤4000) (hb:1≤bits∧bits≤256):a0F prog 11 #[.int .i64 ((n+2:Nat):Int),.int .i64 bits] [whole W] (b0N (fun _:Ad×Nat=>True) (fun x=> .tuple #[ptr x.2,.bool true]) (fun x=>RS W x.1 (j0T (g0A (n+2)) 2 bits 1)++ [n1T x.2 x.1.core bits])):=v1O W n bits bits (by omega) hn hb
theorem l1R: ∀ {k:Nat} {x:Ent} {a n:Nat} {s t:St} {b:B},j0S k x a n s=(.ok b,t)→b.length≤64*n
 |0,x,a,n,s,t,b,h=>by cases h;simp
 |k+1,x,a,n,s,t,b,h=>by
  unfold j0S at h;split at h
  ·cases h;simp
  ·rename_i hn;simp only at h;cases hg:o0U x (a/4) s with
   |mk o u=>
    cases o with
    |ok v=>
     rw[a0A hg]at h;cases hg2:j0S k x (a+min n (4-a%4)) (n-min n (4-a%4)) u with
     |mk o2 u2=>
      cases o2 with
      |ok r=>
       rw[a0A hg2]at h;cases h
       have:=l1R hg2;rw[List.length_append,List.length_take];omega
      |err e=>rw[a0I hg2]at h;cases h
      |big=>unfold a0B at h;rw[hg2]at h;cases h
    |err e=>rw[a0I hg]at h;cases h
    |big=>unfold a0B at h;rw[hg]at h;cases h
theorem k2L {id at_ n:Int} {s t:St} {b:B} (h:o0B id at_ n s=(.ok b,t)):b.length≤1000000:=by
 unfold o0B at h;cases hg:find id s with
 |mk o u=>
  cases o with
  |ok x=>
   rw[a0A hg]at h;cases hg2:g0S x at_ n u with
   |mk o2 u2=>
    cases o2 with
    |ok v=>
     rw[a0A hg2]at h;obtain⟨_,h2,h3,h4,h5⟩:=v0Z hg2;have:=l1R h;omega
    |err e=>rw[a0I hg2]at h;cases h
    |big=>unfold a0B at h;rw[hg2]at h;cases h
  |err e=>rw[a0I hg]at h;cases h
  |big=>unfold a0B at h;rw[hg]at h;cases h
theorem p2C (W:World) (a:Ad) (s:St) (id at_ n:Int) (hnb:(o0G id at_ n s).1≠ .big):
 a0F prog 19 #[ptr a.core,.int .u32 id,.int .i64 at_,.int .i64 n] (RS W a s) (Ran fT (RS W a) e2Y (o0G id at_ n s)):=e2Z W a s id at_ n k2L hnb
def low (c:UInt8):UInt8:=UInt8.ofNat (c.toNat%4)
def g1C (c:UInt8):B:=List.replicate 64 (low c)
theorem w2Q (c:UInt8):(c.toNat:Int)%4=((low c).toNat:Int):=by unfold low;rw[UInt8.toNat_ofNat'];omega
theorem f2C (c:UInt8):(List.replicate 64 [low c]).flatten=g1C c:=rfl
def o0D (l:B):B:=(l.take 12).flatMap g1C
theorem f2D {l:B} {i:Nat} (h:i<l.length) (h12:i<12):o0D (l.take i)++g1C l[i]=o0D (l.take (i+1)):=by
 unfold o0D;rw[List.take_of_length_le (l:=l.take i) (by simp;omega),List.take_of_length_le (l:=l.take (i+1)) (by simp;omega),List.take_succ,List.getElem?_eq_getElem h,List.flatMap_append];simp
theorem p1Z {l:B} {i:Nat} (h:l.length≤i∨12≤i) (h12:i≤12):o0D (l.take i)=o0D l:=by
 unfold o0D;rw[List.take_take];rcases h with h|h
 ·rw[List.take_of_length_le (by omega),List.take_of_length_le (by omega)]
 ·rw[show min 12 i=12 by omega]
theorem p2D (l:B):(l.flatMap g1C).length=64*l.length:=by
 induction l with
 |nil=>rfl
 |cons c l ih=>rw[List.flatMap_cons,List.length_append,ih];simp[g1C];omega
theorem e1S (l:B):(o0D l).length=64*min 12 l.length:=by unfold o0D;rw[p2D,List.length_take]
set_option maxRecDepth 4000 in
theorem k2M (l:B):a0F prog 18 #[b0B l] [] (a0T (b0B (o0D l)) []):=by
 have hsz:(bs l).size=l.length:=b0F l;refine en func18 ntmps18 fun R w0=> ?_;refine go 17 ?_;refine a0V (X:= {i:Nat // i≤12∧i≤l.length}) (fun y=> [(0,b0B l),(3,b0B (o0D (l.take y.1))),(4,.int .i64 y.1)]) (fun y=> [R]) (fun y=>12-y.1) ⟨0,by omega,by omega⟩ gSu gSp ?_;rintro⟨i,hi,hil⟩ m0 hm0
 try simp only at hm0
 try dsimp only
 skip;refine go 2 ?_;by_cases hlt:i<l.length
 ·refine go 4 ?_;rw[b0F];refine go 7 ?_;refine a0P rfl (fun hb12=> ?_) (fun hb12=> ?_)
  ·have hi12:i<12:=by have:=of_decide_eq_true hb12;omega
   have hbyte:(bs l).data.toList[((i:Nat):Int).toNat]? =some l[i]:=by rw[l0M,Int.toNat_natCast,List.getElem?_eq_getElem hlt]
   refine go 8 ?_;refine a0D (c1P Tst.o rfl rfl (by omega) (by assumption)) ?_;refine a0D (n0Y rfl rfl) ?_;rw[x2O,w2Q];refine bl fun b20=> ?_;refine a0D (c1X Tsl.o Tst.o Tby.o rfl (l:= [low l[i]]) rfl rfl) ?_;refine cg 0 (a2C [low l[i]] 64 (by simp) (by omega)) ?_;rw[f2C];refine a0D (g0Y rfl rfl (by rw[b0F,b0F,e1S];simp[g1C];omega)) ?_;rw[←h0B,f2D hlt hi12];refine go 8 ?_;exact rd idh (⟨i+1,hi12,hlt⟩)
  ·skip;refine go 8 ?_;exact rG (hu:=(by rw[p1Z (.inr (by have:=of_decide_eq_false hb12;omega)) hi]))
 ·refine go 4 ?_;rw[b0F];refine go 16 ?_;exact rG (hu:=(by rw[p1Z (.inl (by omega)) hi]))
end Go.Proofs.Q

/- Part of the proof; no statement of its own. -/
import Derived.Test.YtpinhnikemamjaaGreatDoorB08
import Derived.Test.YtpinhnikemamjaaGreatDoorB16
import Derived.Test.YtpinhnikemamjaaGreatDoorB17
import Derived.Test.YtpinhnikemamjaaGreatDoorB24
import Derived.Test.YtpinhnikemamjaaGreatDoorB21
set_option linter.all false
set_option maxRecDepth 4000
set_option maxHeartbeats 4000000
namespace Go.Proofs.Q
open Go.Sl Go.Sb
section
section
variable {c:Cx} {op:Oper} {env:List (Nat×Value)} {L M:List a0E} {a:Ad} {s:St} {v:Value}
theorem j1G (hL:Fnd L (HL a s) M) (h: ∀by_ gv gc o,Sl.a0L c op env (e0O a by_ o s.log s.depth::(TT a by_ gv gc s++M)) v):Sl.a0L c op env L v:=by
 intro act w hh
 obtain⟨x,hs⟩:=l0Q.1 (hL.sat hh.sat)
 have h1:=c0A.1 hs
 obtain⟨by_,gv,gc,o⟩:=x
 simp only[hlV,List.cons_append]at h1
 have h2:=(s0R.1 (h1.perm (List.Perm.swap _ _ _))).2
 exact h by_ gv gc o act w ⟨hh.size,hh.slots,hh.defers,h2,hh.like⟩
end
section
variable {α:Type} {m:M α} {s t:St} {x:St×Car α}
theorem s1H {u:Unit} (h:g0C m (s,.start)=(.ok u,x)): ∃a,x=(x.1,.done a)∧m s=(.ok a,x.1):=by
 unfold g0C at h
 simp only at h
 split at h<;>cases h
 rename_i e;exact⟨_,rfl,e⟩
theorem n1P {e:Int} (h:g0C m (s,.start)=(.err e,x)):x=(x.1,.lost)∧m s=(.err e,x.1):=by
 unfold g0C at h
 simp only at h
 split at h<;>cases h
 rename_i e;exact⟨rfl,e⟩
theorem c1T:(g0C m (s,.start)).1≠ .big↔(m s).1≠ .big:=by
 unfold g0C
 simp only
 split<;>(rename_i e;rw[e];simp)
theorem m0A {a:α} (h:m s=(.ok a,t)):g0C m (s,.start)=(.ok (),(t,.done a)):=by unfold g0C;simp only[h]
theorem c0U {e:Int} (h:m s=(.err e,t)):g0C m (s,.start)=(.err e,(t,.lost)):=by unfold g0C;simp only[h]
end
def w0P {α:Type} (A0:a0E) (A1:α→a0E):Car α→a0E
 | .start=>A0
 | .done a=>A1 a
 | .lost=>b0R []
abbrev RSC {α:Type} (W:World) (a:Ad) (A0:a0E) (A1:α→a0E) (x:St×Car α):List a0E:=RS W a x.1++ [w0P A0 A1 x.2]
abbrev f0Z (b:Nat) (a:Ad):a0E:=pts b (.cells #[ptr a.core] 35 (0,0))
abbrev f0M (b:Nat) (n:Int):a0E:=pts b (.cells #[.int .i64 n] 3 (0,0))
abbrev j0G (b:Nat) (n:Int):a0E:=pts b (.cells #[.int .u32 n] 47 (0,0))
abbrev b2R (b:Nat) (g:FuncId) (cap:List Value):a0E:=pts b (.cells #[.func (.func g) #[] cap.toArray] 1 (0,0))
theorem l2N (n:Int):PB (n0O n):=r0Q _ (fun s=> {s with keep:=max n 0}) fun _=>rfl
theorem l2O (more:Nat):PB (Go.Sb.m0L more):=fun s=>by
 unfold Go.Sb.m0L
 refine b0Y (l2N _) (fun _ t=> ?_) s
 split<;>rfl
abbrev q0J {α:Type} (W:World) (a:Ad) (A0:a0E) (A1:α→a0E) (g:FuncId) (cap:List Value) (bits:Nat) (m:M α):Prop:= ∀t:St,t.bits=bits→(m t).1≠ .big→
 a0S Tryz.prog g cap.toArray (RS W a t++ [A0]) (Ran fT (RSC W a A0 A1) k0P (g0C m (t,.start)))
abbrev b2S (a:Ad) (A0:a0E) (b0 b1 b2:Nat) (more:Nat) (g:FuncId) (cap:List Value):a0E:=b0R [f0Z b0 a,f0M b1 more,b2R b2 g cap,A0]
attribute [local irreducible] Sl.a0L Sl.OW Sl.CW Sl.OS Sl.OM Sl.OMf Sl.KM
theorem g2F {α:Type} (W:World) (a:Ad) (A0:a0E) (A1:α→a0E) (b0 b1 b2 more:Nat) (g:FuncId) (cap:List Value) (m:M α) (s:St) (hb:f0J Tryz.prog g=true) (hmo:more≤1000) (hvl:s.vols.length≤1000)
 (hg:q0J W a A0 A1 g cap s.bits m) (hnb:(e0V more m s).1≠ .big):
 a0S Tryz.prog 116 #[ptr b0,ptr b1,ptr b2] (RS W a s++ [b2S a A0 b0 b1 b2 more g cap]) (Ran fT (RSC W a (b2S a A0 b0 b1 b2 more g cap) A1) k0P (g0C (e0V more m) (s,.start))):=by
 have hnb0:(Go.Sb.m0L more s).1≠ .big:=c0R hnb
 have hpb:(Go.Sb.m0L more s).2.bits=s.bits:=l2O more s
 obtain⟨room,hroom⟩: ∃r:Int,r=2*((s.vols.length+more:Nat):Int):=⟨_,rfl⟩
 have ea:Go.Sb.m0L more s=a0B (n0O room) (fun _ s=>if 0<more∧(b0U s:Int)<room then(.err 8,s)else(.ok (),s)) s:=by unfold Go.Sb.m0L;rw[hroom]
 have em:e0V more m s=a0B (Go.Sb.m0L more) (fun _=>m) s:=rfl
 simp only[List.cons_append,List.nil_append]
 by_cases hm0:more=0
 ·refine a0C Tryz.func116 rfl Tryz.ntmps116 rfl (fun R w0=> ?_)
  simp only[a0N,List.cons_append,List.nil_append]
  refine l0A (show Fnd _ (b0R [f0Z b0 a,f0M b1 more,b2R b2 g cap,A0]) _ from gFd) ?_
  simp only[List.cons_append,List.nil_append]
  refine go 5 ?_
  refine c0K (k0W Sc.o rfl gFd rfl) ?_
  refine c0K (j1G gFd fun by_ gv gc o=>by rw[e0A];simp only[List.cons_append,List.nil_append];exact h1N e0T.o rfl gFd) ?_
  refine go 3 ?_
  rw[show 2*(((s.vols.length:Nat):Int)+((more:Nat):Int))=room by rw[hroom];omega]
  refine go 8 ?_
  refine a0F (k0W Sc.o rfl gFd rfl) ?_
  refine go 1 ?_
  refine b0F rfl Hb.o rfl (i1H W a s room (by rw[ea]at hnb0;exact c0R hnb0)) gSp (fun u t ho=> ?_) (fun e t ho=>by(repeat (first|with_reducible refine a0G ?_|with_reducible refine a0M ?_));(have h9:Go.Sb.m0L more s=(.err e,t):=(by rw[ea];exact a0Q ho);refine b0O (fun w h=>c0D h) ?_;exact a0Y (c0U (em.trans (a0Q h9))) (fun _ _ h=>h) gSp))
  refine ns ?_
  refine go 1 ?_
  have h9:Go.Sb.m0L more s=(.ok (),t):=by rw[ea,a0A ho,if_neg (by omega)]
  rw[h9]at hpb
  refine go 22 ?_
  refine b0F rfl hb rfl (hg t hpb (o0E hnb h9)) gSp (fun v ⟨t',oc⟩ ho=> ?_) (fun e t ho=>by(repeat (first|with_reducible refine a0G ?_|with_reducible refine a0M ?_));(obtain⟨t1,t2⟩:=t;obtain⟨hx,hm⟩:=n1P ho;obtain rfl:t2= .lost:=congrArg Prod.snd hx;have hm:_=(Out.err e,t1):=hm;exact a0Y (c0U (em.trans ((a0A h9).trans hm))) (fun _ _ h=>h) gSp))
  refine ns ?_
  refine go 1 ?_
  obtain⟨y,hx,hm⟩:=s1H ho
  obtain rfl:oc= .done y:=congrArg Prod.snd hx
  have hm:_=(Out.ok y,t'):=hm
  simp only[RSC,w0P,List.cons_append,List.nil_append]
  exact d0X (s:=(t',.done y)) (m0A (em.trans ((a0A h9).trans hm))) rfl rfl gSp
 ·have hm1:0<more:=by omega
  refine a0C Tryz.func116 rfl Tryz.ntmps116 rfl (fun R w0=> ?_)
  simp only[a0N,List.cons_append,List.nil_append]
  refine l0A (show Fnd _ (b0R [f0Z b0 a,f0M b1 more,b2R b2 g cap,A0]) _ from gFd) ?_
  simp only[List.cons_append,List.nil_append]
  refine go 5 ?_
  refine c0K (k0W Sc.o rfl gFd rfl) ?_
  refine c0K (j1G gFd fun by_ gv gc o=>by rw[e0A];simp only[List.cons_append,List.nil_append];exact h1N e0T.o rfl gFd) ?_
  refine go 3 ?_
  rw[show 2*(((s.vols.length:Nat):Int)+((more:Nat):Int))=room by rw[hroom];omega]
  refine go 8 ?_
  refine a0F (k0W Sc.o rfl gFd rfl) ?_
  refine go 1 ?_
  refine b0F rfl Hb.o rfl (i1H W a s room (by rw[ea]at hnb0;exact c0R hnb0)) gSp (fun u t ho=> ?_) (fun e t ho=>by(repeat (first|with_reducible refine a0G ?_|with_reducible refine a0M ?_));(have h9:Go.Sb.m0L more s=(.err e,t):=(by rw[ea];exact a0Q ho);refine b0O (fun w h=>c0D h) ?_;exact a0Y (c0U (em.trans (a0Q h9))) (fun _ _ h=>h) gSp))
  refine ns ?_
  refine go 1 ?_
  have hok:=ho
  refine go 10 ?_
  refine g0M (k0W Sc.o rfl gFd rfl) (fun a w hh=>(b0E rfl rfl rfl hh).trans (wTT gT)) ?_
  refine m0S (fun a w hh=>(b0E rfl rfl rfl hh).trans (wTT gT)) ?_
  refine a0D rfl Hb.o rfl (a2C a t) gSp ?_
  refine ns ?_
  refine go 5 ?_
  refine b0C rfl (fun hb28=> ?_) (fun hb28=> ?_)
  ·have h9:Go.Sb.m0L more s=(.err 8,t):=by rw[ea,a0A hok,if_pos ⟨hm1,of_decide_eq_true hb28⟩]
   refine c0S (fun w h=>c0D h) ?_
   refine go 1 ?_
   refine c0M rfl Hb.o rfl (d0C 8) gSp ?_
   simp only[List.cons_append,List.nil_append]
   refine pn ?_
   exact a0Y (c0U (em.trans (a0Q h9))) (fun _ _ h=>h) gSp
  ·have h9:Go.Sb.m0L more s=(.ok (),t):=by rw[ea,a0A hok,if_neg (fun h=>of_decide_eq_false hb28 h.2)]
   rw[h9]at hpb
   refine go 4 ?_
   refine b0F rfl hb rfl (hg t hpb (o0E hnb h9)) gSp (fun v ⟨t',oc⟩ ho=> ?_) (fun e t ho=>by(repeat (first|with_reducible refine a0G ?_|with_reducible refine a0M ?_));(obtain⟨t1,t2⟩:=t;obtain⟨hx,hm⟩:=n1P ho;obtain rfl:t2= .lost:=congrArg Prod.snd hx;have hm:_=(Out.err e,t1):=hm;exact a0Y (c0U (em.trans ((a0A h9).trans hm))) (fun _ _ h=>h) gSp))
   refine ns ?_
   refine go 1 ?_
   obtain⟨y,hx,hm⟩:=s1H ho
   obtain rfl:oc= .done y:=congrArg Prod.snd hx
   have hm:_=(Out.ok y,t'):=hm
   simp only[RSC,w0P,List.cons_append,List.nil_append]
   exact d0X (s:=(t',.done y)) (m0A (em.trans ((a0A h9).trans hm))) rfl rfl gSp
end
section
theorem l0O {L N M:List a0E} (hL:b0L L N M) (w:World) (h:Sat w L):Sat w (b0R N::M):=c0A.2 (h.perm hL)
theorem e1D {α:Type} {m:M α} {s t:St} {c:Car α} {e:Int} (h:n0T (g0C m) (s,.start)=(.ok e,(t,c))):(∃a,c= .done a∧e=0)∨(c= .lost∧e≠0):=by
 unfold n0T n0H a0B g0C at h
 simp only at h
 split at h<;>rename_i h1
 ·simp only[Prod.mk.injEq,Out.ok.injEq]at h
  obtain⟨rfl,h2,h3⟩:=h
  split at h1
  ·cases h1
  ·rename_i hd
   cases hm:m {s with depth:=s.depth+1} with
   |mk o u=>
    rw[hm]at h1
    cases o with
    |ok a=>
     simp only at h1
     split at h1
     ·cases h1
     ·cases h1;exact .inl ⟨a,h3.symm,rfl⟩
    |err e'=>
     simp only at h1
     split at h1
     ·cases h1
     ·rename_i h4;cases h1;exact .inr ⟨h3.symm,fun h5=>h4 (.inr h5)⟩
    |big=>cases h1
 ·cases h
 ·cases h
theorem m0Z {α:Type} {m:M α} {s:St} {x:St×Car α} {e:Int} :n0T (g0C m) (s,.start)≠(.err e,x):=by
 unfold n0T a0B
 intro h
 cases ho:n0H (g0C m) (s,.start)with
 |mk o u=>
  rw[ho]at h
  cases o with
  |ok a=>cases h
  |err e'=>exact i1I _ _ _ _ ho
  |big=>cases h
theorem t0I {α:Type} {m:M α} {s t:St} {c:Car α} {e:Int} (h:n0T (g0C m) (s,.start)=(.ok e,(t,c))):i0I m s=(.ok (e,c),t):=by unfold i0I r1V;rw[h]
theorem g1M {α:Type} {m:M α} {s:St} (h:(i0I m s).1≠ .big):(n0T (g0C m) (s,.start)).1≠ .big:=by
 intro e
 apply h
 unfold i0I r1V
 cases ho:n0T (g0C m) (s,.start)with
 |mk o u=>
  rw[ho]at e
  simp only at e
  subst e
  rfl
attribute [local irreducible] Sl.a0L Sl.OW Sl.CW Sl.OS Sl.OM Sl.OMf Sl.KM
theorem u0F {α:Type} (W:World) (a:Ad) (A0:a0E) (A1:α→a0E) (more:Nat) (g:FuncId) (cap:List Value) (m:M α) (s:St) (hb:f0J Tryz.prog g=true) (hmo:more≤1000) (hvl:s.vols.length≤1000)
 (hg:q0J W a A0 A1 g cap s.bits m) (hnb:(i0I (e0V more m) s).1≠ .big):
 a0S Tryz.prog 64 #[ptr a.core,.int .i64 more,.func (.func g) #[] cap.toArray] (RS W a s++ [A0]) (Ran fT (RSC W a A0 A1) a0V (n0T (g0C (e0V more m)) (s,.start))):=by
 have hn:=g1M hnb
 simp only[List.cons_append,List.nil_append]
 refine a0C Tryz.func64 rfl Tryz.ntmps64 rfl (fun R w0=> ?_)
 simp only[a0N,List.cons_append,List.nil_append]
 refine go 2 ?_
 refine(a0X rfl (fun b3=> ?_))
 refine(a0X rfl (fun b4=> ?_))
 refine(a0X rfl (fun b5=> ?_))
 refine go 8 ?_
 refine a0F (k0W Sc.o rfl gFd rfl) ?_
 refine go 1 ?_
 refine e0Y (l0O (N:= [f0Z b3 a,f0M b4 more,b2R b5 g cap,A0]) gSp) ?_
 refine b0F rfl Hb.o rfl (w0D (C:=Car α) W a (w0P (b2S a A0 b3 b4 b5 more g cap) A1) 116 [ptr b3,ptr b4,ptr b5] (g0C (e0V more m)) s .start Hb.o hn (fun h=>g2F W a A0 A1 b3 b4 b5 more g cap m {s with depth:=s.depth+1} hb hmo hvl hg (c1T.1 h))) gSp (fun e ⟨t,oc⟩ ho=> ?_) (fun e t ho=>by(repeat (first|with_reducible refine a0G ?_|with_reducible refine a0M ?_));(exact(m0Z ho).elim))
 refine ns ?_
 refine go 3 ?_
 rcases e1D ho with ⟨y,rfl,rfl⟩| ⟨rfl,_⟩
 ·simp only[w0P];exact c0I ho (fun _ _ h=>h) rfl rfl gSp
 ·simp only[w0P];exact c0I ho (fun _ _ h=>h) rfl rfl gSp
theorem v1O {s:St} {v:Int} (h:(o0X v s).1≠ .big):s.log.length<1000000000:=s0G h fun h'=>by simp[o0X,a0B,back,h']
theorem b2T {s:St} (v:Int) (h:s.log.length<1000000000):o0X v s=(.ok (),{s with log:=bk s.depth s.log (.next s.next),next:=v}):=by
 simp[o0X,a0B,back,show ¬1000000000≤s.log.length by omega]
theorem g2G (W:World) (a:Ad) (s:St) (x:Ent) (hnb:(u0K x s).1≠ .big):a0S Tryz.prog 138 #[ptr a.core,e0K x] (RS W a s) (Ran fT (RS W a) j0V (u0K x s)):=by
 obtain⟨y,hy⟩: ∃y:Ent,y= {x with id:=s.next,born:=s.epoch} :=⟨_,rfl⟩
 have e0:u0K x s=a0B (o0X (m0F (s.next+1))) (fun _=>a0B (l0K y) fun _=>ret y.id) s:=by rw[hy];rfl
 have hn:=v1O (show(o0X (m0F (s.next+1)) s).1≠ .big by rw[e0]at hnb;exact c0R hnb)
 rw[a0A (b2T _ hn)]at e0
 have hyid:y.id=s.next:=by rw[hy]
 refine a0C Tryz.func138 rfl Tryz.ntmps138 rfl (fun R w0=> ?_)
 simp only[a0N,List.cons_append,List.nil_append,e0K]
 refine go 2 ?_
 refine(a0X rfl (fun b3=> ?_))
 refine go 4 ?_
 refine d0H (.soft 0 (.soft 1 (.soft 2 (.soft 3 (.soft 4 (.soft 5 (.soft 6 (.soft 7 (.soft 8 (.hard 9 (.soft 10 (.hard 11 .done)))))))))))) [HL a s] Fol.o (by kernel_rfl) (by repeat (first|with_reducible exact a0J.bp|with_reducible apply a0J.then|with_reducible apply a0J.inBlock)) gSp ?_
 refine go 3 ?_
 refine d0D rfl (k0W Sc.o rfl gFd rfl) ?_
 refine go 3 ?_
 refine d0D rfl (k0W Sc.o rfl gFd rfl) ?_
 refine go 11 ?_
 refine b0O (L':=s0K b3 y::(RS W a s++ [R])) (fun w h=>by rw[hy];exact h.re gSp) ?_
 simp only[List.cons_append,List.nil_append]
 refine go 2 ?_
 refine f0F gFd fun by_ gv gc o hg hok=> ?_
 simp only[e0A,p0T,d0I,List.cons_append,List.nil_append]
 refine d0S 15 Fol.o (by kernel_rfl) ?_
 simp only[List.take_succ_cons,List.take_zero,List.drop_succ_cons,List.drop_zero]
 refine go 14 ?_
 refine c0K (g1Z rfl rfl) ?_
 refine go 1 ?_
 rw[show IntKind.u32.wrap (s.next+1)=m0F (s.next+1)from IntKind.wrap_u32 _]
 refine a0W rfl Hb.o rfl (u1J a by_ o s.log s.depth s.next (m0F (s.next+1)) s.epoch hn) gSp ?_
 rintro e _
 refine ns ?_
 refine go 1 ?_
 refine b0O (d0Q (s:= {s with log:=bk s.depth s.log (.next s.next),next:=m0F (s.next+1)}) hg hok gSp) ?_
 refine go 4 ?_
 refine a0F (a0O Ag.o rfl (by simp[b0M]) (a0I (by simp[b0M]))) ?_
 refine b0F rfl Hb.o rfl (u0E W a {s with log:=bk s.depth s.log (.next s.next),next:=m0F (s.next+1)} y (by rw[e0]at hnb;exact c0R hnb)) gSp (fun u t ho=> ?_) (fun e t ho=>by(repeat (first|with_reducible refine a0G ?_|with_reducible refine a0M ?_));exact a0Y ((by rw[e0];exact a0Q ho)) (fun _ _ h=>h) gSp)
 refine ns ?_
 refine go 9 ?_
 exact c0I (by rw[e0,a0A ho];rfl) (fun _ _ h=>h) rfl rfl gSp
end
section
abbrev o1O (b:Nat) (g:FuncId) (cap:List Value):a0E:=pts b (.cells #[.func (.func g) #[] cap.toArray] 165 (0,0))
abbrev a1P (W:World) (a:Ad) (AD:a0E) (g:FuncId) (cap:List Value) (bits:Nat) (made:M Ent):Prop:= ∀t:St,t.bits=bits→(made t).1≠ .big→
 a0S Tryz.prog g cap.toArray (RS W a t++ [AD]) (Ran fT (fun u=>RS W a u++ [AD]) e0K (made t))
abbrev g2H (a:Ad) (AD:a0E) (b0 b1 b2:Nat) (g:FuncId) (cap:List Value):a0E:=b0R [f0Z b0 a,o1O b1 g cap,j0G b2 0,AD]
attribute [local irreducible] Sl.a0L Sl.OW Sl.CW Sl.OS Sl.OM Sl.OMf Sl.KM
theorem b2U (W:World) (a:Ad) (AD:a0E) (b0 b1 b2:Nat) (g:FuncId) (cap:List Value) (made:M Ent) (bits:Nat) (hb:f0J Tryz.prog g=true) (hg:a1P W a AD g cap bits made):
 q0J W a (g2H a AD b0 b1 b2 g cap) (fun id=>j0G b2 id) 137 [ptr b0,ptr b1,ptr b2] bits (a0B made u0K):=by
 intro s hbits hnb
 simp only[List.cons_append,List.nil_append]
 refine a0C Tryz.func137 rfl Tryz.ntmps137 rfl (fun R w0=> ?_)
 simp only[a0N,List.cons_append,List.nil_append]
 refine l0A (show Fnd _ (b0R [f0Z b0 a,o1O b1 g cap,j0G b2 0,AD]) _ from gFd) ?_
 simp only[List.cons_append,List.nil_append]
 refine d0H (.soft 0 (.soft 1 (.hard 2 (.hard 3 (.hard 4 .done))))) [f0Z b0 a,o1O b1 g cap] Fol.o (by kernel_rfl) (by repeat (first|with_reducible exact a0J.bp|with_reducible apply a0J.then|with_reducible apply a0J.inBlock)) gSp ?_
 refine go 3 ?_
 refine b0F rfl hb rfl (hg s hbits (c0R hnb)) gSp (fun x t ho=> ?_) (fun e t ho=>by(repeat (first|with_reducible refine a0G ?_|with_reducible refine a0M ?_));(refine b0O (fun w h=>c0D h) ?_;exact a0Y (c0U (a0Q ho)) (fun _ _ h=>h) gSp))
 refine ns ?_
 refine go 3 ?_
 have h9:=ho
 refine b0F rfl Hb.o rfl (g2G W a t x (o0E hnb h9)) gSp (fun id u ho=> ?_) (fun e t ho=>by(repeat (first|with_reducible refine a0G ?_|with_reducible refine a0M ?_));(refine b0O (fun w h=>c0D h) ?_;exact a0Y (c0U ((a0A h9).trans ho)) (fun _ _ h=>h) gSp))
 refine ns ?_
 refine go 7 ?_
 exact d0X (s:=(u,.done id)) (m0A ((a0A h9).trans ho)) rfl rfl gSp
def x0N (p:Int×Int):Value:= .tuple #[.int .u32 p.1,.int .i64 p.2]
theorem j1H (W:World) (a:Ad) (AD:a0E) (g:FuncId) (cap:List Value) (made:M Ent) (s:St) (hb:f0J Tryz.prog g=true) (hvl:s.vols.length≤1000) (hg:a1P W a AD g cap s.bits made) (hnb:(l0V made s).1≠ .big):
 a0S Tryz.prog 92 #[ptr a.core,.func (.func g) #[] cap.toArray] (RS W a s++ [AD]) (Ran fT (RS W a) x0N (l0V made s)):=by
 simp only[List.cons_append,List.nil_append]
 by_cases h16:16≤s.vols.length
 ·rw[show l0V made s=(.ok (0,13),s) by unfold l0V;rw[if_pos h16]]
  refine a0C Tryz.func92 rfl Tryz.ntmps92 rfl (fun R w0=> ?_)
  simp only[a0N,List.cons_append,List.nil_append]
  refine go 2 ?_
  refine(a0X rfl (fun b2=> ?_))
  refine(a0X rfl (fun b3=> ?_))
  refine go 10 ?_
  refine a0F (k0W Sc.o rfl gFd rfl) ?_
  refine a0F (j1G gFd fun by_ gv gc o=>by rw[e0A];simp only[List.cons_append,List.nil_append];exact h1N e0T.o rfl gFd) ?_
  refine go 10 ?_
  exact c0I rfl (fun _ _ h=>h) rfl rfl gSp
 ·have e0:l0V made s=a0B (i0I (e0V 1 (a0B made u0K))) (fun r=>ret (if r.1=0 then(a1I 0 r.2,0)else(0,r.1))) s:=by unfold l0V;rw[if_neg h16]
  have hn:(i0I (e0V 1 (a0B made u0K)) s).1≠ .big:=by rw[e0]at hnb;exact c0R hnb
  refine a0C Tryz.func92 rfl Tryz.ntmps92 rfl (fun R w0=> ?_)
  simp only[a0N,List.cons_append,List.nil_append]
  refine go 2 ?_
  refine(a0X rfl (fun b2=> ?_))
  refine(a0X rfl (fun b3=> ?_))
  refine go 10 ?_
  refine a0F (k0W Sc.o rfl gFd rfl) ?_
  refine a0F (j1G gFd fun by_ gv gc o=>by rw[e0A];simp only[List.cons_append,List.nil_append];exact h1N e0T.o rfl gFd) ?_
  refine go 8 ?_
  refine(a0U Zr.o (fun b6=> ?_))
  refine go 7 ?_
  refine e0Y (l0O (N:= [f0Z b2 a,o1O b3 g cap,j0G b6 0,AD]) gSp) ?_
  refine b0F rfl Hb.o rfl (u0F W a (g2H a AD b2 b3 b6 g cap) (fun id=>j0G b6 id) 1 137 [ptr b2,ptr b3,ptr b6] (a0B made u0K) s Hb.o (by omega) hvl (b2U W a AD b2 b3 b6 g cap made s.bits hb hg) hn) gSp (fun e ⟨t,oc⟩ ho=> ?_) (fun e t ho=>by(repeat (first|with_reducible refine a0G ?_|with_reducible refine a0M ?_));(exact(m0Z ho).elim))
  refine ns ?_
  refine go 2 ?_
  have e1:=e0.trans (a0A (t0I ho))
  try simp only[RSC]
  refine go 8 ?_
  refine b0C rfl (fun hb18=> ?_) (fun hb18=> ?_)
  ·have hz:e≠0:=by have h:=hb18;simp only[bne_iff_ne,ne_eq]at h;exact h
   refine go 7 ?_
   exact c0I (by rw[e1,if_neg hz];rfl) (fun _ _ h=>h) rfl rfl gSp
  ·have hz:e=0:=by have h:=hb18;simp only[bne_eq_false_iff_eq]at h;exact h
   obtain⟨y,rfl,_⟩| ⟨_,h9⟩:=e1D ho
   rotate_left
   ·exact(h9 hz).elim
   simp only[w0P]
   subst hz
   refine go 10 ?_
   exact c0I (by rw[e1,if_pos rfl];rfl) (fun _ _ h=>h) rfl rfl gSp
theorem s1I (W:World) (a:Ad) (b0:Nat) (size:Int) (bits:Nat):a1P W a (f0M b0 size) 93 [ptr b0] bits (ret {j0I with size:=size}):=by
 intro s hbits hnb
 have hs1:(b0M {j0I with size:=size}).toArray.size=6:=rfl
 simp only[List.cons_append,List.nil_append]
 refine a0C Tryz.func93 rfl Tryz.ntmps93 rfl (fun R w0=> ?_)
 simp only[a0N,List.cons_append,List.nil_append]
 refine go 2 ?_
 refine(a0U Zr.o (fun b1=> ?_))
 refine go 5 ?_
 refine a0F (r0J (cs:=b0M {j0I with size:=size}) Pl.o rfl (by rfl)) ?_
 refine a0K Sz.o rfl rfl rfl (by simp[b0M,Value.oneCell']) (by simp[b0M,Value.cells]) (a0R (by simp[b0M,Value.cells])) ?_
 refine go 2 ?_
 exact j0H rfl (fun _ _ h=>h) (RV.agg Ag.o rfl (by simp[Value.cells,b0M]) (a0I (by simp[Value.cells,b0M])) RV.nil) rfl gSp
theorem s1J (W:World) (a:Ad) (s:St) (size:Int) (hvl:s.vols.length≤1000) (hnb:(g0J size s).1≠ .big):a0S Tryz.prog 38 #[ptr a.core,.int .i64 size] (RS W a s) (Ran fT (RS W a) x0N (g0J size s)):=by
 by_cases h1:size<1
 ·rw[show g0J size s=(.ok (0,4),s) by unfold g0J;rw[if_pos (.inl h1)];rfl]
  refine a0C Tryz.func38 rfl Tryz.ntmps38 rfl (fun R w0=> ?_)
  simp only[a0N,List.cons_append,List.nil_append]
  refine go 2 ?_
  refine(a0X rfl (fun b3=> ?_))
  refine go 22 ?_
  exact c0I rfl (fun _ _ h=>h) rfl rfl gSp
 ·by_cases h2:2048<size
  ·rw[show g0J size s=(.ok (0,4),s) by unfold g0J;rw[if_pos (.inr h2)];rfl]
   refine a0C Tryz.func38 rfl Tryz.ntmps38 rfl (fun R w0=> ?_)
   simp only[a0N,List.cons_append,List.nil_append]
   refine go 2 ?_
   refine(a0X rfl (fun b3=> ?_))
   refine go 22 ?_
   exact c0I rfl (fun _ _ h=>h) rfl rfl gSp
  ·have e0:g0J size s=l0V (ret {j0I with size:=size}) s:=by unfold g0J;rw[if_neg (by omega)]
   rw[e0]at hnb ⊢
   refine a0C Tryz.func38 rfl Tryz.ntmps38 rfl (fun R w0=> ?_)
   simp only[a0N,List.cons_append,List.nil_append]
   refine go 2 ?_
   refine(a0X rfl (fun b3=> ?_))
   refine go 22 ?_
   refine b0F rfl Hb.o rfl (j1H W a (f0M b3 size) 93 [ptr b3] (ret {j0I with size:=size}) s Hb.o hvl (s1I W a b3 size s.bits) hnb) gSp (fun p t ho=> ?_) (fun e t ho=>by(repeat (first|with_reducible refine a0G ?_|with_reducible refine a0M ?_));exact a0Y (ho) (fun _ _ h=>h) gSp)
   refine ns ?_
   refine go 6 ?_
   exact c0I ho (fun _ _ h=>h) rfl rfl gSp
end
section
attribute [local irreducible] Sl.a0L Sl.OW Sl.CW Sl.OS Sl.OM Sl.OMf Sl.KM
theorem b2V (W:World) (a:Ad) (s:St) (root:Int) (hnb:(g0O root 3 s).1≠ .big):a0S Tryz.prog 144 #[ptr a.maps,.int .i64 root] (RS W a s) (Ran fT (RS W a) k0P (g0O root 3 s)):=by
 refine a0C Tryz.func144 rfl Tryz.ntmps144 rfl (fun R w0=> ?_)
 simp only[a0N,List.cons_append,List.nil_append]
 refine go 3 ?_
 refine b0F rfl Hb.o rfl (i1U W a s root 3 hnb) gSp (fun u t ho=> ?_) (fun e t ho=>by(repeat (first|with_reducible refine a0G ?_|with_reducible refine a0M ?_));exact a0Y (ho) (fun _ _ h=>h) gSp)
 refine ns ?_
 refine go 1 ?_
 exact d0X ho rfl rfl gSp
abbrev l1I (b:Nat) (x:Bool):a0E:=pts b (.cells #[.bool x] 4 (0,0))
abbrev g2I (a:Ad) (b0 b1 b2:Nat) (id:Int) (only:Bool):a0E:=b0R [f0Z b0 a,j0G b1 id,l1I b2 only]
theorem b2W (W:World) (a:Ad) (b0 b1 b2:Nat) (id:Int) (only:Bool) (bits:Nat):a1P W a (g2I a b0 b1 b2 id only) 143 [ptr b0,ptr b1,ptr b2] bits (x0K id only):=by
 intro s hbits hnb
 have e0:x0K id only s=a0B (find id) (fun x=>a0B (g0O x.root 3) fun _=>ret {j0I with parent:=id,only:=only,size:=x.size,root:=x.root}) s:=rfl
 simp only[List.cons_append,List.nil_append]
 refine a0C Tryz.func143 rfl Tryz.ntmps143 rfl (fun R w0=> ?_)
 simp only[a0N,List.cons_append,List.nil_append]
 refine l0A (show Fnd _ (b0R [f0Z b0 a,j0G b1 id,l1I b2 only]) _ from gFd) ?_
 simp only[List.cons_append,List.nil_append]
 refine go 2 ?_
 refine(a0U Zr.o (fun b3=> ?_))
 refine go 6 ?_
 refine b0F rfl Hb.o rfl (u0D W a s id) gSp (fun x t ho=> ?_) (fun e t ho=>by(repeat (first|with_reducible refine a0G ?_|with_reducible refine a0M ?_));(refine b0O (l0O (N:= [f0Z b0 a,j0G b1 id,l1I b2 only]) gSp) ?_;exact a0Y (e0.trans (a0Q ho)) (fun _ _ h=>h) gSp))
 refine ns ?_
 have h9:=ho
 refine(a0U Zr.o (fun b4=> ?_))
 refine a0K Sz.o rfl rfl rfl (by simp[b0M,Value.oneCell']) (by simp[b0M,Value.cells]) (a0R (by simp[b0M,Value.cells])) ?_
 refine go 3 ?_
 refine d0S 6 Fol.o (by kernel_rfl) ?_
 simp only[List.take_succ_cons,List.take_zero,List.drop_succ_cons,List.drop_zero]
 refine go 3 ?_
 refine c0K (k0W Sc.o rfl gFd rfl) ?_
 refine go 3 ?_
 refine b0F rfl Hb.o rfl (b2V W a t x.root (c0R (o0E (m:=find id) (by rw[e0]at hnb;exact hnb) h9))) gSp (fun v u ho=> ?_) (fun e t ho=>by(repeat (first|with_reducible refine a0G ?_|with_reducible refine a0M ?_));(refine b0O (l0O (N:= [f0Z b0 a,j0G b1 id,l1I b2 only]) gSp) ?_;exact a0Y (e0.trans ((a0A h9).trans (a0Q ho))) (fun _ _ h=>h) gSp))
 refine ns ?_
 refine go 10 ?_
 refine a0F (r0J (cs:=b0M {j0I with parent:=id,only:=only,size:=x.size,root:=x.root}) Pl.o rfl (by rfl)) ?_
 refine a0K Sz.o rfl rfl rfl (by simp[b0M,Value.oneCell']) (by simp[b0M,Value.cells]) (a0R (by simp[b0M,Value.cells])) ?_
 refine go 2 ?_
 refine c0S (l0O (N:= [f0Z b0 a,j0G b1 id,l1I b2 only]) gSp) ?_
 exact j0H (e0.trans ((a0A h9).trans (by rw[a0A ho];rfl))) (fun _ _ h=>h) (RV.agg Ag.o rfl (by simp[Value.cells,b0M]) (a0I (by simp[Value.cells,b0M])) RV.nil) rfl gSp
theorem j1I (W:World) (a:Ad) (s:St) (id:Int) (only:Bool) (hvl:s.vols.length≤1000) (hnb:(h0X id only s).1≠ .big):a0S Tryz.prog 98 #[ptr a.core,.int .u32 id,.bool only] (RS W a s) (Ran fT (RS W a) x0N (h0X id only s)):=by
 have hi:=c1Q W a s id
 cases hm:a0H id s.vols with
 |none=>
  rw[hm]at hi
  rw[show h0X id only s=(.ok (0,5),s) by unfold h0X;rw[hm]]
  refine a0C Tryz.func98 rfl Tryz.ntmps98 rfl (fun R w0=> ?_)
  simp only[a0N,List.cons_append,List.nil_append]
  refine go 2 ?_
  refine(a0X rfl (fun b3=> ?_))
  refine(a0X rfl (fun b4=> ?_))
  refine(a0X rfl (fun b5=> ?_))
  refine go 9 ?_
  refine a0D rfl Hb.o rfl (hi) gSp ?_
  refine ns ?_
  refine go 3 ?_
  refine(a0U Zr.o (fun b8=> ?_))
  refine a0K Sz.o rfl rfl rfl (by simp[b0M,Value.oneCell']) (by simp[b0M,Value.cells]) (a0R (by simp[b0M,Value.cells])) ?_
  refine go 17 ?_
  exact c0I rfl (fun _ _ h=>h) rfl rfl gSp
 |some x=>
  rw[hm]at hi
  have e0:h0X id only s=l0V (x0K id only) s:=by unfold h0X;rw[hm]
  rw[e0]at hnb ⊢
  refine a0C Tryz.func98 rfl Tryz.ntmps98 rfl (fun R w0=> ?_)
  simp only[a0N,List.cons_append,List.nil_append]
  refine go 2 ?_
  refine(a0X rfl (fun b3=> ?_))
  refine(a0X rfl (fun b4=> ?_))
  refine(a0X rfl (fun b5=> ?_))
  refine go 9 ?_
  refine a0D rfl Hb.o rfl (hi) gSp ?_
  refine ns ?_
  refine go 3 ?_
  refine(a0U Zr.o (fun b8=> ?_))
  refine a0K Sz.o rfl rfl rfl (by simp[b0M,Value.oneCell']) (by simp[b0M,Value.cells]) (a0R (by simp[b0M,Value.cells])) ?_
  refine go 16 ?_
  refine e0Y (l0O (N:= [f0Z b3 a,j0G b4 id,l1I b5 only]) gSp) ?_
  refine b0F rfl Hb.o rfl (j1H W a (g2I a b3 b4 b5 id only) 143 [ptr b3,ptr b4,ptr b5] (x0K id only) s Hb.o hvl (b2W W a b3 b4 b5 id only s.bits) hnb) gSp (fun p t ho=> ?_) (fun e t ho=>by(repeat (first|with_reducible refine a0G ?_|with_reducible refine a0M ?_));exact a0Y (ho) (fun _ _ h=>h) gSp)
  refine ns ?_
  refine go 6 ?_
  exact c0I ho (fun _ _ h=>h) rfl rfl gSp
theorem b2X (W:World) (a:Ad) (s:St) (id:Int) (hvl:s.vols.length≤1000) (hnb:(h0X id true s).1≠ .big):a0S Tryz.prog 40 #[ptr a.core,.int .u32 id] (RS W a s) (Ran fT (RS W a) x0N (h0X id true s)):=by
 refine a0C Tryz.func40 rfl Tryz.ntmps40 rfl (fun R w0=> ?_)
 simp only[a0N,List.cons_append,List.nil_append]
 refine go 10 ?_
 refine b0F rfl Hb.o rfl (j1I W a s id true hvl hnb) gSp (fun p t ho=> ?_) (fun e t ho=>by(repeat (first|with_reducible refine a0G ?_|with_reducible refine a0M ?_));exact a0Y (ho) (fun _ _ h=>h) gSp)
 refine ns ?_
 refine go 6 ?_
 exact c0I ho (fun _ _ h=>h) rfl rfl gSp
end
section
abbrev l2P (b:Nat) (x:B):a0E:=pts b (.cells #[b0H x] 9 (0,0))
theorem p2T (id:Int):PB (find id):=fun s=>by unfold find;split<;>rfl
theorem g1N (id:Int):PB (l0C id):=b0Y (p2T id) fun x=>k0S (d1Y _) (d0J _)
theorem s1K: ∀k x a d,PB (j0C k x a d)
 |0,x,a,d=>d0J _
 |k+1,x,a,d=>by
  unfold j0C
  exact k0S (d0J _) (b0Y (p2Q _ _) fun _=>b0Y (x1Y _ _ _) fun _=>s1K k _ _ _)
theorem u0X {x:Ent} {at_ n:Int} {s t:St} {u:Unit} (h:g0T x at_ n s=(.ok u,t)):t=s∧0≤at_∧0≤n∧at_+n≤x.size∧x.size≤5000:=by
 unfold g0T at h
 split at h
 ·cases h
 ·unfold k0U at h
  split at h
  ·cases h
  ·cases h;exact⟨rfl,by omega,by omega,by omega,by omega⟩
abbrev y1I (a:Ad) (b0 b1 b2 b3:Nat) (id at_:Int) (data:B):a0E:=b0R [f0Z b0 a,j0G b1 id,l2P b2 data,f0M b3 at_]
attribute [local irreducible] Sl.a0L Sl.OW Sl.CW Sl.OS Sl.OM Sl.OMf Sl.KM
theorem v1P (W:World) (hW:h0L W) (a:Ad) (b0 b1 b2 b3:Nat) (id at_:Int) (data:B) (bits:Nat) (hbits:bits≤256) (hdl:data.length≤100000):
 q0J W a (y1I a b0 b1 b2 b3 id at_ data) (fun _:Unit=>b0R []) 65 [ptr b0,ptr b1,ptr b2,ptr b3] bits (h0Y id at_ data):=by
 intro s hsb hnb
 have e0:h0Y id at_ data s=a0B (l0C id) (fun x=>if data.length%64≠0 then n0F 4 else a0B (g0T x at_ (data.length/64:Nat)) fun _=>a0B (e0U x at_.toNat data) l0K) s:=rfl
 simp only[List.cons_append,List.nil_append]
 refine a0C Tryz.func65 rfl Tryz.ntmps65 rfl (fun R w0=> ?_)
 simp only[a0N,List.cons_append,List.nil_append]
 refine l0A (show Fnd _ (b0R [f0Z b0 a,j0G b1 id,l2P b2 data,f0M b3 at_]) _ from gFd) ?_
 simp only[List.cons_append,List.nil_append]
 refine go 4 ?_
 refine b0F rfl Hb.o rfl (a1J W a s id) gSp (fun x t ho=> ?_) (fun e t ho=>by(repeat (first|with_reducible refine a0G ?_|with_reducible refine a0M ?_));(refine b0O (fun w h=>c0D h) ?_;exact a0Y (c0U (e0.trans (a0Q ho))) (fun _ _ h=>h) gSp))
 refine ns ?_
 have hpb:=g1N id s
 rw[ho]at hpb
 have hpb:t.bits=s.bits:=hpb
 have e1:=e0.trans (a0A ho)
 clear ho
 refine(a0U Zr.o (fun b4=> ?_))
 refine a0K Sz.o rfl rfl rfl (by simp[b0M,Value.oneCell']) (by simp[b0M,Value.cells]) (a0R (by simp[b0M,Value.cells])) ?_
 refine go 7 ?_
 rw[b0N]
 refine go 4 ?_
 refine b0C rfl (fun hb11=> ?_) (fun hb11=> ?_)
 ·have hm:data.length%64≠0:=by have h:=hb11;simp only[bne_iff_ne,ne_eq]at h;omega
  refine c0S (fun w h=>c0D h) ?_
  refine go 1 ?_
  refine c0M rfl Hb.o rfl (d0C 4) gSp ?_
  simp only[List.cons_append,List.nil_append]
  refine pn ?_
  exact a0Y (c0U (e1.trans (by rw[if_pos hm];rfl))) (fun _ _ h=>h) gSp
 ·have hm: ¬data.length%64≠0:=by have h:=hb11;simp only[bne_eq_false_iff_eq]at h;omega
  rw[if_neg hm]at e1
  refine go 4 ?_
  refine a0F (a0O Ag.o rfl (by simp[b0M]) (a0I (by simp[b0M]))) ?_
  refine go 3 ?_
  rw[b0N]
  refine go 1 ?_
  rw[show((data.length:Nat):Int)/64=((data.length/64:Nat):Int) by omega]
  refine b0F rfl Hb.o rfl (y0B W a t x at_ ((data.length/64:Nat):Int) (by rw[e1]at hnb;exact c0R hnb)) gSp (fun v t2 ho=> ?_) (fun e t ho=>by(repeat (first|with_reducible refine a0G ?_|with_reducible refine a0M ?_));(refine b0O (fun w h=>c0D h) ?_;exact a0Y (c0U (e1.trans (a0Q ho))) (fun _ _ h=>h) gSp))
  refine ns ?_
  refine go 1 ?_
  obtain⟨h1,h2,h3,h4,h5⟩:=u0X ho
  rw[h1]at ho ⊢
  have e2:=e1.trans (a0A ho)
  clear ho
  obtain⟨k,rfl⟩: ∃k:Nat,at_=k:=⟨at_.toNat,by omega⟩
  rw[Int.toNat_natCast]at e2
  refine go 6 ?_
  refine b0F rfl Hb.o rfl (i1Y W hW a t b4 x k data (by omega) (by omega) (by rw[e2]at hnb;exact c0R hnb)) gSp (fun v ⟨t3,ox⟩ ho=> ?_) (fun e t ho=>by(repeat (first|with_reducible refine a0G ?_|with_reducible refine a0M ?_));(obtain⟨t1,t2⟩:=t;obtain⟨hx,hm⟩:=p0X ho;obtain rfl:t2=none:=congrArg Prod.snd hx;have hm:_=(Out.err e,t1):=hm;simp only[RSo,List.cons_append,List.nil_append];have e4:h0Y id (k:Int) data s=(.err e,t1):=e2.trans (a0Q hm);refine b0O (fun w h=>c0D h) ?_;exact a0Y (c0U e4) (fun _ _ h=>h) gSp))
  refine ns ?_
  refine go 1 ?_
  obtain⟨y,hx,hm⟩:=r0T ho
  obtain rfl:ox=some y:=congrArg Prod.snd hx
  have hm:_=(Out.ok y,t3):=hm
  simp only[RSo,List.cons_append,List.nil_append]
  have e3:h0Y id (k:Int) data s=l0K y t3:=e2.trans (a0A hm)
  refine go 3 ?_
  refine a0F (a0O Ag.o rfl (by simp[b0M]) (a0I (by simp[b0M]))) ?_
  refine b0F rfl Hb.o rfl (u0E W a t3 y (by rw[e3]at hnb;exact hnb)) gSp (fun v t4 ho=> ?_) (fun e t ho=>by(repeat (first|with_reducible refine a0G ?_|with_reducible refine a0M ?_));(refine b0O (fun w h=>c0D h) ?_;exact a0Y (c0U (e3.trans ho)) (fun _ _ h=>h) gSp))
  refine ns ?_
  refine go 1 ?_
  refine b0O (fun w h=>c0D h) ?_
  exact d0X (s:=(t4,.done ())) (m0A (e3.trans ho)) rfl rfl gSp
theorem v1Q (W:World) (hW:h0L W) (a:Ad) (s:St) (id at_:Int) (data:B) (hbits:s.bits≤256) (hdl:data.length≤100000) (hvl:s.vols.length≤1000) (hnb:(h0E id at_ data s).1≠ .big):
 a0S Tryz.prog 21 #[ptr a.core,.int .u32 id,.int .i64 at_,b0H data] (RS W a s) (Ran fT (RS W a) a0V (h0E id at_ data s)):=by
 have e0:h0E id at_ data s=a0B (i0I (e0V 0 (h0Y id at_ data))) (fun r=>ret r.1) s:=rfl
 refine a0C Tryz.func21 rfl Tryz.ntmps21 rfl (fun R w0=> ?_)
 simp only[a0N,List.cons_append,List.nil_append]
 refine go 2 ?_
 refine(a0X rfl (fun b4=> ?_))
 refine(a0X rfl (fun b5=> ?_))
 refine(a0X rfl (fun b6=> ?_))
 refine(a0X rfl (fun b7=> ?_))
 refine go 7 ?_
 refine e0Y (l0O (N:= [f0Z b4 a,j0G b5 id,l2P b7 data,f0M b6 at_]) gSp) ?_
 refine b0F rfl Hb.o rfl (u0F W a (y1I a b4 b5 b7 b6 id at_ data) (fun _:Unit=>b0R []) 0 65 [ptr b4,ptr b5,ptr b7,ptr b6] (h0Y id at_ data) s Hb.o (by omega) hvl (v1P W hW a b4 b5 b7 b6 id at_ data s.bits hbits hdl) (by rw[e0]at hnb;exact c0R hnb)) gSp (fun e ⟨t,oc⟩ ho=> ?_) (fun e t ho=>by(repeat (first|with_reducible refine a0G ?_|with_reducible refine a0M ?_));(exact(m0Z ho).elim))
 refine ns ?_
 refine go 3 ?_
 exact c0I (e0.trans (a0A (t0I ho))) (fun _ _ h=>h) rfl rfl gSp
end
section
def rdR (k:Nat) (x:Ent) (at_ n:Nat) (acc:B) (s:St):Out B×St:=a0B (j0J k x at_ n) (fun r=>ret (acc++r)) s
section
variable {k:Nat} {x:Ent} {at_ n:Nat} {acc b:B} {s t:St} {e:Int}
theorem p2U:rdR k x at_ 0 acc s=(.ok acc,s):=by unfold rdR a0B;cases k<;>simp[j0J,ret]
theorem p2V (hn:n≠0) (h:o0H x (at_/4) s=(.err e,t)):rdR (k+1) x at_ n acc s=(.err e,t):=by
 unfold rdR
 conv=>lhs;unfold j0J
 rw[if_neg hn]
 rw[a0Q]
 exact a0Q h
theorem s2B (hn:n≠0) (h:o0H x (at_/4) s=(.ok b,t)):rdR (k+1) x at_ n acc s=rdR k x (at_+min n (4-at_%4)) (n-min n (4-at_%4)) (acc++(b.drop (at_%4*64)).take (min n (4-at_%4)*64)) t:=by
 unfold rdR
 conv=>lhs;unfold j0J
 rw[if_neg hn]
 dsimp only
 unfold a0B
 rw[h]
 dsimp only
 cases j0J k x (at_+min n (4-at_%4)) (n-min n (4-at_%4)) t with
 |mk o u=>cases o<;>simp[ret]
end
theorem g2J (b:B) (f m:Nat):(bs b).extract ((f:Int)*64).toNat ((((f:Int)+(m:Int)))*64).toNat=bs ((b.drop (f*64)).take (m*64)):=by
 rw[show((f:Int)*64).toNat=f*64 by omega,show((((f:Int)+(m:Int)))*64).toNat=(f+m)*64 by omega,i1A,List.drop_take,show(f+m)*64-f*64=m*64 by omega]
def j1J (b:Nat) (out:B):a0E:=ex fun x:Value×Value=>b0R (m0P (out= []→x.2= .slice none 0 0)::t0D b x.1 x.2 out)
abbrev g2K (a:Ad) (b0 b1 b2 b3 b4:Nat) (id at_ n:Int):a0E:=b0R ([f0Z b0 a,j0G b1 id,f0M b2 at_,f0M b3 n]++t0D b4 (.pointer none) (.slice none 0 0) [])
set_option maxRecDepth 4000 in
attribute [local irreducible] Sl.a0L Sl.OW Sl.CW Sl.OS Sl.OM Sl.OMf Sl.KM
theorem b2Y (W:World) (a:Ad) (b0 b1 b2 b3 b4:Nat) (id at_ n:Int) (bits:Nat):
 q0J W a (g2K a b0 b1 b2 b3 b4 id at_ n) (j1J b4) 58 [ptr b0,ptr b1,ptr b2,ptr b3,ptr b4] bits (n0P id at_ n):=by
 intro s hsb hnb
 have e0:n0P id at_ n s=a0B (find id) (fun x=>a0B (g0T x at_ n) fun _=>j0J n.toNat x at_.toNat n.toNat) s:=rfl
 simp only[List.cons_append,List.nil_append]
 refine a0C Tryz.func58 rfl Tryz.ntmps58 rfl (fun R w0=> ?_)
 simp only[a0N,List.cons_append,List.nil_append]
 refine l0A (show Fnd _ (b0R ([f0Z b0 a,j0G b1 id,f0M b2 at_,f0M b3 n]++t0D b4 (.pointer none) (.slice none 0 0) [])) _ from gFd) ?_
 simp only[List.cons_append,List.nil_append]
 refine o0Z (p:=l0L s.d) gFd fun hdk=> ?_
 refine go 4 ?_
 refine b0F rfl Hb.o rfl (u0D W a s id) gSp (fun x t ho=> ?_) (fun e t ho=>by(repeat (first|with_reducible refine a0G ?_|with_reducible refine a0M ?_));(refine b0O (fun w h=>c0D h) ?_;exact a0Y (c0U (e0.trans (a0Q ho))) (fun _ _ h=>h) gSp))
 refine ns ?_
 have hts:t=s:=by have h:=ho;unfold find at h;split at h<;>cases h;rfl
 rw[hts]at ho ⊢
 have e1:=e0.trans (a0A ho)
 clear ho hts
 refine(a0U Zr.o (fun b5=> ?_))
 refine a0K Sz.o rfl rfl rfl (by simp[b0M,Value.oneCell']) (by simp[b0M,Value.cells]) (a0R (by simp[b0M,Value.cells])) ?_
 refine go 4 ?_
 refine a0F (a0O Ag.o rfl (by simp[b0M]) (a0I (by simp[b0M]))) ?_
 refine go 2 ?_
 refine b0F rfl Hb.o rfl (y0B W a s x at_ n (by rw[e1]at hnb;exact c0R hnb)) gSp (fun v t2 ho=> ?_) (fun e t ho=>by(repeat (first|with_reducible refine a0G ?_|with_reducible refine a0M ?_));(refine b0O (fun w h=>c0D h) ?_;exact a0Y (c0U (e1.trans (a0Q ho))) (fun _ _ h=>h) gSp))
 refine ns ?_
 refine go 1 ?_
 obtain⟨h1,h2,h3,h4,h5⟩:=u0X ho
 rw[h1]at ho ⊢
 have e2:=e1.trans (a0A ho)
 clear ho
 obtain⟨k,rfl⟩: ∃k:Nat,at_=k:=⟨at_.toNat,by omega⟩
 obtain⟨m,rfl⟩: ∃k:Nat,n=k:=⟨n.toNat,by omega⟩
 rw[Int.toNat_natCast,Int.toNat_natCast]at e2
 have e3:n0P id (k:Int) (m:Int) s=rdR m x k m [] s:=by rw[e2];unfold rdR a0B;cases j0J m x k m s with|mk o u=>cases o<;>rfl
 refine go 2 ?_
 refine b0S (X:= {y:Nat×Nat×Nat×B×Value×Value // y.2.2.1≤y.1∧y.2.1+y.2.2.1≤5000∧y.2.2.2.1.length+64*y.2.2.1≤320000∧(y.2.2.2.2.1= .pointer none∨y.2.2.2.2.1=ptr b4)∧(y.2.2.2.1= []→y.2.2.2.2.2= .slice none 0 0)∧n0P id (k:Int) (m:Int) s=rdR y.1 x y.2.1 y.2.2.1 y.2.2.2.1 s}) (fun y=> [(0,ptr b0),(2,ptr b2),(3,ptr b3),(4,ptr b4),(5,ptr b5)]) (fun y=>RS W a s++(t0D b4 y.1.2.2.2.2.1 y.1.2.2.2.2.2 y.1.2.2.2.1++ [f0Z b0 a,f0M b2 y.1.2.1,f0M b3 y.1.2.2.1,s0K b5 x,R])) (fun y=>y.1.1) ⟨(m,k,m,[],.pointer none,.slice none 0 0),Nat.le_refl _,by(show k+m≤5000);omega,by(show 0+64*m≤320000);omega,.inl rfl,fun _=>rfl,e3⟩ gSu gSp ?_
 rintro⟨⟨j,at',n',acc,p,v'⟩,hj,ha,hl,hp,hv,he⟩ m0 hm0
 try simp only at hm0
 try dsimp only
 simp only at hj ha hl hp hv he
 simp only[List.cons_append,List.nil_append]
 refine go 7 ?_
 refine b0C rfl (fun hb16=> ?_) (fun hb16=> ?_)
 ·have hn0:n'≠0:=by have h:=hb16;simp only[decide_eq_true_eq]at h;omega
  obtain⟨i,rfl⟩: ∃i,j=i+1:=⟨j-1,by omega⟩
  obtain⟨f,hf⟩: ∃f,f=at'%4:=⟨_,rfl⟩
  have hf4:f<4:=by omega
  obtain⟨q,hq⟩: ∃q,q=min n' (4-f):=⟨_,rfl⟩
  refine go 7 ?_
  rw[show((at':Nat):Int)%4=(f:Int) by omega]
  refine go 9 ?_
  rw[show min ((n':Nat):Int) (4- (f:Int))=(q:Int) by omega]
  refine go 6 ?_
  refine a0F (a0O Ag.o rfl (by simp[b0M]) (a0I (by simp[b0M]))) ?_
  refine go 2 ?_
  rw[show((at':Nat):Int)/4=((at'/4:Nat):Int) by omega]
  refine b0F rfl Hb.o rfl (f2S W a s x (at'/4) (by omega)) gSp (fun b t ho=> ?_) (fun e t ho=>by(repeat (first|with_reducible refine a0G ?_|with_reducible refine a0M ?_));(have hts:=l1F x (at'/4) s;rw[ho]at hts;have hts:t=s:=hts;subst hts;refine b0O (fun w h=>c0D h) ?_;exact a0Y (c0U (he.trans (p2V hn0 ho))) (fun _ _ h=>h) gSp))
  refine ns ?_
  obtain⟨hts,hbl⟩:=r1X hdk ho
  rw[hts]at ho
  have hbs:(bs b).size=256:=by rw[b0N,hbl]
  rw[s2B hn0 ho,←hf,←hq]at he
  refine go 6 ?_
  refine a0F (d1I Tst.o rfl rfl rfl (by omega)) ?_
  rw[g2J b f q]
  refine a0W rfl Hb.o rfl (z0Y b4 p v' hp acc ((b.drop (f*64)).take (q*64)) (by omega) (by rw[List.length_take,List.length_drop];omega)) gSp ?_
  rintro v35 hv35
  refine ns ?_
  refine go 2 ?_
  refine d0H (.soft 1 (.soft 4 (.two 0 (.soft 2 (.two 3 (.soft 5 (.hard 6 (.hard 7 .done))) 6 (.hard 3 (.soft 5 (.hard 7 .done))))) 3 (.soft 5 (.hard 0 (.soft 2 (.hard 6 (.hard 7 .done)))))))) [] Fol.o (by kernel_rfl) (by repeat (first|with_reducible exact a0J.bp|with_reducible apply a0J.then|with_reducible apply a0J.inBlock)) gSp ?_
  refine go 2 ?_
  refine h1J rfl rfl ?_ ?_
  ·refine go 4 ?_
   refine h1J rfl rfl ?_ ?_
   ·refine go 13 ?_
    rw[show((at':Nat):Int)+(q:Int)=((at'+q:Nat):Int) by omega,show((n':Nat):Int)- (q:Int)=((n'-q:Nat):Int) by omega]
    refine b0Q (fun _ _ h=>h) (⟨(i,at'+q,n'-q,acc++(b.drop (f*64)).take (q*64),ptr b4,v35),by(show n'-q≤i);omega,by(show at'+q+(n'-q)≤5000);omega,by(show(acc++(b.drop (f*64)).take (q*64)).length+64*(n'-q)≤320000);rw[List.length_append,List.length_take,List.length_drop];omega,.inr rfl,fun h=>by have h:=congrArg List.length h;simp only[List.length_append,List.length_take,List.length_drop,List.length_nil]at h;omega,he⟩) (by first|omega| (simp only;omega)) gSu gSp
   ·refine go 13 ?_
    rw[show((at':Nat):Int)+(q:Int)=((at'+q:Nat):Int) by omega,show((n':Nat):Int)- (q:Int)=((n'-q:Nat):Int) by omega]
    refine b0Q (fun _ _ h=>h) (⟨(i,at'+q,n'-q,acc++(b.drop (f*64)).take (q*64),ptr b4,v35),by(show n'-q≤i);omega,by(show at'+q+(n'-q)≤5000);omega,by(show(acc++(b.drop (f*64)).take (q*64)).length+64*(n'-q)≤320000);rw[List.length_append,List.length_take,List.length_drop];omega,.inr rfl,fun h=>by have h:=congrArg List.length h;simp only[List.length_append,List.length_take,List.length_drop,List.length_nil]at h;omega,he⟩) (by first|omega| (simp only;omega)) gSu gSp
  ·refine go 18 ?_
   rw[show((at':Nat):Int)+(q:Int)=((at'+q:Nat):Int) by omega,show((n':Nat):Int)- (q:Int)=((n'-q:Nat):Int) by omega]
   refine b0Q (fun _ _ h=>h) (⟨(i,at'+q,n'-q,acc++(b.drop (f*64)).take (q*64),ptr b4,v35),by(show n'-q≤i);omega,by(show at'+q+(n'-q)≤5000);omega,by(show(acc++(b.drop (f*64)).take (q*64)).length+64*(n'-q)≤320000);rw[List.length_append,List.length_take,List.length_drop];omega,.inr rfl,fun h=>by have h:=congrArg List.length h;simp only[List.length_append,List.length_take,List.length_drop,List.length_nil]at h;omega,he⟩) (by first|omega| (simp only;omega)) gSu gSp
 ·obtain rfl:n'=0:=by have h:=hb16;simp only[decide_eq_false_iff_not]at h;omega
  rw[p2U]at he
  have hdone: ∀w,Sat w (t0D b4 p v' acc++(RS W a s++ [R]))→Sat w (j1J b4 acc::(RS W a s++ [R])):=fun w h=>l0Q.2 ⟨(p,v'),c0A.2 (o0F hv w h)⟩
  refine c0S (L':=j1J b4 acc::(RS W a s++ [R])) (fun w h=>hdone w (((h.perm (show b0L _ (t0D b4 p v' acc++(RS W a s++ [R])) _ from gSp)).perm List.perm_append_comm).drop)) ?_
  simp only[List.cons_append,List.nil_append]
  refine go 1 ?_
  exact d0X (s:=(s,.done acc)) (m0A he) rfl rfl gSp
end
section
theorem g2L {α:Type} {m:M α} {s t:St} {y:α} {e:Int} (h:n0T (g0C m) (s,.start)=(.ok e,(t,.done y))): ∃u,m {s with depth:=s.depth+1} =(.ok y,u):=by
 unfold n0T n0H a0B g0C at h
 simp only at h
 split at h<;>rename_i h1
 ·simp only[Prod.mk.injEq,Out.ok.injEq]at h
  obtain⟨rfl,h2,h3⟩:=h
  split at h1
  ·cases h1
  ·rename_i hd
   cases hm:m {s with depth:=s.depth+1} with
   |mk o u=>
    rw[hm]at h1
    cases o with
    |ok a=>
     simp only at h1
     split at h1
     ·cases h1
     ·cases h1;cases h3;exact⟨_,rfl⟩
    |err e'=>
     simp only at h1
     split at h1
     ·cases h1
     ·cases h1;cases h3
    |big=>cases h1
 ·cases h
 ·cases h
def b2Z (p:B×Int):Value:= .tuple #[b0H p.1,.int .i64 p.2]
set_option maxRecDepth 4000 in
attribute [local irreducible] Sl.a0L Sl.OW Sl.CW Sl.OS Sl.OM Sl.OMf Sl.KM
theorem c2A (W:World) (a:Ad) (s:St) (id at_ n:Int) (hlen: ∀ {b:B} {t:St},n0P id at_ n {s with depth:=s.depth+1} =(.ok b,t)→b.length≤1000000) (hnb:(o0T id at_ n s).1≠ .big):
 a0S Tryz.prog 19 #[ptr a.core,.int .u32 id,.int .i64 at_,.int .i64 n] (RS W a s) (Ran fT (RS W a) b2Z (o0T id at_ n s)):=by
 have e0:o0T id at_ n s=a0B (i0I (n0P id at_ n)) (fun r=>ret (if r.1=0 then(a1I [] r.2,0)else([],r.1))) s:=rfl
 have hn:=g1M (show(i0I (n0P id at_ n) s).1≠ .big by rw[e0]at hnb;exact c0R hnb)
 refine a0C Tryz.func19 rfl Tryz.ntmps19 rfl (fun R w0=> ?_)
 simp only[a0N,List.cons_append,List.nil_append]
 refine go 2 ?_
 refine(a0X rfl (fun b4=> ?_))
 refine(a0X rfl (fun b5=> ?_))
 refine(a0X rfl (fun b6=> ?_))
 refine(a0X rfl (fun b7=> ?_))
 refine go 6 ?_
 refine(a0U Zr.o (fun b10=> ?_))
 refine go 3 ?_
 refine c0S (L':=t0D b10 (.pointer none) (.slice none 0 0) []++_) (fun w hs=>h0S 5 1 w hs |>.perm (List.Perm.swap _ _ _)) ?_
 simp only[List.cons_append,List.nil_append]
 refine go 4 ?_
 refine a0F (k0W Sc.o rfl gFd rfl) ?_
 refine go 1 ?_
 refine e0Y (l0O (N:= [f0Z b4 a,j0G b5 id,f0M b6 at_,f0M b7 n]++t0D b10 (.pointer none) (.slice none 0 0) []) gSp) ?_
 refine b0F rfl Hb.o rfl (w0D (C:=Car B) W a (w0P (g2K a b4 b5 b6 b7 b10 id at_ n) (j1J b10)) 58 [ptr b4,ptr b5,ptr b6,ptr b7,ptr b10] (g0C (n0P id at_ n)) s .start Hb.o hn (fun h=>b2Y W a b4 b5 b6 b7 b10 id at_ n s.bits {s with depth:=s.depth+1} rfl (c1T.1 h))) gSp (fun e ⟨t,oc⟩ ho=> ?_) (fun e t ho=>by(repeat (first|with_reducible refine a0G ?_|with_reducible refine a0M ?_));(exact(m0Z ho).elim))
 refine ns ?_
 refine go 2 ?_
 have e1:=e0.trans (a0A (t0I ho))
 refine go 8 ?_
 refine b0C rfl (fun hb19=> ?_) (fun hb19=> ?_)
 ·have hz:e≠0:=by have h:=hb19;simp only[bne_iff_ne,ne_eq]at h;exact h
  refine go 7 ?_
  exact c0I (by rw[e1,if_neg hz];rfl) (fun _ _ h=>h) rfl rfl gSp
 ·have hz:e=0:=by have h:=hb19;simp only[bne_eq_false_iff_eq]at h;exact h
  obtain⟨y,rfl,_⟩| ⟨_,h9⟩:=e1D ho
  rotate_left
  ·exact(h9 hz).elim
  simp only[w0P]
  subst hz
  have hyl:y.length≤1000000:=by obtain⟨u,hu⟩:=g2L ho;exact hlen hu
  refine b1K (show Fnd _ (j1J b10 y) _ from gFd) fun x=> ?_
  obtain⟨p,v⟩:=x
  simp only[List.cons_append,List.nil_append]
  refine o0Z (p:=y= []→v= .slice none 0 0) gFd fun hv=> ?_
  refine go 3 ?_
  by_cases hy0:y= []
  ·refine go 1 ?_
   have hv2:=hv hy0
   subst hy0
   subst hv2
   refine a0D rfl Hb.o rfl (o1F b10 p) gSp ?_
   refine ns ?_
   refine go 5 ?_
   exact c0I (by rw[e1,if_pos rfl];rfl) (fun _ _ h=>h) rfl rfl gSp
  ·refine go 1 ?_
   refine a0D rfl Hb.o rfl (c1J b10 p v y hy0 hyl) gSp ?_
   refine ns ?_
   refine go 5 ?_
   exact c0I (by rw[e1,if_pos rfl];rfl) (fun _ _ h=>h) rfl rfl gSp
end
end Go.Proofs.Q

/- Part of the proof; no statement of its own. -/
import Derived.Test.YtpinhnikemamjaaGreatDoorB16
import Derived.Test.YtpinhnikemamjaaGreatDoorB08
import Derived.Test.YtpinhnikemamjaaGreatDoorB24
import Derived.Test.YtpinhnikemamjaaGreatDoorB17
import Derived.Test.YtpinhnikemamjaaGreatDoorB26
import Derived.Test.YtpinhnikemamjaaGreatDoorB27
set_option linter.all false
set_option maxRecDepth 4000
set_option maxHeartbeats 4000000
namespace Go.Proofs.Q
open Go.Sl Go.Sb
section
attribute [local irreducible] Sl.a0L Sl.OW Sl.CW Sl.OS Sl.OM Sl.OMf Sl.KM
theorem g2Z (W:World) (a:Ad) (s:St) (root:Int):a0S Tryz.prog 52 #[ptr a.maps,.int .i64 root] (RS W a s) (Ran fT (RS W a) e0J (f1P root s)):=by
 have e0:f1P root s=a0B (Go.Sb.load root 2) (fun n=>ret n.sum) s:=rfl
 refine a0C Tryz.func52 rfl Tryz.ntmps52 rfl (fun R w0=> ?_)
 simp only[a0N,List.cons_append,List.nil_append]
 refine go 2 ?_
 refine(a0U Zr.o (fun b4=> ?_))
 refine go 6 ?_
 refine b0F rfl Hb.o rfl (r0S W a s root 2) gSp (fun x t ho=> ?_) (fun e t ho=>by(repeat (first|with_reducible refine a0G ?_|with_reducible refine a0M ?_));exact a0Y ((by rw[e0];exact a0Q ho)) (fun _ _ h=>h) gSp)
 refine ns ?_
 have hln:=(i0H ho).2
 have e1:=e0.trans (a0A ho)
 have hs2:(x.sum.map a0Z).toArray.size=32:=by rw[List.size_toArray,List.length_map,hln.sum]
 refine a0F (r0X (v:=(x.sum.map a0Z).toArray) F.fa182_2 rfl (x1R hln)) ?_
 refine a0K Sz.o rfl rfl hs2 (fun x hx=>by simp at hx;obtain⟨_,_,rfl⟩:=hx;rfl) (by rw[hs2];simp[Value.cells]) (a0R (by rw[hs2];simp[Value.cells])) ?_
 refine go 2 ?_
 exact j0H e1 (fun _ _ h=>h) (RV.agg Ag.o rfl (by rw[hs2];omega) (a0I hs2) RV.nil) rfl gSp
theorem m2C {root:Int} {s t:St} {v:B} (h:f1P root s=(.ok v,t)):v.length=32:=by
 unfold f1P at h
 cases hg:Go.Sb.load root 2 s with
 |mk o u=>
  cases o with
  |ok x=>rw[a0A hg]at h;cases h;exact(i0H hg).2.sum
  |err e=>rw[a0Q hg]at h;cases h
  |big=>unfold a0B at h;rw[hg]at h;cases h
abbrev w0R (b:Nat) (v:B):a0E:=pts b (.cells (v.map a0Z).toArray 44 (0,0))
abbrev m2V (a:Ad) (b0 b1 b2:Nat) (id:Int):a0E:=b0R [f0Z b0 a,j0G b1 id,w0R b2 (a0T 32)]
theorem c2M (W:World) (a:Ad) (b0 b1 b2:Nat) (id:Int) (bits:Nat):
 q0J W a (m2V a b0 b1 b2 id) (fun v:B=>b0R [m0P (v.length=32),w0R b2 v]) 51 [ptr b0,ptr b1,ptr b2] bits (c1V id):=by
 intro s hsb hnb
 have e0:c1V id s=a0B (find id) (fun x=>f1P x.root) s:=rfl
 simp only[List.cons_append,List.nil_append]
 refine a0C Tryz.func51 rfl Tryz.ntmps51 rfl (fun R w0=> ?_)
 simp only[a0N,List.cons_append,List.nil_append]
 refine l0A (show Fnd _ (b0R [f0Z b0 a,j0G b1 id,w0R b2 (a0T 32)]) _ from gFd) ?_
 simp only[List.cons_append,List.nil_append]
 refine l1E (.soft 0 (.soft 1 (.soft 2 (.soft 3 (.soft 4 (.soft 5 (.hard 6 (.soft 7 (.hard 8 (.hard 9 .done)))))))))) [HLX a,f0Z b0 a,j0G b1 id] Fol.o (by kernel_rfl) (by repeat (first|with_reducible exact a0J.bp|with_reducible apply a0J.then|with_reducible apply a0J.inBlock)) (i0W gSp) ?_
 refine go 3 ?_
 refine d0D rfl (e1C Sc.o rfl gFd (fun _ _=>rfl)) ?_
 refine go 3 ?_
 refine b0F rfl Hb.o rfl (u0D W a s id) gSp (fun x t ho=> ?_) (fun e t ho=>by(repeat (first|with_reducible refine a0G ?_|with_reducible refine a0M ?_));(refine b0O (fun w h=>c0D h) ?_;exact a0Y (c0U (e0.trans (a0Q ho))) (fun _ _ h=>h) gSp))
 refine ns ?_
 refine go 1 ?_
 refine j0N (i0W gSp) ?_
 have e1:=e0.trans (a0A ho)
 clear ho
 refine d0D rfl (n2B F.fs50_4 rfl rfl) ?_
 refine go 1 ?_
 refine b0F rfl Hb.o rfl (g2Z W a t x.root) gSp (fun v t2 ho=> ?_) (fun e t ho=>by(repeat (first|with_reducible refine a0G ?_|with_reducible refine a0M ?_));(refine b0O (fun w h=>c0D h) ?_;exact a0Y (c0U (e1.trans ho)) (fun _ _ h=>h) gSp))
 refine ns ?_
 refine go 1 ?_
 refine j0N (i0W gSp) ?_
 refine go 1 ?_
 have hvl:=m2C ho
 have hs2:(v.map a0Z).toArray.size=32:=by rw[List.size_toArray,List.length_map,hvl]
 refine a0K Sz.o rfl rfl hs2 (fun x hx=>by simp at hx;obtain⟨_,_,rfl⟩:=hx;rfl) (by rw[hs2];simp[a0T]) (a0R (by rw[hs2];simp[a0T])) ?_
 refine go 1 ?_
 refine j0N (i0W gSp) ?_
 refine go 1 ?_
 refine b0O (L':=b0R [m0P (v.length=32),w0R b2 v]::(RS W a t2++ [R])) (fun w h=>c0A.2 ?_) ?_
 ·simp only[List.cons_append,List.nil_append]
  exact o0F hvl w (h.sub gSp)
 ·exact d0X (s:=(t2,.done v)) (m0A (e1.trans ho)) rfl rfl gSp
def m2W (p:B×Int):Value:= .tuple #[e0J p.1,.int .i64 p.2]
set_option maxRecDepth 8000
theorem h2A (W:World) (a:Ad) (s:St) (id:Int) (hnb:(t0W id s).1≠ .big):a0S Tryz.prog 13 #[ptr a.core,.int .u32 id] (RS W a s) (Ran fT (RS W a) m2W (t0W id s)):=by
 have e0:t0W id s=a0B (i0I (c1V id)) (fun r=>if r.1=0 then ret (a1I (a0T 32) r.2,0)else fun s=>(.big,s)) s:=rfl
 have hn:=g1M (show(i0I (c1V id) s).1≠ .big by rw[e0]at hnb;exact c0R hnb)
 refine a0C Tryz.func13 rfl Tryz.ntmps13 rfl (fun R w0=> ?_)
 simp only[a0N,List.cons_append,List.nil_append]
 refine go 2 ?_
 refine(a0X rfl (fun b2=> ?_))
 refine(a0X rfl (fun b3=> ?_))
 refine(a0U Zr.o (fun b4=> ?_))
 refine go 5 ?_
 refine(a0U Zr.o (fun b6=> ?_))
 refine go 7 ?_
 refine a0F (k0W Sc.o rfl gFd rfl) ?_
 refine go 1 ?_
 refine e0Y (l0O (N:= [f0Z b2 a,j0G b3 id,w0R b6 (a0T 32)]) gSp) ?_
 refine b0F rfl Hb.o rfl (w0D (C:=Car B) W a (w0P (m2V a b2 b3 b6 id) (fun v:B=>b0R [m0P (v.length=32),w0R b6 v])) 51 [ptr b2,ptr b3,ptr b6] (g0C (c1V id)) s .start Hb.o hn (fun h=>c2M W a b2 b3 b6 id s.bits {s with depth:=s.depth+1} rfl (c1T.1 h))) gSp (fun e ⟨t,oc⟩ ho=> ?_) (fun e t ho=>by(repeat (first|with_reducible refine a0G ?_|with_reducible refine a0M ?_));(exact(m0Z ho).elim))
 refine ns ?_
 refine go 2 ?_
 have e1:=e0.trans (a0A (t0I ho))
 refine go 2 ?_
 have hz:e=0:=by
  by_cases h:e=0
  ·exact h
  ·rw[e1,if_neg h]at hnb;exact absurd rfl hnb
 obtain⟨y,rfl,_⟩| ⟨_,h9⟩:=e1D ho
 rotate_left
 ·exact(h9 hz).elim
 simp only[w0P]
 subst hz
 refine l0A (show Fnd _ (b0R [m0P (y.length=32),w0R b6 y]) _ from gFd) ?_
 simp only[List.cons_append,List.nil_append]
 refine o0Z (p:=y.length=32) gFd fun hyl=> ?_
 have hs2:(y.map a0Z).toArray.size=32:=by rw[List.size_toArray,List.length_map,hyl]
 refine go 1 ?_
 refine a0F (a0O Ag.o rfl (by rw[hs2];omega) (a0I hs2)) ?_
 refine go 1 ?_
 refine a0K Sz.o rfl rfl hs2 (fun x hx=>by simp at hx;obtain⟨_,_,rfl⟩:=hx;rfl) (by rw[hs2];simp[Value.cells]) (a0R (by rw[hs2];simp[Value.cells])) ?_
 refine go 3 ?_
 exact j0H (by rw[e1,if_pos rfl];rfl) (fun _ _ h=>h) (RV.agg Ag.o rfl (by rw[hs2];omega) (a0I hs2) (RV.tmp rfl RV.nil)) rfl gSp
end
end Go.Proofs.Q
namespace Go.Sb
section
theorem d0P {K V:Type} [DecidableEq K] (k j:K) (v:V) (m:List (K×V)):a0H j ((k,v)::m)=if k=j then some v else a0H j m:=rfl
theorem n1T (a:Int): ∀ {G:Gh},(∀p∈G,(g0Y p.2).length≤8)→p0W G a≤8*G.length
 | [],_=>by simp[p0W]
 | (i,o)::G,h=>by
  have h1:=n1T a (G:=G) fun p hp=>h p (List.mem_cons_of_mem _ hp)
  have h2:=h (i,o) (List.mem_cons_self ..)
  have h3:(g0Y o).count a≤(g0Y o).length:=List.count_le_length
  rw[p0D,List.length_cons]
  simp only at h2
  omega
theorem q2A {G:Gh} {o:Ob} (h:w0K G o):(g0Y o).length≤8:=by
 cases o with
 |part b=>simp[g0Y]
 |ext d ats=>have:=h.2.2.1;simp[g0Y];omega
 |node l ks s=>have:=h.2.1;simp[g0Y];omega
theorem n1U {x:Int} (h0: -9223372036854775808≤x) (h:x<9223372036854775808):m0D x=x:=by unfold m0D;omega
theorem n0A (G:Gh) (P:List Int) (a x:Int):f0Y G (a::P) x=f0Y G P x+if a=x then 1 else 0:=by
 unfold f0Y;rw[List.count_cons];by_cases e:a=x<;>simp[e]<;>omega
theorem s1Y (G:Gh) (K P:List Int) (x:Int):f0Y G (K++P) x=K.count x+f0Y G P x:=by unfold f0Y;rw[List.count_append];omega
section
variable {s:St} {G:Gh} {P:List Int}
theorem Inv.few (h:Inv s G P) (hP:P.length≤1000000) (a:Int):f0Y G P a≤2000000:=by
 have h1:=n1T a (G:=G) fun p hp=>q2A (h.typ p.1 p.2 ((g0X h.nod).2 hp))
 have h2:P.count a≤P.length:=List.count_le_length
 have h3:=h.cnt
 have h4:s.g.count 1≤s.g.length:=List.count_le_length
 have h5:=h.hi
 unfold f0Y;omega
theorem y1L {a k:Int} (hG:mok G) (hk:k≠a) {l:Nat} (h:b0K G l k):b0K (b0I a G) l k:=by
 cases l with
 |zero=>exact h.imp id fun⟨d,ats,e⟩=>⟨d,ats,by rw[c0V a k hG,if_neg (Ne.symm hk)];exact e⟩
 |succ l=>exact h.imp id fun⟨d,ats,e⟩=>⟨d,ats,by rw[c0V a k hG,if_neg (Ne.symm hk)];exact e⟩
theorem q2B {a k:Int} (hG:mok G) (hk:k≠a):f0I (b0I a G) k=f0I G k:=by unfold f0I;rw[c0V a k hG,if_neg (Ne.symm hk)]
theorem s2F {a:Int} (hG:mok G) {o:Ob} (hk:a ∉ g0Y o) (h:w0K G o):w0K (b0I a G) o:=by
 cases o with
 |part b=>exact h
 |ext d ats=>
  obtain⟨t1,t2,t3,t4⟩:=h
  refine⟨t1,t2,t3,fun k hk4=> ?_⟩
  have:=t4 k hk4
  unfold w0J at this ⊢
  split at this
  ·rename_i hz;rw[if_pos hz];exact this
  ·rename_i hz;rw[if_neg hz]
   refine⟨this.1,?_⟩
   have hne:ats.getD k 0≠a:=fun e=>hk (by show a∈ats;rw[←e];exact g0I (by omega))
   rw[c0V a _ hG,if_neg (Ne.symm hne)];exact this.2
 |node l ks sm=>
  obtain⟨t1,t2,t3,t4,t5⟩:=h
  refine⟨t1,t2,t3,fun k hm=>y1L hG (fun e=>hk (by subst e;exact hm)) (t4 k hm),?_⟩
  rw[t5]
  congr 1
  exact List.map_congr_left fun k hm=>(q2B hG (fun e=>hk (by subst e;exact hm))).symm
theorem q2C {a k:Int} {o:Ob} (hn:a0H a G=none) {l:Nat} (h:b0K G l k):b0K ((a,o)::G) l k:=by
 have key: ∀u,a0H k G=some u→a0H k ((a,o)::G)=some u:=fun u e=>by
  rw[d0P,if_neg (fun e2=>by rw[e2]at hn;rw[hn]at e;cases e)];exact e
 cases l with
 |zero=>exact h.imp id fun⟨d,ats,e⟩=>⟨d,ats,key _ e⟩
 |succ l=>exact h.imp id fun⟨d,ats,e⟩=>⟨d,ats,key _ e⟩
theorem j0Q {k:Int} {l:Nat} (h:b0K G l k):k=0∨(a0H k G).isSome=true:=by
 cases l with
 |zero=>exact h.imp id fun⟨d,ats,e⟩=>by rw[e];rfl
 |succ l=>exact h.imp id fun⟨d,ats,e⟩=>by rw[e];rfl
theorem q2D {a k:Int} {o:Ob} (h:k≠a):f0I ((a,o)::G) k=f0I G k:=by unfold f0I;rw[d0P,if_neg (Ne.symm h)]
theorem h2B {a:Int} {u:Ob} (hn:a0H a G=none) (ha:a≠0) {o:Ob} (h:w0K G o):w0K ((a,u)::G) o:=by
 have key: ∀k v,a0H k G=some v→a0H k ((a,u)::G)=some v:=fun k v e=>by
  rw[d0P,if_neg (fun e2=>by rw[←e2,hn]at e;cases e)];exact e
 cases o with
 |part b=>exact h
 |ext d ats=>
  obtain⟨t1,t2,t3,t4⟩:=h
  refine⟨t1,t2,t3,fun k hk4=> ?_⟩
  have:=t4 k hk4
  unfold w0J at this ⊢
  split at this
  ·rename_i hz;rw[if_pos hz];exact this
  ·rename_i hz;rw[if_neg hz];exact⟨this.1,key _ _ this.2⟩
 |node l ks sm=>
  obtain⟨t1,t2,t3,t4,t5⟩:=h
  refine⟨t1,t2,t3,fun k hm=>q2C hn (t4 k hm),?_⟩
  rw[t5]
  congr 1
  refine List.map_congr_left fun k hm=>(q2D fun e=> ?_).symm
  rcases j0Q (t4 k hm)with h0|h1
  ·exact ha (e▸h0)
  ·rw[e,hn]at h1;cases h1
theorem Inv.more (h:Inv s G P) {a:Int} {o:Ob} (ho:a0H a G=some o) (hd:0<s.depth) (hl:s.log.length<1000000000) (hP:P.length≤1000000):
 ∃s',j0X a s=(.ok (),s')∧Inv s' G (a::P)∧Rel 1 0 s s'∧s'.index=s.index∧s'.keep=s.keep∧s'.vols=s.vols∧s'.next=s.next:=by
 have h0:=h.need_pos ho
 have h1:=h.refsOf (h.ne0 ho)
 have h2:=h.few hP a
 have e:j0X a s=(.ok (),{s with log:=bk s.depth s.log (.refs a (a0H a s.refs)),refs:=c0F a ((f0Y G P a+1:Nat):Int) s.refs}):=by
  unfold j0X
  rw[if_neg (by omega),h1,n1U (by omega) (by omega)]
  simp[g0S,a0B,back,show ¬1000000000≤s.log.length by omega]
 have r:=z0S a s hd h.u (by rw[e];simp)
 rw[e]at r
 refine⟨_,e,⟨r.ok,h.nod,h.lo,h.hi,fun x hx=> ?_,fun x hx=> ?_,h.zero,h.held,h.disk,h.typ,h.cnt⟩,r,rfl,rfl,rfl,rfl⟩
 ·show a0H x (c0F a _ s.refs)=_
  rw[i0T,n0A]
  by_cases e:a=x
  ·subst e;simp
  ·rw[if_neg e,if_neg e];exact h.refs x hx
 ·rw[n0A]
  by_cases e:a=x
  ·subst e;simp[ho]
  ·rw[if_neg e];exact h.live x hx
theorem Inv.less2 {a:Int} (h:Inv s G (a::P)) {o:Ob} (ho:a0H a G=some o) (hd:0<s.depth) (hl:s.log.length<1000000000) (hP:P.length<1000000) (hn:f0Y G P a≠0):
 ∃s',e0I a s=(.ok false,s')∧Inv s' G P∧Rel 4 0 s s'∧s'.index=s.index∧s'.keep=s.keep∧s'.vols=s.vols∧s'.next=s.next:=by
 have h1:=h.refsOf (h.ne0 ho)
 have h2:=h.few (by simp;omega) a
 have h3:=h.range ho
 have h4:=n0A G P a a
 simp at h4
 have e:e0I a s=(.ok false,{s with log:=bk s.depth s.log (.refs a (a0H a s.refs)),refs:=c0F a (f0Y G P a:Int) s.refs}):=by
  unfold e0I
  rw[if_neg (by simp[inR];omega),if_neg (by omega),if_neg (by omega),h1,h4,show((f0Y G P a+1:Nat):Int)-1=f0Y G P a by omega,n1U (by omega) (by omega)]
  simp[g0S,a0B,back,show ¬1000000000≤s.log.length by omega,ret]
 have r:=w0E a s hd h.u (by rw[e];simp)
 rw[e]at r
 refine⟨_,e,⟨r.ok,h.nod,h.lo,h.hi,fun x hx=> ?_,fun x hx=> ?_,h.zero,h.held,h.disk,h.typ,h.cnt⟩,r,rfl,rfl,rfl,rfl⟩
 ·show a0H x (c0F a _ s.refs)=_
  rw[i0T]
  by_cases e:a=x
  ·subst e;simp[hn]
  ·rw[if_neg e];have:=h.refs x hx;rw[n0A,if_neg e]at this;exact this
 ·by_cases e:a=x
  ·subst e;simp[ho,hn]
  ·have:=h.live x hx;rw[n0A,if_neg e]at this;exact this
theorem Inv.less1 {a:Int} (h:Inv s G (a::P)) {o:Ob} (ho:a0H a G=some o) (hd:0<s.depth) (hl:s.log.length+4<1000000000) (hg:s.gone.length+1<1000000000) (hn:f0Y G P a=0):
 ∃s',e0I a s=(.ok true,s')∧Inv s' (b0I a G) (g0Y o++P)∧Rel 4 0 s s'∧s'.index=s.index∧s'.keep=s.keep∧s'.vols=s.vols∧s'.next=s.next:=by
 have h1:=h.refsOf (h.ne0 ho)
 have h3:=h.range ho
 have h4:=n0A G P a a
 simp only[if_true,hn]at h4
 have hB:=(h.held a).2 (by rw[ho];rfl)
 have bl: ∀(log:List c0Y) st,(bk s.depth log st).length=log.length+1:=fun log st=>by simp[bk,hd]
 have e: ∃yg gn lg,e0I a s=(.ok true,{s with refs:=b0I a s.refs,g:=mvL s.fr s.g a 1 2,young:=yg,gone:=gn,log:=lg}):=by
  unfold e0I
  rw[if_neg (by simp[inR];omega),if_neg (by omega),if_pos (by omega)]
  have e1:k0F a s=(.ok (),{s with log:=bk s.depth s.log (.refs a (a0H a s.refs)),refs:=b0I a s.refs}):=by
   simp[k0F,a0B,back,show ¬1000000000≤s.log.length by omega]
  rw[a0A e1]
  have e2:=t0C (s:= {s with log:=bk s.depth s.log (.refs a (a0H a s.refs)),refs:=b0I a s.refs,g:=mvL s.fr s.g a 1 2}) (.back a) (by simp only[bl];omega)
  rw[a0A (m:=fun s=>back (.back a) {s with g:=mvL s.fr s.g a 1 2}) e2]
  by_cases hy:0<h0A s a
  ·have hy':0<h0A {s with log:=bk s.depth (bk s.depth s.log (.refs a (a0H a s.refs))) (.back a),refs:=b0I a s.refs,g:=mvL s.fr s.g a 1 2} a:=hy
   refine⟨b0I a s.young,s.gone++ [a],bk s.depth (bk s.depth (bk s.depth (bk s.depth s.log (.refs a (a0H a s.refs))) (.back a)) (.young a (a0H a s.young))) (.gone s.gone),?_⟩
   have e3:(fun s=>if 0<h0A s a then a0B (f0H a) (fun _ s=>g0Z (s.gone++ [a]) s) s else ret () s) {s with log:=bk s.depth (bk s.depth s.log (.refs a (a0H a s.refs))) (.back a),refs:=b0I a s.refs,g:=mvL s.fr s.g a 1 2} =
    (.ok (),{s with refs:=b0I a s.refs,g:=mvL s.fr s.g a 1 2,young:=b0I a s.young,gone:=s.gone++ [a],log:=bk s.depth (bk s.depth (bk s.depth (bk s.depth s.log (.refs a (a0H a s.refs))) (.back a)) (.young a (a0H a s.young))) (.gone s.gone)}):=by
    simp only[if_pos hy']
    simp[f0H,g0Z,a0B,back,bl,show ¬1000000000≤s.log.length+1+1 by omega,show ¬1000000000≤s.log.length+1+1+1 by omega,show ¬1000000000≤s.gone.length+1 by omega]
   rw[a0A e3];rfl
  ·have hy': ¬0<h0A {s with log:=bk s.depth (bk s.depth s.log (.refs a (a0H a s.refs))) (.back a),refs:=b0I a s.refs,g:=mvL s.fr s.g a 1 2} a:=hy
   refine⟨s.young,s.gone,bk s.depth (bk s.depth s.log (.refs a (a0H a s.refs))) (.back a),?_⟩
   have e3:(fun s=>if 0<h0A s a then a0B (f0H a) (fun _ s=>g0Z (s.gone++ [a]) s) s else ret () s) {s with log:=bk s.depth (bk s.depth s.log (.refs a (a0H a s.refs))) (.back a),refs:=b0I a s.refs,g:=mvL s.fr s.g a 1 2} =
    (.ok (),{s with log:=bk s.depth (bk s.depth s.log (.refs a (a0H a s.refs))) (.back a),refs:=b0I a s.refs,g:=mvL s.fr s.g a 1 2}):=by
    simp only[if_neg hy'];rfl
   rw[a0A e3];rfl
 obtain⟨yg,gn,lg,e⟩:=e
 have r:=w0E a s hd h.u (by rw[e];simp)
 rw[e]at r
 have hneed: ∀x,f0Y (b0I a G) (g0Y o++P) x=f0Y G P x:=fun x=>by
  rw[s1Y];unfold f0Y;rw[i1O h.nod ho x];omega
 have hnk: ∀b u,a0H b G=some u→a ∉ g0Y u:=fun b u hu hm=>u0T hu hm (by unfold f0Y at hn;omega)
 refine⟨_,e,⟨r.ok,j0K a h.nod,h.lo,by show s.fr+(mvL _ _ _ _ _).length≤_;rw[m0Y];exact h.hi,fun x hx=> ?_,fun x hx=> ?_,?_,fun x=> ?_,fun x u hu=> ?_,fun x u hu=> ?_,?_⟩,r,rfl,rfl,rfl,rfl⟩
 ·show a0H x (b0I a s.refs)=_
  rw[c0V a x h.u.m.refs,hneed]
  by_cases e:a=x
  ·subst e;simp[hn]
  ·rw[if_neg e];have:=h.refs x hx;rw[n0A,if_neg e]at this;exact this
 ·rw[hneed,c0V a x h.nod]
  by_cases e:a=x
  ·subst e;simp[hn]
  ·rw[if_neg e];have:=h.live x hx;rw[n0A,if_neg e]at this;exact this
 ·rw[c0V a 0 h.nod,if_neg (h.ne0 ho)];exact h.zero
 ·show isB s.fr (mvL s.fr s.g a 1 2) x 1=true↔_
  rw[m0C hB,c0V a x h.nod]
  by_cases e:x=a
  ·simp[e]
  ·rw[if_neg e,if_neg (Ne.symm e)];exact h.held x
 ·rw[c0V a x h.nod]at hu
  split at hu
  ·cases hu
  ·exact h.disk x u hu
 ·rw[c0V a x h.nod]at hu
  split at hu
  ·cases hu
  ·exact s2F h.nod (hnk x u hu) (h.typ x u hu)
 ·show(b0I a G).length=(mvL s.fr s.g a 1 2).count 1
  have:=r1B ho
  have h5:=r0O (w:=2) (x:=1) hB
  have:=h.cnt
  simp at h5
  omega
theorem Inv.put {o:Ob} (h:Inv s G (g0Y o++P)) (hok:w0K G o) (hl64:(l0D o).length=64) (hd:0<s.depth) (hl:s.log.length+4<1000000000) (hf:s.keep<(b0U s:Int)):
 ∃a s',e0S (l0D o) s=(.ok a,s')∧Inv s' ((a,o)::G) (a::P)∧Rel 3 1 s s'∧j0L s a∧s'.index=s.index∧s'.keep=s.keep∧s'.vols=s.vols∧s'.next=s.next:=by
 have hk:=h.u.keep
 obtain⟨ha0,htk⟩:=w1X (fr:=s.fr) (g:=s.g) (by unfold b0U at hf;omega)
 have bl: ∀(log:List c0Y) st,(bk s.depth log st).length=log.length+1:=fun log st=>by simp[bk,hd]
 have hr:=p0C.1 ha0
 have h1:=h.u.size
 have h2:=h.lo
 have e: ∃yg lg,e0S (l0D o) s=(.ok (b0Z s.fr s.g),{s with g:=g0U s.g,refs:=c0F (b0Z s.fr s.g) 1 s.refs,young:=yg,log:=lg,d:= {s.d with l:=s.d.l.set (b0Z s.fr s.g).toNat ((s.d.l.getD (b0Z s.fr s.g).toNat ([],[])).1,l0D o++a0T (64- (l0D o).length))}}):=by
  refine⟨c0F (b0Z s.fr s.g) 1 s.young,bk s.depth (bk s.depth (bk s.depth s.log (.give (b0Z s.fr s.g))) (.refs (b0Z s.fr s.g) (a0H (b0Z s.fr s.g) s.refs))) (.young (b0Z s.fr s.g) (a0H (b0Z s.fr s.g) s.young)),?_⟩
  unfold e0S
  rw[if_neg (by omega)]
  have e1:=t0C (s:= {s with g:=g0U s.g}) (.give (b0Z s.fr s.g)) (by simp only;omega)
  simp only
  rw[a0A (m:=fun s'=>back (.give (b0Z s.fr s.g)) {s' with g:=g0U s'.g}) e1]
  generalize b0Z s.fr s.g=a at*
  have e2:g0S a 1 {s with g:=g0U s.g,log:=bk s.depth s.log (.give a)} =(.ok (),{s with g:=g0U s.g,refs:=c0F a 1 s.refs,log:=bk s.depth (bk s.depth s.log (.give a)) (.refs a (a0H a s.refs))}):=by
   simp[g0S,a0B,back,bl,show ¬1000000000≤s.log.length+1 by omega]
  rw[a0A e2]
  have e3:l0H a 1 {s with g:=g0U s.g,refs:=c0F a 1 s.refs,log:=bk s.depth (bk s.depth s.log (.give a)) (.refs a (a0H a s.refs))} =(.ok (),{s with g:=g0U s.g,refs:=c0F a 1 s.refs,young:=c0F a 1 s.young,log:=bk s.depth (bk s.depth (bk s.depth s.log (.give a)) (.refs a (a0H a s.refs))) (.young a (a0H a s.young))}):=by
   simp[l0H,a0B,back,bl,show ¬1000000000≤s.log.length+1+1 by omega]
  rw[a0A e3]
  have e4:=e2P (b:=l0D o) h.u.run (a:=a) (by omega) (by omega)
  unfold a0B s0B
  simp only[e4];rfl
 obtain⟨yg,lg,e⟩:=e
 have r:=y0P (l0D o) s hd h.u (by rw[e];simp)
 rw[e]at r
 rw[htk]at e r
 have hB:=ha0
 have hne:b0Z s.fr s.g≠0:=by omega
 have hnn:a0H (b0Z s.fr s.g) G=none:=by
  cases hm:a0H (b0Z s.fr s.g) G with
  |none=>rfl
  |some u=>exact absurd (y0N ((h.held _).2 (by rw[hm];rfl)) ha0) (by decide)
 generalize b0Z s.fr s.g=a at*
 have hz:f0Y G (g0Y o++P) a=0:=by
  by_cases e:f0Y G (g0Y o++P) a=0
  ·exact e
  ·have:=(h.live a hne).1 e;rw[hnn]at this;cases this
 have hneed: ∀x,f0Y ((a,o)::G) (a::P) x=f0Y G (g0Y o++P) x+if a=x then 1 else 0:=fun x=>by
  rw[n0A,s1Y];unfold f0Y;rw[p0D];omega
 refine⟨a,_,e,⟨r.ok,?_,h.lo,by show s.fr+(mvL _ _ _ _ _).length≤_;rw[m0Y];exact h.hi,fun x hx=> ?_,fun x hx=> ?_,?_,fun x=> ?_,fun x u hu=> ?_,fun x u hu=> ?_,?_⟩,r,ha0,rfl,rfl,rfl,rfl⟩
 ·show((a,o)::G).map (·.1) |>.Nodup
  rw[List.map_cons,List.nodup_cons]
  refine⟨fun hm=> ?_,h.nod⟩
  obtain⟨⟨b,u⟩,hb,rfl⟩:=List.mem_map.1 hm
  rw[(g0X h.nod).2 hb]at hnn;cases hnn
 ·show a0H x (c0F a 1 s.refs)=_
  rw[i0T,hneed]
  by_cases e:a=x
  ·subst e;simp[hz]
  ·rw[if_neg e,if_neg e];exact h.refs x hx
 ·rw[hneed,d0P]
  by_cases e:a=x
  ·subst e;simp
  ·rw[if_neg e,if_neg e];exact h.live x hx
 ·rw[d0P,if_neg hne];exact h.zero
 ·show isB s.fr (mvL s.fr s.g a 0 1) x 1=true↔_
  rw[m0C hB,d0P]
  by_cases e:x=a
  ·simp[e]
  ·rw[if_neg e,if_neg (Ne.symm e)];exact h.held x
 ·rw[d0P]at hu
  show m0H {s.d with l:=_} x.toNat=_
  unfold m0H
  simp only[List.getD_eq_getElem?_getD]
  by_cases e:a=x
  ·subst e
   simp only[if_true,Option.some.injEq]at hu
   subst hu
   rw[List.getElem?_set_self (by omega)]
   simp[hl64,a0T]
  ·rw[if_neg e]at hu
   have:=h.range hu
   rw[List.getElem?_set_ne (by omega)]
   have:=h.disk x u hu
   unfold m0H at this
   simpa only[List.getD_eq_getElem?_getD] using this
 ·rw[d0P]at hu
  by_cases e:a=x
  ·subst e
   simp only[if_true,Option.some.injEq]at hu
   subst hu
   exact h2B hnn hne hok
  ·rw[if_neg e]at hu
   exact h2B hnn hne (h.typ x u hu)
 ·show G.length+1=(mvL s.fr s.g a 0 1).count 1
  have h5:=r0O (w:=1) (x:=1) hB
  have:=h.cnt
  simp at h5
  omega
end
end
section
structure d0O (c:Nat) (s:St):Prop where
 d:0<s.depth
 l:s.log.length+c+10<1000000000
 g:s.gone.length+c+10<1000000000
theorem Rel.len {c k:Nat} {s t:St} (h:Rel c k s t):t.log.length≤s.log.length+c:=by
 obtain⟨l,e,n,_⟩:=h.log
 rw[e,List.length_append];omega
theorem d0O.go {c c' k:Nat} {s t:St} (h:d0O (c+c') s) (r:Rel c k s t):d0O c' t:=
 ⟨by rw[r.depth];exact h.d,by have:=r.len;have:=h.l;omega,by have:=r.gone;have:=h.g;omega⟩
theorem d0O.le {c c':Nat} {s:St} (h:d0O c s) (hc:c'≤c):d0O c' s:=⟨h.d,by have:=h.l;omega,by have:=h.g;omega⟩
structure Stp (c k:Nat) (s:St) (G:Gh) (s':St) (G':Gh):Prop where
 rel:Rel c k s s'
 idx:Idx s' G'
 old: ∀b o,a0H b G'=some o→a0H b G=some o∨j0L s b
 keep:s'.keep=s.keep
 vols:s'.vols=s.vols
 next:s'.next=s.next
theorem Stp.trans {c1 k1 c2 k2:Nat} {s t u:St} {G1 G2 G3:Gh} (h:Stp c1 k1 s G1 t G2) (j:Stp c2 k2 t G2 u G3):Stp (c1+c2) (k1+k2) s G1 u G3:=
 ⟨h.rel.trans j.rel,j.idx,fun b o hb=>by
  rcases j.old b o hb with h1|h1
  ·exact h.old b o h1
  ·exact .inr (h.rel.free b h1),j.keep.trans h.keep,j.vols.trans h.vols,j.next.trans h.next⟩
theorem Stp.mono {c k c' k':Nat} {s t:St} {G G':Gh} (h:Stp c k s G t G') (hc:c≤c') (hk:k≤k'):Stp c' k' s G t G':=⟨h.rel.mono hc hk,h.idx,h.old,h.keep,h.vols,h.next⟩
theorem Stp.refl {s:St} {G:Gh} {P:List Int} (h:Inv s G P) (hi:Idx s G):Stp 0 0 s G s G:=⟨Rel.refl h.u,hi,fun _ _ h=> .inl h,rfl,rfl,rfl⟩
section
variable {s:St} {G:Gh} {P:List Int}
theorem Inv.perm {Q:List Int} (h:Inv s G P) (hp: ∀x,x≠0→P.count x=Q.count x):Inv s G Q:=
 ⟨h.u,h.nod,h.lo,h.hi,fun a ha=>by have:=h.refs a ha;unfold f0Y at this ⊢;rw[←hp a ha];exact this,fun a ha=>by have:=h.live a ha;unfold f0Y at this ⊢;rw[←hp a ha];exact this,
  h.zero,h.held,h.disk,h.typ,h.cnt⟩
theorem Inv.drop0 (h:Inv s G (0::P)):Inv s G P:=h.perm fun x hx=>by rw[List.count_cons_of_ne (Ne.symm hx)]
theorem Inv.add0 (h:Inv s G P):Inv s G (0::P):=h.perm fun x hx=>by rw[List.count_cons_of_ne (Ne.symm hx)]
theorem Inv.pend (h:Inv s G P) {x:Int} (hx:x∈P) (h0:x≠0):(a0H x G).isSome=true:=(h.live x h0).1 (by have:=List.count_pos_iff.2 hx;unfold f0Y;omega)
def Sub (G' G:Gh):Prop:= ∀b o,a0H b G'=some o→a0H b G=some o
theorem Sub.refl (G:Gh):Sub G G:=fun _ _ h=>h
theorem Sub.trans {A B C:Gh} (h:Sub A B) (j:Sub B C):Sub A C:=fun b o hb=>j b o (h b o hb)
theorem y0V {a:Int} (hG:mok G):Sub (b0I a G) G:=fun b o h=>by
 rw[c0V a b hG]at h
 split at h
 ·cases h
 ·exact h
theorem v0Q {G':Gh} (hs:Sub G' G) {l:Nat} {k:Int} (h:b0K G l k) (hk:k=0∨(a0H k G').isSome=true):b0K G' l k:=by
 rcases hk with rfl|hk
 ·cases l<;>exact .inl rfl
 ·obtain⟨o,ho⟩:=Option.isSome_iff_exists.1 hk
  have h1:=hs k o ho
  cases l with
  |zero=>
   rcases h with rfl| ⟨d,ats,e⟩
   ·exact .inl rfl
   ·rw[e]at h1;cases h1;exact .inr ⟨d,ats,ho⟩
  |succ l=>
   rcases h with rfl| ⟨d,ats,e⟩
   ·exact .inl rfl
   ·rw[e]at h1;cases h1;exact .inr ⟨d,ats,ho⟩
theorem Inv.lessParts: ∀(ats:List Int) {s:St} {G:Gh},Inv s G (ats++P)→(∀x∈ats,x=0∨ ∃b,a0H x G=some (.part b))→d0O (ats.length*4) s→P.length+ats.length<1000000→
 ∃s' G',h0T i0Q ats s=(.ok (),s')∧Inv s' G' P∧Rel (ats.length*4) 0 s s'∧Sub G' G∧(∀b o,a0H b G=some o→(∃x,o= .part x)∨a0H b G'=some o)∧s'.index=s.index∧s'.keep=s.keep∧s'.vols=s.vols∧s'.next=s.next
 | [],s,G,h,_,_,_=>⟨s,G,rfl,h,(Rel.refl h.u).mono (by simp) (by omega),Sub.refl G,fun _ _ h=> .inr h,rfl,rfl,rfl,rfl⟩
 |x::ats,s,G,h,ht,hr,hP=>by
  have hr':d0O (4+ats.length*4) s:=hr.le (by simp;omega)
  simp only[List.length_cons]at hP
  have one: ∃s1 G1,i0Q x s=(.ok (),s1)∧Inv s1 G1 (ats++P)∧Rel 4 0 s s1∧Sub G1 G∧(∀b o,a0H b G=some o→(∃x,o= .part x)∨a0H b G1=some o)∧s1.index=s.index∧s1.keep=s.keep∧s1.vols=s.vols∧s1.next=s.next:=by
   rcases ht x (List.mem_cons_self ..)with rfl| ⟨b,hb⟩
   ·exact⟨s,G,by unfold i0Q;rw[if_neg (by omega)];rfl,h.drop0,(Rel.refl h.u).mono (by omega) (by omega),Sub.refl G,fun _ _ h=> .inr h,rfl,rfl,rfl,rfl⟩
   ·have hx:=h.range hb
    by_cases hn:f0Y G (ats++P) x=0
    ·obtain⟨s1,e1,i1,r1,q1,q2,q3,q4⟩:=h.less1 hb hr.d (by have:=hr'.l;omega) (by have:=hr'.g;omega) hn
     refine⟨s1,b0I x G,by unfold i0Q;rw[if_pos (by omega),a0A e1];rfl,i1,r1,y0V h.nod,fun c o hc=> ?_,q1,q2,q3,q4⟩
     by_cases e:x=c
     ·subst e;rw[hb]at hc;cases hc;exact .inl ⟨b,rfl⟩
     ·rw[c0V x c h.nod,if_neg e];exact .inr hc
    ·obtain⟨s1,e1,i1,r1,q1,q2,q3,q4⟩:=h.less2 hb hr.d (by have:=hr'.l;omega) (by simp;omega) hn
     exact⟨s1,G,by unfold i0Q;rw[if_pos (by omega),a0A e1];rfl,i1,r1,Sub.refl G,fun _ _ h=> .inr h,q1,q2,q3,q4⟩
  obtain⟨s1,G1,e1,i1,r1,sb1,k1,q1,q2,q3,q4⟩:=one
  obtain⟨s2,G2,e2,i2,r2,sb2,k2,p1,p2,p3,p4⟩:=Inv.lessParts ats i1 (fun y hy=>by
   rcases ht y (List.mem_cons_of_mem _ hy)with h0| ⟨b,hb⟩
   ·exact .inl h0
   ·have hy0:=h.ne0 hb
    obtain⟨o,ho⟩:=Option.isSome_iff_exists.1 (i1.pend (List.mem_append_left _ hy) hy0)
    have:=sb1 y o ho
    rw[hb]at this;cases this
    exact .inr ⟨b,ho⟩) (hr'.go r1) (by omega)
  refine⟨s2,G2,by unfold h0T;rw[a0A e1,e2],i2,(r1.trans r2).mono (by simp;omega) (by omega),sb2.trans sb1,fun b o hb=> ?_,p1.trans q1,p2.trans q2,p3.trans q3,p4.trans q4⟩
  rcases k1 b o hb with h1|h1
  ·exact .inl h1
  ·exact k2 b o h1
theorem c1Z {d:B} {ats:List Int} (h:w0K G (.ext d ats)): ∀x∈ats,x=0∨ ∃b,a0H x G=some (.part b):=by
 obtain⟨t1,t2,t3,t4⟩:=h
 intro x hx
 obtain⟨k,hk,rfl⟩:=List.getElem_of_mem hx
 have e:ats.getD k 0=ats[k]:=by rw[List.getD_eq_getElem?_getD,List.getElem?_eq_getElem hk];rfl
 have:=t4 k (by omega)
 unfold w0J at this
 rw[e]at this
 split at this
 ·exact .inl this
 ·exact .inr ⟨_,this.2⟩
theorem Inv.xless {a:Int} (h:Inv s G (a::P)) (hi:Idx s G) (ha:b0K G 0 a) (hr:d0O 21 s) (hP:P.length+8<1000000):
 ∃s' G',g0A a s=(.ok (),s')∧Inv s' G' P∧Stp 21 0 s G s' G'∧Sub G' G:=by
 unfold Go.Sb.g0A
 rcases ha with rfl| ⟨d,ats,ho⟩
 ·exact⟨s,G,by rw[if_pos rfl];rfl,h.drop0,(Stp.refl h hi).mono (by omega) (by omega),Sub.refl G⟩
 rw[if_neg (h.ne0 ho),a0A (h.xhead ho)]
 by_cases hn:f0Y G P a=0
 ·obtain⟨s1,e1,i1,r1,q1,q2,q3,q4⟩:=h.less1 ho hr.d (by have:=hr.l;omega) (by have:=hr.g;omega) hn
  rw[a0A e1]
  have hok:=h.typ a _ ho
  have hnk:a ∉ ats:=fun hm=>u0T ho hm (by unfold f0Y at hn;omega)
  obtain⟨s2,G2,e2,i2,r2,sb2,k2,p1,p2,p3,p4⟩:=Inv.lessParts ats (s:=s1) (G:=b0I a G) (P:=P) i1 (fun x hx=>by
   rcases c1Z hok x hx with h0| ⟨b,hb⟩
   ·exact .inl h0
   ·exact .inr ⟨b,by rw[c0V a x h.nod,if_neg (fun(e:a=x)=>hnk (by subst e;exact hx))];exact hb⟩) ((hr.le (c':=4+ats.length*4) (by have:ats.length=4:=hok.2.2.1;omega)).go r1) (by have:ats.length=4:=hok.2.2.1;omega)
  have r12:Rel 20 0 s s2:=(r1.trans r2).mono (by have:ats.length=4:=hok.2.2.1;omega) (by omega)
  have hr2:d0O 1 s2:=(hr.le (by omega):d0O (20+1) s).go r12
  have e3:g0W (key s2.bits (Sha.sum d)) s2=(.ok (),{s2 with log:=bk s2.depth s2.log (.index (key s2.bits (Sha.sum d)) (a0H (key s2.bits (Sha.sum d)) s2.index)),index:=b0I (key s2.bits (Sha.sum d)) s2.index}):=by
   have:=hr2.l
   simp[g0W,a0B,back,show ¬1000000000≤s2.log.length by omega]
  have r3:=c1D (key s2.bits (Sha.sum d)) s2 hr2.d i2.u (by rw[e3];simp)
  rw[e3]at r3
  have hsub:Sub G2 G:=sb2.trans (y0V h.nod)
  refine⟨_,G2,?_,⟨r3.ok,i2.nod,i2.lo,i2.hi,i2.refs,i2.live,i2.zero,i2.held,i2.disk,i2.typ,i2.cnt⟩,⟨(r12.trans r3).mono (by omega) (by omega),fun k b=> ?_,fun b o hb=> .inl (hsub b o hb),p2.trans q2,p3.trans q3,p4.trans q4⟩,hsub⟩
  ·simp only[if_true]
   show a0B (h0T i0Q ats) _ s1=_
   rw[a0A e2];exact e3
  ·show a0H k (b0I (key s2.bits (Sha.sum d)) s2.index)=some b↔ ∃d' ats',a0H b G2=some (.ext d' ats')∧k=key s2.bits (Sha.sum d')
   rw[c0V _ k i2.u.m.index,show s2.bits=s.bits from r12.bits,p1,q1]
   constructor
   ·intro hk
    split at hk
    ·cases hk
    ·rename_i hne
     obtain⟨d',ats',hb,e⟩:=(hi k b).1 hk
     refine⟨d',ats',?_,e⟩
     have hba:a≠b:=fun e2=>by subst e2;rw[ho]at hb;cases hb;exact hne e.symm
     rcases k2 b (.ext d' ats') (by rw[c0V a b h.nod,if_neg hba];exact hb)with ⟨x,hx⟩|hx
     ·cases hx
     ·exact hx
   ·rintro⟨d',ats',hb,e⟩
    have hb':=hsub b _ hb
    have hk:=(hi k b).2 ⟨d',ats',hb',e⟩
    rw[if_neg]
    ·exact hk
    ·intro e2
     have:=(hi (key s.bits (Sha.sum d)) a).2 ⟨d,ats,ho,rfl⟩
     rw[e2,hk]at this
     cases this
     have:=sb2 a _ hb
     rw[c0V a a h.nod,if_pos rfl]at this;cases this
 ·obtain⟨s1,e1,i1,r1,q1,q2,q3,q4⟩:=h.less2 ho hr.d (by have:=hr.l;omega) (by omega) hn
  rw[a0A e1]
  exact⟨s1,G,rfl,i1,⟨r1.mono (by omega) (by omega),fun k b=>by rw[q1,r1.bits];exact hi k b,fun _ _ h=> .inl h,q2,q3,q4⟩,Sub.refl G⟩
theorem Inv.rlessL {l:Nat} (hone: ∀ {s:St} {G:Gh} {P:List Int} {a:Int},Inv s G (a::P)→Idx s G→b0K G l a→d0O (j0D l) s→P.length+8*(l+1)<1000000→ ∃s' G',g0B l a s=(.ok (),s')∧Inv s' G' P∧Stp (j0D l) 0 s G s' G'∧Sub G' G):
 ∀(ks:List Int) {s:St} {G:Gh},Inv s G (ks++P)→Idx s G→(∀k∈ks,b0K G l k)→d0O (ks.length*j0D l) s→P.length+ks.length+8*(l+1)<1000000→
 ∃s' G',h0T (g0B l) ks s=(.ok (),s')∧Inv s' G' P∧Stp (ks.length*j0D l) 0 s G s' G'∧Sub G' G
 | [],s,G,h,hi,_,_,_=>⟨s,G,rfl,h,(Stp.refl h hi).mono (by simp) (by omega),Sub.refl G⟩
 |x::ks,s,G,h,hi,hk,hr,hP=>by
  have hr':d0O (j0D l+ks.length*j0D l) s:=hr.le (by simp[Nat.succ_mul,Nat.add_comm])
  simp only[List.length_cons]at hP
  obtain⟨s1,G1,e1,i1,t1,b1⟩:=hone (P:=ks++P) h hi (hk x (List.mem_cons_self ..)) (hr'.le (by omega)) (by simp;omega)
  obtain⟨s2,G2,e2,i2,t2,b2⟩:=Inv.rlessL hone ks i1 t1.idx (fun y hy=>v0Q b1 (hk y (List.mem_cons_of_mem _ hy)) (by
   by_cases h0:y=0
   ·exact .inl h0
   ·exact .inr (i1.pend (List.mem_append_left _ hy) h0))) (hr'.go t1.rel) (by omega)
  exact⟨s2,G2,by unfold h0T;rw[a0A e1,e2],i2,(t1.trans t2).mono (by simp[Nat.succ_mul,Nat.add_comm]) (by omega),b2.trans b1⟩
theorem Inv.rless: ∀(l:Nat) {s:St} {G:Gh} {P:List Int} {a:Int},Inv s G (a::P)→Idx s G→b0K G l a→d0O (j0D l) s→P.length+8*(l+1)<1000000→
 ∃s' G',g0B l a s=(.ok (),s')∧Inv s' G' P∧Stp (j0D l) 0 s G s' G'∧Sub G' G
 |0,s,G,P,a,h,hi,ha,hr,hP=>h.xless hi ha hr (by omega)
 |l+1,s,G,P,a,h,hi,ha,hr,hP=>by
  unfold Go.Sb.g0B
  rcases ha with rfl| ⟨ks,sm,ho⟩
  ·exact⟨s,G,by rw[if_pos rfl];rfl,h.drop0,(Stp.refl h hi).mono (by omega) (by omega),Sub.refl G⟩
  rw[if_neg (h.ne0 ho),a0A (h.load ho)]
  obtain⟨_,t2,_,t4,_⟩:=h.typ a _ ho
  have hr':d0O (4+8*j0D l) s:=hr
  by_cases hn:f0Y G P a=0
  ·obtain⟨s1,e1,i1,r1,q1,q2,q3,q4⟩:=h.less1 ho hr.d (by have:=hr'.l;omega) (by have:=hr'.g;omega) hn
   rw[a0A e1]
   have hnk:a ∉ ks:=fun hm=>u0T ho hm (by unfold f0Y at hn;omega)
   have hi1:Idx s1 (b0I a G):=fun k b=>by
    rw[q1,r1.bits,hi k b]
    constructor
    ·rintro⟨d,ats,hb,e⟩
     refine⟨d,ats,?_,e⟩
     rw[c0V a b h.nod,if_neg (fun e2=>by rw[←e2,ho]at hb;cases hb)];exact hb
    ·rintro⟨d,ats,hb,e⟩
     exact⟨d,ats,y0V h.nod b _ hb,e⟩
   obtain⟨s2,G2,e2,i2,u2,b2⟩:=Inv.rlessL (l:=l) (fun h hi ha hr hP=>Inv.rless l h hi ha hr hP) ks (s:=s1) (G:=b0I a G) (P:=P) i1 hi1 (fun k hm=>y1L h.nod (fun(e:k=a)=>hnk (by subst e;exact hm)) (t4 k hm)) (by rw[t2];exact hr'.go r1) (by omega)
   rw[t2]at u2
   have hs1:Stp 4 0 s G s1 (b0I a G):=⟨r1,hi1,fun b o hb=> .inl (y0V h.nod b o hb),q2,q3,q4⟩
   exact⟨s2,G2,by simp only[if_true];exact e2,i2,(hs1.trans u2).mono (by simp only[j0D];omega) (by omega),b2.trans (y0V h.nod)⟩
  ·obtain⟨s1,e1,i1,r1,q1,q2,q3,q4⟩:=h.less2 ho hr.d (by have:=hr'.l;omega) (by omega) hn
   rw[a0A e1]
   exact⟨s1,G,rfl,i1,⟨r1.mono (by simp only[j0D];omega) (by omega),fun k b=>by rw[q1,r1.bits];exact hi k b,fun _ _ h=> .inl h,q2,q3,q4⟩,Sub.refl G⟩
end
end
end Go.Sb

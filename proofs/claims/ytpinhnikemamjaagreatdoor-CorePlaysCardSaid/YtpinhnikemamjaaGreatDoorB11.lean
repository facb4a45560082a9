/- Part of the proof; no statement of its own. -/
import Derived.Test.YtpinhnikemamjaaGreatDoorB10
set_option linter.all false
set_option maxRecDepth 4000
set_option maxHeartbeats 4000000
namespace Go.Sb
section
theorem d0H {K V:Type} [DecidableEq K] (k j:K) (v:V) (m:List (K×V)):a0E j ((k,v)::m)=if k=j then some v else a0E j m:=rfl
theorem o1P (a:Int): ∀ {G:Gh},(∀p∈G,(f0I p.2).length≤8)→o0F G a≤8*G.length
 | [],_=>by simp[o0F]
 | (i,o)::G,h=>by
  have h1:=o1P a (G:=G) fun p hp=>h p (List.mem_cons_of_mem _ hp)
  have h2:=h (i,o) (List.mem_cons_self ..)
  have h3:(f0I o).count a≤(f0I o).length:=List.count_le_length
  rw[n0V,List.length_cons]
  simp only at h2
  omega
theorem r2Y {G:Gh} {o:Ob} (h:x0C G o):(f0I o).length≤8:=by
 cases o with
 |part b=>simp[f0I]
 |ext d ats=>have:=h.2.2.1;simp[f0I];omega
 |node l ks s=>have:=h.2.1;simp[f0I];omega
theorem o1Q {x:Int} (h0: -9223372036854775808≤x) (h:x<9223372036854775808):m0L x=x:=by unfold m0L;omega
theorem n0K (G:Gh) (P:List Int) (a x:Int):f0X G (a::P) x=f0X G P x+if a=x then 1 else 0:=by
 unfold f0X;rw[List.count_cons];by_cases e:a=x<;>simp[e]<;>omega
theorem s1E (G:Gh) (K P:List Int) (x:Int):f0X G (K++P) x=K.count x+f0X G P x:=by unfold f0X;rw[List.count_append];omega
section
variable {s:St} {G:Gh} {P:List Int}
theorem Inv.few (h:Inv s G P) (hP:P.length≤1000000) (a:Int):f0X G P a≤2000000:=by
 have h1:=o1P a (G:=G) fun p hp=>r2Y (h.typ p.1 p.2 ((e0Q h.nod).2 hp))
 have h2:P.count a≤P.length:=List.count_le_length
 have h3:=h.cnt
 have h4:s.g.count 1≤s.g.length:=List.count_le_length
 have h5:=h.hi
 unfold f0X;omega
theorem z1M {a k:Int} (hG:mok G) (hk:k≠a) {l:Nat} (h:a0Y G l k):a0Y (b0C a G) l k:=by
 cases l with
 |zero=>exact h.imp id fun⟨d,ats,e⟩=>⟨d,ats,by rw[c0M a k hG,if_neg (Ne.symm hk)];exact e⟩
 |succ l=>exact h.imp id fun⟨d,ats,e⟩=>⟨d,ats,by rw[c0M a k hG,if_neg (Ne.symm hk)];exact e⟩
theorem r2Z {a k:Int} (hG:mok G) (hk:k≠a):d0N (b0C a G) k=d0N G k:=by unfold d0N;rw[c0M a k hG,if_neg (Ne.symm hk)]
theorem v2S {a:Int} (hG:mok G) {o:Ob} (hk:a ∉ f0I o) (h:x0C G o):x0C (b0C a G) o:=by
 cases o with
 |part b=>exact h
 |ext d ats=>
  obtain⟨t1,t2,t3,t4⟩:=h
  refine⟨t1,t2,t3,fun k hk4=> ?_⟩
  have:=t4 k hk4
  unfold u0S at this ⊢
  split at this
  ·rename_i hz;rw[if_pos hz];exact this
  ·rename_i hz;rw[if_neg hz]
   refine⟨this.1,?_⟩
   have hne:ats.getD k 0≠a:=fun e=>hk (by show a∈ats;rw[←e];exact g0J (by omega))
   rw[c0M a _ hG,if_neg (Ne.symm hne)];exact this.2
 |node l ks sm=>
  obtain⟨t1,t2,t3,t4,t5⟩:=h
  refine⟨t1,t2,t3,fun k hm=>z1M hG (fun e=>hk (by subst e;exact hm)) (t4 k hm),?_⟩
  rw[t5]
  congr 1
  exact List.map_congr_left fun k hm=>(r2Z hG (fun e=>hk (by subst e;exact hm))).symm
theorem s2A {a k:Int} {o:Ob} (hn:a0E a G=none) {l:Nat} (h:a0Y G l k):a0Y ((a,o)::G) l k:=by
 have key: ∀u,a0E k G=some u→a0E k ((a,o)::G)=some u:=fun u e=>by
  rw[d0H,if_neg (fun e2=>by rw[e2]at hn;rw[hn]at e;cases e)];exact e
 cases l with
 |zero=>exact h.imp id fun⟨d,ats,e⟩=>⟨d,ats,key _ e⟩
 |succ l=>exact h.imp id fun⟨d,ats,e⟩=>⟨d,ats,key _ e⟩
theorem j0Y {k:Int} {l:Nat} (h:a0Y G l k):k=0∨(a0E k G).isSome=true:=by
 cases l with
 |zero=>exact h.imp id fun⟨d,ats,e⟩=>by rw[e];rfl
 |succ l=>exact h.imp id fun⟨d,ats,e⟩=>by rw[e];rfl
theorem s2B {a k:Int} {o:Ob} (h:k≠a):d0N ((a,o)::G) k=d0N G k:=by unfold d0N;rw[d0H,if_neg (Ne.symm h)]
theorem h2F {a:Int} {u:Ob} (hn:a0E a G=none) (ha:a≠0) {o:Ob} (h:x0C G o):x0C ((a,u)::G) o:=by
 have key: ∀k v,a0E k G=some v→a0E k ((a,u)::G)=some v:=fun k v e=>by
  rw[d0H,if_neg (fun e2=>by rw[←e2,hn]at e;cases e)];exact e
 cases o with
 |part b=>exact h
 |ext d ats=>
  obtain⟨t1,t2,t3,t4⟩:=h
  refine⟨t1,t2,t3,fun k hk4=> ?_⟩
  have:=t4 k hk4
  unfold u0S at this ⊢
  split at this
  ·rename_i hz;rw[if_pos hz];exact this
  ·rename_i hz;rw[if_neg hz];exact⟨this.1,key _ _ this.2⟩
 |node l ks sm=>
  obtain⟨t1,t2,t3,t4,t5⟩:=h
  refine⟨t1,t2,t3,fun k hm=>s2A hn (t4 k hm),?_⟩
  rw[t5]
  congr 1
  refine List.map_congr_left fun k hm=>(s2B fun e=> ?_).symm
  rcases j0Y (t4 k hm)with h0|h1
  ·exact ha (e▸h0)
  ·rw[e,hn]at h1;cases h1
theorem Inv.more (h:Inv s G P) {a:Int} {o:Ob} (ho:a0E a G=some o) (hd:0<s.depth) (hl:s.log.length<1000000000) (hP:P.length≤1000000):
 ∃s',k0E a s=(.ok (),s')∧Inv s' G (a::P)∧Rel 1 0 s s'∧s'.index=s.index∧s'.keep=s.keep∧s'.vols=s.vols∧s'.next=s.next:=by
 have h0:=h.need_pos ho
 have h1:=h.refsOf (h.ne0 ho)
 have h2:=h.few hP a
 have e:k0E a s=(.ok (),{s with log:=bk s.depth s.log (.refs a (a0E a s.refs)),refs:=b0T a ((f0X G P a+1:Nat):Int) s.refs}):=by
  unfold k0E
  rw[if_neg (by omega),h1,o1Q (by omega) (by omega)]
  simp[g0R,a0B,back,show ¬1000000000≤s.log.length by omega]
 have r:=a1W a s hd h.u (by rw[e];simp)
 rw[e]at r
 refine⟨_,e,⟨r.ok,h.nod,h.lo,h.hi,fun x hx=> ?_,fun x hx=> ?_,h.zero,h.held,h.disk,h.typ,h.cnt⟩,r,rfl,rfl,rfl,rfl⟩
 ·show a0E x (b0T a _ s.refs)=_
  rw[j0C,n0K]
  by_cases e:a=x
  ·subst e;simp
  ·rw[if_neg e,if_neg e];exact h.refs x hx
 ·rw[n0K]
  by_cases e:a=x
  ·subst e;simp[ho]
  ·rw[if_neg e];exact h.live x hx
theorem Inv.less2 {a:Int} (h:Inv s G (a::P)) {o:Ob} (ho:a0E a G=some o) (hd:0<s.depth) (hl:s.log.length<1000000000) (hP:P.length<1000000) (hn:f0X G P a≠0):
 ∃s',e0B a s=(.ok false,s')∧Inv s' G P∧Rel 4 0 s s'∧s'.index=s.index∧s'.keep=s.keep∧s'.vols=s.vols∧s'.next=s.next:=by
 have h1:=h.refsOf (h.ne0 ho)
 have h2:=h.few (by simp;omega) a
 have h3:=h.range ho
 have h4:=n0K G P a a
 simp at h4
 have e:e0B a s=(.ok false,{s with log:=bk s.depth s.log (.refs a (a0E a s.refs)),refs:=b0T a (f0X G P a:Int) s.refs}):=by
  unfold e0B
  rw[if_neg (by simp[inR];omega),if_neg (by omega),if_neg (by omega),h1,h4,show((f0X G P a+1:Nat):Int)-1=f0X G P a by omega,o1Q (by omega) (by omega)]
  simp[g0R,a0B,back,show ¬1000000000≤s.log.length by omega,ret]
 have r:=x0B a s hd h.u (by rw[e];simp)
 rw[e]at r
 refine⟨_,e,⟨r.ok,h.nod,h.lo,h.hi,fun x hx=> ?_,fun x hx=> ?_,h.zero,h.held,h.disk,h.typ,h.cnt⟩,r,rfl,rfl,rfl,rfl⟩
 ·show a0E x (b0T a _ s.refs)=_
  rw[j0C]
  by_cases e:a=x
  ·subst e;simp[hn]
  ·rw[if_neg e];have:=h.refs x hx;rw[n0K,if_neg e]at this;exact this
 ·by_cases e:a=x
  ·subst e;simp[ho,hn]
  ·have:=h.live x hx;rw[n0K,if_neg e]at this;exact this
theorem Inv.less1 {a:Int} (h:Inv s G (a::P)) {o:Ob} (ho:a0E a G=some o) (hd:0<s.depth) (hl:s.log.length+4<1000000000) (hg:s.gone.length+1<1000000000) (hn:f0X G P a=0):
 ∃s',e0B a s=(.ok true,s')∧Inv s' (b0C a G) (f0I o++P)∧Rel 4 0 s s'∧s'.index=s.index∧s'.keep=s.keep∧s'.vols=s.vols∧s'.next=s.next:=by
 have h1:=h.refsOf (h.ne0 ho)
 have h3:=h.range ho
 have h4:=n0K G P a a
 simp only[if_true,hn]at h4
 have hB:=(h.held a).2 (by rw[ho];rfl)
 have bl: ∀(log:List c0P) st,(bk s.depth log st).length=log.length+1:=fun log st=>by simp[bk,hd]
 have e: ∃yg gn lg,e0B a s=(.ok true,{s with refs:=b0C a s.refs,g:=mvL s.fr s.g a 1 2,young:=yg,gone:=gn,log:=lg}):=by
  unfold e0B
  rw[if_neg (by simp[inR];omega),if_neg (by omega),if_pos (by omega)]
  have e1:k0P a s=(.ok (),{s with log:=bk s.depth s.log (.refs a (a0E a s.refs)),refs:=b0C a s.refs}):=by
   simp[k0P,a0B,back,show ¬1000000000≤s.log.length by omega]
  rw[a0A e1]
  have e2:=t0Q (s:= {s with log:=bk s.depth s.log (.refs a (a0E a s.refs)),refs:=b0C a s.refs,g:=mvL s.fr s.g a 1 2}) (.back a) (by simp only[bl];omega)
  rw[a0A (m:=fun s=>back (.back a) {s with g:=mvL s.fr s.g a 1 2}) e2]
  by_cases hy:0<h0E s a
  ·have hy':0<h0E {s with log:=bk s.depth (bk s.depth s.log (.refs a (a0E a s.refs))) (.back a),refs:=b0C a s.refs,g:=mvL s.fr s.g a 1 2} a:=hy
   refine⟨b0C a s.young,s.gone++ [a],bk s.depth (bk s.depth (bk s.depth (bk s.depth s.log (.refs a (a0E a s.refs))) (.back a)) (.young a (a0E a s.young))) (.gone s.gone),?_⟩
   have e3:(fun s=>if 0<h0E s a then a0B (f0D a) (fun _ s=>h0D (s.gone++ [a]) s) s else ret () s) {s with log:=bk s.depth (bk s.depth s.log (.refs a (a0E a s.refs))) (.back a),refs:=b0C a s.refs,g:=mvL s.fr s.g a 1 2} =
    (.ok (),{s with refs:=b0C a s.refs,g:=mvL s.fr s.g a 1 2,young:=b0C a s.young,gone:=s.gone++ [a],log:=bk s.depth (bk s.depth (bk s.depth (bk s.depth s.log (.refs a (a0E a s.refs))) (.back a)) (.young a (a0E a s.young))) (.gone s.gone)}):=by
    simp only[if_pos hy']
    simp[f0D,h0D,a0B,back,bl,show ¬1000000000≤s.log.length+1+1 by omega,show ¬1000000000≤s.log.length+1+1+1 by omega,show ¬1000000000≤s.gone.length+1 by omega]
   rw[a0A e3];rfl
  ·have hy': ¬0<h0E {s with log:=bk s.depth (bk s.depth s.log (.refs a (a0E a s.refs))) (.back a),refs:=b0C a s.refs,g:=mvL s.fr s.g a 1 2} a:=hy
   refine⟨s.young,s.gone,bk s.depth (bk s.depth s.log (.refs a (a0E a s.refs))) (.back a),?_⟩
   have e3:(fun s=>if 0<h0E s a then a0B (f0D a) (fun _ s=>h0D (s.gone++ [a]) s) s else ret () s) {s with log:=bk s.depth (bk s.depth s.log (.refs a (a0E a s.refs))) (.back a),refs:=b0C a s.refs,g:=mvL s.fr s.g a 1 2} =
    (.ok (),{s with log:=bk s.depth (bk s.depth s.log (.refs a (a0E a s.refs))) (.back a),refs:=b0C a s.refs,g:=mvL s.fr s.g a 1 2}):=by
    simp only[if_neg hy'];rfl
   rw[a0A e3];rfl
 obtain⟨yg,gn,lg,e⟩:=e
 have r:=x0B a s hd h.u (by rw[e];simp)
 rw[e]at r
 have hneed: ∀x,f0X (b0C a G) (f0I o++P) x=f0X G P x:=fun x=>by
  rw[s1E];unfold f0X;rw[k1D h.nod ho x];omega
 have hnk: ∀b u,a0E b G=some u→a ∉ f0I u:=fun b u hu hm=>v0N hu hm (by unfold f0X at hn;omega)
 refine⟨_,e,⟨r.ok,j0U a h.nod,h.lo,by show s.fr+(mvL _ _ _ _ _).length≤_;rw[n0J];exact h.hi,fun x hx=> ?_,fun x hx=> ?_,?_,fun x=> ?_,fun x u hu=> ?_,fun x u hu=> ?_,?_⟩,r,rfl,rfl,rfl,rfl⟩
 ·show a0E x (b0C a s.refs)=_
  rw[c0M a x h.u.m.refs,hneed]
  by_cases e:a=x
  ·subst e;simp[hn]
  ·rw[if_neg e];have:=h.refs x hx;rw[n0K,if_neg e]at this;exact this
 ·rw[hneed,c0M a x h.nod]
  by_cases e:a=x
  ·subst e;simp[hn]
  ·rw[if_neg e];have:=h.live x hx;rw[n0K,if_neg e]at this;exact this
 ·rw[c0M a 0 h.nod,if_neg (h.ne0 ho)];exact h.zero
 ·show isB s.fr (mvL s.fr s.g a 1 2) x 1=true↔_
  rw[m0J hB,c0M a x h.nod]
  by_cases e:x=a
  ·simp[e]
  ·rw[if_neg e,if_neg (Ne.symm e)];exact h.held x
 ·rw[c0M a x h.nod]at hu
  split at hu
  ·cases hu
  ·exact h.disk x u hu
 ·rw[c0M a x h.nod]at hu
  split at hu
  ·cases hu
  ·exact v2S h.nod (hnk x u hu) (h.typ x u hu)
 ·show(b0C a G).length=(mvL s.fr s.g a 1 2).count 1
  have:=s1A ho
  have h5:=s0E (w:=2) (x:=1) hB
  have:=h.cnt
  simp at h5
  omega
theorem Inv.put {o:Ob} (h:Inv s G (f0I o++P)) (hok:x0C G o) (hl64:(l0I o).length=64) (hd:0<s.depth) (hl:s.log.length+4<1000000000) (hf:s.keep<(b0K s:Int)):
 ∃a s',e0M (l0I o) s=(.ok a,s')∧Inv s' ((a,o)::G) (a::P)∧Rel 3 1 s s'∧j0V s a∧s'.index=s.index∧s'.keep=s.keep∧s'.vols=s.vols∧s'.next=s.next:=by
 have hk:=h.u.keep
 obtain⟨ha0,htk⟩:=y1Z (fr:=s.fr) (g:=s.g) (by unfold b0K at hf;omega)
 have bl: ∀(log:List c0P) st,(bk s.depth log st).length=log.length+1:=fun log st=>by simp[bk,hd]
 have hr:=p0K.1 ha0
 have h1:=h.u.size
 have h2:=h.lo
 have e: ∃yg lg,e0M (l0I o) s=(.ok (b0Q s.fr s.g),{s with g:=g0V s.g,refs:=b0T (b0Q s.fr s.g) 1 s.refs,young:=yg,log:=lg,d:= {s.d with l:=s.d.l.set (b0Q s.fr s.g).toNat ((s.d.l.getD (b0Q s.fr s.g).toNat ([],[])).1,l0I o++a0K (64- (l0I o).length))}}):=by
  refine⟨b0T (b0Q s.fr s.g) 1 s.young,bk s.depth (bk s.depth (bk s.depth s.log (.give (b0Q s.fr s.g))) (.refs (b0Q s.fr s.g) (a0E (b0Q s.fr s.g) s.refs))) (.young (b0Q s.fr s.g) (a0E (b0Q s.fr s.g) s.young)),?_⟩
  unfold e0M
  rw[if_neg (by omega)]
  have e1:=t0Q (s:= {s with g:=g0V s.g}) (.give (b0Q s.fr s.g)) (by simp only;omega)
  simp only
  rw[a0A (m:=fun s'=>back (.give (b0Q s.fr s.g)) {s' with g:=g0V s'.g}) e1]
  generalize b0Q s.fr s.g=a at*
  have e2:g0R a 1 {s with g:=g0V s.g,log:=bk s.depth s.log (.give a)} =(.ok (),{s with g:=g0V s.g,refs:=b0T a 1 s.refs,log:=bk s.depth (bk s.depth s.log (.give a)) (.refs a (a0E a s.refs))}):=by
   simp[g0R,a0B,back,bl,show ¬1000000000≤s.log.length+1 by omega]
  rw[a0A e2]
  have e3:l0N a 1 {s with g:=g0V s.g,refs:=b0T a 1 s.refs,log:=bk s.depth (bk s.depth s.log (.give a)) (.refs a (a0E a s.refs))} =(.ok (),{s with g:=g0V s.g,refs:=b0T a 1 s.refs,young:=b0T a 1 s.young,log:=bk s.depth (bk s.depth (bk s.depth s.log (.give a)) (.refs a (a0E a s.refs))) (.young a (a0E a s.young))}):=by
   simp[l0N,a0B,back,bl,show ¬1000000000≤s.log.length+1+1 by omega]
  rw[a0A e3]
  have e4:=h2B (b:=l0I o) h.u.run (a:=a) (by omega) (by omega)
  unfold a0B s0R
  simp only[e4];rfl
 obtain⟨yg,lg,e⟩:=e
 have r:=z0Q (l0I o) s hd h.u (by rw[e];simp)
 rw[e]at r
 rw[htk]at e r
 have hB:=ha0
 have hne:b0Q s.fr s.g≠0:=by omega
 have hnn:a0E (b0Q s.fr s.g) G=none:=by
  cases hm:a0E (b0Q s.fr s.g) G with
  |none=>rfl
  |some u=>exact absurd (z0O ((h.held _).2 (by rw[hm];rfl)) ha0) (by decide)
 generalize b0Q s.fr s.g=a at*
 have hz:f0X G (f0I o++P) a=0:=by
  by_cases e:f0X G (f0I o++P) a=0
  ·exact e
  ·have:=(h.live a hne).1 e;rw[hnn]at this;cases this
 have hneed: ∀x,f0X ((a,o)::G) (a::P) x=f0X G (f0I o++P) x+if a=x then 1 else 0:=fun x=>by
  rw[n0K,s1E];unfold f0X;rw[n0V];omega
 refine⟨a,_,e,⟨r.ok,?_,h.lo,by show s.fr+(mvL _ _ _ _ _).length≤_;rw[n0J];exact h.hi,fun x hx=> ?_,fun x hx=> ?_,?_,fun x=> ?_,fun x u hu=> ?_,fun x u hu=> ?_,?_⟩,r,ha0,rfl,rfl,rfl,rfl⟩
 ·show((a,o)::G).map (·.1) |>.Nodup
  rw[List.map_cons,List.nodup_cons]
  refine⟨fun hm=> ?_,h.nod⟩
  obtain⟨⟨b,u⟩,hb,rfl⟩:=List.mem_map.1 hm
  rw[(e0Q h.nod).2 hb]at hnn;cases hnn
 ·show a0E x (b0T a 1 s.refs)=_
  rw[j0C,hneed]
  by_cases e:a=x
  ·subst e;simp[hz]
  ·rw[if_neg e,if_neg e];exact h.refs x hx
 ·rw[hneed,d0H]
  by_cases e:a=x
  ·subst e;simp
  ·rw[if_neg e,if_neg e];exact h.live x hx
 ·rw[d0H,if_neg hne];exact h.zero
 ·show isB s.fr (mvL s.fr s.g a 0 1) x 1=true↔_
  rw[m0J hB,d0H]
  by_cases e:x=a
  ·simp[e]
  ·rw[if_neg e,if_neg (Ne.symm e)];exact h.held x
 ·rw[d0H]at hu
  show m0P {s.d with l:=_} x.toNat=_
  unfold m0P
  simp only[List.getD_eq_getElem?_getD]
  by_cases e:a=x
  ·subst e
   simp only[if_true,Option.some.injEq]at hu
   subst hu
   rw[List.getElem?_set_self (by omega)]
   simp[hl64,a0K]
  ·rw[if_neg e]at hu
   have:=h.range hu
   rw[List.getElem?_set_ne (by omega)]
   have:=h.disk x u hu
   unfold m0P at this
   simpa only[List.getD_eq_getElem?_getD] using this
 ·rw[d0H]at hu
  by_cases e:a=x
  ·subst e
   simp only[if_true,Option.some.injEq]at hu
   subst hu
   exact h2F hnn hne hok
  ·rw[if_neg e]at hu
   exact h2F hnn hne (h.typ x u hu)
 ·show G.length+1=(mvL s.fr s.g a 0 1).count 1
  have h5:=s0E (w:=1) (x:=1) hB
  have:=h.cnt
  simp at h5
  omega
end
end
section
structure d0F (c:Nat) (s:St):Prop where
 d:0<s.depth
 l:s.log.length+c+10<1000000000
 g:s.gone.length+c+10<1000000000
theorem Rel.len {c k:Nat} {s t:St} (h:Rel c k s t):t.log.length≤s.log.length+c:=by
 obtain⟨l,e,n,_⟩:=h.log
 rw[e,List.length_append];omega
theorem d0F.go {c c' k:Nat} {s t:St} (h:d0F (c+c') s) (r:Rel c k s t):d0F c' t:=
 ⟨by rw[r.depth];exact h.d,by have:=r.len;have:=h.l;omega,by have:=r.gone;have:=h.g;omega⟩
theorem d0F.le {c c':Nat} {s:St} (h:d0F c s) (hc:c'≤c):d0F c' s:=⟨h.d,by have:=h.l;omega,by have:=h.g;omega⟩
structure Stp (c k:Nat) (s:St) (G:Gh) (s':St) (G':Gh):Prop where
 rel:Rel c k s s'
 idx:Idx s' G'
 old: ∀b o,a0E b G'=some o→a0E b G=some o∨j0V s b
 keep:s'.keep=s.keep
 vols:s'.vols=s.vols
 next:s'.next=s.next
theorem Stp.trans {c1 k1 c2 k2:Nat} {s t u:St} {G1 G2 G3:Gh} (h:Stp c1 k1 s G1 t G2) (j:Stp c2 k2 t G2 u G3):Stp (c1+c2) (k1+k2) s G1 u G3:=
 ⟨h.rel.trans j.rel,j.idx,fun b o hb=>by
  rcases j.old b o hb with h1|h1
  ·exact h.old b o h1
  ·exact .inr (h.rel.free b h1),j.keep.trans h.keep,j.vols.trans h.vols,j.next.trans h.next⟩
theorem Stp.mono {c k c' k':Nat} {s t:St} {G G':Gh} (h:Stp c k s G t G') (hc:c≤c') (hk:k≤k'):Stp c' k' s G t G':=⟨h.rel.mono hc hk,h.idx,h.old,h.keep,h.vols,h.next⟩
theorem Stp.refl {s:St} {G:Gh} {P:List Int} (h:Inv s G P) (hi:Idx s G):Stp 0 0 s G s G:=⟨Rel.refl h.u,hi,fun _ _ h=> .inl h,rfl,rfl,rfl⟩
section
variable {s:St} {G:Gh} {P:List Int}
theorem Inv.perm {Q:List Int} (h:Inv s G P) (hp: ∀x,x≠0→P.count x=Q.count x):Inv s G Q:=
 ⟨h.u,h.nod,h.lo,h.hi,fun a ha=>by have:=h.refs a ha;unfold f0X at this ⊢;rw[←hp a ha];exact this,fun a ha=>by have:=h.live a ha;unfold f0X at this ⊢;rw[←hp a ha];exact this,
  h.zero,h.held,h.disk,h.typ,h.cnt⟩
theorem Inv.drop0 (h:Inv s G (0::P)):Inv s G P:=h.perm fun x hx=>by rw[List.count_cons_of_ne (Ne.symm hx)]
theorem Inv.add0 (h:Inv s G P):Inv s G (0::P):=h.perm fun x hx=>by rw[List.count_cons_of_ne (Ne.symm hx)]
theorem Inv.pend (h:Inv s G P) {x:Int} (hx:x∈P) (h0:x≠0):(a0E x G).isSome=true:=(h.live x h0).1 (by have:=List.count_pos_iff.2 hx;unfold f0X;omega)
def Sub (G' G:Gh):Prop:= ∀b o,a0E b G'=some o→a0E b G=some o
theorem Sub.refl (G:Gh):Sub G G:=fun _ _ h=>h
theorem Sub.trans {A B C:Gh} (h:Sub A B) (j:Sub B C):Sub A C:=fun b o hb=>j b o (h b o hb)
theorem z0R {a:Int} (hG:mok G):Sub (b0C a G) G:=fun b o h=>by
 rw[c0M a b hG]at h
 split at h
 ·cases h
 ·exact h
theorem w0J {G':Gh} (hs:Sub G' G) {l:Nat} {k:Int} (h:a0Y G l k) (hk:k=0∨(a0E k G').isSome=true):a0Y G' l k:=by
 rcases hk with rfl|hk
 ·cases l<;>exact .inl rfl
 ·obtain⟨o,ho⟩:=Option.isSome_iff_exists.1 hk
  have h1:=hs k o ho
  cases l with
  |zero=>
   rcases h with rfl| ⟨d,ats,e⟩
   ·exact .inl rfl
   ·rw[e]at h1;cases h1;exact .inr ⟨d,ats,ho⟩
  |succ l=>
   rcases h with rfl| ⟨d,ats,e⟩
   ·exact .inl rfl
   ·rw[e]at h1;cases h1;exact .inr ⟨d,ats,ho⟩
theorem Inv.lessParts: ∀(ats:List Int) {s:St} {G:Gh},Inv s G (ats++P)→(∀x∈ats,x=0∨ ∃b,a0E x G=some (.part b))→d0F (ats.length*4) s→P.length+ats.length<1000000→
 ∃s' G',i0D j0A ats s=(.ok (),s')∧Inv s' G' P∧Rel (ats.length*4) 0 s s'∧Sub G' G∧(∀b o,a0E b G=some o→(∃x,o= .part x)∨a0E b G'=some o)∧s'.index=s.index∧s'.keep=s.keep∧s'.vols=s.vols∧s'.next=s.next
 | [],s,G,h,_,_,_=>⟨s,G,rfl,h,(Rel.refl h.u).mono (by simp) (by omega),Sub.refl G,fun _ _ h=> .inr h,rfl,rfl,rfl,rfl⟩
 |x::ats,s,G,h,ht,hr,hP=>by
  have hr':d0F (4+ats.length*4) s:=hr.le (by simp;omega)
  simp only[List.length_cons]at hP
  have one: ∃s1 G1,j0A x s=(.ok (),s1)∧Inv s1 G1 (ats++P)∧Rel 4 0 s s1∧Sub G1 G∧(∀b o,a0E b G=some o→(∃x,o= .part x)∨a0E b G1=some o)∧s1.index=s.index∧s1.keep=s.keep∧s1.vols=s.vols∧s1.next=s.next:=by
   rcases ht x (List.mem_cons_self ..)with rfl| ⟨b,hb⟩
   ·exact⟨s,G,by unfold j0A;rw[if_neg (by omega)];rfl,h.drop0,(Rel.refl h.u).mono (by omega) (by omega),Sub.refl G,fun _ _ h=> .inr h,rfl,rfl,rfl,rfl⟩
   ·have hx:=h.range hb
    by_cases hn:f0X G (ats++P) x=0
    ·obtain⟨s1,e1,i1,r1,q1,q2,q3,q4⟩:=h.less1 hb hr.d (by have:=hr'.l;omega) (by have:=hr'.g;omega) hn
     refine⟨s1,b0C x G,by unfold j0A;rw[if_pos (by omega),a0A e1];rfl,i1,r1,z0R h.nod,fun c o hc=> ?_,q1,q2,q3,q4⟩
     by_cases e:x=c
     ·subst e;rw[hb]at hc;cases hc;exact .inl ⟨b,rfl⟩
     ·rw[c0M x c h.nod,if_neg e];exact .inr hc
    ·obtain⟨s1,e1,i1,r1,q1,q2,q3,q4⟩:=h.less2 hb hr.d (by have:=hr'.l;omega) (by simp;omega) hn
     exact⟨s1,G,by unfold j0A;rw[if_pos (by omega),a0A e1];rfl,i1,r1,Sub.refl G,fun _ _ h=> .inr h,q1,q2,q3,q4⟩
  obtain⟨s1,G1,e1,i1,r1,sb1,k1,q1,q2,q3,q4⟩:=one
  obtain⟨s2,G2,e2,i2,r2,sb2,k2,p1,p2,p3,p4⟩:=Inv.lessParts ats i1 (fun y hy=>by
   rcases ht y (List.mem_cons_of_mem _ hy)with h0| ⟨b,hb⟩
   ·exact .inl h0
   ·have hy0:=h.ne0 hb
    obtain⟨o,ho⟩:=Option.isSome_iff_exists.1 (i1.pend (List.mem_append_left _ hy) hy0)
    have:=sb1 y o ho
    rw[hb]at this;cases this
    exact .inr ⟨b,ho⟩) (hr'.go r1) (by omega)
  refine⟨s2,G2,by unfold i0D;rw[a0A e1,e2],i2,(r1.trans r2).mono (by simp;omega) (by omega),sb2.trans sb1,fun b o hb=> ?_,p1.trans q1,p2.trans q2,p3.trans q3,p4.trans q4⟩
  rcases k1 b o hb with h1|h1
  ·exact .inl h1
  ·exact k2 b o h1
theorem d1I {d:B} {ats:List Int} (h:x0C G (.ext d ats)): ∀x∈ats,x=0∨ ∃b,a0E x G=some (.part b):=by
 obtain⟨t1,t2,t3,t4⟩:=h
 intro x hx
 obtain⟨k,hk,rfl⟩:=List.getElem_of_mem hx
 have e:ats.getD k 0=ats[k]:=by rw[List.getD_eq_getElem?_getD,List.getElem?_eq_getElem hk];rfl
 have:=t4 k (by omega)
 unfold u0S at this
 rw[e]at this
 split at this
 ·exact .inl this
 ·exact .inr ⟨_,this.2⟩
theorem Inv.xless {a:Int} (h:Inv s G (a::P)) (hi:Idx s G) (ha:a0Y G 0 a) (hr:d0F 21 s) (hP:P.length+8<1000000):
 ∃s' G',g0D a s=(.ok (),s')∧Inv s' G' P∧Stp 21 0 s G s' G'∧Sub G' G:=by
 unfold Go.Sb.g0D
 rcases ha with rfl| ⟨d,ats,ho⟩
 ·exact⟨s,G,by rw[if_pos rfl];rfl,h.drop0,(Stp.refl h hi).mono (by omega) (by omega),Sub.refl G⟩
 rw[if_neg (h.ne0 ho),a0A (h.xhead ho)]
 by_cases hn:f0X G P a=0
 ·obtain⟨s1,e1,i1,r1,q1,q2,q3,q4⟩:=h.less1 ho hr.d (by have:=hr.l;omega) (by have:=hr.g;omega) hn
  rw[a0A e1]
  have hok:=h.typ a _ ho
  have hnk:a ∉ ats:=fun hm=>v0N ho hm (by unfold f0X at hn;omega)
  obtain⟨s2,G2,e2,i2,r2,sb2,k2,p1,p2,p3,p4⟩:=Inv.lessParts ats (s:=s1) (G:=b0C a G) (P:=P) i1 (fun x hx=>by
   rcases d1I hok x hx with h0| ⟨b,hb⟩
   ·exact .inl h0
   ·exact .inr ⟨b,by rw[c0M a x h.nod,if_neg (fun(e:a=x)=>hnk (by subst e;exact hx))];exact hb⟩) ((hr.le (c':=4+ats.length*4) (by have:ats.length=4:=hok.2.2.1;omega)).go r1) (by have:ats.length=4:=hok.2.2.1;omega)
  have r12:Rel 20 0 s s2:=(r1.trans r2).mono (by have:ats.length=4:=hok.2.2.1;omega) (by omega)
  have hr2:d0F 1 s2:=(hr.le (by omega):d0F (20+1) s).go r12
  have e3:g0Z (key s2.bits (Sha.sum d)) s2=(.ok (),{s2 with log:=bk s2.depth s2.log (.index (key s2.bits (Sha.sum d)) (a0E (key s2.bits (Sha.sum d)) s2.index)),index:=b0C (key s2.bits (Sha.sum d)) s2.index}):=by
   have:=hr2.l
   simp[g0Z,a0B,back,show ¬1000000000≤s2.log.length by omega]
  have r3:=d1G (key s2.bits (Sha.sum d)) s2 hr2.d i2.u (by rw[e3];simp)
  rw[e3]at r3
  have hsub:Sub G2 G:=sb2.trans (z0R h.nod)
  refine⟨_,G2,?_,⟨r3.ok,i2.nod,i2.lo,i2.hi,i2.refs,i2.live,i2.zero,i2.held,i2.disk,i2.typ,i2.cnt⟩,⟨(r12.trans r3).mono (by omega) (by omega),fun k b=> ?_,fun b o hb=> .inl (hsub b o hb),p2.trans q2,p3.trans q3,p4.trans q4⟩,hsub⟩
  ·simp only[if_true]
   show a0B (i0D j0A ats) _ s1=_
   rw[a0A e2];exact e3
  ·show a0E k (b0C (key s2.bits (Sha.sum d)) s2.index)=some b↔ ∃d' ats',a0E b G2=some (.ext d' ats')∧k=key s2.bits (Sha.sum d')
   rw[c0M _ k i2.u.m.index,show s2.bits=s.bits from r12.bits,p1,q1]
   constructor
   ·intro hk
    split at hk
    ·cases hk
    ·rename_i hne
     obtain⟨d',ats',hb,e⟩:=(hi k b).1 hk
     refine⟨d',ats',?_,e⟩
     have hba:a≠b:=fun e2=>by subst e2;rw[ho]at hb;cases hb;exact hne e.symm
     rcases k2 b (.ext d' ats') (by rw[c0M a b h.nod,if_neg hba];exact hb)with ⟨x,hx⟩|hx
     ·cases hx
     ·exact hx
   ·rintro⟨d',ats',hb,e⟩
    have hb':=hsub b _ hb
    have hk:=(hi k b).2 ⟨d',ats',hb',e⟩
    rw[if_neg]
    ·exact hk
    ·intro e2
     have:=(hi (key s.bits (Sha.sum d)) a).2 ⟨d,ats,ho,rfl⟩
     rw[e2,hk]at this
     cases this
     have:=sb2 a _ hb
     rw[c0M a a h.nod,if_pos rfl]at this;cases this
 ·obtain⟨s1,e1,i1,r1,q1,q2,q3,q4⟩:=h.less2 ho hr.d (by have:=hr.l;omega) (by omega) hn
  rw[a0A e1]
  exact⟨s1,G,rfl,i1,⟨r1.mono (by omega) (by omega),fun k b=>by rw[q1,r1.bits];exact hi k b,fun _ _ h=> .inl h,q2,q3,q4⟩,Sub.refl G⟩
theorem Inv.rlessL {l:Nat} (hone: ∀ {s:St} {G:Gh} {P:List Int} {a:Int},Inv s G (a::P)→Idx s G→a0Y G l a→d0F (j0M l) s→P.length+8*(l+1)<1000000→ ∃s' G',g0E l a s=(.ok (),s')∧Inv s' G' P∧Stp (j0M l) 0 s G s' G'∧Sub G' G):
 ∀(ks:List Int) {s:St} {G:Gh},Inv s G (ks++P)→Idx s G→(∀k∈ks,a0Y G l k)→d0F (ks.length*j0M l) s→P.length+ks.length+8*(l+1)<1000000→
 ∃s' G',i0D (g0E l) ks s=(.ok (),s')∧Inv s' G' P∧Stp (ks.length*j0M l) 0 s G s' G'∧Sub G' G
 | [],s,G,h,hi,_,_,_=>⟨s,G,rfl,h,(Stp.refl h hi).mono (by simp) (by omega),Sub.refl G⟩
 |x::ks,s,G,h,hi,hk,hr,hP=>by
  have hr':d0F (j0M l+ks.length*j0M l) s:=hr.le (by simp[Nat.succ_mul,Nat.add_comm])
  simp only[List.length_cons]at hP
  obtain⟨s1,G1,e1,i1,t1,b1⟩:=hone (P:=ks++P) h hi (hk x (List.mem_cons_self ..)) (hr'.le (by omega)) (by simp;omega)
  obtain⟨s2,G2,e2,i2,t2,b2⟩:=Inv.rlessL hone ks i1 t1.idx (fun y hy=>w0J b1 (hk y (List.mem_cons_of_mem _ hy)) (by
   by_cases h0:y=0
   ·exact .inl h0
   ·exact .inr (i1.pend (List.mem_append_left _ hy) h0))) (hr'.go t1.rel) (by omega)
  exact⟨s2,G2,by unfold i0D;rw[a0A e1,e2],i2,(t1.trans t2).mono (by simp[Nat.succ_mul,Nat.add_comm]) (by omega),b2.trans b1⟩
theorem Inv.rless: ∀(l:Nat) {s:St} {G:Gh} {P:List Int} {a:Int},Inv s G (a::P)→Idx s G→a0Y G l a→d0F (j0M l) s→P.length+8*(l+1)<1000000→
 ∃s' G',g0E l a s=(.ok (),s')∧Inv s' G' P∧Stp (j0M l) 0 s G s' G'∧Sub G' G
 |0,s,G,P,a,h,hi,ha,hr,hP=>h.xless hi ha hr (by omega)
 |l+1,s,G,P,a,h,hi,ha,hr,hP=>by
  unfold Go.Sb.g0E
  rcases ha with rfl| ⟨ks,sm,ho⟩
  ·exact⟨s,G,by rw[if_pos rfl];rfl,h.drop0,(Stp.refl h hi).mono (by omega) (by omega),Sub.refl G⟩
  rw[if_neg (h.ne0 ho),a0A (h.load ho)]
  obtain⟨_,t2,_,t4,_⟩:=h.typ a _ ho
  have hr':d0F (4+8*j0M l) s:=hr
  by_cases hn:f0X G P a=0
  ·obtain⟨s1,e1,i1,r1,q1,q2,q3,q4⟩:=h.less1 ho hr.d (by have:=hr'.l;omega) (by have:=hr'.g;omega) hn
   rw[a0A e1]
   have hnk:a ∉ ks:=fun hm=>v0N ho hm (by unfold f0X at hn;omega)
   have hi1:Idx s1 (b0C a G):=fun k b=>by
    rw[q1,r1.bits,hi k b]
    constructor
    ·rintro⟨d,ats,hb,e⟩
     refine⟨d,ats,?_,e⟩
     rw[c0M a b h.nod,if_neg (fun e2=>by rw[←e2,ho]at hb;cases hb)];exact hb
    ·rintro⟨d,ats,hb,e⟩
     exact⟨d,ats,z0R h.nod b _ hb,e⟩
   obtain⟨s2,G2,e2,i2,u2,b2⟩:=Inv.rlessL (l:=l) (fun h hi ha hr hP=>Inv.rless l h hi ha hr hP) ks (s:=s1) (G:=b0C a G) (P:=P) i1 hi1 (fun k hm=>z1M h.nod (fun(e:k=a)=>hnk (by subst e;exact hm)) (t4 k hm)) (by rw[t2];exact hr'.go r1) (by omega)
   rw[t2]at u2
   have hs1:Stp 4 0 s G s1 (b0C a G):=⟨r1,hi1,fun b o hb=> .inl (z0R h.nod b o hb),q2,q3,q4⟩
   exact⟨s2,G2,by simp only[if_true];exact e2,i2,(hs1.trans u2).mono (by simp only[j0M];omega) (by omega),b2.trans (z0R h.nod)⟩
  ·obtain⟨s1,e1,i1,r1,q1,q2,q3,q4⟩:=h.less2 ho hr.d (by have:=hr'.l;omega) (by omega) hn
   rw[a0A e1]
   exact⟨s1,G,rfl,i1,⟨r1.mono (by simp only[j0M];omega) (by omega),fun k b=>by rw[q1,r1.bits];exact hi k b,fun _ _ h=> .inl h,q2,q3,q4⟩,Sub.refl G⟩
end
end
section
def Fl {α:Type} (k:Nat) (C:Prop) (m:M α) (s:St):Prop:= ∃e s',m s=(.err e,s')∧(e=8∧(b0K s:Int)<s.keep+k∨e=9∧C)
theorem Fl.here {α β:Type} {k k':Nat} {C C':Prop} {m:M α} {f:α→M β} {s:St} (h:Fl k C m s) (hk:k≤k') (hC:C→C'):Fl k' C' (a0B m f) s:=by
 obtain⟨e,s',h1,h2⟩:=h
 exact⟨e,s',a0I h1,h2.imp (fun⟨a,b⟩=>⟨a,by omega⟩) (fun⟨a,b⟩=>⟨a,hC b⟩)⟩
theorem Fl.there {α β:Type} {c k1 k2 k':Nat} {C C':Prop} {m:M α} {f:α→M β} {s t:St} {a:α} (h:m s=(.ok a,t)) (r:Rel c k1 s t) (hkp:t.keep=s.keep) (j:Fl k2 C (f a) t) (hk:k1+k2≤k') (hC:C→C'):Fl k' C' (a0B m f) s:=by
 obtain⟨e,s',h1,h2⟩:=j
 refine⟨e,s',by rw[a0A h];exact h1,h2.imp (fun⟨a,b⟩=>⟨a,?_⟩) (fun⟨a,b⟩=>⟨a,hC b⟩)⟩
 have:=r.room;omega
theorem Fl.mono {α:Type} {k k':Nat} {C C':Prop} {m:M α} {s:St} (h:Fl k C m s) (hk:k≤k') (hC:C→C'):Fl k' C' m s:=by
 obtain⟨e,s',h1,h2⟩:=h
 exact⟨e,s',h1,h2.imp (fun⟨a,b⟩=>⟨a,by omega⟩) (fun⟨a,b⟩=>⟨a,hC b⟩)⟩
section
variable {s:St} {G:Gh} {P:List Int}
theorem Inv.free_none (h:Inv s G P) {a:Int} (ha:j0V s a):a0E a G=none:=by
 cases hm:a0E a G with
 |none=>rfl
 |some u=>exact absurd (z0O ((h.held _).2 (by rw[hm];rfl)) ha) (by decide)
theorem Inv.same (h:Inv s G P) {G':Gh} (old: ∀b o,a0E b G'=some o→a0E b G=some o∨j0V s b) {b:Int} {o:Ob} (hl:(a0E b G).isSome=true) (hb:a0E b G'=some o):a0E b G=some o:=by
 rcases old b o hb with h1|h1
 ·exact h1
 ·rw[h.free_none h1]at hl;cases hl
theorem Inv.kidSame (h:Inv s G P) {G':Gh} (old: ∀b o,a0E b G'=some o→a0E b G=some o∨j0V s b) {l:Nat} {k:Int} (hk:a0Y G l k) (hl:k=0∨(a0E k G').isSome=true):a0Y G' l k:=by
 rcases hl with rfl|hl
 ·cases l<;>exact .inl rfl
 ·obtain⟨o,ho⟩:=Option.isSome_iff_exists.1 hl
  rcases j0Y hk with rfl|hg
  ·cases l<;>exact .inl rfl
  ·have h1:=h.same old hg ho
   cases l with
   |zero=>
    rcases hk with rfl| ⟨d,ats,e⟩
    ·exact .inl rfl
    ·rw[e]at h1;cases h1;exact .inr ⟨d,ats,ho⟩
   |succ l=>
    rcases hk with rfl| ⟨d,ats,e⟩
    ·exact .inl rfl
    ·rw[e]at h1;cases h1;exact .inr ⟨d,ats,ho⟩
theorem Inv.leafSame (h:Inv s G P) {G':Gh} (old: ∀b o,a0E b G'=some o→a0E b G=some o∨j0V s b) (z':a0E 0 G'=none) {k:Int} (hk:a0Y G 0 k) (hl:k=0∨(a0E k G').isSome=true):d0B G' k=d0B G k:=by
 rcases hl with rfl|hl
 ·unfold d0B;rw[z',h.zero]
 ·obtain⟨o,ho⟩:=Option.isSome_iff_exists.1 hl
  rcases j0Y hk with rfl|hg
  ·rw[z']at ho;cases ho
  ·unfold d0B;rw[ho,h.same old hg ho]
theorem t0R (hz:a0E 0 G=none): ∀(l j:Nat),c0K G l 0 j=0
 |0,j=>by
  unfold c0K b0E;rw[hz]
  have: ∀k,e0F.getD k 0=0:=fun k=>by
   rcases Nat.lt_or_ge k 8 with h|h
   ·have:=g0J (l:=e0F) (i:=k) h
    simpa [e0F] using this
   ·rw[List.getD_eq_getElem?_getD,List.getElem?_eq_none (by simpa [e0F] using h)];rfl
  exact this _
 |l+1,j=>by
  unfold c0K b0E;rw[hz]
  have: ∀k,e0F.getD k 0=0:=fun k=>by
   rcases Nat.lt_or_ge k 8 with h|h
   ·have:=g0J (l:=e0F) (i:=k) h
    simpa [e0F] using this
   ·rw[List.getD_eq_getElem?_getD,List.getElem?_eq_none (by simpa [e0F] using h)];rfl
  simp only[this]
  exact t0R hz l _
theorem Inv.mapSame (h:Inv s G P) {s':St} {G':Gh} {P':List Int} (h':Inv s' G' P') (old: ∀b o,a0E b G'=some o→a0E b G=some o∨j0V s b): ∀(l:Nat) {root:Int},a0Y G (l+1) root→(root=0∨(a0E root G').isSome=true)→
 ∀j,c0K G' l root j=c0K G l root j∧a0Y G 0 (c0K G l root j)∧(c0K G l root j=0∨(a0E (c0K G l root j) G').isSome=true)
 |l,root,hk,.inl e,j=>by
  subst e
  rw[t0R h'.zero,t0R h.zero]
  exact⟨rfl,.inl rfl,.inl rfl⟩
 |0,root,hk,.inr hl,j=>by
  have hk':=h.kidSame old hk (.inr hl)
  have e:b0E G' root=b0E G root:=by
   rcases hk' with rfl| ⟨ks,sm,ho⟩
   ·unfold b0E;rw[h'.zero,h.zero]
   ·unfold b0E
    rcases j0Y hk with rfl|hg
    ·rw[h'.zero]at ho;cases ho
    ·rw[ho,h.same old hg ho]
  have hm:=(h'.kids hk').2 ((b0E G root).getD (b0O 0 j).1 0) (by rw[e];exact g0J (by rw[(h.kids hk).1];exact p0M 0 j))
  refine⟨by unfold c0K;rw[e],h.leafKid 0 hk j,?_⟩
  exact j0Y hm
 |l+1,root,hk,.inr hl,j=>by
  have hk':=h.kidSame old hk (.inr hl)
  have e:b0E G' root=b0E G root:=by
   rcases hk' with rfl| ⟨ks,sm,ho⟩
   ·unfold b0E;rw[h'.zero,h.zero]
   ·unfold b0E
    rcases j0Y hk with rfl|hg
    ·rw[h'.zero]at ho;cases ho
    ·rw[ho,h.same old hg ho]
  have hm:=(h'.kids hk').2 ((b0E G root).getD (b0O (l+1) j).1 0) (by rw[e];exact g0J (by rw[(h.kids hk).1];exact p0M (l+1) j))
  have hm0:=(h.kids hk).2 ((b0E G root).getD (b0O (l+1) j).1 0) (g0J (by rw[(h.kids hk).1];exact p0M (l+1) j))
  have ih:=h.mapSame h' old l hm0 (j0Y hm) (b0O (l+1) j).2
  unfold c0K
  rw[e];exact ih
theorem Inv.putN {o:Ob} (h:Inv s G (f0I o++P)) (hi:Idx s G) (hok:x0C G o) (hne: ∀d ats,o≠ .ext d ats) (hr:d0F 3 s):
 (∃a s',e0M (l0I o) s=(.ok a,s')∧Inv s' ((a,o)::G) (a::P)∧Stp 3 1 s G s' ((a,o)::G)∧a0E a G=none∧a≠0∧s'.index=s.index)∨Fl 1 False (e0M (l0I o)) s:=by
 by_cases hf:s.keep<(b0K s:Int)
 ·have hl:(l0I o).length=64:=by
   cases o with
   |part b=>exact hok
   |ext d ats=>exact(hne d ats rfl).elim
   |node l ks sm=>
    obtain⟨t1,t2,t3,t4,t5⟩:=hok
    exact(z1G (x:= {kids:=ks,sum:=sm}) (l:=l) (by omega) ⟨t2,fun x hx=>h.kid_range (t4 x hx),by rw[t5];exact s0W _ _⟩).2
  obtain⟨a,s',e,i,r,hfr,q1,q2,q3,q4⟩:=h.put hok hl hr.d (by have:=hr.l;omega) hf
  have hn:=h.free_none hfr
  have hi':Idx s' ((a,o)::G):=fun k b=>by
   rw[q1,r.bits,hi k b]
   constructor
   ·rintro⟨d,ats,hb,e⟩
    exact⟨d,ats,by rw[d0H,if_neg (fun e2=>by rw[←e2,hn]at hb;cases hb)];exact hb,e⟩
   ·rintro⟨d,ats,hb,e⟩
    rw[d0H]at hb
    split at hb
    ·cases hb;exact(hne d ats rfl).elim
    ·exact⟨d,ats,hb,e⟩
  refine .inl ⟨a,s',e,i,⟨r,hi',fun b u hb=> ?_,q2,q3,q4⟩,hn,i.ne0 (o:=o) (by rw[d0H,if_pos rfl]),q1⟩
  rw[d0H]at hb
  split at hb
  ·rename_i e2;exact .inr (e2▸hfr)
  ·exact .inl hb
 ·exact .inr ⟨8,s,by unfold e0M;rw[if_pos (by omega)],.inl ⟨rfl,by omega⟩⟩
theorem Inv.xputs {d:B} (hd:d.length=256): ∀(n:Nat),n≤4→ ∀ {s:St} {G:Gh} {P:List Int},Inv s G P→Idx s G→d0F (n*3) s→
 (∃ps s' G',m0X d n s=(.ok ps,s')∧Inv s' G' (ps.map (·.1)++P)∧Stp (n*3) n s G s' G'∧ps.length=n∧s'.index=s.index∧
  (∀b o,a0E b G=some o→a0E b G'=some o)∧
  ∀i,i<n→if a0R (part d (4-n+i))=true then ps.getD i (0,0)=(0,0)else(ps.getD i (0,0)).1≠0∧a0E (ps.getD i (0,0)).1 G'=some (.part (part d (4-n+i)))∧(ps.getD i (0,0)).2=f0V (part d (4-n+i)))∨
 Fl n False (m0X d n) s
 |0,_,s,G,P,h,hi,_=> .inl ⟨[],s,G,rfl,h,(Stp.refl h hi).mono (by omega) (by omega),rfl,rfl,fun _ _ h=>h,fun i hi=>by omega⟩
 |n+1,hn,s,G,P,h,hi,hr=>by
  have hr':d0F (3+n*3) s:=hr.le (by omega)
  unfold Go.Sb.m0X
  simp only
  have hone:(∃p s1 G1,(if a0R (part d (4- (n+1)))=true then ret (0,0)else a0B (e0M (part d (4- (n+1)))) fun a=>ret (a,f0V (part d (4- (n+1)))):M (Int×Nat)) s=(.ok p,s1)∧Inv s1 G1 (p.1::P)∧Stp 3 1 s G s1 G1∧s1.index=s.index∧
   (∀b o,a0E b G=some o→a0E b G1=some o)∧
   if a0R (part d (4- (n+1)))=true then p=(0,0)else p.1≠0∧a0E p.1 G1=some (.part (part d (4- (n+1))))∧p.2=f0V (part d (4- (n+1))))∨
   Fl 1 False (if a0R (part d (4- (n+1)))=true then ret (0,0)else a0B (e0M (part d (4- (n+1)))) fun a=>ret (a,f0V (part d (4- (n+1)))):M (Int×Nat)) s:=by
   by_cases hz:a0R (part d (4- (n+1)))=true
   ·simp only[if_pos hz]
    exact .inl ⟨(0,0),s,G,rfl,h.add0,(Stp.refl h hi).mono (by omega) (by omega),rfl,fun _ _ h=>h,rfl⟩
   ·simp only[if_neg hz]
    rcases Inv.putN (o:= .part (part d (4- (n+1)))) (P:=P) h hi (h1W hd (by omega)) (fun _ _ e=>by cases e) (hr'.le (by omega))with ⟨a,s1,e1,i1,t1,hn1,ha0,x1⟩|hf
    ·refine .inl ⟨(a,f0V (part d (4- (n+1)))),s1,_,?_,i1,t1,x1,fun b o hb=> ?_,ha0,by rw[d0H,if_pos rfl],rfl⟩
     ·have e1':e0M (part d (4- (n+1))) s=(.ok a,s1):=e1
      rw[a0A e1'];rfl
     ·rw[d0H,if_neg (fun e=>by rw[←e,hn1]at hb;cases hb)];exact hb
    ·exact .inr (Fl.here (m:=e0M (part d (4- (n+1)))) hf (Nat.le_refl _) id)
  rcases hone with ⟨p,s1,G1,e1,i1,t1,x1,k1,c1⟩|hf
  ·rcases Inv.xputs hd n (by omega) i1 t1.idx (hr'.go t1.rel)with ⟨ps,s2,G2,e2,i2,t2,l2,x2,k2,c2⟩|hf
   ·refine .inl ⟨p::ps,s2,G2,by rw[a0A e1,a0A e2];rfl,i2.perm fun x hx=> ?_,(t1.trans t2).mono (by omega) (by omega),by simp[l2],x2.trans x1,fun b o hb=>k2 b o (k1 b o hb),fun i hi=> ?_⟩
    ·simp only[List.map_cons,List.cons_append,List.count_append,List.count_cons];omega
    ·cases i with
     |zero=>
      simp only[Nat.add_zero,List.getD_cons_zero]
      split at c1
      ·rename_i hz;rw[if_pos hz];exact c1
      ·rename_i hz;rw[if_neg hz];exact⟨c1.1,k2 _ _ c1.2.1,c1.2.2⟩
     |succ i=>
      have:=c2 i (by omega)
      rw[show 4- (n+1)+(i+1)=4-n+i by omega]
      simpa only[List.getD_cons_succ] using this
   ·exact .inr (Fl.there e1 t1.rel t1.keep (hf.here (Nat.le_refl _) id) (by omega) id)
  ·exact .inr (hf.here (by omega) id)
def f1K (G:Gh) (bits:Nat) (data:B):Prop:= ∃a d ats,a0E a G=some (.ext d ats)∧d≠data∧key bits (Sha.sum d)=key bits (Sha.sum data)
theorem Inv.xput (h:Inv s G P) (hi:Idx s G) {data:B} (hd:data.length=256) (hr:d0F 16 s) (hP:P.length≤1000000):
 (∃a s' G',i0Q data s=(.ok a,s')∧Inv s' G' (a::P)∧Stp 16 5 s G s' G'∧a0Y G' 0 a∧d0B G' a=data∧(a0R data=false→ ¬f1K G s.bits data))∨Fl 5 (a0R data=false∧f1K G s.bits data) (i0Q data) s:=by
 unfold Go.Sb.i0Q
 rw[if_neg (by omega)]
 by_cases hz:a0R data=true
 ·rw[if_pos hz]
  refine .inl ⟨0,s,G,rfl,h.add0,(Stp.refl h hi).mono (by omega) (by omega),.inl rfl,?_,fun e=>by rw[hz]at e;cases e⟩
  unfold d0B;rw[h.zero,a1Y hz hd]
 ·rw[if_neg hz]
  have hz':a0R data=false:=by simpa using hz
  cases hm:a0E (key s.bits (Sha.sum data)) s.index with
  |some a=>
   obtain⟨d,ats,ho,hk⟩:=(hi _ _).1 hm
   have hone: ∀b d' ats',a0E b G=some (.ext d' ats')→key s.bits (Sha.sum d')=key s.bits (Sha.sum data)→b=a:=fun b d' ats' hb e=>by
    have:=(hi (key s.bits (Sha.sum data)) b).2 ⟨d',ats',hb,e.symm⟩
    rw[hm]at this;cases this;rfl
   by_cases hdd:d=data
   ·subst hdd
    obtain⟨s1,e1,i1,r1,q1,q2,q3,q4⟩:=h.more ho hr.d (by have:=hr.l;omega) hP
    refine .inl ⟨a,s1,G,?_,i1,⟨r1.mono (by omega) (by omega),fun k b=>by rw[q1,r1.bits];exact hi k b,fun _ _ h=> .inl h,q2,q3,q4⟩,.inr ⟨d,ats,ho⟩,by unfold d0B;rw[ho],?_⟩
    ·simp only[hm]
     rw[a0A (h.xget ho)]
     show(if d≠d then n0Q 9 else a0B (k0E a) fun _=>ret a:M Int) s=_
     rw[if_neg (by simp),a0A e1];rfl
    ·rintro _ ⟨b,d',ats',hb,hne,e⟩
     have:=hone b d' ats' hb e
     subst this
     rw[ho]at hb;cases hb;exact hne rfl
   ·refine .inr ⟨9,s,?_,.inr ⟨rfl,hz',a,d,ats,ho,hdd,hk.symm⟩⟩
    simp only[hm]
    rw[a0A (h.xget ho)]
    show(if d≠data then n0Q 9 else a0B (k0E a) fun _=>ret a:M Int) s=_
    rw[if_pos hdd];rfl
  |none=>
   have hnc: ¬f1K G s.bits data:=by
    rintro⟨b,d',ats',hb,_,e⟩
    have:=(hi (key s.bits (Sha.sum data)) b).2 ⟨d',ats',hb,e.symm⟩
    rw[hm]at this;cases this
   rcases h.xputs hd 4 (Nat.le_refl _) hi (hr.le (by omega))with ⟨ps,s1,G1,e1,i1,t1,l1,x1,k1,c1⟩|hf
   ·have hmap: ∀i,(ps.map (·.1)).getD i 0=(ps.getD i (0,0)).1:=fun i=>by
     rw[List.getD_eq_getElem?_getD,List.getD_eq_getElem?_getD,List.getElem?_map]
     cases ps[i]? <;>rfl
    have hok:x0C G1 (.ext data (ps.map (·.1))):=by
     refine⟨hd,hz',by simp[l1],fun k hk=> ?_⟩
     have:=c1 k hk
     rw[show 4-4+k=k by omega]at this
     unfold u0S
     split at this
     ·rename_i hz;rw[if_pos hz,hmap,this]
     ·rename_i hz;rw[if_neg hz,hmap];exact⟨this.1,this.2.1⟩
    have hsums:ps.map (·.2)=(List.range 4).map fun k=>if a0R (part data k)then 0 else f0V (part data k):=by
     apply List.ext_getElem?
     intro i
     by_cases hi4:i<4
     ·have:=c1 i hi4
      rw[show 4-4+i=i by omega]at this
      have hg:ps[i]? =some (ps.getD i (0,0)):=by rw[List.getD_eq_getElem?_getD,List.getElem?_eq_getElem (by omega)];rfl
      rw[List.getElem?_map,hg,List.getElem?_map,List.getElem?_range hi4]
      split at this
      ·rename_i hz;rw[this];simp[hz]
      ·rename_i hz;simp only[Option.map_some,this.2.2,hz];rfl
     ·rw[List.getElem?_eq_none (by simp;omega),List.getElem?_eq_none (by simp;omega)]
    have hbytes:h0F {at_:=ps.map (·.1),sums:=ps.map (·.2),sum:=Sha.sum data} =l0I (.ext data (ps.map (·.1))):=by
     show _=h0F (m0R _ _);unfold m0R;rw[hsums]
    have hr1:d0F 4 s1:=(hr.le (by omega):d0F (4*3+4) s).go t1.rel
    by_cases hf:s1.keep<(b0K s1:Int)
    ·have hl64:(l0I (.ext data (ps.map (·.1)))).length=64:=by
      refine(z1F ⟨by simp[m0R,l1],fun x hx=> ?_,by simp[m0R],fun c hc=> ?_,p0L _⟩).2
      ·rcases d1I hok x hx with rfl| ⟨b,hb⟩
       ·omega
       ·have:=i1.range hb;omega
      ·obtain⟨k,_,rfl⟩:=List.mem_map.1 hc
       split
       ·decide
       ·exact Nat.lt_of_lt_of_eq (f1I _) (by decide)
     obtain⟨a,s2,e2,i2,r2,hfr,q1,q2,q3,q4⟩:=Inv.put (o:= .ext data (ps.map (·.1))) (P:=P) i1 hok hl64 hr1.d (by have:=hr1.l;omega) hf
     have hr2:d0F 1 s2:=(hr1.le (by omega):d0F (3+1) s1).go r2
     have e3:e0X (key s2.bits (Sha.sum data)) a s2=(.ok (),{s2 with log:=bk s2.depth s2.log (.index (key s2.bits (Sha.sum data)) (a0E (key s2.bits (Sha.sum data)) s2.index)),index:=b0T (key s2.bits (Sha.sum data)) a s2.index}):=by
      have:=hr2.l
      simp[e0X,a0B,back,show ¬1000000000≤s2.log.length by omega]
     have r3:=g1G (key s2.bits (Sha.sum data)) a s2 hr2.d i2.u (by rw[e3];simp)
     rw[e3]at r3
     have hn:=i1.free_none hfr
     have hb2:s2.bits=s.bits:=r2.bits.trans t1.rel.bits
     have hidx: ∀k b,a0E k s1.index=some b↔ ∃d ats,a0E b G1=some (.ext d ats)∧k=key s.bits (Sha.sum d):=fun k b=>by
      have:=t1.idx k b;rw[t1.rel.bits]at this;exact this
     refine .inl ⟨a,_,(a,.ext data (ps.map (·.1)))::G1,?_,⟨r3.ok,i2.nod,i2.lo,i2.hi,i2.refs,i2.live,i2.zero,i2.held,i2.disk,i2.typ,i2.cnt⟩,⟨((t1.rel.trans r2).trans r3).mono (by omega) (by omega),fun k b=> ?_,fun b o hb=> ?_,q2.trans t1.keep,q3.trans t1.vols,q4.trans t1.next⟩,.inr ⟨data,_,by rw[d0H,if_pos rfl]⟩,by unfold d0B;rw[d0H,if_pos rfl],fun _=>hnc⟩
     ·simp only[hm]
      rw[a0A e1]
      simp only[hbytes]
      rw[a0A e2]
      show a0B (fun s=>e0X (key s.bits (Sha.sum data)) a s) _ s2=_
      rw[a0A (m:=fun s=>e0X (key s.bits (Sha.sum data)) a s) e3];rfl
     ·show a0E k (b0T (key s2.bits (Sha.sum data)) a s2.index)=some b↔ ∃d' ats',a0E b ((a,Ob.ext data (ps.map (·.1)))::G1)=some (Ob.ext d' ats')∧k=key s2.bits (Sha.sum d')
      rw[j0C,hb2,q1]
      constructor
      ·intro hk
       split at hk
       ·rename_i e;cases hk;exact⟨data,_,by rw[d0H,if_pos rfl],e.symm⟩
       ·obtain⟨d',ats',hb,e⟩:=(hidx k b).1 hk
        exact⟨d',ats',by rw[d0H,if_neg (fun e2=>by rw[←e2,hn]at hb;cases hb)];exact hb,e⟩
      ·rintro⟨d',ats',hb,e⟩
       rw[d0H]at hb
       split at hb
       ·rename_i e2;cases hb;subst e2;rw[if_pos e.symm]
       ·have hk:=(hidx k b).2 ⟨d',ats',hb,e⟩
        rw[if_neg]
        ·exact hk
        ·intro e2
         rw[x1,←e2,hm]at hk;cases hk
     ·rw[d0H]at hb
      split at hb
      ·rename_i e;subst e;exact .inr (t1.rel.free _ hfr)
      ·exact t1.old b o hb
    ·refine .inr ⟨8,s1,?_,.inl ⟨rfl,?_⟩⟩
     ·simp only[hm]
      rw[a0A e1]
      refine a0I ?_
      unfold e0M;rw[if_pos (by omega)]
     ·have:=t1.rel.room;have:=t1.keep;omega
   ·refine .inr ?_
    obtain⟨e,s',h1,h2⟩:=hf
    refine⟨e,s',by simp only[hm];exact a0I h1,h2.imp (fun⟨a,b⟩=>⟨a,by omega⟩) (fun⟨_,b⟩=>b.elim)⟩
end
end
end Go.Sb
